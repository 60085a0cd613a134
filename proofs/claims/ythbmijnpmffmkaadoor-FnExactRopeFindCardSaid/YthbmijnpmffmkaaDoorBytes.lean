/-
  Slices of bytes, as the print reads them (lists of whole numbers) and as the shelf does (byte arrays). Of whatever program.
-/
import Derived.Test.YthbmijnpmffmkaaDoorWMore
import Derived.Shelf.Unicode.DecodeSlow
import Derived.Lib.RuneCount
namespace Go.Proofs.YthbmijnpmffmkaaDoor.Bytes
open Go.RowKit Go.Proofs.YthbmijnpmffmkaaDoorW.PrintWords

/-- All of them are bytes. -/
def okBytes (l : List Int) : Bool := l.all fun x => decide (0 ≤ x ∧ x ≤ 255)
theorem okBytes_mem {l : List Int} (h : okBytes l = true) {x : Int} (hx : x ∈ l) : 0 ≤ x ∧ x ≤ 255 := by
  unfold okBytes at h
  rw [List.all_eq_true] at h
  exact of_decide_eq_true (h x hx)
theorem okBytes_of {l : List Int} (h : ∀ x ∈ l, 0 ≤ x ∧ x ≤ 255) : okBytes l = true := by
  unfold okBytes
  rw [List.all_eq_true]
  exact fun x hx => decide_eq_true (h x hx)
theorem okBytes_getD {l : List Int} (h : okBytes l = true) (j : Nat) : 0 ≤ l.getD j 0 ∧ l.getD j 0 ≤ 255 := by
  by_cases hj : j < l.length
  · rw [List.getD_eq_getElem?_getD, List.getElem?_eq_getElem hj]
    exact okBytes_mem h (List.getElem_mem hj)
  · rw [List.getD_eq_getElem?_getD, List.getElem?_eq_none (by omega)]
    simp
theorem okBytes_drop {l : List Int} (h : okBytes l = true) (n : Nat) : okBytes (l.drop n) = true := okBytes_of fun _ hx => okBytes_mem h (List.mem_of_mem_drop hx)
theorem okBytes_take {l : List Int} (h : okBytes l = true) (n : Nat) : okBytes (l.take n) = true := okBytes_of fun _ hx => okBytes_mem h (List.mem_of_mem_take hx)
theorem okBytes_append {l l' : List Int} (h : okBytes l = true) (h' : okBytes l' = true) : okBytes (l ++ l') = true :=
  okBytes_of fun _ hx => (List.mem_append.1 hx).elim (okBytes_mem h) (okBytes_mem h')

/-- The same bytes, as a byte array. -/
def toBA (l : List Int) : ByteArray := ⟨(l.map fun x => UInt8.ofNat x.toNat).toArray⟩
theorem toBA_size (l : List Int) : (toBA l).size = l.length := by simp [toBA, ByteArray.size]
theorem get!_lt (s : ByteArray) (j : Nat) (h : j < s.size) : s.get! j = s[j] := Utf8W.get!_of_lt s j h
theorem get!_ge (s : ByteArray) (j : Nat) (h : s.size ≤ j) : s.get! j = 0 := by
  cases s with
  | mk d =>
    have h' : ¬ j < d.size := by
      have : (ByteArray.mk d).size = d.size := rfl
      omega
    show d[j]! = 0
    rw [getElem!_def, Array.getElem?_eq_none (by omega)]
    rfl
theorem toBA_get {l : List Int} (h : okBytes l = true) (j : Nat) : (((toBA l).get! j).toNat : Int) = l.getD j 0 := by
  by_cases hj : j < l.length
  · rw [get!_lt _ _ (by rw [toBA_size]; exact hj)]
    have hx := okBytes_getD h j
    have e : (toBA l)[j]'(by rw [toBA_size]; exact hj) = UInt8.ofNat (l[j]).toNat := by
      simp [toBA, ByteArray.getElem_eq_getElem_data]
    rw [e, List.getD_eq_getElem?_getD, List.getElem?_eq_getElem hj]
    rw [List.getD_eq_getElem?_getD, List.getElem?_eq_getElem hj] at hx
    simp only [Option.getD_some] at hx ⊢
    rw [UInt8.toNat_ofNat_of_lt' (by show (l[j]).toNat < 256; omega)]
    omega
  · rw [get!_ge _ _ (by rw [toBA_size]; omega), List.getD_eq_getElem?_getD, List.getElem?_eq_none (by omega)]
    rfl

/-- A slice that reads as bytes and holds one at least: where it lies. -/
theorem cells_of {w : World} {A : Option Addr} {l : List Int} (h : Kd.C (Kd.int .u8) w A l.length l) (hn : 0 < l.length) :
    ∃ b off, A = some ⟨b, off, none⟩ ∧ ∀ j, j < l.length → w.cell? ⟨b, off + j, none⟩ = some (.int .u8 (l.getD j 0)) := by
  obtain ⟨_, _, h3⟩ := h
  obtain ⟨ad, rfl, hc⟩ := h3 hn
  have cell : ∀ j, j < l.length → w.cell? (ad.add j) = some (.int .u8 (l.getD j 0)) := by
    intro j hj
    obtain ⟨c, _, hK, hcell⟩ := hc j _ (List.getElem?_eq_getElem hj)
    have hK' : c = [.int .u8 l[j]] := hK
    subst hK'
    have := hcell 0 _ rfl
    rw [show j * (Kd.int .u8).sz + 0 = j from by show j * 1 + 0 = j; omega] at this
    rw [this, List.getD_eq_getElem?_getD, List.getElem?_eq_getElem hj]
    rfl
  have h0 := cell 0 hn
  have hs : ad.spot = none := by
    have e : ad.add 0 = ad := rfl
    rw [e] at h0
    unfold World.cell? at h0
    cases hsp : ad.spot with
    | none => rfl
    | some s =>
      rw [hsp] at h0
      split at h0 <;> simp at h0
  obtain ⟨b, off, sp⟩ := ad
  simp only at hs
  subst hs
  refine ⟨b, off, rfl, fun j hj => ?_⟩
  have := cell j hj
  rwa [show (⟨b, off, none⟩ : Addr).add j = ⟨b, off + j, none⟩ from by unfold Addr.add; split <;> simp_all] at this

/-- What utf8.DecodeRune answers. -/
def decI (l : List Int) : Int × Int := (((Lib.decodeGo (toBA l)).1 : Int), ((Lib.decodeGo (toBA l)).2 : Int))
/-- .. in plain numbers. -/
theorem decI_eq {l : List Int} (h : okBytes l = true) (hn : l ≠ []) :
    decI l = (((Lib.decodeN l.length (l.getD 0 0).toNat (l.getD 1 0).toNat (l.getD 2 0).toNat (l.getD 3 0).toNat).1 : Int), ((Lib.decodeN l.length (l.getD 0 0).toNat (l.getD 1 0).toNat (l.getD 2 0).toNat (l.getD 3 0).toNat).2 : Int)) := by
  have hl : 0 < l.length := List.length_pos_iff.2 hn
  have g : ∀ j, ((toBA l).get! j).toNat = (l.getD j 0).toNat := fun j => by have := toBA_get h j; omega
  unfold decI Lib.decodeGo
  rw [if_neg (by rw [toBA_size]; omega), Lib.decode_at, g, g, g, g, toBA_size]
  simp

end Go.Proofs.YthbmijnpmffmkaaDoor.Bytes
