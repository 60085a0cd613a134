/-
  The law FnExactRopeFind in plain words: what the program's function computes is what the reference's computes. No memory, no machine.
-/
import Derived.Test.YthbmijnpmffmkaaDoorPFnExactRopeFindx
import Derived.Test.YthbmijnpmffmkaaDoorGen
namespace Go.Proofs.YthbmijnpmffmkaaDoor.Pure
open Go.RowKit Go.Proofs.YthbmijnpmffmkaaDoor.PFnExactRopeFind Go.Proofs.YthbmijnpmffmkaaDoorW.PrintWords Go.Proofs.YthbmijnpmffmkaaDoorW.PrintLast Go.Proofs.YthbmijnpmffmkaaDoorW.PrintMore Go.Proofs.YthbmijnpmffmkaaDoor.Gen
set_option linter.unusedVariables false
set_option linter.unusedSimpArgs false

def wf83 (x : S83) : Prop := (x.f0.length ≤ maxLen ∧ ∀ y ∈ x.f0, (Lit.int .u8 y).wf = true)
theorem wf_i64 {x : Int} (h : (Lit.int .i64 x).wf = true) : -9223372036854775808 ≤ x ∧ x ≤ 9223372036854775807 := by
  simp only [Lit.wf, Bool.and_eq_true, decide_eq_true_eq] at h
  exact ⟨h.1, h.2⟩
theorem wf_u8 {x : Int} (h : (Lit.int .u8 x).wf = true) : 0 ≤ x ∧ x ≤ 255 := by
  simp only [Lit.wf, Bool.and_eq_true, decide_eq_true_eq] at h
  exact ⟨h.1, h.2⟩
/-- A code point. -/
def isCp (r : Int) : Prop := 0 ≤ r ∧ r ≤ 1114111 ∧ ¬ (55296 ≤ r ∧ r ≤ 57343)
instance (r : Int) : Decidable (isCp r) := by unfold isCp; infer_instance
/-- Its encoding. -/
def rb (r : Int) : List Int :=
  if r < 128 then [r] else if r < 2048 then [192 + r / 64, 128 + r % 64] else if r < 65536 then [224 + r / 4096, 128 + r / 64 % 64, 128 + r % 64]
  else [240 + r / 262144, 128 + r / 4096 % 64, 128 + r / 64 % 64, 128 + r % 64]
theorem rb_length (r : Int) : (rb r).length ≤ 4 := by
  unfold rb
  (repeat' split) <;> simp
theorem by256 {x : Int} (h0 : 0 ≤ x) (h1 : x ≤ 255) : wrap64 x % 256 = x := by unfold wrap64; omega
theorem specRB_f (k : Nat) (hk : 1 ≤ k) (r : Int) : spec_RuneBytes.f k r = some (if isCp r then rb r else []) := by
  obtain ⟨k, rfl⟩ : ∃ m, k = m + 1 := ⟨k - 1, by omega⟩
  by_cases h0 : r < 0
  · have hn : ¬ isCp r := fun h => by unfold isCp at h; omega
    simp only [spec_RuneBytes.f, spec_RuneBytes.j0]
    rw [if_pos h0, if_neg hn]
    simp
  by_cases h1 : r > 1114111
  · have hn : ¬ isCp r := fun h => by unfold isCp at h; omega
    simp only [spec_RuneBytes.f, spec_RuneBytes.j0]
    rw [if_neg h0, if_pos h1, if_neg hn]
    simp
  have key : ∀ b : Bool, (b = true ↔ 55296 ≤ r ∧ r ≤ 57343) → spec_RuneBytes.j0 (k + 1) r b = some (if isCp r then rb r else []) := by
    intro b hb
    simp only [spec_RuneBytes.j0]
    by_cases h2 : b = true
    · have hn : ¬ isCp r := fun h => by have := hb.1 h2; unfold isCp at h; omega
      rw [if_pos h2, if_neg hn]
    · have hc : isCp r := ⟨by omega, by omega, fun h => h2 (hb.2 h)⟩
      rw [if_neg h2, if_pos hc, Int.tdiv_eq_ediv_of_nonneg (by omega), Int.tdiv_eq_ediv_of_nonneg (by omega), Int.tdiv_eq_ediv_of_nonneg (by omega), Int.tmod_eq_emod_of_nonneg (by omega)]
      have e1 : wrap64 (r / 64) = r / 64 := w64 (by omega) (by omega)
      have e2 : wrap64 (r / 4096) = r / 4096 := w64 (by omega) (by omega)
      have e3 : wrap64 (r / 262144) = r / 262144 := w64 (by omega) (by omega)
      rw [e1, e2, e3, Int.tmod_eq_emod_of_nonneg (by omega), Int.tmod_eq_emod_of_nonneg (by omega)]
      unfold rb
      by_cases c1 : r < 128
      · rw [if_pos c1, if_pos c1, show r % 256 = r by omega]
      · rw [if_neg c1, if_neg c1]
        by_cases c2 : r < 2048
        · rw [if_pos c2, if_pos c2, by256 (by omega) (by omega), by256 (by omega) (by omega)]
        · rw [if_neg c2, if_neg c2]
          by_cases c3 : r < 65536
          · rw [if_pos c3, if_pos c3, by256 (by omega) (by omega), by256 (by omega) (by omega), by256 (by omega) (by omega)]
          · rw [if_neg c3, if_neg c3, by256 (by omega) (by omega), by256 (by omega) (by omega), by256 (by omega) (by omega), by256 (by omega) (by omega)]
  unfold spec_RuneBytes.f
  rw [if_neg h0, if_neg h1]
  by_cases h2 : r ≥ 55296
  · rw [if_pos h2]
    exact key _ (by rw [decide_eq_true_eq]; omega)
  · rw [if_neg h2]
    exact key _ ⟨fun h => (by cases h), fun h => (by omega)⟩
theorem toByteS_f (k : Nat) (l : List Int) (hk : l.length < k) (hl : l.length ≤ 1048576) : laws_toByteS.f k l = some l := by
  have h := map_loop (L := fun k out i => laws_toByteS.l0 k l out i) l id 0 0 (fun k out i _ hi ho => by
      simp only [laws_toByteS.l0]
      rw [if_pos (by omega), if_pos (by omega), if_pos (by omega), w64s i (by omega), rd_nat]
      rfl) (fun k out ho => by
      simp only [laws_toByteS.l0]
      rw [if_neg (by omega)]) k (List.replicate ((l.length : Int)).toNat 0) (by omega) (by simp)
  unfold laws_toByteS.f
  rw [if_pos (by omega), if_pos (by omega)]
  simpa using h
theorem eqByteS_f (k : Nat) (l l' : List Int) (hk : l.length < k) (hl : l.length ≤ 1048576) : laws_eqByteS.f k l l' = some (decide (l = l')) := by
  unfold laws_eqByteS.f
  by_cases e : l.length = l'.length
  · rw [if_pos (by omega)]
    obtain ⟨b, h, hb⟩ := all_loop (L := fun k i => laws_eqByteS.l0 k l l' i) l.length 0 (fun i => decide (l.getD i 0 = l'.getD i 0)) (fun k i _ hi => by
      simp only [laws_eqByteS.l0]
      rw [if_pos (by omega), if_pos (by omega), if_pos (by omega), w64s i (by omega), rd_nat, rd_nat]
      simp only [decide_eq_true_eq]) (fun k => by
      simp only [laws_eqByteS.l0]
      rw [if_neg (by omega)]) k (by omega)
    refine h.trans ?_
    congr 1
    simp only [decide_eq_true_eq] at hb
    rw [Bool.eq_iff_iff, decide_eq_true_eq]
    exact hb.trans (eq_of_getD 0 e)
  · rw [if_neg (by omega)]
    congr 1
    symm
    exact decide_eq_false (fun h => e (by rw [h]))
theorem eqByteS_self (k : Nat) (l : List Int) (hk : l.length < k) (hl : l.length ≤ 1048576) : laws_eqByteS.f k l l = some true := by
  rw [eqByteS_f k l l hk hl]; simp
theorem strOfNums_inj {l l' : List Int} (h : Bytes.okBytes l = true) (h' : Bytes.okBytes l' = true) : (strOfNums l).toList = (strOfNums l').toList ↔ l = l' := by
  constructor
  · intro e
    rw [ByteArray.toList_eq, ByteArray.toList_eq] at e
    have e2 : l.map (fun n => UInt8.ofNat n.toNat) = l'.map (fun n => UInt8.ofNat n.toNat) := by simpa [strOfNums] using e
    have hl : l.length = l'.length := by simpa using congrArg List.length e2
    refine List.ext_getElem hl fun i h1 h2 => ?_
    have e3 : (l.map (fun n => UInt8.ofNat n.toNat))[i]? = (l'.map (fun n => UInt8.ofNat n.toNat))[i]? := by rw [e2]
    rw [List.getElem?_map, List.getElem?_map, List.getElem?_eq_getElem h1, List.getElem?_eq_getElem h2] at e3
    simp only [Option.map_some, Option.some.injEq] at e3
    have b1 := Bytes.okBytes_mem h (List.getElem_mem h1)
    have b2 := Bytes.okBytes_mem h' (List.getElem_mem h2)
    have e4 := congrArg UInt8.toNat e3
    rw [UInt8.toNat_ofNat_of_lt' (by show (l[i]).toNat < 256; omega), UInt8.toNat_ofNat_of_lt' (by show (l'[i]).toNat < 256; omega)] at e4
    omega
  · rintro rfl; rfl
/-- What is told of a place's letter: by the bytes that stand there. -/
def rn4 (n b0 b1 b2 b3 : Nat) : Int × Int :=
  if (Lib.decodeN n b0 b1 b2 b3).1 = 65533 ∧ (Lib.decodeN n b0 b1 b2 b3).2 ≤ 1 then (-1, 0) else (((Lib.decodeN n b0 b1 b2 b3).1 : Int), ((Lib.decodeN n b0 b1 b2 b3).2 : Int))
def rn (l : List Int) (i : Nat) : Int × Int :=
  if i < l.length then rn4 (l.length - i) (l.getD i 0).toNat (l.getD (i + 1) 0).toNat (l.getD (i + 2) 0).toNat (l.getD (i + 3) 0).toNat else (-1, 0)
theorem decodeN_le (n b0 b1 b2 b3 : Nat) (h0 : b0 < 256) : (Lib.decodeN n b0 b1 b2 b3).1 ≤ 1114111 ∧ (Lib.decodeN n b0 b1 b2 b3).2 ≤ 4 ∧ 1 ≤ (Lib.decodeN n b0 b1 b2 b3).2 := by
  unfold Lib.decodeN
  (repeat' split) <;> simp only <;> omega
theorem getD_drop (l : List Int) (i j : Nat) : (l.drop i).getD j 0 = l.getD (i + j) 0 := by
  rw [List.getD_eq_getElem?_getD, List.getD_eq_getElem?_getD, List.getElem?_drop]
theorem rb1 {b0 r : Int} (hr : r = b0) (h0 : 0 ≤ b0) (h1 : b0 < 192) : (if isCp r then rb r else []) = [b0] ↔ b0 < 128 := by
  subst hr
  rw [if_pos (show isCp r from ⟨by omega, by omega, by omega⟩)]
  unfold rb
  (repeat' split) <;> simp <;> omega
theorem rb2 {b0 b1 r : Int} (hr : r = 64 * (b0 - 192) + b1 - 128) (h0 : 192 ≤ b0 ∧ b0 < 224) (h1 : 0 ≤ b1 ∧ b1 ≤ 255) : (if isCp r then rb r else []) = [b0, b1] ↔ 128 ≤ b1 ∧ b1 < 192 ∧ 128 ≤ r := by
  by_cases hc : isCp r
  · rw [if_pos hc]
    unfold isCp at hc
    unfold rb
    (repeat' split) <;> simp only [List.cons.injEq, List.nil_eq, and_true, and_false, reduceCtorEq, false_iff, iff_false] <;> omega
  · rw [if_neg hc]
    unfold isCp at hc
    simp only [reduceCtorEq, List.nil_eq, false_iff]
    omega
theorem rb3 {b0 b1 b2 r : Int} (hr : r = 64 * (64 * (b0 - 224) + b1 - 128) + b2 - 128) (h0 : 224 ≤ b0 ∧ b0 < 240) (h1 : 0 ≤ b1 ∧ b1 ≤ 255) (h2 : 0 ≤ b2 ∧ b2 ≤ 255) :
    (if isCp r then rb r else []) = [b0, b1, b2] ↔ 128 ≤ b1 ∧ b1 < 192 ∧ 128 ≤ b2 ∧ b2 < 192 ∧ 2048 ≤ r ∧ ¬ (55296 ≤ r ∧ r ≤ 57343) := by
  by_cases hc : isCp r
  · rw [if_pos hc]
    unfold isCp at hc
    unfold rb
    (repeat' split) <;> simp only [List.cons.injEq, List.nil_eq, and_true, and_false, reduceCtorEq, false_iff, iff_false] <;> omega
  · rw [if_neg hc]
    unfold isCp at hc
    simp only [reduceCtorEq, List.nil_eq, false_iff]
    omega
theorem rb4 {b0 b1 b2 b3 r : Int} (hr : r = 64 * (64 * (64 * (b0 - 240) + b1 - 128) + b2 - 128) + b3 - 128) (h0 : 240 ≤ b0 ∧ b0 ≤ 255) (h1 : 0 ≤ b1 ∧ b1 ≤ 255) (h2 : 0 ≤ b2 ∧ b2 ≤ 255) (h3 : 0 ≤ b3 ∧ b3 ≤ 255) :
    (if isCp r then rb r else []) = [b0, b1, b2, b3] ↔ 128 ≤ b1 ∧ b1 < 192 ∧ 128 ≤ b2 ∧ b2 < 192 ∧ 128 ≤ b3 ∧ b3 < 192 ∧ 65536 ≤ r ∧ r ≤ 1114111 := by
  by_cases hc : isCp r
  · rw [if_pos hc]
    unfold isCp at hc
    unfold rb
    (repeat' split) <;> simp only [List.cons.injEq, List.nil_eq, and_true, and_false, reduceCtorEq, false_iff, iff_false] <;> omega
  · rw [if_neg hc]
    unfold isCp at hc
    simp only [reduceCtorEq, List.nil_eq, false_iff]
    omega
theorem rn4_1 (n b0 b1 b2 b3 : Nat) (h0 : b0 < 192) : rn4 n b0 b1 b2 b3 = if b0 < 128 then ((b0 : Int), 1) else (-1, 0) := by
  have hd : Lib.decodeN n b0 b1 b2 b3 = if b0 < 128 then (b0, 1) else (65533, 1) := by
    unfold Lib.decodeN
    (repeat' split) <;> first | rfl | (exfalso; omega)
  unfold rn4
  rw [hd]
  by_cases h : b0 < 128
  · rw [if_pos h, if_pos h, if_neg (by simp only; omega)]; rfl
  · rw [if_neg h, if_neg h, if_pos (by simp)]
theorem rn4_2 (n b0 b1 b2 b3 : Nat) (r : Int) (hr : r = 64 * ((b0 : Int) - 192) + b1 - 128) (h0 : 192 ≤ b0 ∧ b0 < 224) (h1 : b1 < 256) :
    rn4 n b0 b1 b2 b3 = if 2 ≤ n ∧ 128 ≤ (b1 : Int) ∧ (b1 : Int) < 192 ∧ 128 ≤ r then (r, 2) else (-1, 0) := by
  have hd : Lib.decodeN n b0 b1 b2 b3 = if 2 ≤ n ∧ 128 ≤ (b1 : Int) ∧ (b1 : Int) < 192 ∧ 128 ≤ r then (r.toNat, 2) else (65533, 1) := by
    unfold Lib.decodeN
    (repeat' split) <;> first | rfl | (exfalso; omega) | (apply Prod.ext <;> simp only <;> omega)
  unfold rn4
  rw [hd]
  by_cases h : 2 ≤ n ∧ 128 ≤ (b1 : Int) ∧ (b1 : Int) < 192 ∧ 128 ≤ r
  · rw [if_pos h, if_pos h, if_neg (by simp)]
    apply Prod.ext <;> simp only <;> omega
  · rw [if_neg h, if_neg h, if_pos (by simp)]
theorem rn4_3 (n b0 b1 b2 b3 : Nat) (r : Int) (hr : r = 64 * (64 * ((b0 : Int) - 224) + b1 - 128) + b2 - 128) (h0 : 224 ≤ b0 ∧ b0 < 240) (h1 : b1 < 256) (h2 : b2 < 256) :
    rn4 n b0 b1 b2 b3 = if 3 ≤ n ∧ 128 ≤ (b1 : Int) ∧ (b1 : Int) < 192 ∧ 128 ≤ (b2 : Int) ∧ (b2 : Int) < 192 ∧ 2048 ≤ r ∧ ¬ (55296 ≤ r ∧ r ≤ 57343) then (r, 3) else (-1, 0) := by
  have hd : Lib.decodeN n b0 b1 b2 b3 = if 3 ≤ n ∧ 128 ≤ (b1 : Int) ∧ (b1 : Int) < 192 ∧ 128 ≤ (b2 : Int) ∧ (b2 : Int) < 192 ∧ 2048 ≤ r ∧ ¬ (55296 ≤ r ∧ r ≤ 57343) then (r.toNat, 3) else (65533, 1) := by
    unfold Lib.decodeN
    (repeat' split) <;> first | rfl | (exfalso; omega) | (apply Prod.ext <;> simp only <;> omega)
  unfold rn4
  rw [hd]
  by_cases h : 3 ≤ n ∧ 128 ≤ (b1 : Int) ∧ (b1 : Int) < 192 ∧ 128 ≤ (b2 : Int) ∧ (b2 : Int) < 192 ∧ 2048 ≤ r ∧ ¬ (55296 ≤ r ∧ r ≤ 57343)
  · rw [if_pos h, if_pos h, if_neg (by simp)]
    apply Prod.ext <;> simp only <;> omega
  · rw [if_neg h, if_neg h, if_pos (by simp)]
theorem rn4_4 (n b0 b1 b2 b3 : Nat) (r : Int) (hr : r = 64 * (64 * (64 * ((b0 : Int) - 240) + b1 - 128) + b2 - 128) + b3 - 128) (h0 : 240 ≤ b0 ∧ b0 < 256) (h1 : b1 < 256) (h2 : b2 < 256) (h3 : b3 < 256) :
    rn4 n b0 b1 b2 b3 = if 4 ≤ n ∧ 128 ≤ (b1 : Int) ∧ (b1 : Int) < 192 ∧ 128 ≤ (b2 : Int) ∧ (b2 : Int) < 192 ∧ 128 ≤ (b3 : Int) ∧ (b3 : Int) < 192 ∧ 65536 ≤ r ∧ r ≤ 1114111 then (r, 4) else (-1, 0) := by
  have hd : Lib.decodeN n b0 b1 b2 b3 = if 4 ≤ n ∧ 128 ≤ (b1 : Int) ∧ (b1 : Int) < 192 ∧ 128 ≤ (b2 : Int) ∧ (b2 : Int) < 192 ∧ 128 ≤ (b3 : Int) ∧ (b3 : Int) < 192 ∧ 65536 ≤ r ∧ r ≤ 1114111 then (r.toNat, 4) else (65533, 1) := by
    unfold Lib.decodeN
    (repeat' split) <;> first | rfl | (exfalso; omega) | (apply Prod.ext <;> simp only <;> omega)
  unfold rn4
  rw [hd]
  by_cases h : 4 ≤ n ∧ 128 ≤ (b1 : Int) ∧ (b1 : Int) < 192 ∧ 128 ≤ (b2 : Int) ∧ (b2 : Int) < 192 ∧ 128 ≤ (b3 : Int) ∧ (b3 : Int) < 192 ∧ 65536 ≤ r ∧ r ≤ 1114111
  · rw [if_pos h, if_pos h, if_neg (by simp)]
    apply Prod.ext <;> simp only <;> omega
  · rw [if_neg h, if_neg h, if_pos (by simp)]
theorem cut_getD (l : List Int) (i : Nat) : ∀ s : Nat, i + s ≤ l.length → (l.take (i + s)).drop i = (List.range s).map fun j => l.getD (i + j) 0 := by
  intro s hs
  apply List.ext_getElem?
  intro j
  rw [List.getElem?_drop, List.getElem?_take, List.getElem?_map]
  by_cases hj : j < s
  · rw [if_pos (by omega), List.getElem?_range hj, List.getElem?_eq_getElem (by omega)]
    simp only [Option.map_some, Option.some.injEq]
    rw [List.getD_eq_getElem?_getD, List.getElem?_eq_getElem (by omega)]
    rfl
  · rw [if_neg (by omega), List.getElem?_eq_none (l := List.range s) (by simp; omega)]
    rfl
theorem okBytes_cp (r : Int) : Bytes.okBytes (if isCp r then rb r else []) = true := by
  by_cases hc : isCp r
  · rw [if_pos hc]
    unfold isCp at hc
    apply Bytes.okBytes_of
    intro x hx
    unfold rb at hx
    (repeat' split at hx) <;> simp at hx <;> omega
  · rw [if_neg hc]; rfl
theorem specRune_end (k : Nat) (hk : 1 ≤ k) (l : List Int) (i s : Nat) (r : Int) (hb : Bytes.okBytes l = true) (hl : l.length ≤ 1048576) (his : i + s ≤ l.length) :
    spec_l01Rune.l0 (k + 1) l (i : Int) (s : Int) r (s : Int) = some (if (if isCp r then rb r else []) = (List.range s).map (fun j => l.getD (i + j) 0) then (r, (s : Int)) else (-1, 0)) := by
  have e1 : wrap64 ((i : Int) + (s : Int)) = ((i + s : Nat) : Int) := by rw [w64 (by omega) (by omega)]; omega
  have hcut : Bytes.okBytes ((List.range s).map fun j => l.getD (i + j) 0) = true := by
    rw [← cut_getD l i s his]
    exact Bytes.okBytes_drop (Bytes.okBytes_take hb _) _
  have hcp := okBytes_cp r
  have hrb := specRB_f k hk r
  simp only [spec_l01Rune.l0]
  rw [if_neg (by omega), hrb, Option.bind_some, e1, if_pos (by omega), if_pos (by omega), if_pos (by omega), Int.toNat_natCast, Int.toNat_natCast, cut_getD l i s his]
  generalize (if isCp r then rb r else []) = L1 at hcp
  generalize (List.range s).map (fun j => l.getD (i + j) 0) = L2 at hcut
  by_cases h : L1 = L2
  · rw [if_pos ((strOfNums_inj hcp hcut).2 h), if_pos h]
  · rw [if_neg (fun e => h ((strOfNums_inj hcp hcut).1 e)), if_neg h]
theorem specRune_step (k : Nat) (l : List Int) (i s j : Nat) (r : Int) (hb : Bytes.okBytes l = true) (hl : l.length ≤ 1048576) (hj : j < s) (his : i + s ≤ l.length) (hr : -1000000000 ≤ r ∧ r ≤ 1000000000) :
    spec_l01Rune.l0 (k + 1) l (i : Int) (s : Int) r (j : Int) = spec_l01Rune.l0 k l (i : Int) (s : Int) (64 * r + l.getD (i + j) 0 - 128) ((j + 1 : Nat) : Int) := by
  have hx := Bytes.okBytes_getD hb (i + j)
  have e1 : wrap64 ((i : Int) + (j : Int)) = ((i + j : Nat) : Int) := by rw [w64 (by omega) (by omega)]; omega
  have e2 : wrap64 (wrap64 (wrap64 (64 * r) + wrap64 (l.getD (i + j) 0)) - 128) = 64 * r + l.getD (i + j) 0 - 128 := by
    rw [w64 (x := 64 * r) (by omega) (by omega), w64 (x := l.getD (i + j) 0) (by omega) (by omega), w64 (x := 64 * r + l.getD (i + j) 0) (by omega) (by omega), w64 (by omega) (by omega)]
  simp only [spec_l01Rune.l0]
  rw [if_pos (by omega), e1, if_pos (by omega), if_pos (by omega), rd_nat, e2, w64s j (by omega)]
theorem specRune_f (k : Nat) (hk : 9 ≤ k) (l : List Int) (i : Nat) (hb : Bytes.okBytes l = true) (hl : l.length ≤ 1048576) (hi : i < l.length) : spec_l01Rune.f k l (i : Int) = some (rn l i) := by
  obtain ⟨k, rfl⟩ : ∃ m, k = m + 9 := ⟨k - 9, by omega⟩
  have b0 := Bytes.okBytes_getD hb i
  have b1 := Bytes.okBytes_getD hb (i + 1)
  have b2 := Bytes.okBytes_getD hb (i + 2)
  have b3 := Bytes.okBytes_getD hb (i + 3)
  have j1 : ∀ (s : Nat) (r : Int), spec_l01Rune.j1 (k + 8) l (i : Int) (s : Int) r = if l.length - i < s then some (-1, 0) else spec_l01Rune.l0 (k + 7) l (i : Int) (s : Int) r 1 := by
    intro s r
    simp only [spec_l01Rune.j1]
    rw [w64 (x := (l.length : Int) - (i : Int)) (by omega) (by omega)]
    by_cases h : l.length - i < s
    · rw [if_pos h, if_pos (by omega)]
    · rw [if_neg h, if_neg (by omega)]
  unfold spec_l01Rune.f
  rw [if_neg (by omega), show decide ((i : Int) ≥ (l.length : Int)) = false from decide_eq_false (by omega)]
  simp only [spec_l01Rune.j0]
  rw [if_neg (by simp), if_pos (by omega), if_pos (by omega), rd_nat, w64 (x := l.getD i 0) (by omega) (by omega)]
  unfold rn
  rw [if_pos hi]
  generalize e0 : l.getD i 0 = x0 at b0
  generalize e1 : l.getD (i + 1) 0 = x1 at b1
  generalize e2 : l.getD (i + 2) 0 = x2 at b2
  generalize e3 : l.getD (i + 3) 0 = x3 at b3
  by_cases c4 : x0 ≥ 240
  · rw [if_pos c4, w64 (x := x0 - 240) (by omega) (by omega), show (4 : Int) = ((4 : Nat) : Int) from rfl, j1, rn4_4 (l.length - i) x0.toNat x1.toNat x2.toNat x3.toNat (64 * (64 * (64 * (x0 - 240) + x1 - 128) + x2 - 128) + x3 - 128) (by omega) (by omega) (by omega) (by omega) (by omega)]
    by_cases hn : l.length - i < 4
    · rw [if_pos hn, if_neg (fun h => by omega)]
    · rw [if_neg hn, show (1 : Int) = ((1 : Nat) : Int) from rfl, specRune_step (k + 6) l i 4 1 _ hb hl (by omega) (by omega) (by omega), e1,
        specRune_step (k + 5) l i 4 2 _ hb hl (by omega) (by omega) (by omega), e2, specRune_step (k + 4) l i 4 3 _ hb hl (by omega) (by omega) (by omega), e3, specRune_end (k + 3) (by omega) l i 4 _ hb hl (by omega)]
      have hm : (List.range 4).map (fun j => l.getD (i + j) 0) = [x0, x1, x2, x3] := by
        show [l.getD (i + 0) 0, l.getD (i + 1) 0, l.getD (i + 2) 0, l.getD (i + 3) 0] = _
        rw [Nat.add_zero, e0, e1, e2, e3]
      rw [hm]
      have key := rb4 (b0 := x0) (b1 := x1) (b2 := x2) (b3 := x3) (r := 64 * (64 * (64 * (x0 - 240) + x1 - 128) + x2 - 128) + x3 - 128) rfl (by omega) b1 b2 b3
      congr 1
      exact ite_congr (propext (key.trans ⟨fun h => ⟨by omega, by omega, by omega, by omega, by omega, by omega, by omega, by omega, by omega⟩, fun h => ⟨by omega, by omega, by omega, by omega, by omega, by omega, by omega, by omega⟩⟩)) (fun _ => rfl) (fun _ => rfl)
  · rw [if_neg c4]
    by_cases c3 : x0 ≥ 224
    · rw [if_pos c3, w64 (x := x0 - 224) (by omega) (by omega), show (3 : Int) = ((3 : Nat) : Int) from rfl, j1, rn4_3 (l.length - i) x0.toNat x1.toNat x2.toNat x3.toNat (64 * (64 * (x0 - 224) + x1 - 128) + x2 - 128) (by omega) (by omega) (by omega) (by omega)]
      by_cases hn : l.length - i < 3
      · rw [if_pos hn, if_neg (fun h => by omega)]
      · rw [if_neg hn, show (1 : Int) = ((1 : Nat) : Int) from rfl, specRune_step (k + 6) l i 3 1 _ hb hl (by omega) (by omega) (by omega), e1,
          specRune_step (k + 5) l i 3 2 _ hb hl (by omega) (by omega) (by omega), e2, specRune_end (k + 4) (by omega) l i 3 _ hb hl (by omega)]
        have hm : (List.range 3).map (fun j => l.getD (i + j) 0) = [x0, x1, x2] := by
          show [l.getD (i + 0) 0, l.getD (i + 1) 0, l.getD (i + 2) 0] = _
          rw [Nat.add_zero, e0, e1, e2]
        rw [hm]
        have key := rb3 (b0 := x0) (b1 := x1) (b2 := x2) (r := 64 * (64 * (x0 - 224) + x1 - 128) + x2 - 128) rfl (by omega) b1 b2
        congr 1
        exact ite_congr (propext (key.trans ⟨fun h => ⟨by omega, by omega, by omega, by omega, by omega, by omega, by omega⟩, fun h => ⟨by omega, by omega, by omega, by omega, by omega, by omega⟩⟩)) (fun _ => rfl) (fun _ => rfl)
    · rw [if_neg c3]
      by_cases c2 : x0 ≥ 192
      · rw [if_pos c2, w64 (x := x0 - 192) (by omega) (by omega), show (2 : Int) = ((2 : Nat) : Int) from rfl, j1, rn4_2 (l.length - i) x0.toNat x1.toNat x2.toNat x3.toNat (64 * (x0 - 192) + x1 - 128) (by omega) (by omega) (by omega)]
        by_cases hn : l.length - i < 2
        · rw [if_pos hn, if_neg (fun h => by omega)]
        · rw [if_neg hn, show (1 : Int) = ((1 : Nat) : Int) from rfl, specRune_step (k + 6) l i 2 1 _ hb hl (by omega) (by omega) (by omega), e1, specRune_end (k + 5) (by omega) l i 2 _ hb hl (by omega)]
          have hm : (List.range 2).map (fun j => l.getD (i + j) 0) = [x0, x1] := by
            show [l.getD (i + 0) 0, l.getD (i + 1) 0] = _
            rw [Nat.add_zero, e0, e1]
          rw [hm]
          have key := rb2 (b0 := x0) (b1 := x1) (r := 64 * (x0 - 192) + x1 - 128) rfl (by omega) b1
          congr 1
          exact ite_congr (propext (key.trans ⟨fun h => ⟨by omega, by omega, by omega, by omega⟩, fun h => ⟨by omega, by omega, by omega⟩⟩)) (fun _ => rfl) (fun _ => rfl)
      · rw [if_neg c2, show spec_l01Rune.j1 (k + 8) l (i : Int) 1 x0 = _ from j1 1 x0, rn4_1 (l.length - i) x0.toNat x1.toNat x2.toNat x3.toNat (by omega), if_neg (by omega), show spec_l01Rune.l0 (k + 7) l (i : Int) ((1 : Nat) : Int) x0 1 = _ from specRune_end (k + 6) (by omega) l i 1 x0 hb hl (by omega)]
        have hm : (List.range 1).map (fun j => l.getD (i + j) 0) = [x0] := by
          show [l.getD (i + 0) 0] = _
          rw [Nat.add_zero, e0]
        rw [hm]
        have key := rb1 (b0 := x0) (r := x0) rfl (by omega) (by omega)
        congr 1
        rw [ite_congr (propext (key.trans (⟨fun h => by omega, fun h => by omega⟩ : x0 < 128 ↔ x0.toNat < 128))) (fun _ => rfl) (fun _ => rfl), show ((x0.toNat : Nat) : Int) = x0 by omega]
        rfl
theorem specRune_out (k : Nat) (hk : 1 ≤ k) (l : List Int) (a : Int) (ha : a < 0 ∨ (l.length : Int) ≤ a) : spec_l01Rune.f k l a = some (-1, 0) := by
  obtain ⟨k, rfl⟩ : ∃ m, k = m + 1 := ⟨k - 1, by omega⟩
  have key : spec_l01Rune.j0 (k + 1) l a true = some (-1, 0) := by simp [spec_l01Rune.j0]
  unfold spec_l01Rune.f
  by_cases h : a < 0
  · rw [if_pos h]; exact key
  · rw [if_neg h, show decide (a ≥ (l.length : Int)) = true from decide_eq_true (by omega)]; exact key
/-- The letter at whatever place. -/
def rnA (l : List Int) (a : Int) : Int × Int := if 0 ≤ a ∧ a < (l.length : Int) then rn l a.toNat else (-1, 0)
theorem specRune_all (k : Nat) (hk : 9 ≤ k) (l : List Int) (a : Int) (hb : Bytes.okBytes l = true) (hl : l.length ≤ 1048576) : spec_l01Rune.f k l a = some (rnA l a) := by
  unfold rnA
  by_cases h : 0 ≤ a ∧ a < (l.length : Int)
  · rw [if_pos h]
    have := specRune_f k hk l a.toNat hb hl (by omega)
    rwa [show ((a.toNat : Nat) : Int) = a by omega] at this
  · rw [if_neg h]
    exact specRune_out k (by omega) l a (by omega)
theorem okBytes_wf {l : List Int} (h : ∀ x ∈ l, (Lit.int .u8 x).wf = true) : Bytes.okBytes l = true := Bytes.okBytes_of fun x hx => wf_u8 (h x hx)
/-- A byte that begins no letter. -/
def contB (x : Int) : Bool := decide (128 ≤ x ∧ x < 192)
/-- What a place's letter is: none, or of some bytes, of which the later ones begin none. -/
theorem rn_cases {l : List Int} {p : Nat} (hb : Bytes.okBytes l = true) (hp : p < l.length) :
    rn l p = (-1, 0) ∨ ∃ s : Nat, 1 ≤ s ∧ s ≤ 4 ∧ (rn l p).2 = (s : Int) ∧ 0 ≤ (rn l p).1 ∧ p + s ≤ l.length ∧ contB (l.getD p 0) = false ∧ ∀ j, 1 ≤ j → j < s → contB (l.getD (p + j) 0) = true := by
  have b0 := Bytes.okBytes_getD hb p
  have b1 := Bytes.okBytes_getD hb (p + 1)
  have b2 := Bytes.okBytes_getD hb (p + 2)
  have b3 := Bytes.okBytes_getD hb (p + 3)
  unfold rn
  rw [if_pos hp]
  unfold contB
  generalize e0 : l.getD p 0 = x0 at b0
  generalize e1 : l.getD (p + 1) 0 = x1 at b1
  generalize e2 : l.getD (p + 2) 0 = x2 at b2
  generalize e3 : l.getD (p + 3) 0 = x3 at b3
  by_cases c4 : 240 ≤ x0
  · rw [rn4_4 (l.length - p) x0.toNat x1.toNat x2.toNat x3.toNat (64 * (64 * (64 * (x0 - 240) + x1 - 128) + x2 - 128) + x3 - 128) (by omega) (by omega) (by omega) (by omega) (by omega)]
    by_cases h : 4 ≤ l.length - p ∧ 128 ≤ ((x1.toNat : Nat) : Int) ∧ ((x1.toNat : Nat) : Int) < 192 ∧ 128 ≤ ((x2.toNat : Nat) : Int) ∧ ((x2.toNat : Nat) : Int) < 192 ∧ 128 ≤ ((x3.toNat : Nat) : Int) ∧ ((x3.toNat : Nat) : Int) < 192 ∧ 65536 ≤ 64 * (64 * (64 * (x0 - 240) + x1 - 128) + x2 - 128) + x3 - 128 ∧ 64 * (64 * (64 * (x0 - 240) + x1 - 128) + x2 - 128) + x3 - 128 ≤ 1114111
    · rw [if_pos h]
      refine Or.inr ⟨4, by omega, by omega, rfl, by simp only; omega, by omega, by simp only [decide_eq_false_iff_not]; omega, fun j h1 h2 => ?_⟩
      obtain rfl | rfl | rfl : j = 1 ∨ j = 2 ∨ j = 3 := by omega
      · rw [e1, decide_eq_true_eq]; omega
      · rw [e2, decide_eq_true_eq]; omega
      · rw [e3, decide_eq_true_eq]; omega
    · rw [if_neg h]; exact Or.inl rfl
  · by_cases c3 : 224 ≤ x0
    · rw [rn4_3 (l.length - p) x0.toNat x1.toNat x2.toNat x3.toNat (64 * (64 * (x0 - 224) + x1 - 128) + x2 - 128) (by omega) (by omega) (by omega) (by omega)]
      by_cases h : 3 ≤ l.length - p ∧ 128 ≤ ((x1.toNat : Nat) : Int) ∧ ((x1.toNat : Nat) : Int) < 192 ∧ 128 ≤ ((x2.toNat : Nat) : Int) ∧ ((x2.toNat : Nat) : Int) < 192 ∧ 2048 ≤ 64 * (64 * (x0 - 224) + x1 - 128) + x2 - 128 ∧ ¬ (55296 ≤ 64 * (64 * (x0 - 224) + x1 - 128) + x2 - 128 ∧ 64 * (64 * (x0 - 224) + x1 - 128) + x2 - 128 ≤ 57343)
      · rw [if_pos h]
        refine Or.inr ⟨3, by omega, by omega, rfl, by simp only; omega, by omega, by simp only [decide_eq_false_iff_not]; omega, fun j h1 h2 => ?_⟩
        obtain rfl | rfl : j = 1 ∨ j = 2 := by omega
        · rw [e1, decide_eq_true_eq]; omega
        · rw [e2, decide_eq_true_eq]; omega
      · rw [if_neg h]; exact Or.inl rfl
    · by_cases c2 : 192 ≤ x0
      · rw [rn4_2 (l.length - p) x0.toNat x1.toNat x2.toNat x3.toNat (64 * (x0 - 192) + x1 - 128) (by omega) (by omega) (by omega)]
        by_cases h : 2 ≤ l.length - p ∧ 128 ≤ ((x1.toNat : Nat) : Int) ∧ ((x1.toNat : Nat) : Int) < 192 ∧ 128 ≤ 64 * (x0 - 192) + x1 - 128
        · rw [if_pos h]
          refine Or.inr ⟨2, by omega, by omega, rfl, by simp only; omega, by omega, by simp only [decide_eq_false_iff_not]; omega, fun j h1 h2 => ?_⟩
          obtain rfl : j = 1 := by omega
          rw [e1, decide_eq_true_eq]; omega
        · rw [if_neg h]; exact Or.inl rfl
      · rw [rn4_1 (l.length - p) x0.toNat x1.toNat x2.toNat x3.toNat (by omega)]
        by_cases h : x0.toNat < 128
        · rw [if_pos h]
          refine Or.inr ⟨1, by omega, by omega, rfl, by simp only; omega, by omega, by simp only [decide_eq_false_iff_not]; omega, fun j h1 h2 => by omega⟩
        · rw [if_neg h]; exact Or.inl rfl
/-- The places of the letters from p on, and the end. -/
def cuts (l : List Int) : Nat → Nat → Option (List Int)
  | 0, p => if p < l.length then none else some [(p : Int)]
  | n + 1, p => if p < l.length then (if (rn l p).2 = 0 then none else (cuts l n (p + (rn l p).2.toNat)).map ((p : Int) :: ·)) else some [(p : Int)]
theorem cuts_end (l : List Int) (n p : Nat) (h : ¬ p < l.length) : cuts l n p = some [(p : Int)] := by
  cases n <;> simp [cuts, h]
/-- A text. -/
def isT (l : List Int) : Bool := decide (l.length ≤ 400) && (cuts l l.length 0).isSome
/-- Its cuts. -/
def cutsOf (l : List Int) : List Int := if l.length ≤ 400 then (cuts l l.length 0).getD [] else []
theorem cuts_pos {l : List Int} : ∀ (n p : Nat) (c : List Int), cuts l n p = some c → 0 < c.length := by
  intro n p c h
  cases n with
  | zero =>
    simp only [cuts] at h
    split at h
    · cases h
    · cases h; simp
  | succ n =>
    simp only [cuts] at h
    split at h
    · split at h
      · cases h
      · obtain ⟨c', _, rfl⟩ := Option.map_eq_some_iff.1 h
        simp
    · cases h; simp
theorem specCuts_l0 {l : List Int} (hb : Bytes.okBytes l = true) (hl : l.length ≤ 1048576) : ∀ (n p k : Nat) (out : List Int), p ≤ l.length → l.length - p ≤ n → n + 10 ≤ k → out.length + n ≤ 1048576 →
    spec_l01Cuts.l0 k l out (p : Int) = some (match cuts l n p with | none => [] | some c => out ++ c) := by
  intro n
  induction n with
  | zero =>
    intro p k out h1 h2 h3 h4
    obtain ⟨k, rfl⟩ : ∃ m, k = m + 1 := ⟨k - 1, by omega⟩
    simp only [spec_l01Cuts.l0]
    rw [if_neg (by omega), if_pos (by omega), cuts_end l 0 p (by omega)]
  | succ n ih =>
    intro p k out h1 h2 h3 h4
    obtain ⟨k, rfl⟩ : ∃ m, k = m + 1 := ⟨k - 1, by omega⟩
    simp only [spec_l01Cuts.l0]
    by_cases hp : p < l.length
    · rw [if_pos (by omega)]
      unfold spec_RuneSize.f
      rw [specRune_f k (by omega) l p hb hl hp]
      simp only [Option.bind_some, cuts, if_pos hp]
      rcases rn_cases hb hp with h | ⟨s, hs1, hs4, hs, _, hse, _, _⟩
      · rw [h]; simp
      · rw [hs, if_neg (by omega), if_pos (by omega), show wrap64 ((p : Int) + (s : Int)) = ((p + s : Nat) : Int) from by rw [w64 (by omega) (by omega)]; omega, Int.toNat_natCast,
          ih (p + s) k (out ++ [(p : Int)]) hse (by omega) (by omega) (by simp; omega)]
        cases cuts l n (p + s) <;> simp [show s ≠ 0 by omega]
    · rw [if_neg (by omega), if_pos (by omega), cuts_end l (n + 1) p hp]
theorem specCuts_f {l : List Int} (k : Nat) (hb : Bytes.okBytes l = true) (hk : 411 ≤ k) : spec_l01Cuts.f k l = some (cutsOf l) := by
  unfold spec_l01Cuts.f cutsOf
  by_cases h : l.length ≤ 400
  · rw [if_neg (by omega), if_pos h]
    refine (specCuts_l0 hb (by omega) l.length 0 k [] (by omega) (by omega) (by omega) (by simp; omega)).trans ?_
    cases cuts l l.length 0 <;> simp
  · rw [if_pos (by omega), if_neg h]
theorem isT_cuts {l : List Int} : isT l = true ↔ 0 < (cutsOf l).length := by
  unfold isT cutsOf
  by_cases h : l.length ≤ 400
  · rw [if_pos h]
    cases hc : cuts l l.length 0 with
    | none => simp
    | some c => simpa [h] using cuts_pos _ _ _ hc
  · rw [if_neg h]; simp [h]
theorem isT_len {l : List Int} (h : isT l = true) : l.length ≤ 400 := by
  unfold isT at h
  simp only [Bool.and_eq_true, decide_eq_true_eq] at h
  exact h.1
theorem isT_some {l : List Int} (h : isT l = true) : cuts l l.length 0 = some (cutsOf l) := by
  have hl := isT_len h
  unfold isT at h
  simp only [Bool.and_eq_true, decide_eq_true_eq] at h
  unfold cutsOf
  rw [if_pos hl]
  cases hc : cuts l l.length 0 with
  | none => rw [hc] at h; simp at h
  | some c => rfl
theorem isT_none {l : List Int} (h : isT l = false) : cutsOf l = [] := by
  cases hc : cutsOf l with
  | nil => rfl
  | cons a c =>
    have := isT_cuts.2 (show 0 < (cutsOf l).length by rw [hc]; simp)
    rw [h] at this; cases this
theorem drop_toArray (l : List Int) (p : Nat) : (⟨((Bytes.toBA l).data.toList.drop p).toArray⟩ : ByteArray) = Bytes.toBA (l.drop p) := by
  unfold Bytes.toBA
  simp [List.map_drop]
theorem decode_drop {l : List Int} (hb : Bytes.okBytes l = true) (p : Nat) :
    Utf8.decode (Bytes.toBA (l.drop p)) 0 = Lib.decodeN (l.length - p) (l.getD p 0).toNat (l.getD (p + 1) 0).toNat (l.getD (p + 2) 0).toNat (l.getD (p + 3) 0).toNat := by
  have g : ∀ j, ((Bytes.toBA (l.drop p)).get! j).toNat = (l.getD (p + j) 0).toNat := fun j => by
    have := Bytes.toBA_get (Bytes.okBytes_drop hb p) j
    rw [getD_drop] at this
    omega
  rw [Lib.decode_at, g, g, g, g, Bytes.toBA_size, List.length_drop]
  simp
theorem decode_at_ {l : List Int} (hb : Bytes.okBytes l = true) (p : Nat) :
    Utf8.decode (Bytes.toBA l) p = Lib.decodeN (l.length - p) (l.getD p 0).toNat (l.getD (p + 1) 0).toNat (l.getD (p + 2) 0).toNat (l.getD (p + 3) 0).toNat := by
  have g : ∀ j, ((Bytes.toBA l).get! j).toNat = (l.getD j 0).toNat := fun j => by have := Bytes.toBA_get hb j; omega
  rw [Lib.decode_at, g, g, g, g, Bytes.toBA_size]
theorem valid_cuts {l : List Int} (hb : Bytes.okBytes l = true) : ∀ (n p : Nat), p ≤ l.length → l.length - p ≤ n → Lib.validGoD n ((Bytes.toBA l).data.toList.drop p) = (cuts l n p).isSome := by
  have hsz : (Bytes.toBA l).data.toList.length = l.length := by simp [Bytes.toBA]
  intro n
  induction n with
  | zero =>
    intro p h1 h2
    rw [cuts_end l 0 p (by omega)]
    rfl
  | succ n ih =>
    intro p h1 h2
    unfold Lib.validGoD
    by_cases hp : p < l.length
    · have hne : ¬ ((Bytes.toBA l).data.toList.drop p = []) := by
        intro h
        have := congrArg List.length h
        simp [hsz] at this
        omega
      rw [if_neg hne]
      simp only [cuts, if_pos hp]
      have hd : Lib.decodeL ((Bytes.toBA l).data.toList.drop p) = Lib.decodeN (l.length - p) (l.getD p 0).toNat (l.getD (p + 1) 0).toNat (l.getD (p + 2) 0).toNat (l.getD (p + 3) 0).toNat := by
        unfold Lib.decodeL
        rw [drop_toArray, decode_drop hb]
      have hle := decodeN_le (l.length - p) (l.getD p 0).toNat (l.getD (p + 1) 0).toNat (l.getD (p + 2) 0).toNat (l.getD (p + 3) 0).toNat (by have := Bytes.okBytes_getD hb p; omega)
      have hrn : rn l p = rn4 (l.length - p) (l.getD p 0).toNat (l.getD (p + 1) 0).toNat (l.getD (p + 2) 0).toNat (l.getD (p + 3) 0).toNat := by unfold rn; rw [if_pos hp]
      have hcs := rn_cases hb hp
      unfold rn4 at hrn
      rw [hd]
      generalize Lib.decodeN (l.length - p) (l.getD p 0).toNat (l.getD (p + 1) 0).toNat (l.getD (p + 2) 0).toNat (l.getD (p + 3) 0).toNat = d at hle hrn
      by_cases hbad : d.1 = 65533 ∧ d.2 ≤ 1
      · rw [if_pos ⟨hbad.1, by omega⟩]
        rw [if_pos hbad] at hrn
        rw [hrn]
        simp
      · rw [if_neg (fun h => hbad ⟨h.1, by omega⟩)]
        rw [if_neg hbad] at hrn
        have h2' : (rn l p).2 = (d.2 : Int) := by rw [hrn]
        have hse : p + d.2 ≤ l.length := by
          rcases hcs with h | ⟨s, _, _, hs, _, hse, _, _⟩
          · rw [h] at h2'; simp at h2'; omega
          · omega
        rw [h2', if_neg (by omega), Int.toNat_natCast, List.drop_drop, ih (p + d.2) hse (by omega)]
        cases cuts l n (p + d.2) <;> rfl
    · have he : (Bytes.toBA l).data.toList.drop p = [] := List.drop_eq_nil_of_le (by omega)
      rw [if_pos he, cuts_end l (n + 1) p hp]
      rfl
theorem implValid_f {l : List Int} (hb : Bytes.okBytes l = true) (hl : l.length ≤ 1048576) : utf8_Valid.f l = some (cuts l l.length 0).isSome := by
  unfold utf8_Valid.f
  rw [if_pos hb, if_pos (by omega)]
  congr 1
  have := valid_cuts hb l.length 0 (by omega) (by omega)
  rw [List.drop_zero] at this
  unfold Lib.validD
  rw [show (Bytes.toBA l).data.toList.length = l.length by simp [Bytes.toBA]]
  exact this
theorem specText_f {l : List Int} (k : Nat) (hb : Bytes.okBytes l = true) (hk : 411 ≤ k) : spec_TextOk.f k l = some (isT l) := by
  unfold spec_TextOk.f
  rw [specCuts_f k hb hk]
  simp only [Option.bind_some, Option.some.injEq]
  rw [Bool.eq_iff_iff, isT_cuts, decide_eq_true_eq]
  omega
theorem szByteS_f (l : List Int) (a : Int) (h0 : 0 ≤ a) (h1 : a ≤ 1048576) (hl : l.length ≤ 9223372036854775807) :
    laws_szByteS.f l a = some (if (l.length : Int) ≤ a then a - (l.length : Int) else -1) := by
  unfold laws_szByteS.f
  rw [w64 (x := a - (l.length : Int)) (by omega) (by omega)]
  by_cases h : (l.length : Int) ≤ a
  · rw [if_neg (by omega), if_pos h]
  · rw [if_pos (by omega), if_neg h]
/-- A chunk. -/
def isCk (l : List Int) : Bool := decide (1 ≤ l.length ∧ l.length ≤ 16) && isT l
theorem specChunk_f {l : List Int} (k : Nat) (hb : Bytes.okBytes l = true) (hk : 411 ≤ k) : spec_ChunkOk.f k l = some (isCk l) := by
  unfold spec_ChunkOk.f isCk
  by_cases h1 : 1 ≤ l.length
  · rw [if_pos (by omega)]
    by_cases h2 : l.length ≤ 16
    · rw [if_pos (by omega), specText_f k hb hk]
      simp [h1, h2]
    · rw [if_neg (by omega)]; simp [h2]
  · rw [if_neg (by omega)]; simp [h1]
theorem implChunk_f {l : List Int} (hb : Bytes.okBytes l = true) (hl : l.length ≤ 1048576) : impl_isChunk.f l = some (isCk l) := by
  have hin : impl_in.f (l.length : Int) 1 16 = some (decide (1 ≤ l.length ∧ l.length ≤ 16)) := by
    unfold impl_in.f
    by_cases h : 1 ≤ l.length
    · rw [if_pos (by omega)]
      congr 1
      rw [Bool.eq_iff_iff, decide_eq_true_eq, decide_eq_true_eq]
      omega
    · rw [if_neg (by omega)]; simp [h]
  unfold impl_isChunk.f isCk
  rw [hin]
  simp only [Option.bind_some]
  by_cases h : 1 ≤ l.length ∧ l.length ≤ 16
  · rw [if_pos (decide_eq_true h)]
    rw [implValid_f hb hl]
    unfold isT
    simp [h, show l.length ≤ 400 by omega]
  · rw [if_neg (by simp only [decide_eq_true_eq]; exact h)]
    rw [decide_eq_false h]
    simp
theorem toChunk_f (k : Nat) (l : List Int) (hk : l.length < k) (hl : l.length ≤ 1048576) : laws_toChunk.f k l = some l := by
  unfold laws_toChunk.f
  rw [toByteS_f k l hk hl]
  rfl
theorem eqChunk_self (k : Nat) (l : List Int) (hk : l.length < k) (hl : l.length ≤ 1048576) : laws_eqChunk.f k l l = some true := by
  unfold laws_eqChunk.f
  rw [eqByteS_self k l hk hl]
  rfl
theorem szChunk_f (l : List Int) (a : Int) (h0 : 0 ≤ a) (h1 : a ≤ 1048576) (hl : l.length ≤ 9223372036854775807) :
    laws_szChunk.f l a = some (if (l.length : Int) ≤ a then a - (l.length : Int) else -1) := by
  unfold laws_szChunk.f
  rw [szByteS_f l a h0 h1 hl]
  simp only [Option.bind_some]
  by_cases h : (l.length : Int) ≤ a
  · rw [if_pos h, if_neg (by omega)]
  · rw [if_neg h, if_pos (by omega)]
/-- The bulk of a list of chunks, without the list's own length. -/
def sumL (l : List S83) : Nat := (l.map fun c => c.f0.length).sum
theorem sumL_cons (c : S83) (l : List S83) : sumL (c :: l) = c.f0.length + sumL l := by simp [sumL]
theorem drop_rd (l : List S83) (i : Nat) (h : i < l.length) : l.drop i = rd_T83 l (i : Int) :: l.drop (i + 1) := by
  rw [List.drop_eq_getElem_cons h]
  unfold rd_T83
  rw [Int.toNat_natCast, List.getD_eq_getElem?_getD, List.getElem?_eq_getElem h]
  rfl
theorem sumL_mem {l : List S83} {c : S83} (h : c ∈ l) : c.f0.length ≤ sumL l := by
  induction l with
  | nil => cases h
  | cons d l ih =>
    rw [sumL_cons]
    rcases List.mem_cons.1 h with rfl | h
    · omega
    · have := ih h; omega
theorem szChunkS_l0 (l : List S83) (hw : ∀ c ∈ l, c.f0.length ≤ 9223372036854775807) (hl : l.length ≤ 1048576) : ∀ (d i k : Nat) (x : Int), i + d = l.length → d < k → 0 ≤ x → x ≤ 1048576 →
    laws_szChunkS.l0 k l x (i : Int) = some (if (sumL (l.drop i) : Int) ≤ x then x - (sumL (l.drop i) : Int) else -1) := by
  intro d
  induction d with
  | zero =>
    intro i k x hi hk h0 h1
    obtain ⟨k, rfl⟩ : ∃ m, k = m + 1 := ⟨k - 1, by omega⟩
    simp only [laws_szChunkS.l0]
    rw [if_neg (by omega), List.drop_of_length_le (by omega), show sumL [] = 0 from rfl, if_pos (by omega)]
    congr 1
    omega
  | succ d ih =>
    intro i k x hi hk h0 h1
    obtain ⟨k, rfl⟩ : ∃ m, k = m + 1 := ⟨k - 1, by omega⟩
    simp only [laws_szChunkS.l0]
    have hd := drop_rd l i (by omega)
    have hmem : rd_T83 l (i : Int) ∈ l := List.mem_of_mem_drop (i := i) (by rw [hd]; exact List.mem_cons_self)
    rw [if_pos (by omega), if_pos (by omega), szChunk_f _ x h0 h1 (hw _ hmem), hd, sumL_cons]
    simp only [Option.bind_some]
    by_cases h : ((rd_T83 l (i : Int)).f0.length : Int) ≤ x
    · rw [if_pos h, if_neg (by omega), w64s i (by omega), ih (i + 1) k _ (by omega) (by omega) (by omega) (by omega)]
      by_cases h2 : (sumL (l.drop (i + 1)) : Int) ≤ x - ((rd_T83 l (i : Int)).f0.length : Int)
      · rw [if_pos h2, if_pos (by omega)]
        congr 1
        omega
      · rw [if_neg h2, if_neg (by omega)]
    · rw [if_neg h, if_pos (by omega), if_neg (by omega)]
theorem szChunkS_f (l : List S83) (k : Nat) (x : Int) (h0 : 0 ≤ x) (h1 : x ≤ 1048576) (hm : l.length ≤ 9223372036854775807) (hw : ∀ c ∈ l, c.f0.length ≤ 9223372036854775807) (hk : 1048577 < k) :
    laws_szChunkS.f k l x = some (if (l.length + sumL l : Int) ≤ x then x - (l.length + sumL l : Int) else -1) := by
  unfold laws_szChunkS.f
  rw [w64 (x := x - (l.length : Int)) (by omega) (by omega)]
  by_cases h : (l.length : Int) ≤ x
  · rw [if_neg (by omega)]
    refine (szChunkS_l0 l hw (by omega) l.length 0 k _ (by omega) (by omega) (by omega) (by omega)).trans ?_
    rw [List.drop_zero]
    by_cases h2 : (l.length + sumL l : Int) ≤ x
    · rw [if_pos h2, if_pos (by omega)]
      congr 1
      omega
    · rw [if_neg h2, if_neg (by omega)]
  · rw [if_pos (by omega), if_neg (by omega)]
/-- The same chunks as the program holds them. -/
def toC (l : List S83) : List S87 := l.map fun c => ⟨c.f0⟩
theorem rdC (l : List S83) (i : Nat) (h : i < l.length) : rd_T83 l (i : Int) ∈ l := List.mem_of_mem_drop (i := i) (by rw [drop_rd l i h]; exact List.mem_cons_self)
theorem toChunkS_f (k : Nat) (l : List S83) (hl : l.length + sumL l ≤ 1048576) (hk : 2097154 < k) : laws_toChunkS.f k l = some (toC l) := by
  have h := map_loop (L := fun k out i => laws_toChunkS.l0 k l out i) l (fun c => (⟨c.f0⟩ : S87)) z83 1048577 (fun k out i hk hi ho => by
      simp only [laws_toChunkS.l0]
      have hmem := rdC l i hi
      have := sumL_mem hmem
      rw [if_pos (by omega), if_pos (by omega), toChunk_f k _ (by omega) (by omega)]
      simp only [Option.bind_some]
      rw [if_pos (by omega), w64s i (by omega), Int.toNat_natCast]
      rfl) (fun k out ho => by
      simp only [laws_toChunkS.l0]
      rw [if_neg (by omega)]) k (List.replicate ((l.length : Int)).toNat z87) (by omega) (by simp)
  unfold laws_toChunkS.f
  rw [if_pos (by omega), if_pos (by omega)]
  exact h
theorem rd_toC (l : List S87) (i : Nat) (h : i < l.length) : l.drop i = rd_T87 l (i : Int) :: l.drop (i + 1) := by
  rw [List.drop_eq_getElem_cons h]
  unfold rd_T87
  rw [Int.toNat_natCast, List.getD_eq_getElem?_getD, List.getElem?_eq_getElem h]
  rfl
theorem rd_mem (l : List S87) (i : Nat) (h : i < l.length) : rd_T87 l (i : Int) ∈ l := List.mem_of_mem_drop (i := i) (by rw [rd_toC l i h]; exact List.mem_cons_self)
theorem eqChunkS_self (k : Nat) (l : List S87) (hl : l.length ≤ 1048576) (hw : ∀ c ∈ l, c.f0.length ≤ 1048576) (hk : 2097154 < k) : laws_eqChunkS.f k l l = some true := by
  have key : ∀ (d i k : Nat), i + d = l.length → d + 1048577 < k → laws_eqChunkS.l0 k l l (i : Int) = some true := by
    intro d
    induction d with
    | zero =>
      intro i k hi hk
      obtain ⟨k, rfl⟩ : ∃ m, k = m + 1 := ⟨k - 1, by omega⟩
      simp only [laws_eqChunkS.l0]
      rw [if_neg (by omega)]
    | succ d ih =>
      intro i k hi hk
      obtain ⟨k, rfl⟩ : ∃ m, k = m + 1 := ⟨k - 1, by omega⟩
      simp only [laws_eqChunkS.l0]
      have := hw _ (rd_mem l i (by omega))
      rw [if_pos (by omega), if_pos (by omega), if_pos (by omega), eqChunk_self k _ (by omega) (by omega)]
      simp only [Option.bind_some, if_true]
      rw [w64s i (by omega)]
      exact ih (i + 1) k (by omega) (by omega)
  unfold laws_eqChunkS.f
  rw [if_pos rfl]
  exact key l.length 0 k (by omega) (by omega)
theorem toC_mem {l : List S83} {p : List Int → Prop} (h : ∀ c ∈ l, p c.f0) : ∀ c ∈ toC l, p c.f0 := by
  intro c hc
  obtain ⟨d, hd, rfl⟩ := List.mem_map.1 hc
  exact h d hd
theorem toC_length (l : List S83) : (toC l).length = l.length := by simp [toC]
/-- Chunks, all of them, of so much in all. -/
def areCk : List S87 → Int → Bool
  | [], _ => true
  | c :: cs, n => isCk c.f0 && decide (n + (c.f0.length : Int) ≤ 400) && areCk cs (n + (c.f0.length : Int))
theorem isCk_len {l : List Int} (h : isCk l = true) : 1 ≤ l.length ∧ l.length ≤ 16 := by
  unfold isCk at h
  simp only [Bool.and_eq_true, decide_eq_true_eq] at h
  exact h.1
theorem specAre_l0 (l : List S87) (hb : ∀ c ∈ l, Bytes.okBytes c.f0 = true) (hl : l.length ≤ 1048576) : ∀ (d i k : Nat) (n : Int), i + d = l.length → d + 411 < k → 0 ≤ n → n ≤ 400 →
    spec_ChunksOk.l0 k l n (i : Int) = some (areCk (l.drop i) n) := by
  intro d
  induction d with
  | zero =>
    intro i k n hi hk h0 h1
    obtain ⟨k, rfl⟩ : ∃ m, k = m + 1 := ⟨k - 1, by omega⟩
    simp only [spec_ChunksOk.l0]
    rw [if_neg (by omega), List.drop_of_length_le (by omega)]
    rfl
  | succ d ih =>
    intro i k n hi hk h0 h1
    obtain ⟨k, rfl⟩ : ∃ m, k = m + 1 := ⟨k - 1, by omega⟩
    simp only [spec_ChunksOk.l0]
    have hm := rd_mem l i (by omega)
    rw [if_pos (by omega), if_pos (by omega), specChunk_f k (hb _ hm) (by omega), rd_toC l i (by omega)]
    simp only [Option.bind_some, areCk]
    cases h : isCk (rd_T87 l (i : Int)).f0 with
    | false => simp
    | true =>
      have hle := isCk_len h
      simp only [if_true, Bool.true_and]
      rw [w64 (by omega) (by omega)]
      by_cases h2 : n + ((rd_T87 l (i : Int)).f0.length : Int) ≤ 400
      · rw [if_neg (by omega), w64s i (by omega), ih (i + 1) k _ (by omega) (by omega) (by omega) (by omega), decide_eq_true h2, Bool.true_and]
      · rw [if_pos (by omega), decide_eq_false h2, Bool.false_and]
theorem specAre_f (k : Nat) (l : List S87) (hb : ∀ c ∈ l, Bytes.okBytes c.f0 = true) (hl : l.length ≤ 1048576) (hk : 1048990 < k) : spec_ChunksOk.f k l = some (areCk l 0) := by
  unfold spec_ChunksOk.f
  refine (specAre_l0 l hb hl l.length 0 k 0 (by omega) (by omega) (by omega) (by omega)).trans ?_
  rw [List.drop_zero]
theorem implAre_l0 (l : List S87) (hb : ∀ c ∈ l, Bytes.okBytes c.f0 = true) (hw : ∀ c ∈ l, c.f0.length ≤ 1048576) (hl : l.length ≤ 1048576) : ∀ (d i k : Nat) (n : Int), i + d = l.length → d < k → 0 ≤ n → n ≤ 400 →
    impl_areChunks.l0 k n l (l.length : Int) (i : Int) = some (areCk (l.drop i) n) := by
  intro d
  induction d with
  | zero =>
    intro i k n hi hk h0 h1
    obtain ⟨k, rfl⟩ : ∃ m, k = m + 1 := ⟨k - 1, by omega⟩
    simp only [impl_areChunks.l0]
    rw [if_neg (by omega), List.drop_of_length_le (by omega)]
    rfl
  | succ d ih =>
    intro i k n hi hk h0 h1
    obtain ⟨k, rfl⟩ : ∃ m, k = m + 1 := ⟨k - 1, by omega⟩
    simp only [impl_areChunks.l0]
    have hm := rd_mem l i (by omega)
    rw [if_pos (by omega), if_pos (by omega), if_pos (by omega), implChunk_f (hb _ hm) (hw _ hm), rd_toC l i (by omega)]
    simp only [Option.bind_some, areCk]
    cases h : isCk (rd_T87 l (i : Int)).f0 with
    | false => simp
    | true =>
      have hle := isCk_len h
      simp only [if_true, Bool.true_and]
      rw [w64 (by omega) (by omega)]
      by_cases h2 : n + ((rd_T87 l (i : Int)).f0.length : Int) ≤ 400
      · rw [if_neg (by omega), w64s i (by omega), ih (i + 1) k _ (by omega) (by omega) (by omega) (by omega), decide_eq_true h2, Bool.true_and]
      · rw [if_pos (by omega), decide_eq_false h2, Bool.false_and]
theorem implAre_f (k : Nat) (l : List S87) (hb : ∀ c ∈ l, Bytes.okBytes c.f0 = true) (hw : ∀ c ∈ l, c.f0.length ≤ 1048576) (hl : l.length ≤ 1048576) (hk : 1048990 < k) : impl_areChunks.f k l = some (areCk l 0) := by
  unfold impl_areChunks.f
  refine (implAre_l0 l hb hw hl l.length 0 k 0 (by omega) (by omega) (by omega) (by omega)).trans ?_
  rw [List.drop_zero]
/-- All that they hold. -/
def sumC (l : List S87) : Nat := (l.map fun c => c.f0.length).sum
theorem sumC_cons (c : S87) (l : List S87) : sumC (c :: l) = c.f0.length + sumC l := by simp [sumC]
theorem areCk_sum : ∀ (l : List S87) (n : Int), n ≤ 400 → areCk l n = true → n + (sumC l : Int) ≤ 400 ∧ l.length ≤ sumC l := by
  intro l
  induction l with
  | nil => intro n hn _; simp [sumC]; omega
  | cons c l ih =>
    intro n hn h
    simp only [areCk, Bool.and_eq_true, decide_eq_true_eq] at h
    have := ih _ h.1.2 h.2
    have := isCk_len h.1.1
    rw [sumC_cons]
    simp only [List.length_cons]
    omega
/-- What the law knows of a list of chunks that is small enough. -/
theorem lawC {l : List S83} (hl : l.length + sumL l ≤ 1048576) (wl : ∀ x ∈ l, wf83 x) : (toC l).length ≤ 1048576 ∧ (∀ c ∈ toC l, c.f0.length ≤ 1048576) ∧ (∀ c ∈ toC l, Bytes.okBytes c.f0 = true) :=
  ⟨by rw [toC_length]; omega, toC_mem (p := fun x => x.length ≤ 1048576) fun c hc => by have := sumL_mem hc; omega, toC_mem (p := fun x => Bytes.okBytes x = true) fun c hc => okBytes_wf (wl c hc).2⟩
theorem szRope_f (l : List S83) (k : Nat) (x : Int) (h0 : 0 ≤ x) (h1 : x ≤ 1048576) (hm : l.length ≤ 9223372036854775807) (hw : ∀ c ∈ l, c.f0.length ≤ 9223372036854775807) (hk : 1048577 < k) :
    laws_szRope.f k l x = some (if (l.length + sumL l : Int) ≤ x then x - (l.length + sumL l : Int) else -1) := by
  unfold laws_szRope.f
  rw [szChunkS_f l k x h0 h1 hm hw hk]
  simp only [Option.bind_some]
  by_cases h : (l.length + sumL l : Int) ≤ x
  · rw [if_pos h, if_neg (by omega)]
  · rw [if_neg h, if_pos (by omega)]
theorem toRope_f (k : Nat) (l : List S83) (hl : l.length + sumL l ≤ 1048576) (hk : 2097154 < k) : laws_toRope.f k l = some (toC l) := by
  unfold laws_toRope.f
  rw [toChunkS_f k l hl hk]; rfl
theorem eqRope_self (k : Nat) (l : List S87) (hl : l.length ≤ 1048576) (hw : ∀ c ∈ l, c.f0.length ≤ 1048576) (hk : 2097154 < k) : laws_eqRope.f k l l = some true := by
  unfold laws_eqRope.f
  rw [eqChunkS_self k l hl hw hk]; rfl
theorem mem_cuts {l : List Int} (hb : Bytes.okBytes l = true) : ∀ (n p : Nat) (c : List Int), p ≤ l.length → cuts l n p = some c → ∀ a : Int, a ∈ c ↔ (a = (l.length : Int) ∨ ∃ q : Nat, p ≤ q ∧ q < l.length ∧ a = (q : Int) ∧ contB (l.getD q 0) = false) := by
  intro n
  induction n with
  | zero =>
    intro p c h1 h2 a
    by_cases hp : p < l.length
    · simp [cuts, hp] at h2
    · rw [cuts_end l 0 p hp] at h2
      cases h2
      simp only [List.mem_singleton]
      constructor
      · rintro rfl; left; omega
      · rintro (h | ⟨q, _, _, _, _⟩) <;> omega
  | succ n ih =>
    intro p c h1 h2 a
    by_cases hp : p < l.length
    · simp only [cuts, if_pos hp] at h2
      rcases rn_cases hb hp with h | ⟨s, hs1, hs4, hs, _, hse, hc0, hcj⟩
      · rw [h] at h2; simp at h2
      · rw [hs, if_neg (by omega), Int.toNat_natCast] at h2
        obtain ⟨c', hc', rfl⟩ := Option.map_eq_some_iff.1 h2
        rw [List.mem_cons, ih (p + s) c' hse hc' a]
        constructor
        · rintro (rfl | h | ⟨q, g1, g2, g3, g4⟩)
          · exact Or.inr ⟨p, by omega, hp, rfl, hc0⟩
          · exact Or.inl h
          · exact Or.inr ⟨q, by omega, g2, g3, g4⟩
        · rintro (h | ⟨q, g1, g2, g3, g4⟩)
          · exact Or.inr (Or.inl h)
          · by_cases hq : q = p
            · subst hq; exact Or.inl g3
            · by_cases hq2 : p + s ≤ q
              · exact Or.inr (Or.inr ⟨q, hq2, g2, g3, g4⟩)
              · have := hcj (q - p) (by omega) (by omega)
                rw [show p + (q - p) = q by omega, g4] at this
                cases this
    · rw [cuts_end l (n + 1) p hp] at h2
      cases h2
      simp only [List.mem_singleton]
      constructor
      · rintro rfl; left; omega
      · rintro (h | ⟨q, _, _, _, _⟩) <;> omega
theorem cuts_length {l : List Int} : ∀ (n p : Nat) (c : List Int), cuts l n p = some c → c.length ≤ n + 1 := by
  intro n
  induction n with
  | zero =>
    intro p c h
    by_cases hp : p < l.length
    · simp [cuts, hp] at h
    · rw [cuts_end l 0 p hp] at h; cases h; simp
  | succ n ih =>
    intro p c h
    by_cases hp : p < l.length
    · simp only [cuts, if_pos hp] at h
      split at h
      · cases h
      · obtain ⟨c', hc', rfl⟩ := Option.map_eq_some_iff.1 h
        have := ih _ _ hc'
        simp; omega
    · rw [cuts_end l (n + 1) p hp] at h; cases h; simp
theorem cutsOf_length (l : List Int) : (cutsOf l).length ≤ 401 := by
  unfold cutsOf
  by_cases h : l.length ≤ 400
  · rw [if_pos h]
    cases hc : cuts l l.length 0 with
    | none => simp
    | some c => have := cuts_length _ _ _ hc; simp; omega
  · rw [if_neg h]; simp
/-- Where a place stands among the cuts. -/
def idxI (c : List Int) (a : Int) : Int := if a ∈ c then (c.idxOf a : Int) else -1
theorem specRunesTo_l0 (a : Int) (c : List Int) (hl : c.length ≤ 1048576) : ∀ (d i k : Nat), i + d = c.length → d < k → (∀ j, j < i → c.getD j 0 ≠ a) → spec_RunesTo.l0 k a c (i : Int) = some (idxI c a) := by
  intro d
  induction d with
  | zero =>
    intro i k hi hk hn
    obtain ⟨k, rfl⟩ : ∃ m, k = m + 1 := ⟨k - 1, by omega⟩
    simp only [spec_RunesTo.l0]
    rw [if_neg (by omega)]
    unfold idxI
    rw [if_neg]
    intro hm
    obtain ⟨j, hj, e⟩ := List.getElem_of_mem hm
    have := hn j (by omega)
    rw [List.getD_eq_getElem?_getD, List.getElem?_eq_getElem hj] at this
    exact this e
  | succ d ih =>
    intro i k hi hk hn
    obtain ⟨k, rfl⟩ : ∃ m, k = m + 1 := ⟨k - 1, by omega⟩
    simp only [spec_RunesTo.l0]
    rw [if_pos (by omega), if_pos (by omega), rd_nat]
    by_cases h : c.getD i 0 = a
    · rw [if_pos h]
      have hil : i < c.length := by omega
      rw [List.getD_eq_getElem?_getD, List.getElem?_eq_getElem hil] at h
      have hm : a ∈ c := by rw [← show c[i] = a from h]; exact List.getElem_mem hil
      unfold idxI
      rw [if_pos hm]
      congr 2
      have h1 : c.idxOf a < c.length := List.idxOf_lt_length_iff.2 hm
      have h2 : c[c.idxOf a] = a := List.getElem_idxOf h1
      have h3 : ¬ c.idxOf a < i := fun hlt => by
        have := hn _ hlt
        rw [List.getD_eq_getElem?_getD, List.getElem?_eq_getElem h1] at this
        exact this h2
      have h4 : ¬ i < c.idxOf a := fun hlt => by
        unfold List.idxOf at hlt
        have := List.not_of_lt_findIdx hlt
        rw [show c[i] = a from h] at this
        simp at this
      omega
    · rw [if_neg h, w64s i (by omega)]
      exact ih (i + 1) k (by omega) (by omega) (fun j hj => by
        by_cases e : j = i
        · subst e; exact h
        · exact hn j (by omega))
theorem specRunesTo_f {l : List Int} (k : Nat) (a : Int) (hb : Bytes.okBytes l = true) (hk : 411 ≤ k) : spec_RunesTo.f k l a = some (idxI (cutsOf l) a) := by
  unfold spec_RunesTo.f
  rw [specCuts_f k hb hk]
  simp only [Option.bind_some]
  have := cutsOf_length l
  exact specRunesTo_l0 a (cutsOf l) (by omega) (cutsOf l).length 0 k (by omega) (by omega) (fun j hj => by omega)
theorem idxI_nonneg (c : List Int) (a : Int) : (0 ≤ idxI c a) ↔ a ∈ c := by
  unfold idxI
  by_cases h : a ∈ c
  · rw [if_pos h]; simp [h]
  · rw [if_neg h]; simp [h]
/-- A cut, by the byte that stands there. -/
def isC (l : List Int) (a : Int) : Bool := decide (a = (l.length : Int) ∨ (0 ≤ a ∧ a < (l.length : Int) ∧ contB (l.getD a.toNat 0) = false))
theorem isC_mem {l : List Int} (hb : Bytes.okBytes l = true) (h : isT l = true) (a : Int) : (a ∈ cutsOf l) ↔ isC l a = true := by
  rw [mem_cuts hb _ _ _ (by omega) (isT_some h) a]
  unfold isC
  rw [decide_eq_true_eq]
  constructor
  · rintro (h | ⟨q, _, h2, rfl, h4⟩)
    · exact Or.inl h
    · exact Or.inr ⟨by omega, by omega, by rwa [Int.toNat_natCast]⟩
  · rintro (h | ⟨h1, h2, h3⟩)
    · exact Or.inl h
    · exact Or.inr ⟨a.toNat, by omega, by omega, by omega, h3⟩
theorem runeStart_f {x : Int} (h0 : 0 ≤ x) (h1 : x ≤ 255) : utf8_RuneStart.f x = some (!contB x) := by
  have key : ∀ y : Fin 256, (Go.bits .and .u8 ((y.val : Nat) : Int) 192 != 128) = !contB ((y.val : Nat) : Int) := by decide +kernel
  unfold utf8_RuneStart.f
  congr 1
  have := key ⟨x.toNat, by omega⟩
  simp only at this
  rwa [show ((x.toNat : Nat) : Int) = x by omega] at this
theorem implCut_f {l : List Int} (a : Int) (hb : Bytes.okBytes l = true) (hl : l.length ≤ 1048576) : impl_isCut.f l a = some (isC l a) := by
  unfold impl_isCut.f isC
  by_cases h : a = (l.length : Int)
  · rw [if_pos h]; simp [h]
  · rw [if_neg h]
    have hin : impl_in.f a 0 (wrap64 ((l.length : Int) - 1)) = some (decide (0 ≤ a ∧ a < (l.length : Int))) := by
      unfold impl_in.f
      rw [w64 (by omega) (by omega)]
      by_cases h0 : 0 ≤ a
      · rw [if_pos h0]
        congr 1
        rw [Bool.eq_iff_iff, decide_eq_true_eq, decide_eq_true_eq]
        omega
      · rw [if_neg h0]
        congr 1
        exact (decide_eq_false (fun h => h0 h.1)).symm
    rw [hin]
    simp only [Option.bind_some]
    by_cases h2 : 0 ≤ a ∧ a < (l.length : Int)
    · rw [if_pos (decide_eq_true h2), if_pos h2.1, if_pos h2.2]
      have e : rd l a = l.getD a.toNat 0 := by
        have := rd_nat l a.toNat
        rwa [show ((a.toNat : Nat) : Int) = a by omega] at this
      have hx := Bytes.okBytes_getD hb a.toNat
      rw [e, runeStart_f hx.1 hx.2]
      simp only [Option.bind_some]
      congr 1
      cases hcb : contB (l.getD a.toNat 0) <;> simp [h, h2]
    · rw [if_neg (by simp only [decide_eq_true_eq]; exact h2)]
      congr 1
      symm
      rw [decide_eq_false_iff_not]
      rintro (h3 | ⟨h3, h4, _⟩)
      · exact h h3
      · exact h2 ⟨h3, h4⟩
theorem cuts_fuel {l : List Int} (hb : Bytes.okBytes l = true) : ∀ (n m p : Nat), p ≤ l.length → l.length - p ≤ n → l.length - p ≤ m → cuts l n p = cuts l m p := by
  intro n
  induction n with
  | zero =>
    intro m p h0 h1 h2
    rw [cuts_end l 0 p (by omega), cuts_end l m p (by omega)]
  | succ n ih =>
    intro m p h0 h1 h2
    by_cases hp : p < l.length
    · obtain ⟨m, rfl⟩ : ∃ m', m = m' + 1 := ⟨m - 1, by omega⟩
      simp only [cuts, if_pos hp]
      rcases rn_cases hb hp with h | ⟨s, hs1, hs4, hs, _, hse, _, _⟩
      · rw [h]; simp
      · rw [hs, if_neg (by omega), if_neg (by omega), Int.toNat_natCast, ih m (p + s) hse (by omega) (by omega)]
    · rw [cuts_end l (n + 1) p hp, cuts_end l m p hp]
theorem rn_drop (l : List Int) (p q : Nat) : rn (l.drop p) q = rn l (p + q) := by
  unfold rn
  rw [List.length_drop, getD_drop, getD_drop, getD_drop, getD_drop, show l.length - p - q = l.length - (p + q) by omega, show p + (q + 1) = p + q + 1 by omega, show p + (q + 2) = p + q + 2 by omega, show p + (q + 3) = p + q + 3 by omega]
  by_cases h : q < l.length - p
  · rw [if_pos h, if_pos (by omega)]
  · rw [if_neg h, if_neg (by omega)]
theorem cuts_drop {l : List Int} (p : Nat) (hp : p ≤ l.length) : ∀ (n q : Nat), (cuts (l.drop p) n q).isSome = (cuts l n (p + q)).isSome := by
  intro n
  induction n with
  | zero =>
    intro q
    simp only [cuts, List.length_drop]
    by_cases h : q < l.length - p
    · rw [if_pos h, if_pos (by omega)]
    · rw [if_neg h, if_neg (by omega)]; rfl
  | succ n ih =>
    intro q
    simp only [cuts, List.length_drop]
    by_cases h : q < l.length - p
    · rw [if_pos h, if_pos (show p + q < l.length by omega), rn_drop]
      by_cases h2 : (rn l (p + q)).2 = 0
      · rw [if_pos h2, if_pos h2]
      · rw [if_neg h2, if_neg h2, Option.isSome_map, Option.isSome_map, ih, show p + (q + (rn l (p + q)).2.toNat) = p + q + (rn l (p + q)).2.toNat by omega]
    · rw [if_neg h, if_neg (by omega)]; rfl
theorem cuts_reach {l : List Int} (hb : Bytes.okBytes l = true) : ∀ (n p : Nat) (c : List Int) (q : Nat), p ≤ l.length → l.length - p ≤ n → cuts l n p = some c → (q : Int) ∈ c → (cuts l l.length q).isSome = true := by
  intro n
  induction n with
  | zero =>
    intro p c q h1 h0 h2 h3
    rw [cuts_end l 0 p (by omega)] at h2; cases h2
    simp only [List.mem_singleton] at h3
    obtain rfl : q = p := by omega
    rw [cuts_end l _ q (by omega)]; rfl
  | succ n ih =>
    intro p c q h1 h0 h2 h3
    by_cases hp : p < l.length
    · by_cases hqp : q = p
      · subst hqp
        rw [← cuts_fuel hb (n + 1) l.length q h1 h0 (by omega), h2]; rfl
      · simp only [cuts, if_pos hp] at h2
        rcases rn_cases hb hp with h | ⟨s, hs1, hs4, hs, _, hse, _, _⟩
        · rw [h] at h2; simp at h2
        · rw [hs, if_neg (by omega), Int.toNat_natCast] at h2
          obtain ⟨c', hc', rfl⟩ := Option.map_eq_some_iff.1 h2
          have h4 : (q : Int) ∈ c' := (List.mem_cons.1 h3).elim (fun e => by omega) id
          exact ih (p + s) c' q hse (by omega) hc' h4
    · rw [cuts_end l (n + 1) p hp] at h2; cases h2
      simp only [List.mem_singleton] at h3
      obtain rfl : q = p := by omega
      rw [cuts_end l _ q hp]; rfl
/-- What stands behind a cut of a text is a text. -/
theorem isT_drop {l : List Int} (hb : Bytes.okBytes l = true) (h : isT l = true) {p : Nat} (hc : isC l (p : Int) = true) : isT (l.drop p) = true := by
  have hl := isT_len h
  have hp : p ≤ l.length := by
    unfold isC at hc
    rw [decide_eq_true_eq] at hc
    omega
  have hm := (isC_mem hb h (p : Int)).2 hc
  have h1 := cuts_reach hb _ _ _ p (by omega) (by omega) (isT_some h) hm
  unfold isT
  rw [List.length_drop, decide_eq_true (by omega), Bool.true_and]
  have h2 := cuts_drop (l := l) p hp (l.length - p) 0
  rw [h2, Nat.add_zero, cuts_fuel hb (l.length - p) l.length p hp (by omega) (by omega)]
  exact h1
theorem isC_drop (l : List Int) (p : Nat) (hp : p ≤ l.length) (a : Int) (ha : 0 ≤ a) : isC (l.drop p) a = isC l ((p : Int) + a) := by
  unfold isC
  rw [List.length_drop]
  rw [Bool.eq_iff_iff, decide_eq_true_eq, decide_eq_true_eq, getD_drop, show ((p : Int) + a).toNat = p + a.toNat by omega]
  constructor
  · rintro (h | ⟨h1, h2, h3⟩)
    · left; omega
    · right; exact ⟨by omega, by omega, h3⟩
  · rintro (h | ⟨h1, h2, h3⟩)
    · left; omega
    · right; exact ⟨by omega, by omega, h3⟩
/-- A letter is told by its own bytes, wherever they stand. -/
theorem rn_same {l l' : List Int} (hb : Bytes.okBytes l = true) (hb' : Bytes.okBytes l' = true) {p s : Nat} (hs : (rn l p).2 = (s : Int)) (h1 : 1 ≤ s) (h2 : p + s ≤ l.length) (h3 : p + s ≤ l'.length) (he : ∀ j, j < s → l.getD (p + j) 0 = l'.getD (p + j) 0) : rn l' p = rn l p := by
  have hp : p < l.length := by omega
  have hp' : p < l'.length := by omega
  have b0 := Bytes.okBytes_getD hb p
  have b1 := Bytes.okBytes_getD hb (p + 1)
  have b2 := Bytes.okBytes_getD hb (p + 2)
  have b3 := Bytes.okBytes_getD hb (p + 3)
  have d1 := Bytes.okBytes_getD hb' (p + 1)
  have d2 := Bytes.okBytes_getD hb' (p + 2)
  have d3 := Bytes.okBytes_getD hb' (p + 3)
  have t0 : l'.getD p 0 = l.getD p 0 := (he 0 (by omega)).symm
  have t1 : 2 ≤ s → l'.getD (p + 1) 0 = l.getD (p + 1) 0 := fun h => (he 1 (by omega)).symm
  have t2 : 3 ≤ s → l'.getD (p + 2) 0 = l.getD (p + 2) 0 := fun h => (he 2 (by omega)).symm
  have t3 : 4 ≤ s → l'.getD (p + 3) 0 = l.getD (p + 3) 0 := fun h => (he 3 (by omega)).symm
  clear he
  unfold rn at hs ⊢
  rw [if_pos hp] at hs ⊢
  rw [if_pos hp', t0]
  generalize l.getD p 0 = x0 at *
  generalize l.getD (p + 1) 0 = x1 at *
  generalize l.getD (p + 2) 0 = x2 at *
  generalize l.getD (p + 3) 0 = x3 at *
  generalize l'.getD (p + 1) 0 = y1 at *
  generalize l'.getD (p + 2) 0 = y2 at *
  generalize l'.getD (p + 3) 0 = y3 at *
  by_cases c4 : 240 ≤ x0
  · have e := rn4_4 (l.length - p) x0.toNat x1.toNat x2.toNat x3.toNat (64 * (64 * (64 * (x0 - 240) + x1 - 128) + x2 - 128) + x3 - 128) (by omega) (by omega) (by omega) (by omega) (by omega)
    have s4 : s = 4 := by
      rw [e] at hs
      split at hs <;> simp only at hs <;> omega
    subst s4
    obtain rfl := t1 (by omega)
    obtain rfl := t2 (by omega)
    obtain rfl := t3 (by omega)
    rw [e, rn4_4 (l'.length - p) x0.toNat y1.toNat y2.toNat y3.toNat (64 * (64 * (64 * (x0 - 240) + y1 - 128) + y2 - 128) + y3 - 128) (by omega) (by omega) (by omega) (by omega) (by omega)]
    exact ite_congr (propext ⟨fun h => ⟨by omega, h.2⟩, fun h => ⟨by omega, h.2⟩⟩) (fun _ => rfl) (fun _ => rfl)
  · by_cases c3 : 224 ≤ x0
    · have e := rn4_3 (l.length - p) x0.toNat x1.toNat x2.toNat x3.toNat (64 * (64 * (x0 - 224) + x1 - 128) + x2 - 128) (by omega) (by omega) (by omega) (by omega)
      have s3 : s = 3 := by
        rw [e] at hs
        split at hs <;> simp only at hs <;> omega
      subst s3
      obtain rfl := t1 (by omega)
      obtain rfl := t2 (by omega)
      rw [e, rn4_3 (l'.length - p) x0.toNat y1.toNat y2.toNat y3.toNat (64 * (64 * (x0 - 224) + y1 - 128) + y2 - 128) (by omega) (by omega) (by omega) (by omega)]
      exact ite_congr (propext ⟨fun h => ⟨by omega, h.2⟩, fun h => ⟨by omega, h.2⟩⟩) (fun _ => rfl) (fun _ => rfl)
    · by_cases c2 : 192 ≤ x0
      · have e := rn4_2 (l.length - p) x0.toNat x1.toNat x2.toNat x3.toNat (64 * (x0 - 192) + x1 - 128) (by omega) (by omega) (by omega)
        have s2 : s = 2 := by
          rw [e] at hs
          split at hs <;> simp only at hs <;> omega
        subst s2
        obtain rfl := t1 (by omega)
        rw [e, rn4_2 (l'.length - p) x0.toNat y1.toNat y2.toNat y3.toNat (64 * (x0 - 192) + y1 - 128) (by omega) (by omega) (by omega)]
        exact ite_congr (propext ⟨fun h => ⟨by omega, h.2⟩, fun h => ⟨by omega, h.2⟩⟩) (fun _ => rfl) (fun _ => rfl)
      · rw [rn4_1 (l.length - p) x0.toNat x1.toNat x2.toNat x3.toNat (by omega), rn4_1 (l'.length - p) x0.toNat y1.toNat y2.toNat y3.toNat (by omega)]
theorem getD_app (a b : List Int) (j : Nat) (h : j < a.length) : (a ++ b).getD j 0 = a.getD j 0 := by
  rw [List.getD_eq_getElem?_getD, List.getD_eq_getElem?_getD, List.getElem?_append_left h]
theorem getD_tk (l : List Int) (q j : Nat) (h : j < q) : (l.take q).getD j 0 = l.getD j 0 := by
  rw [List.getD_eq_getElem?_getD, List.getD_eq_getElem?_getD, List.getElem?_take, if_pos h]
/-- Two texts, one behind the other. -/
theorem cuts_app {a b : List Int} (ha : Bytes.okBytes a = true) (hb : Bytes.okBytes b = true) (tb : (cuts b b.length 0).isSome = true) : ∀ (n p : Nat), p ≤ a.length → a.length - p ≤ n → (cuts a n p).isSome = true → (cuts (a ++ b) (n + b.length) p).isSome = true := by
  have hab := Bytes.okBytes_append ha hb
  have hend : ∀ m, b.length ≤ m → (cuts (a ++ b) m a.length).isSome = true := by
    intro m hm
    have h1 := cuts_drop (l := a ++ b) a.length (by simp) m 0
    rw [List.drop_left, Nat.add_zero] at h1
    rw [← h1, cuts_fuel hb m b.length 0 (by omega) (by omega) (by omega)]
    exact tb
  intro n
  induction n with
  | zero =>
    intro p h1 h2 _
    obtain rfl : p = a.length := by omega
    exact hend _ (by omega)
  | succ n ih =>
    intro p h1 h2 h3
    by_cases hp : p < a.length
    · simp only [cuts, if_pos hp] at h3
      rcases rn_cases ha hp with h | ⟨s, hs1, hs4, hs, _, hse, _, _⟩
      · rw [h] at h3; simp at h3
      · rw [hs, if_neg (by omega), Int.toNat_natCast, Option.isSome_map] at h3
        have hr : rn (a ++ b) p = rn a p := rn_same ha hab hs hs1 hse (by rw [List.length_append]; omega) (fun j hj => (getD_app a b (p + j) (by omega)).symm)
        rw [show n + 1 + b.length = (n + b.length) + 1 by omega]
        simp only [cuts]
        rw [if_pos (by rw [List.length_append]; omega), hr, hs, if_neg (by omega), Int.toNat_natCast, Option.isSome_map]
        exact ih (p + s) hse (by omega) h3
    · obtain rfl : p = a.length := by omega
      exact hend _ (by omega)
theorem isT_app {a b : List Int} (ha : Bytes.okBytes a = true) (hb : Bytes.okBytes b = true) (ta : isT a = true) (tb : isT b = true) (hl : (a ++ b).length ≤ 400) : isT (a ++ b) = true := by
  have h1 := isT_some ta
  have h2 := isT_some tb
  have h3 := cuts_app ha hb (by rw [h2]; rfl) a.length 0 (by omega) (by omega) (by rw [h1]; rfl)
  unfold isT
  rw [decide_eq_true hl, Bool.true_and, List.length_append]
  exact h3
/-- What stands ahead of a cut of a text is a text. -/
theorem cuts_take {l : List Int} (hb : Bytes.okBytes l = true) : ∀ (n p : Nat) (c : List Int) (q : Nat), p ≤ l.length → l.length - p ≤ n → cuts l n p = some c → (q : Int) ∈ c → (cuts (l.take q) n p).isSome = true := by
  intro n
  induction n with
  | zero =>
    intro p c q h1 h0 h2 h3
    rw [cuts_end (l.take q) 0 p (by rw [List.length_take]; omega)]; rfl
  | succ n ih =>
    intro p c q h1 h0 h2 h3
    have hq : p ≤ q ∧ q ≤ l.length := by
      have := (mem_cuts hb _ _ _ h1 h2 (q : Int)).1 h3
      rcases this with h | ⟨q', g1, g2, g3, _⟩ <;> omega
    have hlt : (l.take q).length = q := by rw [List.length_take]; omega
    by_cases hqp : q = p
    · subst hqp
      rw [cuts_end (l.take q) _ q (by omega)]; rfl
    · have hp : p < l.length := by omega
      simp only [cuts, if_pos hp] at h2
      rcases rn_cases hb hp with h | ⟨s, hs1, hs4, hs, _, hse, _, _⟩
      · rw [h] at h2; simp at h2
      · rw [hs, if_neg (by omega), Int.toNat_natCast] at h2
        obtain ⟨c', hc', rfl⟩ := Option.map_eq_some_iff.1 h2
        have h5 : (q : Int) ∈ c' := (List.mem_cons.1 h3).elim (fun e => by omega) id
        have hqs : p + s ≤ q := by
          have := (mem_cuts hb _ _ _ hse hc' (q : Int)).1 h5
          rcases this with h | ⟨q', g1, g2, g3, _⟩ <;> omega
        have hr : rn (l.take q) p = rn l p := rn_same hb (Bytes.okBytes_take hb q) hs hs1 hse (by omega) (fun j hj => (getD_tk l q (p + j) (by omega)).symm)
        simp only [cuts]
        rw [if_pos (by omega), hr, hs, if_neg (by omega), Int.toNat_natCast, Option.isSome_map]
        exact ih (p + s) c' q hse (by omega) hc' h5
theorem isT_take {l : List Int} (hb : Bytes.okBytes l = true) (h : isT l = true) {q : Nat} (hc : isC l (q : Int) = true) : isT (l.take q) = true := by
  have hl := isT_len h
  have hm := (isC_mem hb h (q : Int)).2 hc
  have h1 := cuts_take hb _ _ _ q (by omega) (by omega) (isT_some h) hm
  unfold isT
  rw [List.length_take, decide_eq_true (by omega), Bool.true_and, cuts_fuel (Bytes.okBytes_take hb q) (min q l.length) l.length 0 (by omega) (by rw [List.length_take]; omega) (by rw [List.length_take]; omega)]
  exact h1
/-- Behind a letter of one byte there is a cut. -/
theorem cut_next {l : List Int} (hb : Bytes.okBytes l = true) : ∀ (n p : Nat) (c : List Int) (q : Nat), p ≤ l.length → cuts l n p = some c → (q : Int) ∈ c → q < l.length → ((q + (rn l q).2.toNat : Nat) : Int) ∈ c := by
  intro n
  induction n with
  | zero =>
    intro p c q h1 h2 h3 h4
    by_cases hp : p < l.length
    · simp [cuts, hp] at h2
    · rw [cuts_end l 0 p hp] at h2; cases h2
      simp only [List.mem_singleton] at h3
      omega
  | succ n ih =>
    intro p c q h1 h2 h3 h4
    by_cases hp : p < l.length
    · simp only [cuts, if_pos hp] at h2
      rcases rn_cases hb hp with h | ⟨s, hs1, hs4, hs, _, hse, _, _⟩
      · rw [h] at h2; simp at h2
      · rw [hs, if_neg (by omega), Int.toNat_natCast] at h2
        obtain ⟨c', hc', rfl⟩ := Option.map_eq_some_iff.1 h2
        by_cases hqp : q = p
        · subst hqp
          rw [hs, Int.toNat_natCast]
          refine List.mem_cons_of_mem _ ?_
          cases n with
          | zero =>
            by_cases hp2 : q + s < l.length
            · simp [cuts, hp2] at hc'
            · rw [cuts_end l 0 _ hp2] at hc'; cases hc'; simp
          | succ n =>
            simp only [cuts] at hc'
            split at hc'
            · split at hc'
              · cases hc'
              · obtain ⟨c2, _, rfl⟩ := Option.map_eq_some_iff.1 hc'
                simp
            · cases hc'; simp
        · have h5 : (q : Int) ∈ c' := (List.mem_cons.1 h3).elim (fun e => by omega) id
          exact List.mem_cons_of_mem _ (ih (p + s) c' q hse hc' h5 h4)
    · rw [cuts_end l (n + 1) p hp] at h2; cases h2
      simp only [List.mem_singleton] at h3
      omega
theorem isC_nl {l : List Int} (hb : Bytes.okBytes l = true) (h : isT l = true) {q : Nat} (hq : q < l.length) (h10 : l.getD q 0 = 10) : isC l ((q + 1 : Nat) : Int) = true := by
  have hl := isT_len h
  have c0 : isC l (q : Int) = true := by
    unfold isC
    rw [decide_eq_true_eq, Int.toNat_natCast, h10]
    exact Or.inr ⟨by omega, by omega, by decide⟩
  have hm := (isC_mem hb h (q : Int)).2 c0
  have h1 := cut_next hb _ _ _ q (by omega) (isT_some h) hm hq
  have hr : (rn l q).2 = 1 := by
    unfold rn
    rw [if_pos hq, h10, rn4_1 _ _ _ _ _ (by decide), if_pos (by decide)]
  rw [hr] at h1
  exact (isC_mem hb h _).1 h1
/-- All their bytes. -/
def catC (l : List S87) : List Int := (l.map fun c => c.f0).flatten
theorem catC_length (l : List S87) : (catC l).length = sumC l := by
  unfold catC sumC
  rw [List.length_flatten, List.map_map]
  rfl
theorem implCat_l0 (l : List S87) (hl : l.length ≤ 1048576) : ∀ (d i k : Nat) (out : List Int), i + d = l.length → d < k → out.length + sumC (l.drop i) ≤ 1048576 →
    impl_chunksText.l0 k out l (l.length : Int) (i : Int) = some (out ++ catC (l.drop i)) := by
  intro d
  induction d with
  | zero =>
    intro i k out hi hk h
    obtain ⟨k, rfl⟩ : ∃ m, k = m + 1 := ⟨k - 1, by omega⟩
    simp only [impl_chunksText.l0]
    rw [if_neg (by omega), List.drop_of_length_le (by omega)]
    simp [catC]
  | succ d ih =>
    intro i k out hi hk h
    obtain ⟨k, rfl⟩ : ∃ m, k = m + 1 := ⟨k - 1, by omega⟩
    simp only [impl_chunksText.l0]
    rw [rd_toC l i (by omega), sumC_cons] at h
    rw [if_pos (by omega), if_pos (by omega), if_pos (by omega), if_pos (by omega), w64s i (by omega), ih (i + 1) k _ (by omega) (by omega) (by rw [List.length_append]; omega), rd_toC l i (by omega)]
    simp [catC]
theorem implCat_f (k : Nat) (l : List S87) (hl : l.length ≤ 1048576) (hs : sumC l ≤ 1048576) (hk : 1048578 < k) : impl_chunksText.f k l = some (catC l) := by
  unfold impl_chunksText.f
  refine (implCat_l0 l hl l.length 0 k [] (by omega) (by omega) (by simpa using hs)).trans ?_
  simp
/-- The text of a list of chunks. -/
def textC (l : List S87) : List Int := if areCk l 0 = true then catC l else []
theorem specCat_l0 (l : List S87) (hb : ∀ c ∈ l, Bytes.okBytes c.f0 = true) (hl : l.length ≤ 1048576) (hok : areCk l 0 = true) : ∀ (d i k : Nat) (out : List Int), i + d = l.length → d + 1049000 < k → out.length + sumC (l.drop i) ≤ 1048576 →
    spec_ChunksText.l0 k l out (i : Int) = some (out ++ catC (l.drop i)) := by
  intro d
  induction d with
  | zero =>
    intro i k out hi hk h
    obtain ⟨k, rfl⟩ : ∃ m, k = m + 1 := ⟨k - 1, by omega⟩
    simp only [spec_ChunksText.l0]
    rw [specAre_f k l hb hl (by omega), hok]
    simp only [Option.bind_some, if_true]
    rw [if_neg (by omega), List.drop_of_length_le (by omega)]
    simp [catC]
  | succ d ih =>
    intro i k out hi hk h
    obtain ⟨k, rfl⟩ : ∃ m, k = m + 1 := ⟨k - 1, by omega⟩
    simp only [spec_ChunksText.l0]
    rw [rd_toC l i (by omega), sumC_cons] at h
    rw [specAre_f k l hb hl (by omega), hok]
    simp only [Option.bind_some, if_true]
    rw [if_pos (by omega), if_pos (by omega), if_pos (by omega), w64s i (by omega), ih (i + 1) k _ (by omega) (by omega) (by rw [List.length_append]; omega), rd_toC l i (by omega)]
    simp [catC]
theorem specText_C (k : Nat) (l : List S87) (hb : ∀ c ∈ l, Bytes.okBytes c.f0 = true) (hl : l.length ≤ 1048576) (hk : 2200000 < k) : spec_ChunksText.f k l = some (textC l) := by
  unfold spec_ChunksText.f textC
  cases h : areCk l 0 with
  | false =>
    obtain ⟨k, rfl⟩ : ∃ m, k = m + 1 := ⟨k - 1, by omega⟩
    simp only [spec_ChunksText.l0]
    rw [specAre_f k l hb hl (by omega), h]
    simp
  | true =>
    have hs := areCk_sum _ _ (by omega) h
    refine (specCat_l0 l hb hl h l.length 0 k [] (by omega) (by omega) (by rw [List.drop_zero]; simp; omega)).trans ?_
    simp
theorem catC_ok : ∀ (l : List S87), (∀ c ∈ l, Bytes.okBytes c.f0 = true) → Bytes.okBytes (catC l) = true := by
  intro l hb
  apply Bytes.okBytes_of
  intro x hx
  unfold catC at hx
  obtain ⟨y, hy, hxy⟩ := List.mem_flatten.1 hx
  obtain ⟨c, hc, rfl⟩ := List.mem_map.1 hy
  exact Bytes.okBytes_mem (hb c hc) hxy
theorem textC_ok (l : List S87) (hb : ∀ c ∈ l, Bytes.okBytes c.f0 = true) : Bytes.okBytes (textC l) = true := by
  unfold textC
  split
  · exact catC_ok l hb
  · rfl
theorem specCut_f {l : List Int} (k : Nat) (a : Int) (hb : Bytes.okBytes l = true) (hk : 411 ≤ k) : spec_CutOk.f k l a = some (isT l && isC l a) := by
  unfold spec_CutOk.f
  rw [specRunesTo_f k a hb hk]
  simp only [Option.bind_some, Option.some.injEq]
  rw [Bool.eq_iff_iff, decide_eq_true_eq, Bool.and_eq_true]
  show (0 ≤ idxI (cutsOf l) a) ↔ _
  rw [idxI_nonneg]
  cases h : isT l with
  | false => rw [isT_none h]; simp
  | true => rw [isC_mem hb h a]; simp
theorem isT_nil : isT [] = true := rfl
theorem isT_cat : ∀ (l : List S87) (n : Int), (∀ c ∈ l, Bytes.okBytes c.f0 = true) → 0 ≤ n → n ≤ 400 → areCk l n = true → isT (catC l) = true := by
  intro l
  induction l with
  | nil => intro n _ _ _ _; exact isT_nil
  | cons c l ih =>
    intro n hb h0 h1 h
    have hs := areCk_sum _ _ h1 h
    simp only [areCk, Bool.and_eq_true, decide_eq_true_eq] at h
    have hc : isT c.f0 = true := by
      have := h.1.1
      unfold isCk at this
      exact (Bool.and_eq_true_iff.1 this).2
    have hl : catC (c :: l) = c.f0 ++ catC l := by simp [catC]
    have hlen := catC_length (c :: l)
    rw [hl] at hlen ⊢
    exact isT_app (hb c List.mem_cons_self) (catC_ok l fun d hd => hb d (List.mem_cons_of_mem _ hd)) hc (ih _ (fun d hd => hb d (List.mem_cons_of_mem _ hd)) (by omega) h.1.2 h.2) (by omega)
/-- A place in a rope. -/
def isRC (l : List S87) (a : Int) : Bool := areCk l 0 && isC (catC l) a
theorem specL04_f (k : Nat) (l : List S87) (a : Int) (hb : ∀ c ∈ l, Bytes.okBytes c.f0 = true) (hl : l.length ≤ 1048576) (hk : 2200000 < k) : spec_l04Cut.f k l a = some (isRC l a) := by
  unfold spec_l04Cut.f spec_RopeOk.f spec_RopeText.f isRC
  rw [specAre_f k l hb hl (by omega), specText_C k l hb hl hk]
  simp only [Option.bind_some]
  cases h : areCk l 0 with
  | false => simp
  | true =>
    have ht := isT_cat l 0 hb (by omega) (by omega) h
    have e : textC l = catC l := by unfold textC; rw [if_pos h]
    simp only [if_true]
    rw [e, specCut_f k a (catC_ok l hb) (by omega), ht]
    simp
theorem implText_f {l : List Int} (hb : Bytes.okBytes l = true) : impl_isText.f l = some (isT l) := by
  unfold impl_isText.f isT
  by_cases h : l.length ≤ 400
  · rw [if_pos (by omega), implValid_f hb (by omega)]
    simp [h]
  · rw [if_neg (by omega)]
    simp [h]
theorem implRT_f (k : Nat) (l : List S87) (hl : l.length ≤ 1048576) (hs : sumC l ≤ 1048576) (hk : 1048578 < k) : impl_Rope_text.f k l = some (catC l) := by
  unfold impl_Rope_text.f
  rw [implCat_f k l hl hs hk]; rfl
theorem beqS {x y : List Int} (hx : Bytes.okBytes x = true) (hy : Bytes.okBytes y = true) : ((strOfNums x).toList == (strOfNums y).toList) = decide (x = y) := by
  rw [Bool.eq_iff_iff, beq_iff_eq, decide_eq_true_eq]
  exact strOfNums_inj hx hy
/-- Does the part stand there? -/
def mt (t p : List Int) (i : Nat) : Bool := decide (i + p.length ≤ t.length ∧ (t.drop i).take p.length = p)
theorem stands_f {t p : List Int} (ht : Bytes.okBytes t = true) (hp : Bytes.okBytes p = true) (i : Nat) (h1 : t.length ≤ 1048576) (h2 : p.length ≤ 1048576) (h3 : i ≤ 1048576) : spec_l04Stands.f t p (i : Int) = some (mt t p i) := by
  unfold spec_l04Stands.f mt
  rw [show wrap64 ((i : Int) + (p.length : Int)) = ((i + p.length : Nat) : Int) from by rw [w64 (by omega) (by omega)]; omega]
  by_cases h : i + p.length ≤ t.length
  · rw [if_pos (by omega), if_pos (by omega), if_pos (by omega), Int.toNat_natCast, Int.toNat_natCast, beqS (Bytes.okBytes_drop (Bytes.okBytes_take ht _) _) hp, List.drop_take, show i + p.length - i = p.length by omega]
    simp [h]
  · rw [if_neg (by omega)]
    simp [h]
/-- The last place below a bound. -/
def lastM (t p : List Int) : Nat → Int
  | 0 => -1
  | d + 1 => if mt t p d = true then (d : Int) else lastM t p d
/-- May the part be looked for? -/
def sought (l : List S87) (p : List Int) (a : Int) : Bool := isRC l a && (isT p && decide (p ≠ []))
theorem sought_at {l : List S87} {p : List Int} {a : Int} (h : sought l p a = true) : areCk l 0 = true ∧ 0 ≤ a ∧ a ≤ ((catC l).length : Int) ∧ (catC l).length ≤ 400 ∧ 0 < p.length ∧ p.length ≤ 400 := by
  unfold sought isRC at h
  simp only [Bool.and_eq_true, decide_eq_true_eq] at h
  obtain ⟨⟨h1, h2⟩, h3, h4⟩ := h
  have hs := areCk_sum l 0 (by omega) h1
  have hlen := catC_length l
  unfold isC at h2
  rw [decide_eq_true_eq] at h2
  have hpl := List.length_pos_iff.2 h4
  have htl := isT_len h3
  refine ⟨h1, ?_, ?_, by omega, hpl, htl⟩ <;> omega
theorem isSought_f (k : Nat) (l : List S87) (p : List Int) (a : Int) (hb : ∀ c ∈ l, Bytes.okBytes c.f0 = true) (hw : ∀ c ∈ l, c.f0.length ≤ 1048576) (hl : l.length ≤ 1048576) (hp : Bytes.okBytes p = true) (hk : 2200000 < k) : impl_isSought.f k l p a = some (sought l p a) := by
  unfold impl_isSought.f impl_isRope.f sought isRC
  rw [implAre_f k l hb hw hl (by omega), Option.bind_some, Option.bind_some]
  cases h0 : areCk l 0 with
  | false => simp
  | true =>
    have hs := areCk_sum l 0 (by omega) h0
    have hlen := catC_length l
    rw [if_pos rfl, implText_f hp, Option.bind_some]
    cases h1 : isT p with
    | false => simp
    | true =>
      rw [if_pos rfl]
      by_cases h2 : p = []
      · subst h2; simp
      · have hpos := List.length_pos_iff.2 h2
        rw [if_pos (by omega), implRT_f k l hl (by omega) (by omega), Option.bind_some, implCut_f a (catC_ok l hb) (by omega)]
        simp [h2]
/-- The first place from a bound on. -/
def firstM (t p : List Int) : Nat → Nat → Int
  | 0, _ => -1
  | d + 1, i => if mt t p i = true then (i : Int) else firstM t p d (i + 1)
theorem firstM_hit (t p : List Int) : ∀ (n d i : Nat), n < d → (∀ j, i ≤ j → j < i + n → mt t p j = false) → mt t p (i + n) = true → firstM t p d i = ((i + n : Nat) : Int) := by
  intro n
  induction n with
  | zero =>
    intro d i hd _ h
    obtain ⟨d, rfl⟩ : ∃ q, d = q + 1 := ⟨d - 1, by omega⟩
    simp only [firstM]
    rw [if_pos (show mt t p i = true from h)]
    rfl
  | succ n ih =>
    intro d i hd hn h
    obtain ⟨d, rfl⟩ : ∃ q, d = q + 1 := ⟨d - 1, by omega⟩
    simp only [firstM]
    rw [if_neg (by rw [hn i (by omega) (by omega)]; decide), ih d (i + 1) (by omega) (fun j h1 h2 => hn j (by omega) (by omega)) (by rw [show i + 1 + n = i + (n + 1) by omega]; exact h)]
    rw [show i + 1 + n = i + (n + 1) by omega]
theorem firstM_none (t p : List Int) : ∀ (d i : Nat), (∀ j, i ≤ j → j < i + d → mt t p j = false) → firstM t p d i = -1 := by
  intro d
  induction d with
  | zero => intro i _; rfl
  | succ d ih =>
    intro i h
    simp only [firstM]
    rw [if_neg (by rw [h i (by omega) (by omega)]; decide), ih (i + 1) (fun j h1 h2 => h j (by omega) (by omega))]
theorem specFind_l0 {t p : List Int} (ht : Bytes.okBytes t = true) (hp : Bytes.okBytes p = true) (h1 : t.length ≤ 1048576) (h2 : p.length ≤ 1048576) : ∀ (d i k : Nat), i + d = t.length → d < k → spec_RopeFind.l0 k p t (i : Int) = some (firstM t p d i) := by
  intro d
  induction d with
  | zero =>
    intro i k h hk
    obtain ⟨k, rfl⟩ : ∃ q, k = q + 1 := ⟨k - 1, by omega⟩
    simp only [spec_RopeFind.l0]
    rw [if_neg (by omega)]
    rfl
  | succ d ih =>
    intro i k h hk
    obtain ⟨k, rfl⟩ : ∃ q, k = q + 1 := ⟨k - 1, by omega⟩
    simp only [spec_RopeFind.l0, firstM]
    rw [if_pos (by omega), stands_f ht hp i h1 h2 (by omega), Option.bind_some, w64s i (by omega), ih (i + 1) k (by omega) (by omega)]
    cases mt t p i <;> rfl
def findI (l : List S87) (p : List Int) (a : Int) : Int := if sought l p a = true then firstM (catC l) p ((catC l).length - a.toNat) a.toNat else -1
theorem specFind_f (k : Nat) (l : List S87) (p : List Int) (a : Int) (hb : ∀ c ∈ l, Bytes.okBytes c.f0 = true) (hl : l.length ≤ 1048576) (hp : Bytes.okBytes p = true) (hk : 2200010 < k) : spec_RopeFind.f k l p a = some (findI l p a) := by
  obtain ⟨k, rfl⟩ : ∃ q, k = q + 1 := ⟨k - 1, by omega⟩
  have hno : spec_RopeFind.j0 (k + 1) p a true l = some (-1) := by simp only [spec_RopeFind.j0, if_true]
  unfold spec_RopeFind.f findI
  rw [specL04_f (k + 1) l a hb hl (by omega), Option.bind_some]
  by_cases h1 : isRC l a = true
  · rw [if_pos h1, specText_f (k + 1) hp (by omega), Option.bind_some]
    by_cases h2 : isT p = true
    · rw [if_pos h2]
      by_cases h3 : p = []
      · have hs : sought l p a = false := by unfold sought; simp [h3]
        rw [hs]
        subst h3
        rw [show ((([] : List Int).length : Int) == 0) = true from rfl, hno]
        rfl
      · have hs : sought l p a = true := by unfold sought; simp [h1, h2, h3]
        obtain ⟨g1, g2, g3, g4, g5, g6⟩ := sought_at hs
        have hz : ((p.length : Int) == 0) = false := by rw [beq_eq_false_iff_ne]; omega
        have e : textC l = catC l := by unfold textC; rw [if_pos g1]
        rw [hs, hz, if_pos rfl]
        simp only [spec_RopeFind.j0]
        rw [if_neg (by decide)]
        unfold spec_RopeText.f
        rw [specText_C k l hb hl (by omega), e, Option.bind_some, Option.bind_some]
        have h := specFind_l0 (catC_ok l hb) hp (by omega) (by omega) ((catC l).length - a.toNat) a.toNat k (by omega) (by omega)
        rw [show ((a.toNat : Nat) : Int) = a by omega] at h
        exact h
    · have hs : sought l p a = false := by unfold sought; simp [h2]
      rw [if_neg h2, hno, hs]
      rfl
  · have hs : sought l p a = false := by unfold sought; simp [h1]
    rw [if_neg h1, hno, hs]
    rfl
theorem bytesOf_inj {l l' : List Int} (h : Bytes.okBytes l = true) (h' : Bytes.okBytes l' = true) : Lib.bytesOf l = Lib.bytesOf l' ↔ l = l' := by
  rw [← strOfNums_inj h h', ByteArray.toList_eq, ByteArray.toList_eq]
  exact Iff.rfl
theorem occ_mt {s p : List Int} (hs : Bytes.okBytes s = true) (hp : Bytes.okBytes p = true) (i : Nat) (hi : i ≤ s.length) : Lib.occAt (Lib.bytesOf s) (Lib.bytesOf p) i = mt s p i := by
  unfold Lib.occAt mt
  have e1 : (Lib.bytesOf s).drop i = Lib.bytesOf (s.drop i) := by unfold Lib.bytesOf; rw [List.map_drop]
  have e2 : (Lib.bytesOf (s.drop i)).take (Lib.bytesOf p).length = Lib.bytesOf ((s.drop i).take p.length) := by unfold Lib.bytesOf; rw [List.length_map, List.map_take]
  rw [Bool.eq_iff_iff, List.isPrefixOf_iff_prefix, decide_eq_true_eq, e1, List.prefix_iff_eq_take, e2, bytesOf_inj hp (Bytes.okBytes_take (Bytes.okBytes_drop hs _) _)]
  constructor
  · intro e
    have h := congrArg List.length e
    rw [List.length_take, List.length_drop] at h
    exact ⟨by omega, e.symm⟩
  · exact fun e => e.2.symm
theorem mt_drop (t p : List Int) (a j : Nat) (ha : a ≤ t.length) (hp : 0 < p.length) : mt (t.drop a) p j = mt t p (a + j) := by
  unfold mt
  rw [Bool.eq_iff_iff, decide_eq_true_eq, decide_eq_true_eq, List.length_drop, List.drop_drop]
  exact ⟨fun h => ⟨by omega, h.2⟩, fun h => ⟨by omega, h.2⟩⟩
theorem mt_off {t p : List Int} {i : Nat} (h : t.length < i + p.length) : mt t p i = false := by
  unfold mt
  rw [decide_eq_false_iff_not]
  exact fun h2 => by omega
theorem implFind_f {t p : List Int} (a : Int) (ht : Bytes.okBytes t = true) (hp : Bytes.okBytes p = true) (h0 : 0 ≤ a) (h1 : a ≤ (t.length : Int)) (hl : t.length ≤ 1048576) (hpl : 0 < p.length) (hp2 : p.length ≤ 1048576) : impl_find.f t p a = some (firstM t p (t.length - a.toNat) a.toNat) := by
  obtain ⟨n, rfl⟩ : ∃ n : Nat, a = (n : Int) := ⟨a.toNat, by omega⟩
  have hd := Bytes.okBytes_drop ht n
  have hdl : (t.drop n).length = t.length - n := List.length_drop
  unfold impl_find.f bytes_Index.f
  rw [if_pos h0, if_pos h1, Int.toNat_natCast, if_pos ⟨hd, hp, by omega, hpl, hp2⟩, Option.bind_some]
  have hbl : (Lib.bytesOf (t.drop n)).length = t.length - n := by unfold Lib.bytesOf; rw [List.length_map, hdl]
  rcases Lib.index_spec (Lib.bytesOf (t.drop n)) (Lib.bytesOf p) with ⟨e, h⟩ | ⟨i, e, hi, ho, hn⟩
  · rw [e, if_neg (by decide), firstM_none t p (t.length - n) n (fun j g1 g2 => ?_)]
    have hj := h (j - n) (by omega)
    rw [occ_mt hd hp (j - n) (by omega), mt_drop t p n (j - n) (by omega) hpl, show n + (j - n) = j by omega] at hj
    exact hj
  · rw [occ_mt hd hp i (by omega), mt_drop t p n i (by omega) hpl] at ho
    have hlt : n + i + p.length ≤ t.length := by
      rcases Nat.lt_or_ge t.length (n + i + p.length) with g | g
      · rw [mt_off g] at ho; cases ho
      · exact g
    rw [e, if_pos (by omega), w64 (by omega) (by omega), firstM_hit t p i (t.length - n) n (by omega) (fun j g1 g2 => ?_) ho]
    · congr 1
    · have hj := hn (j - n) (by omega)
      rw [occ_mt hd hp (j - n) (by omega), mt_drop t p n (j - n) (by omega) hpl, show n + (j - n) = j by omega] at hj
      exact hj
theorem implRF_f (k : Nat) (l : List S87) (p : List Int) (a : Int) (hb : ∀ c ∈ l, Bytes.okBytes c.f0 = true) (hw : ∀ c ∈ l, c.f0.length ≤ 1048576) (hl : l.length ≤ 1048576) (hp : Bytes.okBytes p = true) (hk : 2200020 < k) : impl_RopeFind.f k l p a = some (findI l p a) := by
  unfold impl_RopeFind.f findI
  rw [isSought_f k l p a hb hw hl hp (by omega), Option.bind_some]
  by_cases hs : sought l p a = true
  · obtain ⟨g1, g2, g3, g4, g5, g6⟩ := sought_at hs
    have hsum := areCk_sum l 0 (by omega) g1
    have hcl := catC_length l
    have ht := catC_ok l hb
    rw [if_pos hs, if_pos hs, implRT_f k l hl (by omega) (by omega), Option.bind_some, implFind_f a ht hp g2 g3 (by omega) g5 (by omega), Option.bind_some]
  · rw [if_neg hs, if_neg hs]
theorem FnExactRopeFind (l0_0 : List S83) (l1 : List Int) (a2 : Int) (wl0_0 : (l0_0.length ≤ maxLen ∧ ∀ x ∈ l0_0, wf83 x)) (wl1 : (l1.length ≤ maxLen ∧ ∀ x ∈ l1, (Lit.int .u8 x).wf = true)) (wa2 : (Lit.int .i64 a2).wf = true) : ∃ k, laws_FnExactRopeFind.f k l0_0 l1 a2 = some true := by
  have hm : l0_0.length ≤ 9223372036854775807 := by have := wl0_0.1; unfold maxLen at this; omega
  have hw : ∀ c ∈ l0_0, c.f0.length ≤ 9223372036854775807 := fun c hc => by have := (wl0_0.2 c hc).1; unfold maxLen at this; omega
  have hp := okBytes_wf wl1.2
  refine ⟨3000000, ?_⟩
  generalize hk : (3000000 : Nat) = k
  unfold laws_FnExactRopeFind.f
  by_cases hl1 : (l1.length : Int) > 1048576
  · rw [if_pos hl1]
  · rw [if_neg hl1, szRope_f l0_0 k 1048576 (by omega) (by omega) hm hw (by omega)]
    simp only [Option.bind_some]
    by_cases hl : (l0_0.length + sumL l0_0 : Int) ≤ 1048576
    · obtain ⟨h1, h2, h3⟩ := lawC (by omega) wl0_0.2
      rw [if_pos hl, if_neg (by omega), toRope_f k l0_0 (by omega) (by omega)]
      simp only [Option.bind_some]
      rw [toByteS_f k l1 (by omega) (by omega)]
      simp only [Option.bind_some]
      rw [specFind_f k _ l1 a2 h3 h1 hp (by omega), implRF_f k _ l1 a2 h3 h2 h1 hp (by omega)]
      simp only [Option.bind_some, if_true]
      rw [eqRope_self k _ h1 h2 (by omega)]
      simp only [Option.bind_some, if_true]
      rw [eqByteS_self k l1 (by omega) (by omega)]
      simp
    · rw [if_neg hl, if_pos (by omega)]

end Go.Proofs.YthbmijnpmffmkaaDoor.Pure
