/-
  The law FnExactEditBack in plain words: what the program's function computes is what the reference's computes. No memory, no machine.
-/
import Derived.Test.YthbmijnpmffmkaaDoorPFnExactEditBackx
import Derived.Test.YthbmijnpmffmkaaDoorGen
namespace Go.Proofs.YthbmijnpmffmkaaDoor.Pure
open Go.RowKit Go.Proofs.YthbmijnpmffmkaaDoor.PFnExactEditBack Go.Proofs.YthbmijnpmffmkaaDoorW.PrintWords Go.Proofs.YthbmijnpmffmkaaDoorW.PrintLast Go.Proofs.YthbmijnpmffmkaaDoorW.PrintMore Go.Proofs.YthbmijnpmffmkaaDoor.Gen
set_option linter.unusedVariables false
set_option linter.unusedSimpArgs false

theorem wf_i64 {x : Int} (h : (Lit.int .i64 x).wf = true) : -9223372036854775808 ≤ x ∧ x ≤ 9223372036854775807 := by
  simp only [Lit.wf, Bool.and_eq_true, decide_eq_true_eq] at h
  exact ⟨h.1, h.2⟩
theorem wf_u8 {x : Int} (h : (Lit.int .u8 x).wf = true) : 0 ≤ x ∧ x ≤ 255 := by
  simp only [Lit.wf, Bool.and_eq_true, decide_eq_true_eq] at h
  exact ⟨h.1, h.2⟩
/-- A code point. -/
def isCp (r : Int) : Prop := 0 ≤ r ∧ r ≤ 1114111 ∧ ¬ (55296 ≤ r ∧ r ≤ 57343)
instance (r : Int) : Decidable (isCp r) := by unfold isCp; infer_instance
/-- Its encoding. -/
def rb (r : Int) : List Int :=
  if r < 128 then [r] else if r < 2048 then [192 + r / 64, 128 + r % 64] else if r < 65536 then [224 + r / 4096, 128 + r / 64 % 64, 128 + r % 64]
  else [240 + r / 262144, 128 + r / 4096 % 64, 128 + r / 64 % 64, 128 + r % 64]
theorem rb_length (r : Int) : (rb r).length ≤ 4 := by
  unfold rb
  (repeat' split) <;> simp
theorem by256 {x : Int} (h0 : 0 ≤ x) (h1 : x ≤ 255) : wrap64 x % 256 = x := by unfold wrap64; omega
theorem specRB_f (k : Nat) (hk : 1 ≤ k) (r : Int) : spec_RuneBytes.f k r = some (if isCp r then rb r else []) := by
  obtain ⟨k, rfl⟩ : ∃ m, k = m + 1 := ⟨k - 1, by omega⟩
  by_cases h0 : r < 0
  · have hn : ¬ isCp r := fun h => by unfold isCp at h; omega
    simp only [spec_RuneBytes.f, spec_RuneBytes.j0]
    rw [if_pos h0, if_neg hn]
    simp
  by_cases h1 : r > 1114111
  · have hn : ¬ isCp r := fun h => by unfold isCp at h; omega
    simp only [spec_RuneBytes.f, spec_RuneBytes.j0]
    rw [if_neg h0, if_pos h1, if_neg hn]
    simp
  have key : ∀ b : Bool, (b = true ↔ 55296 ≤ r ∧ r ≤ 57343) → spec_RuneBytes.j0 (k + 1) r b = some (if isCp r then rb r else []) := by
    intro b hb
    simp only [spec_RuneBytes.j0]
    by_cases h2 : b = true
    · have hn : ¬ isCp r := fun h => by have := hb.1 h2; unfold isCp at h; omega
      rw [if_pos h2, if_neg hn]
    · have hc : isCp r := ⟨by omega, by omega, fun h => h2 (hb.2 h)⟩
      rw [if_neg h2, if_pos hc, Int.tdiv_eq_ediv_of_nonneg (by omega), Int.tdiv_eq_ediv_of_nonneg (by omega), Int.tdiv_eq_ediv_of_nonneg (by omega), Int.tmod_eq_emod_of_nonneg (by omega)]
      have e1 : wrap64 (r / 64) = r / 64 := w64 (by omega) (by omega)
      have e2 : wrap64 (r / 4096) = r / 4096 := w64 (by omega) (by omega)
      have e3 : wrap64 (r / 262144) = r / 262144 := w64 (by omega) (by omega)
      rw [e1, e2, e3, Int.tmod_eq_emod_of_nonneg (by omega), Int.tmod_eq_emod_of_nonneg (by omega)]
      unfold rb
      by_cases c1 : r < 128
      · rw [if_pos c1, if_pos c1, show r % 256 = r by omega]
      · rw [if_neg c1, if_neg c1]
        by_cases c2 : r < 2048
        · rw [if_pos c2, if_pos c2, by256 (by omega) (by omega), by256 (by omega) (by omega)]
        · rw [if_neg c2, if_neg c2]
          by_cases c3 : r < 65536
          · rw [if_pos c3, if_pos c3, by256 (by omega) (by omega), by256 (by omega) (by omega), by256 (by omega) (by omega)]
          · rw [if_neg c3, if_neg c3, by256 (by omega) (by omega), by256 (by omega) (by omega), by256 (by omega) (by omega), by256 (by omega) (by omega)]
  unfold spec_RuneBytes.f
  rw [if_neg h0, if_neg h1]
  by_cases h2 : r ≥ 55296
  · rw [if_pos h2]
    exact key _ (by rw [decide_eq_true_eq]; omega)
  · rw [if_neg h2]
    exact key _ ⟨fun h => (by cases h), fun h => (by omega)⟩
theorem toByteS_f (k : Nat) (l : List Int) (hk : l.length < k) (hl : l.length ≤ 1048576) : laws_toByteS.f k l = some l := by
  have h := map_loop (L := fun k out i => laws_toByteS.l0 k l out i) l id 0 0 (fun k out i _ hi ho => by
      simp only [laws_toByteS.l0]
      rw [if_pos (by omega), if_pos (by omega), if_pos (by omega), w64s i (by omega), rd_nat]
      rfl) (fun k out ho => by
      simp only [laws_toByteS.l0]
      rw [if_neg (by omega)]) k (List.replicate ((l.length : Int)).toNat 0) (by omega) (by simp)
  unfold laws_toByteS.f
  rw [if_pos (by omega), if_pos (by omega)]
  simpa using h
theorem eqByteS_f (k : Nat) (l l' : List Int) (hk : l.length < k) (hl : l.length ≤ 1048576) : laws_eqByteS.f k l l' = some (decide (l = l')) := by
  unfold laws_eqByteS.f
  by_cases e : l.length = l'.length
  · rw [if_pos (by omega)]
    obtain ⟨b, h, hb⟩ := all_loop (L := fun k i => laws_eqByteS.l0 k l l' i) l.length 0 (fun i => decide (l.getD i 0 = l'.getD i 0)) (fun k i _ hi => by
      simp only [laws_eqByteS.l0]
      rw [if_pos (by omega), if_pos (by omega), if_pos (by omega), w64s i (by omega), rd_nat, rd_nat]
      simp only [decide_eq_true_eq]) (fun k => by
      simp only [laws_eqByteS.l0]
      rw [if_neg (by omega)]) k (by omega)
    refine h.trans ?_
    congr 1
    simp only [decide_eq_true_eq] at hb
    rw [Bool.eq_iff_iff, decide_eq_true_eq]
    exact hb.trans (eq_of_getD 0 e)
  · rw [if_neg (by omega)]
    congr 1
    symm
    exact decide_eq_false (fun h => e (by rw [h]))
theorem eqByteS_self (k : Nat) (l : List Int) (hk : l.length < k) (hl : l.length ≤ 1048576) : laws_eqByteS.f k l l = some true := by
  rw [eqByteS_f k l l hk hl]; simp
theorem strOfNums_inj {l l' : List Int} (h : Bytes.okBytes l = true) (h' : Bytes.okBytes l' = true) : (strOfNums l).toList = (strOfNums l').toList ↔ l = l' := by
  constructor
  · intro e
    rw [ByteArray.toList_eq, ByteArray.toList_eq] at e
    have e2 : l.map (fun n => UInt8.ofNat n.toNat) = l'.map (fun n => UInt8.ofNat n.toNat) := by simpa [strOfNums] using e
    have hl : l.length = l'.length := by simpa using congrArg List.length e2
    refine List.ext_getElem hl fun i h1 h2 => ?_
    have e3 : (l.map (fun n => UInt8.ofNat n.toNat))[i]? = (l'.map (fun n => UInt8.ofNat n.toNat))[i]? := by rw [e2]
    rw [List.getElem?_map, List.getElem?_map, List.getElem?_eq_getElem h1, List.getElem?_eq_getElem h2] at e3
    simp only [Option.map_some, Option.some.injEq] at e3
    have b1 := Bytes.okBytes_mem h (List.getElem_mem h1)
    have b2 := Bytes.okBytes_mem h' (List.getElem_mem h2)
    have e4 := congrArg UInt8.toNat e3
    rw [UInt8.toNat_ofNat_of_lt' (by show (l[i]).toNat < 256; omega), UInt8.toNat_ofNat_of_lt' (by show (l'[i]).toNat < 256; omega)] at e4
    omega
  · rintro rfl; rfl
/-- What is told of a place's letter: by the bytes that stand there. -/
def rn4 (n b0 b1 b2 b3 : Nat) : Int × Int :=
  if (Lib.decodeN n b0 b1 b2 b3).1 = 65533 ∧ (Lib.decodeN n b0 b1 b2 b3).2 ≤ 1 then (-1, 0) else (((Lib.decodeN n b0 b1 b2 b3).1 : Int), ((Lib.decodeN n b0 b1 b2 b3).2 : Int))
def rn (l : List Int) (i : Nat) : Int × Int :=
  if i < l.length then rn4 (l.length - i) (l.getD i 0).toNat (l.getD (i + 1) 0).toNat (l.getD (i + 2) 0).toNat (l.getD (i + 3) 0).toNat else (-1, 0)
theorem decodeN_le (n b0 b1 b2 b3 : Nat) (h0 : b0 < 256) : (Lib.decodeN n b0 b1 b2 b3).1 ≤ 1114111 ∧ (Lib.decodeN n b0 b1 b2 b3).2 ≤ 4 ∧ 1 ≤ (Lib.decodeN n b0 b1 b2 b3).2 := by
  unfold Lib.decodeN
  (repeat' split) <;> simp only <;> omega
theorem getD_drop (l : List Int) (i j : Nat) : (l.drop i).getD j 0 = l.getD (i + j) 0 := by
  rw [List.getD_eq_getElem?_getD, List.getD_eq_getElem?_getD, List.getElem?_drop]
theorem rb1 {b0 r : Int} (hr : r = b0) (h0 : 0 ≤ b0) (h1 : b0 < 192) : (if isCp r then rb r else []) = [b0] ↔ b0 < 128 := by
  subst hr
  rw [if_pos (show isCp r from ⟨by omega, by omega, by omega⟩)]
  unfold rb
  (repeat' split) <;> simp <;> omega
theorem rb2 {b0 b1 r : Int} (hr : r = 64 * (b0 - 192) + b1 - 128) (h0 : 192 ≤ b0 ∧ b0 < 224) (h1 : 0 ≤ b1 ∧ b1 ≤ 255) : (if isCp r then rb r else []) = [b0, b1] ↔ 128 ≤ b1 ∧ b1 < 192 ∧ 128 ≤ r := by
  by_cases hc : isCp r
  · rw [if_pos hc]
    unfold isCp at hc
    unfold rb
    (repeat' split) <;> simp only [List.cons.injEq, List.nil_eq, and_true, and_false, reduceCtorEq, false_iff, iff_false] <;> omega
  · rw [if_neg hc]
    unfold isCp at hc
    simp only [reduceCtorEq, List.nil_eq, false_iff]
    omega
theorem rb3 {b0 b1 b2 r : Int} (hr : r = 64 * (64 * (b0 - 224) + b1 - 128) + b2 - 128) (h0 : 224 ≤ b0 ∧ b0 < 240) (h1 : 0 ≤ b1 ∧ b1 ≤ 255) (h2 : 0 ≤ b2 ∧ b2 ≤ 255) :
    (if isCp r then rb r else []) = [b0, b1, b2] ↔ 128 ≤ b1 ∧ b1 < 192 ∧ 128 ≤ b2 ∧ b2 < 192 ∧ 2048 ≤ r ∧ ¬ (55296 ≤ r ∧ r ≤ 57343) := by
  by_cases hc : isCp r
  · rw [if_pos hc]
    unfold isCp at hc
    unfold rb
    (repeat' split) <;> simp only [List.cons.injEq, List.nil_eq, and_true, and_false, reduceCtorEq, false_iff, iff_false] <;> omega
  · rw [if_neg hc]
    unfold isCp at hc
    simp only [reduceCtorEq, List.nil_eq, false_iff]
    omega
theorem rb4 {b0 b1 b2 b3 r : Int} (hr : r = 64 * (64 * (64 * (b0 - 240) + b1 - 128) + b2 - 128) + b3 - 128) (h0 : 240 ≤ b0 ∧ b0 ≤ 255) (h1 : 0 ≤ b1 ∧ b1 ≤ 255) (h2 : 0 ≤ b2 ∧ b2 ≤ 255) (h3 : 0 ≤ b3 ∧ b3 ≤ 255) :
    (if isCp r then rb r else []) = [b0, b1, b2, b3] ↔ 128 ≤ b1 ∧ b1 < 192 ∧ 128 ≤ b2 ∧ b2 < 192 ∧ 128 ≤ b3 ∧ b3 < 192 ∧ 65536 ≤ r ∧ r ≤ 1114111 := by
  by_cases hc : isCp r
  · rw [if_pos hc]
    unfold isCp at hc
    unfold rb
    (repeat' split) <;> simp only [List.cons.injEq, List.nil_eq, and_true, and_false, reduceCtorEq, false_iff, iff_false] <;> omega
  · rw [if_neg hc]
    unfold isCp at hc
    simp only [reduceCtorEq, List.nil_eq, false_iff]
    omega
theorem rn4_1 (n b0 b1 b2 b3 : Nat) (h0 : b0 < 192) : rn4 n b0 b1 b2 b3 = if b0 < 128 then ((b0 : Int), 1) else (-1, 0) := by
  have hd : Lib.decodeN n b0 b1 b2 b3 = if b0 < 128 then (b0, 1) else (65533, 1) := by
    unfold Lib.decodeN
    (repeat' split) <;> first | rfl | (exfalso; omega)
  unfold rn4
  rw [hd]
  by_cases h : b0 < 128
  · rw [if_pos h, if_pos h, if_neg (by simp only; omega)]; rfl
  · rw [if_neg h, if_neg h, if_pos (by simp)]
theorem rn4_2 (n b0 b1 b2 b3 : Nat) (r : Int) (hr : r = 64 * ((b0 : Int) - 192) + b1 - 128) (h0 : 192 ≤ b0 ∧ b0 < 224) (h1 : b1 < 256) :
    rn4 n b0 b1 b2 b3 = if 2 ≤ n ∧ 128 ≤ (b1 : Int) ∧ (b1 : Int) < 192 ∧ 128 ≤ r then (r, 2) else (-1, 0) := by
  have hd : Lib.decodeN n b0 b1 b2 b3 = if 2 ≤ n ∧ 128 ≤ (b1 : Int) ∧ (b1 : Int) < 192 ∧ 128 ≤ r then (r.toNat, 2) else (65533, 1) := by
    unfold Lib.decodeN
    (repeat' split) <;> first | rfl | (exfalso; omega) | (apply Prod.ext <;> simp only <;> omega)
  unfold rn4
  rw [hd]
  by_cases h : 2 ≤ n ∧ 128 ≤ (b1 : Int) ∧ (b1 : Int) < 192 ∧ 128 ≤ r
  · rw [if_pos h, if_pos h, if_neg (by simp)]
    apply Prod.ext <;> simp only <;> omega
  · rw [if_neg h, if_neg h, if_pos (by simp)]
theorem rn4_3 (n b0 b1 b2 b3 : Nat) (r : Int) (hr : r = 64 * (64 * ((b0 : Int) - 224) + b1 - 128) + b2 - 128) (h0 : 224 ≤ b0 ∧ b0 < 240) (h1 : b1 < 256) (h2 : b2 < 256) :
    rn4 n b0 b1 b2 b3 = if 3 ≤ n ∧ 128 ≤ (b1 : Int) ∧ (b1 : Int) < 192 ∧ 128 ≤ (b2 : Int) ∧ (b2 : Int) < 192 ∧ 2048 ≤ r ∧ ¬ (55296 ≤ r ∧ r ≤ 57343) then (r, 3) else (-1, 0) := by
  have hd : Lib.decodeN n b0 b1 b2 b3 = if 3 ≤ n ∧ 128 ≤ (b1 : Int) ∧ (b1 : Int) < 192 ∧ 128 ≤ (b2 : Int) ∧ (b2 : Int) < 192 ∧ 2048 ≤ r ∧ ¬ (55296 ≤ r ∧ r ≤ 57343) then (r.toNat, 3) else (65533, 1) := by
    unfold Lib.decodeN
    (repeat' split) <;> first | rfl | (exfalso; omega) | (apply Prod.ext <;> simp only <;> omega)
  unfold rn4
  rw [hd]
  by_cases h : 3 ≤ n ∧ 128 ≤ (b1 : Int) ∧ (b1 : Int) < 192 ∧ 128 ≤ (b2 : Int) ∧ (b2 : Int) < 192 ∧ 2048 ≤ r ∧ ¬ (55296 ≤ r ∧ r ≤ 57343)
  · rw [if_pos h, if_pos h, if_neg (by simp)]
    apply Prod.ext <;> simp only <;> omega
  · rw [if_neg h, if_neg h, if_pos (by simp)]
theorem rn4_4 (n b0 b1 b2 b3 : Nat) (r : Int) (hr : r = 64 * (64 * (64 * ((b0 : Int) - 240) + b1 - 128) + b2 - 128) + b3 - 128) (h0 : 240 ≤ b0 ∧ b0 < 256) (h1 : b1 < 256) (h2 : b2 < 256) (h3 : b3 < 256) :
    rn4 n b0 b1 b2 b3 = if 4 ≤ n ∧ 128 ≤ (b1 : Int) ∧ (b1 : Int) < 192 ∧ 128 ≤ (b2 : Int) ∧ (b2 : Int) < 192 ∧ 128 ≤ (b3 : Int) ∧ (b3 : Int) < 192 ∧ 65536 ≤ r ∧ r ≤ 1114111 then (r, 4) else (-1, 0) := by
  have hd : Lib.decodeN n b0 b1 b2 b3 = if 4 ≤ n ∧ 128 ≤ (b1 : Int) ∧ (b1 : Int) < 192 ∧ 128 ≤ (b2 : Int) ∧ (b2 : Int) < 192 ∧ 128 ≤ (b3 : Int) ∧ (b3 : Int) < 192 ∧ 65536 ≤ r ∧ r ≤ 1114111 then (r.toNat, 4) else (65533, 1) := by
    unfold Lib.decodeN
    (repeat' split) <;> first | rfl | (exfalso; omega) | (apply Prod.ext <;> simp only <;> omega)
  unfold rn4
  rw [hd]
  by_cases h : 4 ≤ n ∧ 128 ≤ (b1 : Int) ∧ (b1 : Int) < 192 ∧ 128 ≤ (b2 : Int) ∧ (b2 : Int) < 192 ∧ 128 ≤ (b3 : Int) ∧ (b3 : Int) < 192 ∧ 65536 ≤ r ∧ r ≤ 1114111
  · rw [if_pos h, if_pos h, if_neg (by simp)]
    apply Prod.ext <;> simp only <;> omega
  · rw [if_neg h, if_neg h, if_pos (by simp)]
theorem cut_getD (l : List Int) (i : Nat) : ∀ s : Nat, i + s ≤ l.length → (l.take (i + s)).drop i = (List.range s).map fun j => l.getD (i + j) 0 := by
  intro s hs
  apply List.ext_getElem?
  intro j
  rw [List.getElem?_drop, List.getElem?_take, List.getElem?_map]
  by_cases hj : j < s
  · rw [if_pos (by omega), List.getElem?_range hj, List.getElem?_eq_getElem (by omega)]
    simp only [Option.map_some, Option.some.injEq]
    rw [List.getD_eq_getElem?_getD, List.getElem?_eq_getElem (by omega)]
    rfl
  · rw [if_neg (by omega), List.getElem?_eq_none (l := List.range s) (by simp; omega)]
    rfl
theorem okBytes_cp (r : Int) : Bytes.okBytes (if isCp r then rb r else []) = true := by
  by_cases hc : isCp r
  · rw [if_pos hc]
    unfold isCp at hc
    apply Bytes.okBytes_of
    intro x hx
    unfold rb at hx
    (repeat' split at hx) <;> simp at hx <;> omega
  · rw [if_neg hc]; rfl
theorem specRune_end (k : Nat) (hk : 1 ≤ k) (l : List Int) (i s : Nat) (r : Int) (hb : Bytes.okBytes l = true) (hl : l.length ≤ 1048576) (his : i + s ≤ l.length) :
    spec_l01Rune.l0 (k + 1) l (i : Int) (s : Int) r (s : Int) = some (if (if isCp r then rb r else []) = (List.range s).map (fun j => l.getD (i + j) 0) then (r, (s : Int)) else (-1, 0)) := by
  have e1 : wrap64 ((i : Int) + (s : Int)) = ((i + s : Nat) : Int) := by rw [w64 (by omega) (by omega)]; omega
  have hcut : Bytes.okBytes ((List.range s).map fun j => l.getD (i + j) 0) = true := by
    rw [← cut_getD l i s his]
    exact Bytes.okBytes_drop (Bytes.okBytes_take hb _) _
  have hcp := okBytes_cp r
  have hrb := specRB_f k hk r
  simp only [spec_l01Rune.l0]
  rw [if_neg (by omega), hrb, Option.bind_some, e1, if_pos (by omega), if_pos (by omega), if_pos (by omega), Int.toNat_natCast, Int.toNat_natCast, cut_getD l i s his]
  generalize (if isCp r then rb r else []) = L1 at hcp
  generalize (List.range s).map (fun j => l.getD (i + j) 0) = L2 at hcut
  by_cases h : L1 = L2
  · rw [if_pos ((strOfNums_inj hcp hcut).2 h), if_pos h]
  · rw [if_neg (fun e => h ((strOfNums_inj hcp hcut).1 e)), if_neg h]
theorem specRune_step (k : Nat) (l : List Int) (i s j : Nat) (r : Int) (hb : Bytes.okBytes l = true) (hl : l.length ≤ 1048576) (hj : j < s) (his : i + s ≤ l.length) (hr : -1000000000 ≤ r ∧ r ≤ 1000000000) :
    spec_l01Rune.l0 (k + 1) l (i : Int) (s : Int) r (j : Int) = spec_l01Rune.l0 k l (i : Int) (s : Int) (64 * r + l.getD (i + j) 0 - 128) ((j + 1 : Nat) : Int) := by
  have hx := Bytes.okBytes_getD hb (i + j)
  have e1 : wrap64 ((i : Int) + (j : Int)) = ((i + j : Nat) : Int) := by rw [w64 (by omega) (by omega)]; omega
  have e2 : wrap64 (wrap64 (wrap64 (64 * r) + wrap64 (l.getD (i + j) 0)) - 128) = 64 * r + l.getD (i + j) 0 - 128 := by
    rw [w64 (x := 64 * r) (by omega) (by omega), w64 (x := l.getD (i + j) 0) (by omega) (by omega), w64 (x := 64 * r + l.getD (i + j) 0) (by omega) (by omega), w64 (by omega) (by omega)]
  simp only [spec_l01Rune.l0]
  rw [if_pos (by omega), e1, if_pos (by omega), if_pos (by omega), rd_nat, e2, w64s j (by omega)]
theorem specRune_f (k : Nat) (hk : 9 ≤ k) (l : List Int) (i : Nat) (hb : Bytes.okBytes l = true) (hl : l.length ≤ 1048576) (hi : i < l.length) : spec_l01Rune.f k l (i : Int) = some (rn l i) := by
  obtain ⟨k, rfl⟩ : ∃ m, k = m + 9 := ⟨k - 9, by omega⟩
  have b0 := Bytes.okBytes_getD hb i
  have b1 := Bytes.okBytes_getD hb (i + 1)
  have b2 := Bytes.okBytes_getD hb (i + 2)
  have b3 := Bytes.okBytes_getD hb (i + 3)
  have j1 : ∀ (s : Nat) (r : Int), spec_l01Rune.j1 (k + 8) l (i : Int) (s : Int) r = if l.length - i < s then some (-1, 0) else spec_l01Rune.l0 (k + 7) l (i : Int) (s : Int) r 1 := by
    intro s r
    simp only [spec_l01Rune.j1]
    rw [w64 (x := (l.length : Int) - (i : Int)) (by omega) (by omega)]
    by_cases h : l.length - i < s
    · rw [if_pos h, if_pos (by omega)]
    · rw [if_neg h, if_neg (by omega)]
  unfold spec_l01Rune.f
  rw [if_neg (by omega), show decide ((i : Int) ≥ (l.length : Int)) = false from decide_eq_false (by omega)]
  simp only [spec_l01Rune.j0]
  rw [if_neg (by simp), if_pos (by omega), if_pos (by omega), rd_nat, w64 (x := l.getD i 0) (by omega) (by omega)]
  unfold rn
  rw [if_pos hi]
  generalize e0 : l.getD i 0 = x0 at b0
  generalize e1 : l.getD (i + 1) 0 = x1 at b1
  generalize e2 : l.getD (i + 2) 0 = x2 at b2
  generalize e3 : l.getD (i + 3) 0 = x3 at b3
  by_cases c4 : x0 ≥ 240
  · rw [if_pos c4, w64 (x := x0 - 240) (by omega) (by omega), show (4 : Int) = ((4 : Nat) : Int) from rfl, j1, rn4_4 (l.length - i) x0.toNat x1.toNat x2.toNat x3.toNat (64 * (64 * (64 * (x0 - 240) + x1 - 128) + x2 - 128) + x3 - 128) (by omega) (by omega) (by omega) (by omega) (by omega)]
    by_cases hn : l.length - i < 4
    · rw [if_pos hn, if_neg (fun h => by omega)]
    · rw [if_neg hn, show (1 : Int) = ((1 : Nat) : Int) from rfl, specRune_step (k + 6) l i 4 1 _ hb hl (by omega) (by omega) (by omega), e1,
        specRune_step (k + 5) l i 4 2 _ hb hl (by omega) (by omega) (by omega), e2, specRune_step (k + 4) l i 4 3 _ hb hl (by omega) (by omega) (by omega), e3, specRune_end (k + 3) (by omega) l i 4 _ hb hl (by omega)]
      have hm : (List.range 4).map (fun j => l.getD (i + j) 0) = [x0, x1, x2, x3] := by
        show [l.getD (i + 0) 0, l.getD (i + 1) 0, l.getD (i + 2) 0, l.getD (i + 3) 0] = _
        rw [Nat.add_zero, e0, e1, e2, e3]
      rw [hm]
      have key := rb4 (b0 := x0) (b1 := x1) (b2 := x2) (b3 := x3) (r := 64 * (64 * (64 * (x0 - 240) + x1 - 128) + x2 - 128) + x3 - 128) rfl (by omega) b1 b2 b3
      congr 1
      exact ite_congr (propext (key.trans ⟨fun h => ⟨by omega, by omega, by omega, by omega, by omega, by omega, by omega, by omega, by omega⟩, fun h => ⟨by omega, by omega, by omega, by omega, by omega, by omega, by omega, by omega⟩⟩)) (fun _ => rfl) (fun _ => rfl)
  · rw [if_neg c4]
    by_cases c3 : x0 ≥ 224
    · rw [if_pos c3, w64 (x := x0 - 224) (by omega) (by omega), show (3 : Int) = ((3 : Nat) : Int) from rfl, j1, rn4_3 (l.length - i) x0.toNat x1.toNat x2.toNat x3.toNat (64 * (64 * (x0 - 224) + x1 - 128) + x2 - 128) (by omega) (by omega) (by omega) (by omega)]
      by_cases hn : l.length - i < 3
      · rw [if_pos hn, if_neg (fun h => by omega)]
      · rw [if_neg hn, show (1 : Int) = ((1 : Nat) : Int) from rfl, specRune_step (k + 6) l i 3 1 _ hb hl (by omega) (by omega) (by omega), e1,
          specRune_step (k + 5) l i 3 2 _ hb hl (by omega) (by omega) (by omega), e2, specRune_end (k + 4) (by omega) l i 3 _ hb hl (by omega)]
        have hm : (List.range 3).map (fun j => l.getD (i + j) 0) = [x0, x1, x2] := by
          show [l.getD (i + 0) 0, l.getD (i + 1) 0, l.getD (i + 2) 0] = _
          rw [Nat.add_zero, e0, e1, e2]
        rw [hm]
        have key := rb3 (b0 := x0) (b1 := x1) (b2 := x2) (r := 64 * (64 * (x0 - 224) + x1 - 128) + x2 - 128) rfl (by omega) b1 b2
        congr 1
        exact ite_congr (propext (key.trans ⟨fun h => ⟨by omega, by omega, by omega, by omega, by omega, by omega, by omega⟩, fun h => ⟨by omega, by omega, by omega, by omega, by omega, by omega⟩⟩)) (fun _ => rfl) (fun _ => rfl)
    · rw [if_neg c3]
      by_cases c2 : x0 ≥ 192
      · rw [if_pos c2, w64 (x := x0 - 192) (by omega) (by omega), show (2 : Int) = ((2 : Nat) : Int) from rfl, j1, rn4_2 (l.length - i) x0.toNat x1.toNat x2.toNat x3.toNat (64 * (x0 - 192) + x1 - 128) (by omega) (by omega) (by omega)]
        by_cases hn : l.length - i < 2
        · rw [if_pos hn, if_neg (fun h => by omega)]
        · rw [if_neg hn, show (1 : Int) = ((1 : Nat) : Int) from rfl, specRune_step (k + 6) l i 2 1 _ hb hl (by omega) (by omega) (by omega), e1, specRune_end (k + 5) (by omega) l i 2 _ hb hl (by omega)]
          have hm : (List.range 2).map (fun j => l.getD (i + j) 0) = [x0, x1] := by
            show [l.getD (i + 0) 0, l.getD (i + 1) 0] = _
            rw [Nat.add_zero, e0, e1]
          rw [hm]
          have key := rb2 (b0 := x0) (b1 := x1) (r := 64 * (x0 - 192) + x1 - 128) rfl (by omega) b1
          congr 1
          exact ite_congr (propext (key.trans ⟨fun h => ⟨by omega, by omega, by omega, by omega⟩, fun h => ⟨by omega, by omega, by omega⟩⟩)) (fun _ => rfl) (fun _ => rfl)
      · rw [if_neg c2, show spec_l01Rune.j1 (k + 8) l (i : Int) 1 x0 = _ from j1 1 x0, rn4_1 (l.length - i) x0.toNat x1.toNat x2.toNat x3.toNat (by omega), if_neg (by omega), show spec_l01Rune.l0 (k + 7) l (i : Int) ((1 : Nat) : Int) x0 1 = _ from specRune_end (k + 6) (by omega) l i 1 x0 hb hl (by omega)]
        have hm : (List.range 1).map (fun j => l.getD (i + j) 0) = [x0] := by
          show [l.getD (i + 0) 0] = _
          rw [Nat.add_zero, e0]
        rw [hm]
        have key := rb1 (b0 := x0) (r := x0) rfl (by omega) (by omega)
        congr 1
        rw [ite_congr (propext (key.trans (⟨fun h => by omega, fun h => by omega⟩ : x0 < 128 ↔ x0.toNat < 128))) (fun _ => rfl) (fun _ => rfl), show ((x0.toNat : Nat) : Int) = x0 by omega]
        rfl
theorem specRune_out (k : Nat) (hk : 1 ≤ k) (l : List Int) (a : Int) (ha : a < 0 ∨ (l.length : Int) ≤ a) : spec_l01Rune.f k l a = some (-1, 0) := by
  obtain ⟨k, rfl⟩ : ∃ m, k = m + 1 := ⟨k - 1, by omega⟩
  have key : spec_l01Rune.j0 (k + 1) l a true = some (-1, 0) := by simp [spec_l01Rune.j0]
  unfold spec_l01Rune.f
  by_cases h : a < 0
  · rw [if_pos h]; exact key
  · rw [if_neg h, show decide (a ≥ (l.length : Int)) = true from decide_eq_true (by omega)]; exact key
/-- The letter at whatever place. -/
def rnA (l : List Int) (a : Int) : Int × Int := if 0 ≤ a ∧ a < (l.length : Int) then rn l a.toNat else (-1, 0)
theorem specRune_all (k : Nat) (hk : 9 ≤ k) (l : List Int) (a : Int) (hb : Bytes.okBytes l = true) (hl : l.length ≤ 1048576) : spec_l01Rune.f k l a = some (rnA l a) := by
  unfold rnA
  by_cases h : 0 ≤ a ∧ a < (l.length : Int)
  · rw [if_pos h]
    have := specRune_f k hk l a.toNat hb hl (by omega)
    rwa [show ((a.toNat : Nat) : Int) = a by omega] at this
  · rw [if_neg h]
    exact specRune_out k (by omega) l a (by omega)
theorem okBytes_wf {l : List Int} (h : ∀ x ∈ l, (Lit.int .u8 x).wf = true) : Bytes.okBytes l = true := Bytes.okBytes_of fun x hx => wf_u8 (h x hx)
/-- A byte that begins no letter. -/
def contB (x : Int) : Bool := decide (128 ≤ x ∧ x < 192)
/-- What a place's letter is: none, or of some bytes, of which the later ones begin none. -/
theorem rn_cases {l : List Int} {p : Nat} (hb : Bytes.okBytes l = true) (hp : p < l.length) :
    rn l p = (-1, 0) ∨ ∃ s : Nat, 1 ≤ s ∧ s ≤ 4 ∧ (rn l p).2 = (s : Int) ∧ 0 ≤ (rn l p).1 ∧ p + s ≤ l.length ∧ contB (l.getD p 0) = false ∧ ∀ j, 1 ≤ j → j < s → contB (l.getD (p + j) 0) = true := by
  have b0 := Bytes.okBytes_getD hb p
  have b1 := Bytes.okBytes_getD hb (p + 1)
  have b2 := Bytes.okBytes_getD hb (p + 2)
  have b3 := Bytes.okBytes_getD hb (p + 3)
  unfold rn
  rw [if_pos hp]
  unfold contB
  generalize e0 : l.getD p 0 = x0 at b0
  generalize e1 : l.getD (p + 1) 0 = x1 at b1
  generalize e2 : l.getD (p + 2) 0 = x2 at b2
  generalize e3 : l.getD (p + 3) 0 = x3 at b3
  by_cases c4 : 240 ≤ x0
  · rw [rn4_4 (l.length - p) x0.toNat x1.toNat x2.toNat x3.toNat (64 * (64 * (64 * (x0 - 240) + x1 - 128) + x2 - 128) + x3 - 128) (by omega) (by omega) (by omega) (by omega) (by omega)]
    by_cases h : 4 ≤ l.length - p ∧ 128 ≤ ((x1.toNat : Nat) : Int) ∧ ((x1.toNat : Nat) : Int) < 192 ∧ 128 ≤ ((x2.toNat : Nat) : Int) ∧ ((x2.toNat : Nat) : Int) < 192 ∧ 128 ≤ ((x3.toNat : Nat) : Int) ∧ ((x3.toNat : Nat) : Int) < 192 ∧ 65536 ≤ 64 * (64 * (64 * (x0 - 240) + x1 - 128) + x2 - 128) + x3 - 128 ∧ 64 * (64 * (64 * (x0 - 240) + x1 - 128) + x2 - 128) + x3 - 128 ≤ 1114111
    · rw [if_pos h]
      refine Or.inr ⟨4, by omega, by omega, rfl, by simp only; omega, by omega, by simp only [decide_eq_false_iff_not]; omega, fun j h1 h2 => ?_⟩
      obtain rfl | rfl | rfl : j = 1 ∨ j = 2 ∨ j = 3 := by omega
      · rw [e1, decide_eq_true_eq]; omega
      · rw [e2, decide_eq_true_eq]; omega
      · rw [e3, decide_eq_true_eq]; omega
    · rw [if_neg h]; exact Or.inl rfl
  · by_cases c3 : 224 ≤ x0
    · rw [rn4_3 (l.length - p) x0.toNat x1.toNat x2.toNat x3.toNat (64 * (64 * (x0 - 224) + x1 - 128) + x2 - 128) (by omega) (by omega) (by omega) (by omega)]
      by_cases h : 3 ≤ l.length - p ∧ 128 ≤ ((x1.toNat : Nat) : Int) ∧ ((x1.toNat : Nat) : Int) < 192 ∧ 128 ≤ ((x2.toNat : Nat) : Int) ∧ ((x2.toNat : Nat) : Int) < 192 ∧ 2048 ≤ 64 * (64 * (x0 - 224) + x1 - 128) + x2 - 128 ∧ ¬ (55296 ≤ 64 * (64 * (x0 - 224) + x1 - 128) + x2 - 128 ∧ 64 * (64 * (x0 - 224) + x1 - 128) + x2 - 128 ≤ 57343)
      · rw [if_pos h]
        refine Or.inr ⟨3, by omega, by omega, rfl, by simp only; omega, by omega, by simp only [decide_eq_false_iff_not]; omega, fun j h1 h2 => ?_⟩
        obtain rfl | rfl : j = 1 ∨ j = 2 := by omega
        · rw [e1, decide_eq_true_eq]; omega
        · rw [e2, decide_eq_true_eq]; omega
      · rw [if_neg h]; exact Or.inl rfl
    · by_cases c2 : 192 ≤ x0
      · rw [rn4_2 (l.length - p) x0.toNat x1.toNat x2.toNat x3.toNat (64 * (x0 - 192) + x1 - 128) (by omega) (by omega) (by omega)]
        by_cases h : 2 ≤ l.length - p ∧ 128 ≤ ((x1.toNat : Nat) : Int) ∧ ((x1.toNat : Nat) : Int) < 192 ∧ 128 ≤ 64 * (x0 - 192) + x1 - 128
        · rw [if_pos h]
          refine Or.inr ⟨2, by omega, by omega, rfl, by simp only; omega, by omega, by simp only [decide_eq_false_iff_not]; omega, fun j h1 h2 => ?_⟩
          obtain rfl : j = 1 := by omega
          rw [e1, decide_eq_true_eq]; omega
        · rw [if_neg h]; exact Or.inl rfl
      · rw [rn4_1 (l.length - p) x0.toNat x1.toNat x2.toNat x3.toNat (by omega)]
        by_cases h : x0.toNat < 128
        · rw [if_pos h]
          refine Or.inr ⟨1, by omega, by omega, rfl, by simp only; omega, by omega, by simp only [decide_eq_false_iff_not]; omega, fun j h1 h2 => by omega⟩
        · rw [if_neg h]; exact Or.inl rfl
/-- The places of the letters from p on, and the end. -/
def cuts (l : List Int) : Nat → Nat → Option (List Int)
  | 0, p => if p < l.length then none else some [(p : Int)]
  | n + 1, p => if p < l.length then (if (rn l p).2 = 0 then none else (cuts l n (p + (rn l p).2.toNat)).map ((p : Int) :: ·)) else some [(p : Int)]
theorem cuts_end (l : List Int) (n p : Nat) (h : ¬ p < l.length) : cuts l n p = some [(p : Int)] := by
  cases n <;> simp [cuts, h]
/-- A text. -/
def isT (l : List Int) : Bool := decide (l.length ≤ 400) && (cuts l l.length 0).isSome
/-- Its cuts. -/
def cutsOf (l : List Int) : List Int := if l.length ≤ 400 then (cuts l l.length 0).getD [] else []
theorem cuts_pos {l : List Int} : ∀ (n p : Nat) (c : List Int), cuts l n p = some c → 0 < c.length := by
  intro n p c h
  cases n with
  | zero =>
    simp only [cuts] at h
    split at h
    · cases h
    · cases h; simp
  | succ n =>
    simp only [cuts] at h
    split at h
    · split at h
      · cases h
      · obtain ⟨c', _, rfl⟩ := Option.map_eq_some_iff.1 h
        simp
    · cases h; simp
theorem specCuts_l0 {l : List Int} (hb : Bytes.okBytes l = true) (hl : l.length ≤ 1048576) : ∀ (n p k : Nat) (out : List Int), p ≤ l.length → l.length - p ≤ n → n + 10 ≤ k → out.length + n ≤ 1048576 →
    spec_l01Cuts.l0 k l out (p : Int) = some (match cuts l n p with | none => [] | some c => out ++ c) := by
  intro n
  induction n with
  | zero =>
    intro p k out h1 h2 h3 h4
    obtain ⟨k, rfl⟩ : ∃ m, k = m + 1 := ⟨k - 1, by omega⟩
    simp only [spec_l01Cuts.l0]
    rw [if_neg (by omega), if_pos (by omega), cuts_end l 0 p (by omega)]
  | succ n ih =>
    intro p k out h1 h2 h3 h4
    obtain ⟨k, rfl⟩ : ∃ m, k = m + 1 := ⟨k - 1, by omega⟩
    simp only [spec_l01Cuts.l0]
    by_cases hp : p < l.length
    · rw [if_pos (by omega)]
      unfold spec_RuneSize.f
      rw [specRune_f k (by omega) l p hb hl hp]
      simp only [Option.bind_some, cuts, if_pos hp]
      rcases rn_cases hb hp with h | ⟨s, hs1, hs4, hs, _, hse, _, _⟩
      · rw [h]; simp
      · rw [hs, if_neg (by omega), if_pos (by omega), show wrap64 ((p : Int) + (s : Int)) = ((p + s : Nat) : Int) from by rw [w64 (by omega) (by omega)]; omega, Int.toNat_natCast,
          ih (p + s) k (out ++ [(p : Int)]) hse (by omega) (by omega) (by simp; omega)]
        cases cuts l n (p + s) <;> simp [show s ≠ 0 by omega]
    · rw [if_neg (by omega), if_pos (by omega), cuts_end l (n + 1) p hp]
theorem specCuts_f {l : List Int} (k : Nat) (hb : Bytes.okBytes l = true) (hk : 411 ≤ k) : spec_l01Cuts.f k l = some (cutsOf l) := by
  unfold spec_l01Cuts.f cutsOf
  by_cases h : l.length ≤ 400
  · rw [if_neg (by omega), if_pos h]
    refine (specCuts_l0 hb (by omega) l.length 0 k [] (by omega) (by omega) (by omega) (by simp; omega)).trans ?_
    cases cuts l l.length 0 <;> simp
  · rw [if_pos (by omega), if_neg h]
theorem isT_cuts {l : List Int} : isT l = true ↔ 0 < (cutsOf l).length := by
  unfold isT cutsOf
  by_cases h : l.length ≤ 400
  · rw [if_pos h]
    cases hc : cuts l l.length 0 with
    | none => simp
    | some c => simpa [h] using cuts_pos _ _ _ hc
  · rw [if_neg h]; simp [h]
theorem isT_len {l : List Int} (h : isT l = true) : l.length ≤ 400 := by
  unfold isT at h
  simp only [Bool.and_eq_true, decide_eq_true_eq] at h
  exact h.1
theorem isT_some {l : List Int} (h : isT l = true) : cuts l l.length 0 = some (cutsOf l) := by
  have hl := isT_len h
  unfold isT at h
  simp only [Bool.and_eq_true, decide_eq_true_eq] at h
  unfold cutsOf
  rw [if_pos hl]
  cases hc : cuts l l.length 0 with
  | none => rw [hc] at h; simp at h
  | some c => rfl
theorem isT_none {l : List Int} (h : isT l = false) : cutsOf l = [] := by
  cases hc : cutsOf l with
  | nil => rfl
  | cons a c =>
    have := isT_cuts.2 (show 0 < (cutsOf l).length by rw [hc]; simp)
    rw [h] at this; cases this
theorem drop_toArray (l : List Int) (p : Nat) : (⟨((Bytes.toBA l).data.toList.drop p).toArray⟩ : ByteArray) = Bytes.toBA (l.drop p) := by
  unfold Bytes.toBA
  simp [List.map_drop]
theorem decode_drop {l : List Int} (hb : Bytes.okBytes l = true) (p : Nat) :
    Utf8.decode (Bytes.toBA (l.drop p)) 0 = Lib.decodeN (l.length - p) (l.getD p 0).toNat (l.getD (p + 1) 0).toNat (l.getD (p + 2) 0).toNat (l.getD (p + 3) 0).toNat := by
  have g : ∀ j, ((Bytes.toBA (l.drop p)).get! j).toNat = (l.getD (p + j) 0).toNat := fun j => by
    have := Bytes.toBA_get (Bytes.okBytes_drop hb p) j
    rw [getD_drop] at this
    omega
  rw [Lib.decode_at, g, g, g, g, Bytes.toBA_size, List.length_drop]
  simp
theorem decode_at_ {l : List Int} (hb : Bytes.okBytes l = true) (p : Nat) :
    Utf8.decode (Bytes.toBA l) p = Lib.decodeN (l.length - p) (l.getD p 0).toNat (l.getD (p + 1) 0).toNat (l.getD (p + 2) 0).toNat (l.getD (p + 3) 0).toNat := by
  have g : ∀ j, ((Bytes.toBA l).get! j).toNat = (l.getD j 0).toNat := fun j => by have := Bytes.toBA_get hb j; omega
  rw [Lib.decode_at, g, g, g, g, Bytes.toBA_size]
theorem valid_cuts {l : List Int} (hb : Bytes.okBytes l = true) : ∀ (n p : Nat), p ≤ l.length → l.length - p ≤ n → Lib.validGoD n ((Bytes.toBA l).data.toList.drop p) = (cuts l n p).isSome := by
  have hsz : (Bytes.toBA l).data.toList.length = l.length := by simp [Bytes.toBA]
  intro n
  induction n with
  | zero =>
    intro p h1 h2
    rw [cuts_end l 0 p (by omega)]
    rfl
  | succ n ih =>
    intro p h1 h2
    unfold Lib.validGoD
    by_cases hp : p < l.length
    · have hne : ¬ ((Bytes.toBA l).data.toList.drop p = []) := by
        intro h
        have := congrArg List.length h
        simp [hsz] at this
        omega
      rw [if_neg hne]
      simp only [cuts, if_pos hp]
      have hd : Lib.decodeL ((Bytes.toBA l).data.toList.drop p) = Lib.decodeN (l.length - p) (l.getD p 0).toNat (l.getD (p + 1) 0).toNat (l.getD (p + 2) 0).toNat (l.getD (p + 3) 0).toNat := by
        unfold Lib.decodeL
        rw [drop_toArray, decode_drop hb]
      have hle := decodeN_le (l.length - p) (l.getD p 0).toNat (l.getD (p + 1) 0).toNat (l.getD (p + 2) 0).toNat (l.getD (p + 3) 0).toNat (by have := Bytes.okBytes_getD hb p; omega)
      have hrn : rn l p = rn4 (l.length - p) (l.getD p 0).toNat (l.getD (p + 1) 0).toNat (l.getD (p + 2) 0).toNat (l.getD (p + 3) 0).toNat := by unfold rn; rw [if_pos hp]
      have hcs := rn_cases hb hp
      unfold rn4 at hrn
      rw [hd]
      generalize Lib.decodeN (l.length - p) (l.getD p 0).toNat (l.getD (p + 1) 0).toNat (l.getD (p + 2) 0).toNat (l.getD (p + 3) 0).toNat = d at hle hrn
      by_cases hbad : d.1 = 65533 ∧ d.2 ≤ 1
      · rw [if_pos ⟨hbad.1, by omega⟩]
        rw [if_pos hbad] at hrn
        rw [hrn]
        simp
      · rw [if_neg (fun h => hbad ⟨h.1, by omega⟩)]
        rw [if_neg hbad] at hrn
        have h2' : (rn l p).2 = (d.2 : Int) := by rw [hrn]
        have hse : p + d.2 ≤ l.length := by
          rcases hcs with h | ⟨s, _, _, hs, _, hse, _, _⟩
          · rw [h] at h2'; simp at h2'; omega
          · omega
        rw [h2', if_neg (by omega), Int.toNat_natCast, List.drop_drop, ih (p + d.2) hse (by omega)]
        cases cuts l n (p + d.2) <;> rfl
    · have he : (Bytes.toBA l).data.toList.drop p = [] := List.drop_eq_nil_of_le (by omega)
      rw [if_pos he, cuts_end l (n + 1) p hp]
      rfl
theorem implValid_f {l : List Int} (hb : Bytes.okBytes l = true) (hl : l.length ≤ 1048576) : utf8_Valid.f l = some (cuts l l.length 0).isSome := by
  unfold utf8_Valid.f
  rw [if_pos hb, if_pos (by omega)]
  congr 1
  have := valid_cuts hb l.length 0 (by omega) (by omega)
  rw [List.drop_zero] at this
  unfold Lib.validD
  rw [show (Bytes.toBA l).data.toList.length = l.length by simp [Bytes.toBA]]
  exact this
theorem mem_cuts {l : List Int} (hb : Bytes.okBytes l = true) : ∀ (n p : Nat) (c : List Int), p ≤ l.length → cuts l n p = some c → ∀ a : Int, a ∈ c ↔ (a = (l.length : Int) ∨ ∃ q : Nat, p ≤ q ∧ q < l.length ∧ a = (q : Int) ∧ contB (l.getD q 0) = false) := by
  intro n
  induction n with
  | zero =>
    intro p c h1 h2 a
    by_cases hp : p < l.length
    · simp [cuts, hp] at h2
    · rw [cuts_end l 0 p hp] at h2
      cases h2
      simp only [List.mem_singleton]
      constructor
      · rintro rfl; left; omega
      · rintro (h | ⟨q, _, _, _, _⟩) <;> omega
  | succ n ih =>
    intro p c h1 h2 a
    by_cases hp : p < l.length
    · simp only [cuts, if_pos hp] at h2
      rcases rn_cases hb hp with h | ⟨s, hs1, hs4, hs, _, hse, hc0, hcj⟩
      · rw [h] at h2; simp at h2
      · rw [hs, if_neg (by omega), Int.toNat_natCast] at h2
        obtain ⟨c', hc', rfl⟩ := Option.map_eq_some_iff.1 h2
        rw [List.mem_cons, ih (p + s) c' hse hc' a]
        constructor
        · rintro (rfl | h | ⟨q, g1, g2, g3, g4⟩)
          · exact Or.inr ⟨p, by omega, hp, rfl, hc0⟩
          · exact Or.inl h
          · exact Or.inr ⟨q, by omega, g2, g3, g4⟩
        · rintro (h | ⟨q, g1, g2, g3, g4⟩)
          · exact Or.inr (Or.inl h)
          · by_cases hq : q = p
            · subst hq; exact Or.inl g3
            · by_cases hq2 : p + s ≤ q
              · exact Or.inr (Or.inr ⟨q, hq2, g2, g3, g4⟩)
              · have := hcj (q - p) (by omega) (by omega)
                rw [show p + (q - p) = q by omega, g4] at this
                cases this
    · rw [cuts_end l (n + 1) p hp] at h2
      cases h2
      simp only [List.mem_singleton]
      constructor
      · rintro rfl; left; omega
      · rintro (h | ⟨q, _, _, _, _⟩) <;> omega
theorem cuts_length {l : List Int} : ∀ (n p : Nat) (c : List Int), cuts l n p = some c → c.length ≤ n + 1 := by
  intro n
  induction n with
  | zero =>
    intro p c h
    by_cases hp : p < l.length
    · simp [cuts, hp] at h
    · rw [cuts_end l 0 p hp] at h; cases h; simp
  | succ n ih =>
    intro p c h
    by_cases hp : p < l.length
    · simp only [cuts, if_pos hp] at h
      split at h
      · cases h
      · obtain ⟨c', hc', rfl⟩ := Option.map_eq_some_iff.1 h
        have := ih _ _ hc'
        simp; omega
    · rw [cuts_end l (n + 1) p hp] at h; cases h; simp
theorem cutsOf_length (l : List Int) : (cutsOf l).length ≤ 401 := by
  unfold cutsOf
  by_cases h : l.length ≤ 400
  · rw [if_pos h]
    cases hc : cuts l l.length 0 with
    | none => simp
    | some c => have := cuts_length _ _ _ hc; simp; omega
  · rw [if_neg h]; simp
/-- Where a place stands among the cuts. -/
def idxI (c : List Int) (a : Int) : Int := if a ∈ c then (c.idxOf a : Int) else -1
theorem specRunesTo_l0 (a : Int) (c : List Int) (hl : c.length ≤ 1048576) : ∀ (d i k : Nat), i + d = c.length → d < k → (∀ j, j < i → c.getD j 0 ≠ a) → spec_RunesTo.l0 k a c (i : Int) = some (idxI c a) := by
  intro d
  induction d with
  | zero =>
    intro i k hi hk hn
    obtain ⟨k, rfl⟩ : ∃ m, k = m + 1 := ⟨k - 1, by omega⟩
    simp only [spec_RunesTo.l0]
    rw [if_neg (by omega)]
    unfold idxI
    rw [if_neg]
    intro hm
    obtain ⟨j, hj, e⟩ := List.getElem_of_mem hm
    have := hn j (by omega)
    rw [List.getD_eq_getElem?_getD, List.getElem?_eq_getElem hj] at this
    exact this e
  | succ d ih =>
    intro i k hi hk hn
    obtain ⟨k, rfl⟩ : ∃ m, k = m + 1 := ⟨k - 1, by omega⟩
    simp only [spec_RunesTo.l0]
    rw [if_pos (by omega), if_pos (by omega), rd_nat]
    by_cases h : c.getD i 0 = a
    · rw [if_pos h]
      have hil : i < c.length := by omega
      rw [List.getD_eq_getElem?_getD, List.getElem?_eq_getElem hil] at h
      have hm : a ∈ c := by rw [← show c[i] = a from h]; exact List.getElem_mem hil
      unfold idxI
      rw [if_pos hm]
      congr 2
      have h1 : c.idxOf a < c.length := List.idxOf_lt_length_iff.2 hm
      have h2 : c[c.idxOf a] = a := List.getElem_idxOf h1
      have h3 : ¬ c.idxOf a < i := fun hlt => by
        have := hn _ hlt
        rw [List.getD_eq_getElem?_getD, List.getElem?_eq_getElem h1] at this
        exact this h2
      have h4 : ¬ i < c.idxOf a := fun hlt => by
        unfold List.idxOf at hlt
        have := List.not_of_lt_findIdx hlt
        rw [show c[i] = a from h] at this
        simp at this
      omega
    · rw [if_neg h, w64s i (by omega)]
      exact ih (i + 1) k (by omega) (by omega) (fun j hj => by
        by_cases e : j = i
        · subst e; exact h
        · exact hn j (by omega))
theorem specRunesTo_f {l : List Int} (k : Nat) (a : Int) (hb : Bytes.okBytes l = true) (hk : 411 ≤ k) : spec_RunesTo.f k l a = some (idxI (cutsOf l) a) := by
  unfold spec_RunesTo.f
  rw [specCuts_f k hb hk]
  simp only [Option.bind_some]
  have := cutsOf_length l
  exact specRunesTo_l0 a (cutsOf l) (by omega) (cutsOf l).length 0 k (by omega) (by omega) (fun j hj => by omega)
theorem idxI_nonneg (c : List Int) (a : Int) : (0 ≤ idxI c a) ↔ a ∈ c := by
  unfold idxI
  by_cases h : a ∈ c
  · rw [if_pos h]; simp [h]
  · rw [if_neg h]; simp [h]
/-- A cut, by the byte that stands there. -/
def isC (l : List Int) (a : Int) : Bool := decide (a = (l.length : Int) ∨ (0 ≤ a ∧ a < (l.length : Int) ∧ contB (l.getD a.toNat 0) = false))
theorem isC_mem {l : List Int} (hb : Bytes.okBytes l = true) (h : isT l = true) (a : Int) : (a ∈ cutsOf l) ↔ isC l a = true := by
  rw [mem_cuts hb _ _ _ (by omega) (isT_some h) a]
  unfold isC
  rw [decide_eq_true_eq]
  constructor
  · rintro (h | ⟨q, _, h2, rfl, h4⟩)
    · exact Or.inl h
    · exact Or.inr ⟨by omega, by omega, by rwa [Int.toNat_natCast]⟩
  · rintro (h | ⟨h1, h2, h3⟩)
    · exact Or.inl h
    · exact Or.inr ⟨a.toNat, by omega, by omega, by omega, h3⟩
theorem runeStart_f {x : Int} (h0 : 0 ≤ x) (h1 : x ≤ 255) : utf8_RuneStart.f x = some (!contB x) := by
  have key : ∀ y : Fin 256, (Go.bits .and .u8 ((y.val : Nat) : Int) 192 != 128) = !contB ((y.val : Nat) : Int) := by decide +kernel
  unfold utf8_RuneStart.f
  congr 1
  have := key ⟨x.toNat, by omega⟩
  simp only at this
  rwa [show ((x.toNat : Nat) : Int) = x by omega] at this
theorem implCut_f {l : List Int} (a : Int) (hb : Bytes.okBytes l = true) (hl : l.length ≤ 1048576) : impl_isCut.f l a = some (isC l a) := by
  unfold impl_isCut.f isC
  by_cases h : a = (l.length : Int)
  · rw [if_pos h]; simp [h]
  · rw [if_neg h]
    have hin : impl_in.f a 0 (wrap64 ((l.length : Int) - 1)) = some (decide (0 ≤ a ∧ a < (l.length : Int))) := by
      unfold impl_in.f
      rw [w64 (by omega) (by omega)]
      by_cases h0 : 0 ≤ a
      · rw [if_pos h0]
        congr 1
        rw [Bool.eq_iff_iff, decide_eq_true_eq, decide_eq_true_eq]
        omega
      · rw [if_neg h0]
        congr 1
        exact (decide_eq_false (fun h => h0 h.1)).symm
    rw [hin]
    simp only [Option.bind_some]
    by_cases h2 : 0 ≤ a ∧ a < (l.length : Int)
    · rw [if_pos (decide_eq_true h2), if_pos h2.1, if_pos h2.2]
      have e : rd l a = l.getD a.toNat 0 := by
        have := rd_nat l a.toNat
        rwa [show ((a.toNat : Nat) : Int) = a by omega] at this
      have hx := Bytes.okBytes_getD hb a.toNat
      rw [e, runeStart_f hx.1 hx.2]
      simp only [Option.bind_some]
      congr 1
      cases hcb : contB (l.getD a.toNat 0) <;> simp [h, h2]
    · rw [if_neg (by simp only [decide_eq_true_eq]; exact h2)]
      congr 1
      symm
      rw [decide_eq_false_iff_not]
      rintro (h3 | ⟨h3, h4, _⟩)
      · exact h h3
      · exact h2 ⟨h3, h4⟩
theorem specCut_f {l : List Int} (k : Nat) (a : Int) (hb : Bytes.okBytes l = true) (hk : 411 ≤ k) : spec_CutOk.f k l a = some (isT l && isC l a) := by
  unfold spec_CutOk.f
  rw [specRunesTo_f k a hb hk]
  simp only [Option.bind_some, Option.some.injEq]
  rw [Bool.eq_iff_iff, decide_eq_true_eq, Bool.and_eq_true]
  show (0 ≤ idxI (cutsOf l) a) ↔ _
  rw [idxI_nonneg]
  cases h : isT l with
  | false => rw [isT_none h]; simp
  | true => rw [isC_mem hb h a]; simp
theorem specText_f {l : List Int} (k : Nat) (hb : Bytes.okBytes l = true) (hk : 411 ≤ k) : spec_TextOk.f k l = some (isT l) := by
  unfold spec_TextOk.f
  rw [specCuts_f k hb hk]
  simp only [Option.bind_some, Option.some.injEq]
  rw [Bool.eq_iff_iff, isT_cuts, decide_eq_true_eq]
  omega
theorem implText_f {l : List Int} (hb : Bytes.okBytes l = true) : impl_isText.f l = some (isT l) := by
  unfold impl_isText.f isT
  by_cases h : l.length ≤ 400
  · rw [if_pos (by omega), implValid_f hb (by omega)]
    simp [h]
  · rw [if_neg (by omega)]
    simp [h]
/-- An edit that fits a text. -/
def isEd (l : List Int) (at_ cut : Int) (put : List Int) : Bool := isT l && isC l at_ && decide (0 ≤ cut ∧ cut ≤ (l.length : Int) - at_) && isC l (at_ + cut) && isT put && decide ((l.length : Int) - cut + (put.length : Int) ≤ 400)
theorem isC_range {l : List Int} {a : Int} (h : isC l a = true) : 0 ≤ a ∧ a ≤ (l.length : Int) := by
  unfold isC at h
  rw [decide_eq_true_eq] at h
  omega
theorem specEdit_f {l put : List Int} (k : Nat) (x y : Int) (hb : Bytes.okBytes l = true) (hp : Bytes.okBytes put = true) (hk : 411 ≤ k) : spec_EditOk.f k l x y put = some (isEd l x y put) := by
  unfold spec_EditOk.f isEd
  rw [specText_f k hb hk, specText_f k hp hk, specCut_f k x hb hk]
  simp only [Option.bind_some]
  cases h1 : isT l with
  | false => simp
  | true =>
    have hl := isT_len h1
    cases h2 : isC l x with
    | false => simp
    | true =>
      have hx := isC_range h2
      simp only [Bool.and_self, if_true, Bool.true_and]
      rw [w64 (x := (l.length : Int) - x) (by omega) (by omega)]
      by_cases h3 : 0 ≤ y ∧ y ≤ (l.length : Int) - x
      · rw [if_neg (by omega), if_neg (by omega), w64 (x := x + y) (by omega) (by omega), specCut_f k (x + y) hb hk, decide_eq_true h3, h1]
        simp only [Option.bind_some, Bool.true_and]
        cases h4 : isC l (x + y) with
        | false => simp
        | true =>
          cases h5 : isT put with
          | false => simp
          | true =>
            have hpl := isT_len h5
            rw [w64 (x := (l.length : Int) - y) (by omega) (by omega), w64 (by omega) (by omega)]
            simp
      · rw [decide_eq_false h3]
        by_cases h4 : y < 0
        · rw [if_pos h4]; simp
        · rw [if_neg h4, if_pos (by omega)]; simp
theorem implEdit_f {l put : List Int} (x y : Int) (hb : Bytes.okBytes l = true) (hp : Bytes.okBytes put = true) : impl_isEdit.f l x y put = some (isEd l x y put) := by
  unfold impl_isEdit.f isEd
  rw [implText_f hb, implText_f hp]
  simp only [Option.bind_some]
  cases h1 : isT l with
  | false => simp
  | true =>
    have hl := isT_len h1
    rw [implCut_f x hb (by omega)]
    simp only [Option.bind_some, if_true, Bool.true_and]
    cases h2 : isC l x with
    | false => simp
    | true =>
      have hx := isC_range h2
      have hin : impl_in.f y 0 (wrap64 ((l.length : Int) - x)) = some (decide (0 ≤ y ∧ y ≤ (l.length : Int) - x)) := by
        unfold impl_in.f
        rw [w64 (by omega) (by omega)]
        by_cases h : 0 ≤ y <;> simp [h]
      rw [hin]
      simp only [Option.bind_some, if_true, Bool.true_and]
      by_cases h3 : 0 ≤ y ∧ y ≤ (l.length : Int) - x
      · rw [decide_eq_true h3, w64 (x := x + y) (by omega) (by omega), implCut_f (x + y) hb (by omega)]
        simp only [Option.bind_some, if_true, Bool.true_and]
        cases h4 : isC l (x + y) with
        | false => simp
        | true =>
          cases h5 : isT put with
          | false => simp
          | true =>
            have hpl := isT_len h5
            rw [w64 (x := (l.length : Int) - y) (by omega) (by omega), w64 (by omega) (by omega)]
            simp
      · rw [decide_eq_false h3]; simp
theorem szByteS_f (l : List Int) (a : Int) (h0 : 0 ≤ a) (h1 : a ≤ 1048576) (hl : l.length ≤ 9223372036854775807) :
    laws_szByteS.f l a = some (if (l.length : Int) ≤ a then a - (l.length : Int) else -1) := by
  unfold laws_szByteS.f
  rw [w64 (x := a - (l.length : Int)) (by omega) (by omega)]
  by_cases h : (l.length : Int) ≤ a
  · rw [if_neg (by omega), if_pos h]
  · rw [if_pos (by omega), if_neg h]
theorem szEdit_f (x y : Int) (l : List Int) (a : Int) (h0 : 0 ≤ a) (h1 : a ≤ 1048576) (hl : l.length ≤ 9223372036854775807) :
    laws_szEdit.f x y l a = some (if (l.length : Int) ≤ a then a - (l.length : Int) else -1) := by
  unfold laws_szEdit.f
  rw [szByteS_f l a h0 h1 hl]
  simp only [Option.bind_some]
  by_cases h : (l.length : Int) ≤ a
  · rw [if_pos h, if_neg (by omega)]
  · rw [if_neg h, if_pos (by omega)]
theorem toEdit_f (k : Nat) (x y : Int) (l : List Int) (hk : l.length < k) (hl : l.length ≤ 1048576) : laws_toEdit.f k x y l = some (x, y, l) := by
  unfold laws_toEdit.f
  rw [toByteS_f k l hk hl]
  rfl
theorem eqEdit_self (k : Nat) (x y : Int) (l : List Int) (hk : l.length < k) (hl : l.length ≤ 1048576) : laws_eqEdit.f k x y l x y l = some true := by
  unfold laws_eqEdit.f
  rw [if_pos rfl, if_pos rfl, eqByteS_self k l hk hl]
  rfl
theorem markByteS_f (k : Nat) (l : List Int) (m : Int) (hk : l.length < k) (hl : l.length ≤ 1048576) (h0 : 0 ≤ m) (h1 : m ≤ 4611686018427387904) : laws_markByteS.f k l m = some (m + (l.length : Int), marks l.length m) := by
  unfold laws_markByteS.f
  exact mark_loop (L := fun k out x i => laws_markByteS.l0 k out x i) l.length m (fun k out i hi ho => by
    simp only [laws_markByteS.l0]
    rw [if_pos (by omega), if_pos (by omega), w64s i (by omega), w64 (x := m + (i : Int) + 1) (by omega) (by omega)]
    congr 1
    omega) (fun k out ho => by
    simp only [laws_markByteS.l0]
    rw [if_neg (by omega)]) k l (by omega) rfl
theorem heldByteS_f (k : Nat) (n : Nat) (m : Int) (hk : n < k) (hl : n ≤ 1048576) (h0 : 0 ≤ m) (h1 : m ≤ 4611686018427387904) : laws_heldByteS.f k (marks n m) m = some (m + (n : Int)) := by
  unfold laws_heldByteS.f
  have hm := marks_length n m
  exact held_loop (L := fun k x i => laws_heldByteS.l0 k (marks n m) x i) n m (fun k i hi => by
    simp only [laws_heldByteS.l0]
    rw [if_pos (by omega), if_pos (by omega), rd_nat, if_pos (marks_getD n m i hi), w64s i (by omega), w64 (x := m + (i : Int) + 1) (by omega) (by omega)]
    congr 1
    omega) (fun k => by
    simp only [laws_heldByteS.l0]
    rw [if_neg (by omega)]) k (by omega)
theorem markEdit_f (k : Nat) (x y : Int) (l : List Int) (m : Int) (hk : l.length < k) (hl : l.length ≤ 1048576) (h0 : 0 ≤ m) (h1 : m ≤ 4611686018427387904) : laws_markEdit.f k x y l m = some (m + (l.length : Int), marks l.length m) := by
  unfold laws_markEdit.f
  rw [markByteS_f k l m hk hl h0 h1]; rfl
theorem heldEdit_f (k : Nat) (x y : Int) (n : Nat) (m : Int) (hk : n < k) (hl : n ≤ 1048576) (h0 : 0 ≤ m) (h1 : m ≤ 4611686018427387904) : laws_heldEdit.f k x y (marks n m) m = some (m + (n : Int)) := by
  unfold laws_heldEdit.f
  rw [heldByteS_f k n m hk hl h0 h1]
  simp only [Option.bind_some]
  rw [if_neg (by omega)]
theorem isEd_range {l put : List Int} {x y : Int} (h : isEd l x y put = true) : 0 ≤ x ∧ 0 ≤ y ∧ x + y ≤ (l.length : Int) ∧ l.length ≤ 400 ∧ put.length ≤ 400 := by
  unfold isEd at h
  simp only [Bool.and_eq_true, decide_eq_true_eq] at h
  obtain ⟨⟨⟨⟨⟨h1, h2⟩, h3⟩, h4⟩, h5⟩, h6⟩ := h
  have a1 := isT_len h1
  have a2 := isC_range h2
  have a3 := isT_len h5
  refine ⟨by omega, by omega, by omega, by omega, by omega⟩
/-- The inverse. -/
def ebk (l : List Int) (x y : Int) (put : List Int) : Int × Int × List Int × Bool := if isEd l x y put = true then (x, (put.length : Int), (l.take (x + y).toNat).drop x.toNat, true) else (0, 0, [], false)
theorem specBack_f {l put : List Int} (k : Nat) (x y : Int) (hb : Bytes.okBytes l = true) (hp : Bytes.okBytes put = true) (hk : 411 ≤ k) : spec_EditBack.f k l x y put = some (ebk l x y put) := by
  unfold spec_EditBack.f ebk
  rw [specEdit_f k x y hb hp hk, Option.bind_some]
  by_cases h : isEd l x y put = true
  · obtain ⟨h1, h2, h3, h4, h5⟩ := isEd_range h
    have hlen : ((l.take (x + y).toNat).drop x.toNat).length ≤ 400 := by rw [List.length_drop, List.length_take]; omega
    rw [if_pos h, if_pos h, Option.bind_some, w64 (x := x + y) (by omega) (by omega), if_pos (by omega), if_pos (by omega), if_pos (by omega), List.nil_append, List.length_nil, if_pos (by omega)]
  · rw [if_neg h, if_neg h]
theorem implBack_f {l put : List Int} (x y : Int) (hb : Bytes.okBytes l = true) (hp : Bytes.okBytes put = true) : impl_EditBack.f l x y put = some (ebk l x y put) := by
  unfold impl_EditBack.f ebk
  rw [implEdit_f x y hb hp, Option.bind_some]
  by_cases h : isEd l x y put = true
  · obtain ⟨h1, h2, h3, h4, h5⟩ := isEd_range h
    have hlen : ((l.take (x + y).toNat).drop x.toNat).length ≤ 400 := by rw [List.length_drop, List.length_take]; omega
    unfold impl_Edit_back.f slices_Clone_byte_byte.f
    rw [if_pos h, if_pos h, w64 (x := x + y) (by omega) (by omega), if_pos (by omega), if_pos (by omega), if_pos (by omega), if_pos (by omega), Option.bind_some, Option.bind_some]
  · rw [if_neg h, if_neg h]
theorem ebk_len (l : List Int) (x y : Int) (put : List Int) : (ebk l x y put).2.2.1.length ≤ l.length := by
  unfold ebk
  split
  · simp only [List.length_drop, List.length_take]; omega
  · simp
theorem FnExactEditBack (l0 : List Int) (a1_0 : Int) (a1_1 : Int) (l1_2 : List Int) (wl0 : (l0.length ≤ maxLen ∧ ∀ x ∈ l0, (Lit.int .u8 x).wf = true)) (wa1_0 : (Lit.int .i64 a1_0).wf = true) (wa1_1 : (Lit.int .i64 a1_1).wf = true) (wl1_2 : (l1_2.length ≤ maxLen ∧ ∀ x ∈ l1_2, (Lit.int .u8 x).wf = true)) : ∃ k, laws_FnExactEditBack.f k l0 a1_0 a1_1 l1_2 = some true := by
  have ha := okBytes_wf wl0.2
  have hp := okBytes_wf wl1_2.2
  have hm : l1_2.length ≤ 9223372036854775807 := by have := wl1_2.1; unfold maxLen at this; omega
  unfold laws_FnExactEditBack.f
  by_cases hl : (l0.length : Int) > 1048576
  · exact ⟨9, by rw [if_pos hl]⟩
  · rw [szEdit_f a1_0 a1_1 l1_2 1048576 (by omega) (by omega) hm]
    simp only [if_neg hl, Option.bind_some]
    by_cases hl2 : (l1_2.length : Int) ≤ 1048576
    · refine ⟨3000003, ?_⟩
      obtain ⟨k, hk⟩ : ∃ k : Nat, k = 3000000 := ⟨_, rfl⟩
      rw [show (3000003 : Nat) = k + 3 by omega, if_pos hl2, if_neg (by omega), toByteS_f _ l0 (by omega) (by omega), toEdit_f _ a1_0 a1_1 l1_2 (by omega) (by omega)]
      simp only [Option.bind_some]
      rw [specBack_f (k + 3) a1_0 a1_1 ha hp (by omega), implBack_f a1_0 a1_1 ha hp]
      have hlen := ebk_len l0 a1_0 a1_1 l1_2
      generalize hr : ebk l0 a1_0 a1_1 l1_2 = r at hlen
      obtain ⟨r1, r2, r3, r4⟩ := r
      simp only at hlen
      simp only [Option.bind_some]
      rw [eqEdit_self (k + 3) r1 r2 r3 (by omega) (by omega)]
      simp only [Option.bind_some, if_true, bne_self_eq_false, laws_FnExactEditBack.j0, Bool.false_eq_true, if_false]
      rw [toByteS_f _ l0 (by omega) (by omega), toEdit_f _ a1_0 a1_1 l1_2 (by omega) (by omega)]
      simp only [Option.bind_some]
      rw [eqByteS_self _ l0 (by omega) (by omega)]
      simp only [Option.bind_some, if_true]
      rw [eqEdit_self _ a1_0 a1_1 l1_2 (by omega) (by omega)]
      simp only [Option.bind_some, if_true]
      rw [markByteS_f _ l0 1 (by omega) (by omega) (by omega) (by omega)]
      simp only [Option.bind_some]
      rw [markEdit_f _ a1_0 a1_1 l1_2 _ (by omega) (by omega) (by omega) (by omega)]
      simp only [Option.bind_some]
      rw [if_neg (by omega), eqEdit_self _ r1 r2 r3 (by omega) (by omega)]
      simp only [Option.bind_some, if_true, laws_FnExactEditBack.j1, bne_self_eq_false, Bool.false_eq_true, if_false]
      rw [markEdit_f _ r1 r2 r3 1 (by omega) (by omega) (by omega) (by omega)]
      simp only [Option.bind_some]
      rw [heldEdit_f _ r1 r2 r3.length 1 (by omega) (by omega) (by omega) (by omega)]
      simp only [Option.bind_some, if_true]
      rw [if_neg (by omega), toByteS_f _ l0 (by omega) (by omega), toEdit_f _ a1_0 a1_1 l1_2 (by omega) (by omega)]
      simp only [Option.bind_some]
      rw [implBack_f a1_0 a1_1 ha hp, hr]
      simp only [Option.bind_some]
      rw [eqEdit_self _ r1 r2 r3 (by omega) (by omega)]
      simp only [Option.bind_some, if_true, laws_FnExactEditBack.j2, bne_self_eq_false, Bool.false_eq_true, if_false]
      rw [heldEdit_f _ r1 r2 r3.length 1 (by omega) (by omega) (by omega) (by omega)]
      simp only [Option.bind_some, if_true]
      rw [if_neg (by omega)]
    · refine ⟨9, ?_⟩
      rw [if_neg hl2, if_pos (by omega)]

end Go.Proofs.YthbmijnpmffmkaaDoor.Pure
