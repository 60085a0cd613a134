/-
  The law FnExactReqOk in plain words: what the program's function computes is what the reference's computes. No memory, no machine.
-/
import Derived.Test.YthbmijnpmffmkaaDoorPFnExactReqOkx
import Derived.Test.YthbmijnpmffmkaaDoorGen
namespace Go.Proofs.YthbmijnpmffmkaaDoor.Pure
open Go.RowKit Go.Proofs.YthbmijnpmffmkaaDoor.PFnExactReqOk Go.Proofs.YthbmijnpmffmkaaDoorW.PrintWords Go.Proofs.YthbmijnpmffmkaaDoorW.PrintLast Go.Proofs.YthbmijnpmffmkaaDoorW.PrintMore Go.Proofs.YthbmijnpmffmkaaDoor.Gen
set_option linter.unusedVariables false
set_option linter.unusedSimpArgs false

theorem wf_i64 {x : Int} (h : (Lit.int .i64 x).wf = true) : -9223372036854775808 ≤ x ∧ x ≤ 9223372036854775807 := by
  simp only [Lit.wf, Bool.and_eq_true, decide_eq_true_eq] at h
  exact ⟨h.1, h.2⟩
theorem wf_u8 {x : Int} (h : (Lit.int .u8 x).wf = true) : 0 ≤ x ∧ x ≤ 255 := by
  simp only [Lit.wf, Bool.and_eq_true, decide_eq_true_eq] at h
  exact ⟨h.1, h.2⟩
/-- A code point. -/
def isCp (r : Int) : Prop := 0 ≤ r ∧ r ≤ 1114111 ∧ ¬ (55296 ≤ r ∧ r ≤ 57343)
instance (r : Int) : Decidable (isCp r) := by unfold isCp; infer_instance
/-- Its encoding. -/
def rb (r : Int) : List Int :=
  if r < 128 then [r] else if r < 2048 then [192 + r / 64, 128 + r % 64] else if r < 65536 then [224 + r / 4096, 128 + r / 64 % 64, 128 + r % 64]
  else [240 + r / 262144, 128 + r / 4096 % 64, 128 + r / 64 % 64, 128 + r % 64]
theorem rb_length (r : Int) : (rb r).length ≤ 4 := by
  unfold rb
  (repeat' split) <;> simp
theorem by256 {x : Int} (h0 : 0 ≤ x) (h1 : x ≤ 255) : wrap64 x % 256 = x := by unfold wrap64; omega
theorem specRB_f (k : Nat) (hk : 1 ≤ k) (r : Int) : spec_RuneBytes.f k r = some (if isCp r then rb r else []) := by
  obtain ⟨k, rfl⟩ : ∃ m, k = m + 1 := ⟨k - 1, by omega⟩
  by_cases h0 : r < 0
  · have hn : ¬ isCp r := fun h => by unfold isCp at h; omega
    simp only [spec_RuneBytes.f, spec_RuneBytes.j0]
    rw [if_pos h0, if_neg hn]
    simp
  by_cases h1 : r > 1114111
  · have hn : ¬ isCp r := fun h => by unfold isCp at h; omega
    simp only [spec_RuneBytes.f, spec_RuneBytes.j0]
    rw [if_neg h0, if_pos h1, if_neg hn]
    simp
  have key : ∀ b : Bool, (b = true ↔ 55296 ≤ r ∧ r ≤ 57343) → spec_RuneBytes.j0 (k + 1) r b = some (if isCp r then rb r else []) := by
    intro b hb
    simp only [spec_RuneBytes.j0]
    by_cases h2 : b = true
    · have hn : ¬ isCp r := fun h => by have := hb.1 h2; unfold isCp at h; omega
      rw [if_pos h2, if_neg hn]
    · have hc : isCp r := ⟨by omega, by omega, fun h => h2 (hb.2 h)⟩
      rw [if_neg h2, if_pos hc, Int.tdiv_eq_ediv_of_nonneg (by omega), Int.tdiv_eq_ediv_of_nonneg (by omega), Int.tdiv_eq_ediv_of_nonneg (by omega), Int.tmod_eq_emod_of_nonneg (by omega)]
      have e1 : wrap64 (r / 64) = r / 64 := w64 (by omega) (by omega)
      have e2 : wrap64 (r / 4096) = r / 4096 := w64 (by omega) (by omega)
      have e3 : wrap64 (r / 262144) = r / 262144 := w64 (by omega) (by omega)
      rw [e1, e2, e3, Int.tmod_eq_emod_of_nonneg (by omega), Int.tmod_eq_emod_of_nonneg (by omega)]
      unfold rb
      by_cases c1 : r < 128
      · rw [if_pos c1, if_pos c1, show r % 256 = r by omega]
      · rw [if_neg c1, if_neg c1]
        by_cases c2 : r < 2048
        · rw [if_pos c2, if_pos c2, by256 (by omega) (by omega), by256 (by omega) (by omega)]
        · rw [if_neg c2, if_neg c2]
          by_cases c3 : r < 65536
          · rw [if_pos c3, if_pos c3, by256 (by omega) (by omega), by256 (by omega) (by omega), by256 (by omega) (by omega)]
          · rw [if_neg c3, if_neg c3, by256 (by omega) (by omega), by256 (by omega) (by omega), by256 (by omega) (by omega), by256 (by omega) (by omega)]
  unfold spec_RuneBytes.f
  rw [if_neg h0, if_neg h1]
  by_cases h2 : r ≥ 55296
  · rw [if_pos h2]
    exact key _ (by rw [decide_eq_true_eq]; omega)
  · rw [if_neg h2]
    exact key _ ⟨fun h => (by cases h), fun h => (by omega)⟩
theorem toByteS_f (k : Nat) (l : List Int) (hk : l.length < k) (hl : l.length ≤ 1048576) : laws_toByteS.f k l = some l := by
  have h := map_loop (L := fun k out i => laws_toByteS.l0 k l out i) l id 0 0 (fun k out i _ hi ho => by
      simp only [laws_toByteS.l0]
      rw [if_pos (by omega), if_pos (by omega), if_pos (by omega), w64s i (by omega), rd_nat]
      rfl) (fun k out ho => by
      simp only [laws_toByteS.l0]
      rw [if_neg (by omega)]) k (List.replicate ((l.length : Int)).toNat 0) (by omega) (by simp)
  unfold laws_toByteS.f
  rw [if_pos (by omega), if_pos (by omega)]
  simpa using h
theorem eqByteS_f (k : Nat) (l l' : List Int) (hk : l.length < k) (hl : l.length ≤ 1048576) : laws_eqByteS.f k l l' = some (decide (l = l')) := by
  unfold laws_eqByteS.f
  by_cases e : l.length = l'.length
  · rw [if_pos (by omega)]
    obtain ⟨b, h, hb⟩ := all_loop (L := fun k i => laws_eqByteS.l0 k l l' i) l.length 0 (fun i => decide (l.getD i 0 = l'.getD i 0)) (fun k i _ hi => by
      simp only [laws_eqByteS.l0]
      rw [if_pos (by omega), if_pos (by omega), if_pos (by omega), w64s i (by omega), rd_nat, rd_nat]
      simp only [decide_eq_true_eq]) (fun k => by
      simp only [laws_eqByteS.l0]
      rw [if_neg (by omega)]) k (by omega)
    refine h.trans ?_
    congr 1
    simp only [decide_eq_true_eq] at hb
    rw [Bool.eq_iff_iff, decide_eq_true_eq]
    exact hb.trans (eq_of_getD 0 e)
  · rw [if_neg (by omega)]
    congr 1
    symm
    exact decide_eq_false (fun h => e (by rw [h]))
theorem eqByteS_self (k : Nat) (l : List Int) (hk : l.length < k) (hl : l.length ≤ 1048576) : laws_eqByteS.f k l l = some true := by
  rw [eqByteS_f k l l hk hl]; simp
theorem strOfNums_inj {l l' : List Int} (h : Bytes.okBytes l = true) (h' : Bytes.okBytes l' = true) : (strOfNums l).toList = (strOfNums l').toList ↔ l = l' := by
  constructor
  · intro e
    rw [ByteArray.toList_eq, ByteArray.toList_eq] at e
    have e2 : l.map (fun n => UInt8.ofNat n.toNat) = l'.map (fun n => UInt8.ofNat n.toNat) := by simpa [strOfNums] using e
    have hl : l.length = l'.length := by simpa using congrArg List.length e2
    refine List.ext_getElem hl fun i h1 h2 => ?_
    have e3 : (l.map (fun n => UInt8.ofNat n.toNat))[i]? = (l'.map (fun n => UInt8.ofNat n.toNat))[i]? := by rw [e2]
    rw [List.getElem?_map, List.getElem?_map, List.getElem?_eq_getElem h1, List.getElem?_eq_getElem h2] at e3
    simp only [Option.map_some, Option.some.injEq] at e3
    have b1 := Bytes.okBytes_mem h (List.getElem_mem h1)
    have b2 := Bytes.okBytes_mem h' (List.getElem_mem h2)
    have e4 := congrArg UInt8.toNat e3
    rw [UInt8.toNat_ofNat_of_lt' (by show (l[i]).toNat < 256; omega), UInt8.toNat_ofNat_of_lt' (by show (l'[i]).toNat < 256; omega)] at e4
    omega
  · rintro rfl; rfl
/-- What is told of a place's letter: by the bytes that stand there. -/
def rn4 (n b0 b1 b2 b3 : Nat) : Int × Int :=
  if (Lib.decodeN n b0 b1 b2 b3).1 = 65533 ∧ (Lib.decodeN n b0 b1 b2 b3).2 ≤ 1 then (-1, 0) else (((Lib.decodeN n b0 b1 b2 b3).1 : Int), ((Lib.decodeN n b0 b1 b2 b3).2 : Int))
def rn (l : List Int) (i : Nat) : Int × Int :=
  if i < l.length then rn4 (l.length - i) (l.getD i 0).toNat (l.getD (i + 1) 0).toNat (l.getD (i + 2) 0).toNat (l.getD (i + 3) 0).toNat else (-1, 0)
theorem decodeN_le (n b0 b1 b2 b3 : Nat) (h0 : b0 < 256) : (Lib.decodeN n b0 b1 b2 b3).1 ≤ 1114111 ∧ (Lib.decodeN n b0 b1 b2 b3).2 ≤ 4 ∧ 1 ≤ (Lib.decodeN n b0 b1 b2 b3).2 := by
  unfold Lib.decodeN
  (repeat' split) <;> simp only <;> omega
theorem getD_drop (l : List Int) (i j : Nat) : (l.drop i).getD j 0 = l.getD (i + j) 0 := by
  rw [List.getD_eq_getElem?_getD, List.getD_eq_getElem?_getD, List.getElem?_drop]
theorem rb1 {b0 r : Int} (hr : r = b0) (h0 : 0 ≤ b0) (h1 : b0 < 192) : (if isCp r then rb r else []) = [b0] ↔ b0 < 128 := by
  subst hr
  rw [if_pos (show isCp r from ⟨by omega, by omega, by omega⟩)]
  unfold rb
  (repeat' split) <;> simp <;> omega
theorem rb2 {b0 b1 r : Int} (hr : r = 64 * (b0 - 192) + b1 - 128) (h0 : 192 ≤ b0 ∧ b0 < 224) (h1 : 0 ≤ b1 ∧ b1 ≤ 255) : (if isCp r then rb r else []) = [b0, b1] ↔ 128 ≤ b1 ∧ b1 < 192 ∧ 128 ≤ r := by
  by_cases hc : isCp r
  · rw [if_pos hc]
    unfold isCp at hc
    unfold rb
    (repeat' split) <;> simp only [List.cons.injEq, List.nil_eq, and_true, and_false, reduceCtorEq, false_iff, iff_false] <;> omega
  · rw [if_neg hc]
    unfold isCp at hc
    simp only [reduceCtorEq, List.nil_eq, false_iff]
    omega
theorem rb3 {b0 b1 b2 r : Int} (hr : r = 64 * (64 * (b0 - 224) + b1 - 128) + b2 - 128) (h0 : 224 ≤ b0 ∧ b0 < 240) (h1 : 0 ≤ b1 ∧ b1 ≤ 255) (h2 : 0 ≤ b2 ∧ b2 ≤ 255) :
    (if isCp r then rb r else []) = [b0, b1, b2] ↔ 128 ≤ b1 ∧ b1 < 192 ∧ 128 ≤ b2 ∧ b2 < 192 ∧ 2048 ≤ r ∧ ¬ (55296 ≤ r ∧ r ≤ 57343) := by
  by_cases hc : isCp r
  · rw [if_pos hc]
    unfold isCp at hc
    unfold rb
    (repeat' split) <;> simp only [List.cons.injEq, List.nil_eq, and_true, and_false, reduceCtorEq, false_iff, iff_false] <;> omega
  · rw [if_neg hc]
    unfold isCp at hc
    simp only [reduceCtorEq, List.nil_eq, false_iff]
    omega
theorem rb4 {b0 b1 b2 b3 r : Int} (hr : r = 64 * (64 * (64 * (b0 - 240) + b1 - 128) + b2 - 128) + b3 - 128) (h0 : 240 ≤ b0 ∧ b0 ≤ 255) (h1 : 0 ≤ b1 ∧ b1 ≤ 255) (h2 : 0 ≤ b2 ∧ b2 ≤ 255) (h3 : 0 ≤ b3 ∧ b3 ≤ 255) :
    (if isCp r then rb r else []) = [b0, b1, b2, b3] ↔ 128 ≤ b1 ∧ b1 < 192 ∧ 128 ≤ b2 ∧ b2 < 192 ∧ 128 ≤ b3 ∧ b3 < 192 ∧ 65536 ≤ r ∧ r ≤ 1114111 := by
  by_cases hc : isCp r
  · rw [if_pos hc]
    unfold isCp at hc
    unfold rb
    (repeat' split) <;> simp only [List.cons.injEq, List.nil_eq, and_true, and_false, reduceCtorEq, false_iff, iff_false] <;> omega
  · rw [if_neg hc]
    unfold isCp at hc
    simp only [reduceCtorEq, List.nil_eq, false_iff]
    omega
theorem rn4_1 (n b0 b1 b2 b3 : Nat) (h0 : b0 < 192) : rn4 n b0 b1 b2 b3 = if b0 < 128 then ((b0 : Int), 1) else (-1, 0) := by
  have hd : Lib.decodeN n b0 b1 b2 b3 = if b0 < 128 then (b0, 1) else (65533, 1) := by
    unfold Lib.decodeN
    (repeat' split) <;> first | rfl | (exfalso; omega)
  unfold rn4
  rw [hd]
  by_cases h : b0 < 128
  · rw [if_pos h, if_pos h, if_neg (by simp only; omega)]; rfl
  · rw [if_neg h, if_neg h, if_pos (by simp)]
theorem rn4_2 (n b0 b1 b2 b3 : Nat) (r : Int) (hr : r = 64 * ((b0 : Int) - 192) + b1 - 128) (h0 : 192 ≤ b0 ∧ b0 < 224) (h1 : b1 < 256) :
    rn4 n b0 b1 b2 b3 = if 2 ≤ n ∧ 128 ≤ (b1 : Int) ∧ (b1 : Int) < 192 ∧ 128 ≤ r then (r, 2) else (-1, 0) := by
  have hd : Lib.decodeN n b0 b1 b2 b3 = if 2 ≤ n ∧ 128 ≤ (b1 : Int) ∧ (b1 : Int) < 192 ∧ 128 ≤ r then (r.toNat, 2) else (65533, 1) := by
    unfold Lib.decodeN
    (repeat' split) <;> first | rfl | (exfalso; omega) | (apply Prod.ext <;> simp only <;> omega)
  unfold rn4
  rw [hd]
  by_cases h : 2 ≤ n ∧ 128 ≤ (b1 : Int) ∧ (b1 : Int) < 192 ∧ 128 ≤ r
  · rw [if_pos h, if_pos h, if_neg (by simp)]
    apply Prod.ext <;> simp only <;> omega
  · rw [if_neg h, if_neg h, if_pos (by simp)]
theorem rn4_3 (n b0 b1 b2 b3 : Nat) (r : Int) (hr : r = 64 * (64 * ((b0 : Int) - 224) + b1 - 128) + b2 - 128) (h0 : 224 ≤ b0 ∧ b0 < 240) (h1 : b1 < 256) (h2 : b2 < 256) :
    rn4 n b0 b1 b2 b3 = if 3 ≤ n ∧ 128 ≤ (b1 : Int) ∧ (b1 : Int) < 192 ∧ 128 ≤ (b2 : Int) ∧ (b2 : Int) < 192 ∧ 2048 ≤ r ∧ ¬ (55296 ≤ r ∧ r ≤ 57343) then (r, 3) else (-1, 0) := by
  have hd : Lib.decodeN n b0 b1 b2 b3 = if 3 ≤ n ∧ 128 ≤ (b1 : Int) ∧ (b1 : Int) < 192 ∧ 128 ≤ (b2 : Int) ∧ (b2 : Int) < 192 ∧ 2048 ≤ r ∧ ¬ (55296 ≤ r ∧ r ≤ 57343) then (r.toNat, 3) else (65533, 1) := by
    unfold Lib.decodeN
    (repeat' split) <;> first | rfl | (exfalso; omega) | (apply Prod.ext <;> simp only <;> omega)
  unfold rn4
  rw [hd]
  by_cases h : 3 ≤ n ∧ 128 ≤ (b1 : Int) ∧ (b1 : Int) < 192 ∧ 128 ≤ (b2 : Int) ∧ (b2 : Int) < 192 ∧ 2048 ≤ r ∧ ¬ (55296 ≤ r ∧ r ≤ 57343)
  · rw [if_pos h, if_pos h, if_neg (by simp)]
    apply Prod.ext <;> simp only <;> omega
  · rw [if_neg h, if_neg h, if_pos (by simp)]
theorem rn4_4 (n b0 b1 b2 b3 : Nat) (r : Int) (hr : r = 64 * (64 * (64 * ((b0 : Int) - 240) + b1 - 128) + b2 - 128) + b3 - 128) (h0 : 240 ≤ b0 ∧ b0 < 256) (h1 : b1 < 256) (h2 : b2 < 256) (h3 : b3 < 256) :
    rn4 n b0 b1 b2 b3 = if 4 ≤ n ∧ 128 ≤ (b1 : Int) ∧ (b1 : Int) < 192 ∧ 128 ≤ (b2 : Int) ∧ (b2 : Int) < 192 ∧ 128 ≤ (b3 : Int) ∧ (b3 : Int) < 192 ∧ 65536 ≤ r ∧ r ≤ 1114111 then (r, 4) else (-1, 0) := by
  have hd : Lib.decodeN n b0 b1 b2 b3 = if 4 ≤ n ∧ 128 ≤ (b1 : Int) ∧ (b1 : Int) < 192 ∧ 128 ≤ (b2 : Int) ∧ (b2 : Int) < 192 ∧ 128 ≤ (b3 : Int) ∧ (b3 : Int) < 192 ∧ 65536 ≤ r ∧ r ≤ 1114111 then (r.toNat, 4) else (65533, 1) := by
    unfold Lib.decodeN
    (repeat' split) <;> first | rfl | (exfalso; omega) | (apply Prod.ext <;> simp only <;> omega)
  unfold rn4
  rw [hd]
  by_cases h : 4 ≤ n ∧ 128 ≤ (b1 : Int) ∧ (b1 : Int) < 192 ∧ 128 ≤ (b2 : Int) ∧ (b2 : Int) < 192 ∧ 128 ≤ (b3 : Int) ∧ (b3 : Int) < 192 ∧ 65536 ≤ r ∧ r ≤ 1114111
  · rw [if_pos h, if_pos h, if_neg (by simp)]
    apply Prod.ext <;> simp only <;> omega
  · rw [if_neg h, if_neg h, if_pos (by simp)]
theorem cut_getD (l : List Int) (i : Nat) : ∀ s : Nat, i + s ≤ l.length → (l.take (i + s)).drop i = (List.range s).map fun j => l.getD (i + j) 0 := by
  intro s hs
  apply List.ext_getElem?
  intro j
  rw [List.getElem?_drop, List.getElem?_take, List.getElem?_map]
  by_cases hj : j < s
  · rw [if_pos (by omega), List.getElem?_range hj, List.getElem?_eq_getElem (by omega)]
    simp only [Option.map_some, Option.some.injEq]
    rw [List.getD_eq_getElem?_getD, List.getElem?_eq_getElem (by omega)]
    rfl
  · rw [if_neg (by omega), List.getElem?_eq_none (l := List.range s) (by simp; omega)]
    rfl
theorem okBytes_cp (r : Int) : Bytes.okBytes (if isCp r then rb r else []) = true := by
  by_cases hc : isCp r
  · rw [if_pos hc]
    unfold isCp at hc
    apply Bytes.okBytes_of
    intro x hx
    unfold rb at hx
    (repeat' split at hx) <;> simp at hx <;> omega
  · rw [if_neg hc]; rfl
theorem specRune_end (k : Nat) (hk : 1 ≤ k) (l : List Int) (i s : Nat) (r : Int) (hb : Bytes.okBytes l = true) (hl : l.length ≤ 1048576) (his : i + s ≤ l.length) :
    spec_l01Rune.l0 (k + 1) l (i : Int) (s : Int) r (s : Int) = some (if (if isCp r then rb r else []) = (List.range s).map (fun j => l.getD (i + j) 0) then (r, (s : Int)) else (-1, 0)) := by
  have e1 : wrap64 ((i : Int) + (s : Int)) = ((i + s : Nat) : Int) := by rw [w64 (by omega) (by omega)]; omega
  have hcut : Bytes.okBytes ((List.range s).map fun j => l.getD (i + j) 0) = true := by
    rw [← cut_getD l i s his]
    exact Bytes.okBytes_drop (Bytes.okBytes_take hb _) _
  have hcp := okBytes_cp r
  have hrb := specRB_f k hk r
  simp only [spec_l01Rune.l0]
  rw [if_neg (by omega), hrb, Option.bind_some, e1, if_pos (by omega), if_pos (by omega), if_pos (by omega), Int.toNat_natCast, Int.toNat_natCast, cut_getD l i s his]
  generalize (if isCp r then rb r else []) = L1 at hcp
  generalize (List.range s).map (fun j => l.getD (i + j) 0) = L2 at hcut
  by_cases h : L1 = L2
  · rw [if_pos ((strOfNums_inj hcp hcut).2 h), if_pos h]
  · rw [if_neg (fun e => h ((strOfNums_inj hcp hcut).1 e)), if_neg h]
theorem specRune_step (k : Nat) (l : List Int) (i s j : Nat) (r : Int) (hb : Bytes.okBytes l = true) (hl : l.length ≤ 1048576) (hj : j < s) (his : i + s ≤ l.length) (hr : -1000000000 ≤ r ∧ r ≤ 1000000000) :
    spec_l01Rune.l0 (k + 1) l (i : Int) (s : Int) r (j : Int) = spec_l01Rune.l0 k l (i : Int) (s : Int) (64 * r + l.getD (i + j) 0 - 128) ((j + 1 : Nat) : Int) := by
  have hx := Bytes.okBytes_getD hb (i + j)
  have e1 : wrap64 ((i : Int) + (j : Int)) = ((i + j : Nat) : Int) := by rw [w64 (by omega) (by omega)]; omega
  have e2 : wrap64 (wrap64 (wrap64 (64 * r) + wrap64 (l.getD (i + j) 0)) - 128) = 64 * r + l.getD (i + j) 0 - 128 := by
    rw [w64 (x := 64 * r) (by omega) (by omega), w64 (x := l.getD (i + j) 0) (by omega) (by omega), w64 (x := 64 * r + l.getD (i + j) 0) (by omega) (by omega), w64 (by omega) (by omega)]
  simp only [spec_l01Rune.l0]
  rw [if_pos (by omega), e1, if_pos (by omega), if_pos (by omega), rd_nat, e2, w64s j (by omega)]
theorem specRune_f (k : Nat) (hk : 9 ≤ k) (l : List Int) (i : Nat) (hb : Bytes.okBytes l = true) (hl : l.length ≤ 1048576) (hi : i < l.length) : spec_l01Rune.f k l (i : Int) = some (rn l i) := by
  obtain ⟨k, rfl⟩ : ∃ m, k = m + 9 := ⟨k - 9, by omega⟩
  have b0 := Bytes.okBytes_getD hb i
  have b1 := Bytes.okBytes_getD hb (i + 1)
  have b2 := Bytes.okBytes_getD hb (i + 2)
  have b3 := Bytes.okBytes_getD hb (i + 3)
  have j1 : ∀ (s : Nat) (r : Int), spec_l01Rune.j1 (k + 8) l (i : Int) (s : Int) r = if l.length - i < s then some (-1, 0) else spec_l01Rune.l0 (k + 7) l (i : Int) (s : Int) r 1 := by
    intro s r
    simp only [spec_l01Rune.j1]
    rw [w64 (x := (l.length : Int) - (i : Int)) (by omega) (by omega)]
    by_cases h : l.length - i < s
    · rw [if_pos h, if_pos (by omega)]
    · rw [if_neg h, if_neg (by omega)]
  unfold spec_l01Rune.f
  rw [if_neg (by omega), show decide ((i : Int) ≥ (l.length : Int)) = false from decide_eq_false (by omega)]
  simp only [spec_l01Rune.j0]
  rw [if_neg (by simp), if_pos (by omega), if_pos (by omega), rd_nat, w64 (x := l.getD i 0) (by omega) (by omega)]
  unfold rn
  rw [if_pos hi]
  generalize e0 : l.getD i 0 = x0 at b0
  generalize e1 : l.getD (i + 1) 0 = x1 at b1
  generalize e2 : l.getD (i + 2) 0 = x2 at b2
  generalize e3 : l.getD (i + 3) 0 = x3 at b3
  by_cases c4 : x0 ≥ 240
  · rw [if_pos c4, w64 (x := x0 - 240) (by omega) (by omega), show (4 : Int) = ((4 : Nat) : Int) from rfl, j1, rn4_4 (l.length - i) x0.toNat x1.toNat x2.toNat x3.toNat (64 * (64 * (64 * (x0 - 240) + x1 - 128) + x2 - 128) + x3 - 128) (by omega) (by omega) (by omega) (by omega) (by omega)]
    by_cases hn : l.length - i < 4
    · rw [if_pos hn, if_neg (fun h => by omega)]
    · rw [if_neg hn, show (1 : Int) = ((1 : Nat) : Int) from rfl, specRune_step (k + 6) l i 4 1 _ hb hl (by omega) (by omega) (by omega), e1,
        specRune_step (k + 5) l i 4 2 _ hb hl (by omega) (by omega) (by omega), e2, specRune_step (k + 4) l i 4 3 _ hb hl (by omega) (by omega) (by omega), e3, specRune_end (k + 3) (by omega) l i 4 _ hb hl (by omega)]
      have hm : (List.range 4).map (fun j => l.getD (i + j) 0) = [x0, x1, x2, x3] := by
        show [l.getD (i + 0) 0, l.getD (i + 1) 0, l.getD (i + 2) 0, l.getD (i + 3) 0] = _
        rw [Nat.add_zero, e0, e1, e2, e3]
      rw [hm]
      have key := rb4 (b0 := x0) (b1 := x1) (b2 := x2) (b3 := x3) (r := 64 * (64 * (64 * (x0 - 240) + x1 - 128) + x2 - 128) + x3 - 128) rfl (by omega) b1 b2 b3
      congr 1
      exact ite_congr (propext (key.trans ⟨fun h => ⟨by omega, by omega, by omega, by omega, by omega, by omega, by omega, by omega, by omega⟩, fun h => ⟨by omega, by omega, by omega, by omega, by omega, by omega, by omega, by omega⟩⟩)) (fun _ => rfl) (fun _ => rfl)
  · rw [if_neg c4]
    by_cases c3 : x0 ≥ 224
    · rw [if_pos c3, w64 (x := x0 - 224) (by omega) (by omega), show (3 : Int) = ((3 : Nat) : Int) from rfl, j1, rn4_3 (l.length - i) x0.toNat x1.toNat x2.toNat x3.toNat (64 * (64 * (x0 - 224) + x1 - 128) + x2 - 128) (by omega) (by omega) (by omega) (by omega)]
      by_cases hn : l.length - i < 3
      · rw [if_pos hn, if_neg (fun h => by omega)]
      · rw [if_neg hn, show (1 : Int) = ((1 : Nat) : Int) from rfl, specRune_step (k + 6) l i 3 1 _ hb hl (by omega) (by omega) (by omega), e1,
          specRune_step (k + 5) l i 3 2 _ hb hl (by omega) (by omega) (by omega), e2, specRune_end (k + 4) (by omega) l i 3 _ hb hl (by omega)]
        have hm : (List.range 3).map (fun j => l.getD (i + j) 0) = [x0, x1, x2] := by
          show [l.getD (i + 0) 0, l.getD (i + 1) 0, l.getD (i + 2) 0] = _
          rw [Nat.add_zero, e0, e1, e2]
        rw [hm]
        have key := rb3 (b0 := x0) (b1 := x1) (b2 := x2) (r := 64 * (64 * (x0 - 224) + x1 - 128) + x2 - 128) rfl (by omega) b1 b2
        congr 1
        exact ite_congr (propext (key.trans ⟨fun h => ⟨by omega, by omega, by omega, by omega, by omega, by omega, by omega⟩, fun h => ⟨by omega, by omega, by omega, by omega, by omega, by omega⟩⟩)) (fun _ => rfl) (fun _ => rfl)
    · rw [if_neg c3]
      by_cases c2 : x0 ≥ 192
      · rw [if_pos c2, w64 (x := x0 - 192) (by omega) (by omega), show (2 : Int) = ((2 : Nat) : Int) from rfl, j1, rn4_2 (l.length - i) x0.toNat x1.toNat x2.toNat x3.toNat (64 * (x0 - 192) + x1 - 128) (by omega) (by omega) (by omega)]
        by_cases hn : l.length - i < 2
        · rw [if_pos hn, if_neg (fun h => by omega)]
        · rw [if_neg hn, show (1 : Int) = ((1 : Nat) : Int) from rfl, specRune_step (k + 6) l i 2 1 _ hb hl (by omega) (by omega) (by omega), e1, specRune_end (k + 5) (by omega) l i 2 _ hb hl (by omega)]
          have hm : (List.range 2).map (fun j => l.getD (i + j) 0) = [x0, x1] := by
            show [l.getD (i + 0) 0, l.getD (i + 1) 0] = _
            rw [Nat.add_zero, e0, e1]
          rw [hm]
          have key := rb2 (b0 := x0) (b1 := x1) (r := 64 * (x0 - 192) + x1 - 128) rfl (by omega) b1
          congr 1
          exact ite_congr (propext (key.trans ⟨fun h => ⟨by omega, by omega, by omega, by omega⟩, fun h => ⟨by omega, by omega, by omega⟩⟩)) (fun _ => rfl) (fun _ => rfl)
      · rw [if_neg c2, show spec_l01Rune.j1 (k + 8) l (i : Int) 1 x0 = _ from j1 1 x0, rn4_1 (l.length - i) x0.toNat x1.toNat x2.toNat x3.toNat (by omega), if_neg (by omega), show spec_l01Rune.l0 (k + 7) l (i : Int) ((1 : Nat) : Int) x0 1 = _ from specRune_end (k + 6) (by omega) l i 1 x0 hb hl (by omega)]
        have hm : (List.range 1).map (fun j => l.getD (i + j) 0) = [x0] := by
          show [l.getD (i + 0) 0] = _
          rw [Nat.add_zero, e0]
        rw [hm]
        have key := rb1 (b0 := x0) (r := x0) rfl (by omega) (by omega)
        congr 1
        rw [ite_congr (propext (key.trans (⟨fun h => by omega, fun h => by omega⟩ : x0 < 128 ↔ x0.toNat < 128))) (fun _ => rfl) (fun _ => rfl), show ((x0.toNat : Nat) : Int) = x0 by omega]
        rfl
theorem specRune_out (k : Nat) (hk : 1 ≤ k) (l : List Int) (a : Int) (ha : a < 0 ∨ (l.length : Int) ≤ a) : spec_l01Rune.f k l a = some (-1, 0) := by
  obtain ⟨k, rfl⟩ : ∃ m, k = m + 1 := ⟨k - 1, by omega⟩
  have key : spec_l01Rune.j0 (k + 1) l a true = some (-1, 0) := by simp [spec_l01Rune.j0]
  unfold spec_l01Rune.f
  by_cases h : a < 0
  · rw [if_pos h]; exact key
  · rw [if_neg h, show decide (a ≥ (l.length : Int)) = true from decide_eq_true (by omega)]; exact key
/-- The letter at whatever place. -/
def rnA (l : List Int) (a : Int) : Int × Int := if 0 ≤ a ∧ a < (l.length : Int) then rn l a.toNat else (-1, 0)
theorem specRune_all (k : Nat) (hk : 9 ≤ k) (l : List Int) (a : Int) (hb : Bytes.okBytes l = true) (hl : l.length ≤ 1048576) : spec_l01Rune.f k l a = some (rnA l a) := by
  unfold rnA
  by_cases h : 0 ≤ a ∧ a < (l.length : Int)
  · rw [if_pos h]
    have := specRune_f k hk l a.toNat hb hl (by omega)
    rwa [show ((a.toNat : Nat) : Int) = a by omega] at this
  · rw [if_neg h]
    exact specRune_out k (by omega) l a (by omega)
theorem okBytes_wf {l : List Int} (h : ∀ x ∈ l, (Lit.int .u8 x).wf = true) : Bytes.okBytes l = true := Bytes.okBytes_of fun x hx => wf_u8 (h x hx)
/-- A byte that begins no letter. -/
def contB (x : Int) : Bool := decide (128 ≤ x ∧ x < 192)
/-- What a place's letter is: none, or of some bytes, of which the later ones begin none. -/
theorem rn_cases {l : List Int} {p : Nat} (hb : Bytes.okBytes l = true) (hp : p < l.length) :
    rn l p = (-1, 0) ∨ ∃ s : Nat, 1 ≤ s ∧ s ≤ 4 ∧ (rn l p).2 = (s : Int) ∧ 0 ≤ (rn l p).1 ∧ p + s ≤ l.length ∧ contB (l.getD p 0) = false ∧ ∀ j, 1 ≤ j → j < s → contB (l.getD (p + j) 0) = true := by
  have b0 := Bytes.okBytes_getD hb p
  have b1 := Bytes.okBytes_getD hb (p + 1)
  have b2 := Bytes.okBytes_getD hb (p + 2)
  have b3 := Bytes.okBytes_getD hb (p + 3)
  unfold rn
  rw [if_pos hp]
  unfold contB
  generalize e0 : l.getD p 0 = x0 at b0
  generalize e1 : l.getD (p + 1) 0 = x1 at b1
  generalize e2 : l.getD (p + 2) 0 = x2 at b2
  generalize e3 : l.getD (p + 3) 0 = x3 at b3
  by_cases c4 : 240 ≤ x0
  · rw [rn4_4 (l.length - p) x0.toNat x1.toNat x2.toNat x3.toNat (64 * (64 * (64 * (x0 - 240) + x1 - 128) + x2 - 128) + x3 - 128) (by omega) (by omega) (by omega) (by omega) (by omega)]
    by_cases h : 4 ≤ l.length - p ∧ 128 ≤ ((x1.toNat : Nat) : Int) ∧ ((x1.toNat : Nat) : Int) < 192 ∧ 128 ≤ ((x2.toNat : Nat) : Int) ∧ ((x2.toNat : Nat) : Int) < 192 ∧ 128 ≤ ((x3.toNat : Nat) : Int) ∧ ((x3.toNat : Nat) : Int) < 192 ∧ 65536 ≤ 64 * (64 * (64 * (x0 - 240) + x1 - 128) + x2 - 128) + x3 - 128 ∧ 64 * (64 * (64 * (x0 - 240) + x1 - 128) + x2 - 128) + x3 - 128 ≤ 1114111
    · rw [if_pos h]
      refine Or.inr ⟨4, by omega, by omega, rfl, by simp only; omega, by omega, by simp only [decide_eq_false_iff_not]; omega, fun j h1 h2 => ?_⟩
      obtain rfl | rfl | rfl : j = 1 ∨ j = 2 ∨ j = 3 := by omega
      · rw [e1, decide_eq_true_eq]; omega
      · rw [e2, decide_eq_true_eq]; omega
      · rw [e3, decide_eq_true_eq]; omega
    · rw [if_neg h]; exact Or.inl rfl
  · by_cases c3 : 224 ≤ x0
    · rw [rn4_3 (l.length - p) x0.toNat x1.toNat x2.toNat x3.toNat (64 * (64 * (x0 - 224) + x1 - 128) + x2 - 128) (by omega) (by omega) (by omega) (by omega)]
      by_cases h : 3 ≤ l.length - p ∧ 128 ≤ ((x1.toNat : Nat) : Int) ∧ ((x1.toNat : Nat) : Int) < 192 ∧ 128 ≤ ((x2.toNat : Nat) : Int) ∧ ((x2.toNat : Nat) : Int) < 192 ∧ 2048 ≤ 64 * (64 * (x0 - 224) + x1 - 128) + x2 - 128 ∧ ¬ (55296 ≤ 64 * (64 * (x0 - 224) + x1 - 128) + x2 - 128 ∧ 64 * (64 * (x0 - 224) + x1 - 128) + x2 - 128 ≤ 57343)
      · rw [if_pos h]
        refine Or.inr ⟨3, by omega, by omega, rfl, by simp only; omega, by omega, by simp only [decide_eq_false_iff_not]; omega, fun j h1 h2 => ?_⟩
        obtain rfl | rfl : j = 1 ∨ j = 2 := by omega
        · rw [e1, decide_eq_true_eq]; omega
        · rw [e2, decide_eq_true_eq]; omega
      · rw [if_neg h]; exact Or.inl rfl
    · by_cases c2 : 192 ≤ x0
      · rw [rn4_2 (l.length - p) x0.toNat x1.toNat x2.toNat x3.toNat (64 * (x0 - 192) + x1 - 128) (by omega) (by omega) (by omega)]
        by_cases h : 2 ≤ l.length - p ∧ 128 ≤ ((x1.toNat : Nat) : Int) ∧ ((x1.toNat : Nat) : Int) < 192 ∧ 128 ≤ 64 * (x0 - 192) + x1 - 128
        · rw [if_pos h]
          refine Or.inr ⟨2, by omega, by omega, rfl, by simp only; omega, by omega, by simp only [decide_eq_false_iff_not]; omega, fun j h1 h2 => ?_⟩
          obtain rfl : j = 1 := by omega
          rw [e1, decide_eq_true_eq]; omega
        · rw [if_neg h]; exact Or.inl rfl
      · rw [rn4_1 (l.length - p) x0.toNat x1.toNat x2.toNat x3.toNat (by omega)]
        by_cases h : x0.toNat < 128
        · rw [if_pos h]
          refine Or.inr ⟨1, by omega, by omega, rfl, by simp only; omega, by omega, by simp only [decide_eq_false_iff_not]; omega, fun j h1 h2 => by omega⟩
        · rw [if_neg h]; exact Or.inl rfl
/-- The places of the letters from p on, and the end. -/
def cuts (l : List Int) : Nat → Nat → Option (List Int)
  | 0, p => if p < l.length then none else some [(p : Int)]
  | n + 1, p => if p < l.length then (if (rn l p).2 = 0 then none else (cuts l n (p + (rn l p).2.toNat)).map ((p : Int) :: ·)) else some [(p : Int)]
theorem cuts_end (l : List Int) (n p : Nat) (h : ¬ p < l.length) : cuts l n p = some [(p : Int)] := by
  cases n <;> simp [cuts, h]
/-- A text. -/
def isT (l : List Int) : Bool := decide (l.length ≤ 400) && (cuts l l.length 0).isSome
/-- Its cuts. -/
def cutsOf (l : List Int) : List Int := if l.length ≤ 400 then (cuts l l.length 0).getD [] else []
theorem cuts_pos {l : List Int} : ∀ (n p : Nat) (c : List Int), cuts l n p = some c → 0 < c.length := by
  intro n p c h
  cases n with
  | zero =>
    simp only [cuts] at h
    split at h
    · cases h
    · cases h; simp
  | succ n =>
    simp only [cuts] at h
    split at h
    · split at h
      · cases h
      · obtain ⟨c', _, rfl⟩ := Option.map_eq_some_iff.1 h
        simp
    · cases h; simp
theorem specCuts_l0 {l : List Int} (hb : Bytes.okBytes l = true) (hl : l.length ≤ 1048576) : ∀ (n p k : Nat) (out : List Int), p ≤ l.length → l.length - p ≤ n → n + 10 ≤ k → out.length + n ≤ 1048576 →
    spec_l01Cuts.l0 k l out (p : Int) = some (match cuts l n p with | none => [] | some c => out ++ c) := by
  intro n
  induction n with
  | zero =>
    intro p k out h1 h2 h3 h4
    obtain ⟨k, rfl⟩ : ∃ m, k = m + 1 := ⟨k - 1, by omega⟩
    simp only [spec_l01Cuts.l0]
    rw [if_neg (by omega), if_pos (by omega), cuts_end l 0 p (by omega)]
  | succ n ih =>
    intro p k out h1 h2 h3 h4
    obtain ⟨k, rfl⟩ : ∃ m, k = m + 1 := ⟨k - 1, by omega⟩
    simp only [spec_l01Cuts.l0]
    by_cases hp : p < l.length
    · rw [if_pos (by omega)]
      unfold spec_RuneSize.f
      rw [specRune_f k (by omega) l p hb hl hp]
      simp only [Option.bind_some, cuts, if_pos hp]
      rcases rn_cases hb hp with h | ⟨s, hs1, hs4, hs, _, hse, _, _⟩
      · rw [h]; simp
      · rw [hs, if_neg (by omega), if_pos (by omega), show wrap64 ((p : Int) + (s : Int)) = ((p + s : Nat) : Int) from by rw [w64 (by omega) (by omega)]; omega, Int.toNat_natCast,
          ih (p + s) k (out ++ [(p : Int)]) hse (by omega) (by omega) (by simp; omega)]
        cases cuts l n (p + s) <;> simp [show s ≠ 0 by omega]
    · rw [if_neg (by omega), if_pos (by omega), cuts_end l (n + 1) p hp]
theorem specCuts_f {l : List Int} (k : Nat) (hb : Bytes.okBytes l = true) (hk : 411 ≤ k) : spec_l01Cuts.f k l = some (cutsOf l) := by
  unfold spec_l01Cuts.f cutsOf
  by_cases h : l.length ≤ 400
  · rw [if_neg (by omega), if_pos h]
    refine (specCuts_l0 hb (by omega) l.length 0 k [] (by omega) (by omega) (by omega) (by simp; omega)).trans ?_
    cases cuts l l.length 0 <;> simp
  · rw [if_pos (by omega), if_neg h]
theorem isT_cuts {l : List Int} : isT l = true ↔ 0 < (cutsOf l).length := by
  unfold isT cutsOf
  by_cases h : l.length ≤ 400
  · rw [if_pos h]
    cases hc : cuts l l.length 0 with
    | none => simp
    | some c => simpa [h] using cuts_pos _ _ _ hc
  · rw [if_neg h]; simp [h]
theorem isT_len {l : List Int} (h : isT l = true) : l.length ≤ 400 := by
  unfold isT at h
  simp only [Bool.and_eq_true, decide_eq_true_eq] at h
  exact h.1
theorem isT_some {l : List Int} (h : isT l = true) : cuts l l.length 0 = some (cutsOf l) := by
  have hl := isT_len h
  unfold isT at h
  simp only [Bool.and_eq_true, decide_eq_true_eq] at h
  unfold cutsOf
  rw [if_pos hl]
  cases hc : cuts l l.length 0 with
  | none => rw [hc] at h; simp at h
  | some c => rfl
theorem isT_none {l : List Int} (h : isT l = false) : cutsOf l = [] := by
  cases hc : cutsOf l with
  | nil => rfl
  | cons a c =>
    have := isT_cuts.2 (show 0 < (cutsOf l).length by rw [hc]; simp)
    rw [h] at this; cases this
theorem drop_toArray (l : List Int) (p : Nat) : (⟨((Bytes.toBA l).data.toList.drop p).toArray⟩ : ByteArray) = Bytes.toBA (l.drop p) := by
  unfold Bytes.toBA
  simp [List.map_drop]
theorem decode_drop {l : List Int} (hb : Bytes.okBytes l = true) (p : Nat) :
    Utf8.decode (Bytes.toBA (l.drop p)) 0 = Lib.decodeN (l.length - p) (l.getD p 0).toNat (l.getD (p + 1) 0).toNat (l.getD (p + 2) 0).toNat (l.getD (p + 3) 0).toNat := by
  have g : ∀ j, ((Bytes.toBA (l.drop p)).get! j).toNat = (l.getD (p + j) 0).toNat := fun j => by
    have := Bytes.toBA_get (Bytes.okBytes_drop hb p) j
    rw [getD_drop] at this
    omega
  rw [Lib.decode_at, g, g, g, g, Bytes.toBA_size, List.length_drop]
  simp
theorem decode_at_ {l : List Int} (hb : Bytes.okBytes l = true) (p : Nat) :
    Utf8.decode (Bytes.toBA l) p = Lib.decodeN (l.length - p) (l.getD p 0).toNat (l.getD (p + 1) 0).toNat (l.getD (p + 2) 0).toNat (l.getD (p + 3) 0).toNat := by
  have g : ∀ j, ((Bytes.toBA l).get! j).toNat = (l.getD j 0).toNat := fun j => by have := Bytes.toBA_get hb j; omega
  rw [Lib.decode_at, g, g, g, g, Bytes.toBA_size]
theorem valid_cuts {l : List Int} (hb : Bytes.okBytes l = true) : ∀ (n p : Nat), p ≤ l.length → l.length - p ≤ n → Lib.validGoD n ((Bytes.toBA l).data.toList.drop p) = (cuts l n p).isSome := by
  have hsz : (Bytes.toBA l).data.toList.length = l.length := by simp [Bytes.toBA]
  intro n
  induction n with
  | zero =>
    intro p h1 h2
    rw [cuts_end l 0 p (by omega)]
    rfl
  | succ n ih =>
    intro p h1 h2
    unfold Lib.validGoD
    by_cases hp : p < l.length
    · have hne : ¬ ((Bytes.toBA l).data.toList.drop p = []) := by
        intro h
        have := congrArg List.length h
        simp [hsz] at this
        omega
      rw [if_neg hne]
      simp only [cuts, if_pos hp]
      have hd : Lib.decodeL ((Bytes.toBA l).data.toList.drop p) = Lib.decodeN (l.length - p) (l.getD p 0).toNat (l.getD (p + 1) 0).toNat (l.getD (p + 2) 0).toNat (l.getD (p + 3) 0).toNat := by
        unfold Lib.decodeL
        rw [drop_toArray, decode_drop hb]
      have hle := decodeN_le (l.length - p) (l.getD p 0).toNat (l.getD (p + 1) 0).toNat (l.getD (p + 2) 0).toNat (l.getD (p + 3) 0).toNat (by have := Bytes.okBytes_getD hb p; omega)
      have hrn : rn l p = rn4 (l.length - p) (l.getD p 0).toNat (l.getD (p + 1) 0).toNat (l.getD (p + 2) 0).toNat (l.getD (p + 3) 0).toNat := by unfold rn; rw [if_pos hp]
      have hcs := rn_cases hb hp
      unfold rn4 at hrn
      rw [hd]
      generalize Lib.decodeN (l.length - p) (l.getD p 0).toNat (l.getD (p + 1) 0).toNat (l.getD (p + 2) 0).toNat (l.getD (p + 3) 0).toNat = d at hle hrn
      by_cases hbad : d.1 = 65533 ∧ d.2 ≤ 1
      · rw [if_pos ⟨hbad.1, by omega⟩]
        rw [if_pos hbad] at hrn
        rw [hrn]
        simp
      · rw [if_neg (fun h => hbad ⟨h.1, by omega⟩)]
        rw [if_neg hbad] at hrn
        have h2' : (rn l p).2 = (d.2 : Int) := by rw [hrn]
        have hse : p + d.2 ≤ l.length := by
          rcases hcs with h | ⟨s, _, _, hs, _, hse, _, _⟩
          · rw [h] at h2'; simp at h2'; omega
          · omega
        rw [h2', if_neg (by omega), Int.toNat_natCast, List.drop_drop, ih (p + d.2) hse (by omega)]
        cases cuts l n (p + d.2) <;> rfl
    · have he : (Bytes.toBA l).data.toList.drop p = [] := List.drop_eq_nil_of_le (by omega)
      rw [if_pos he, cuts_end l (n + 1) p hp]
      rfl
theorem implValid_f {l : List Int} (hb : Bytes.okBytes l = true) (hl : l.length ≤ 1048576) : utf8_Valid.f l = some (cuts l l.length 0).isSome := by
  unfold utf8_Valid.f
  rw [if_pos hb, if_pos (by omega)]
  congr 1
  have := valid_cuts hb l.length 0 (by omega) (by omega)
  rw [List.drop_zero] at this
  unfold Lib.validD
  rw [show (Bytes.toBA l).data.toList.length = l.length by simp [Bytes.toBA]]
  exact this
theorem specText_f {l : List Int} (k : Nat) (hb : Bytes.okBytes l = true) (hk : 411 ≤ k) : spec_TextOk.f k l = some (isT l) := by
  unfold spec_TextOk.f
  rw [specCuts_f k hb hk]
  simp only [Option.bind_some, Option.some.injEq]
  rw [Bool.eq_iff_iff, isT_cuts, decide_eq_true_eq]
  omega
theorem implText_f {l : List Int} (hb : Bytes.okBytes l = true) : impl_isText.f l = some (isT l) := by
  unfold impl_isText.f isT
  by_cases h : l.length ≤ 400
  · rw [if_pos (by omega), implValid_f hb (by omega)]
    simp [h]
  · rw [if_neg (by omega)]
    simp [h]
theorem implIn_f (a b c : Int) : impl_in.f a b c = some (decide (b ≤ a ∧ a ≤ c)) := by
  unfold impl_in.f
  by_cases h : b ≤ a <;> simp [h]
theorem isWord_f (a : Int) : impl_isWord.f a = some (decide (0 ≤ a ∧ a ≤ 65535)) := by
  unfold impl_isWord.f
  rw [implIn_f]; rfl
theorem specWord_f (a : Int) : spec_l09Word.f a = some (decide (0 ≤ a ∧ a ≤ 65535)) := by
  unfold spec_l09Word.f
  by_cases h : 0 ≤ a
  · rw [if_pos h]; simp [h]
  · rw [if_neg h]; simp [h]
def isRp (x y z : Int) (l : List Int) : Bool := if x = 0 then decide (0 ≤ y ∧ y ≤ 65535) && decide (0 ≤ z ∧ z ≤ 65535) && isT l else decide (0 ≤ x ∧ x ≤ 10) && decide (y = 0) && decide (z = 0) && decide (l.length = 0)
theorem isT_nil {l : List Int} (h : l.length = 0) : isT l = true := by
  obtain rfl := List.eq_nil_of_length_eq_zero h
  rfl
theorem szByteS_f (l : List Int) (a : Int) (h0 : 0 ≤ a) (h1 : a ≤ 1048576) (hl : l.length ≤ 9223372036854775807) :
    laws_szByteS.f l a = some (if (l.length : Int) ≤ a then a - (l.length : Int) else -1) := by
  unfold laws_szByteS.f
  rw [w64 (x := a - (l.length : Int)) (by omega) (by omega)]
  by_cases h : (l.length : Int) ≤ a
  · rw [if_neg (by omega), if_pos h]
  · rw [if_pos (by omega), if_neg h]
theorem is_l0 (x : Int) (L : List Int) (hL : L.length ≤ 1000) : ∀ (d i k : Nat), i + d = L.length → d < k → spec_l09Is.l0 k x L (i : Int) = some (decide (x ∈ L.drop i)) := by
  intro d
  induction d with
  | zero =>
    intro i k hi hk
    obtain ⟨k, rfl⟩ : ∃ q, k = q + 1 := ⟨k - 1, by omega⟩
    simp only [spec_l09Is.l0]
    rw [if_neg (by omega), List.drop_of_length_le (by omega)]
    simp
  | succ d ih =>
    intro i k hi hk
    obtain ⟨k, rfl⟩ : ∃ q, k = q + 1 := ⟨k - 1, by omega⟩
    have hlt : i < L.length := by omega
    simp only [spec_l09Is.l0]
    rw [if_pos (by omega), if_pos (by omega), w64s i (by omega), ih (i + 1) k (by omega) (by omega), rd_nat, List.drop_eq_getElem_cons hlt, List.getD_eq_getElem?_getD, List.getElem?_eq_getElem hlt]
    simp only [Option.getD_some, List.mem_cons]
    by_cases h : L[i] = x
    · rw [if_pos h]; simp [h]
    · rw [if_neg h]
      congr 1
      have : ¬ x = L[i] := fun e => h e.symm
      simp [this]
theorem is_f (x : Int) (L : List Int) (k : Nat) (hL : L.length ≤ 1000) (hk : L.length < k) : spec_l09Is.f k x L = some (decide (x ∈ L)) := by
  unfold spec_l09Is.f
  exact is_l0 x L hL L.length 0 k (by omega) hk
/-- How many numbers a kind uses. -/
def used (x : Int) : Int := if x = 3 ∨ x = 7 ∨ x = 8 ∨ x = 9 then 1 else if x = 4 ∨ x = 5 ∨ x = 6 ∨ x = 10 ∨ x = 11 ∨ x = 14 then 2 else if x = 12 ∨ x = 13 then 3 else 0
def txt (x : Int) (l : List Int) : Bool := if x = 7 ∨ x = 8 then decide (0 < l.length) else if x = 3 ∨ x = 5 then true else decide (l.length = 0)
def tail3 (x a b c : Int) (l : List Int) : Bool := (decide (a = 0) || decide (1 ≤ used x)) && (decide (b = 0) || decide (2 ≤ used x)) && (decide (c = 0) || decide (3 ≤ used x)) && txt x l
def head3 (x y a b c : Int) (l : List Int) : Bool := decide (1 ≤ x ∧ x ≤ 16) && decide (1 ≤ y ∧ y ≤ 8) && decide (0 ≤ a ∧ a ≤ 65535) && decide (0 ≤ b ∧ b ≤ 65535) && decide (0 ≤ c ∧ c ≤ 65535) && isT l && decide (l.length ≤ 100)
theorem kinds {x : Int} (h : 1 ≤ x ∧ x ≤ 16) : x = 1 ∨ x = 2 ∨ x = 3 ∨ x = 4 ∨ x = 5 ∨ x = 6 ∨ x = 7 ∨ x = 8 ∨ x = 9 ∨ x = 10 ∨ x = 11 ∨ x = 12 ∨ x = 13 ∨ x = 14 ∨ x = 15 ∨ x = 16 := by omega
set_option maxHeartbeats 2000000 in
theorem specTail_f (k : Nat) (x y a b c : Int) (l : List Int) (hx : 1 ≤ x ∧ x ≤ 16) (hk : 20 ≤ k) : spec_ReqOk.j1 k false x y a b c l = some (tail3 x a b c l) := by
  obtain ⟨k, rfl⟩ : ∃ q, k = q + 3 := ⟨k - 3, by omega⟩
  have i1 := is_f x [12, 13] (k + 2) (by decide) (by show 2 < _; omega)
  have i2 := is_f x [4, 5, 6, 10, 11, 14] (k + 2) (by decide) (by show 6 < _; omega)
  have i3 := is_f x [3, 7, 8, 9] (k + 1) (by decide) (by show 4 < _; omega)
  have i4 := is_f x [7, 8] k (by decide) (by show 2 < _; omega)
  have i5 := is_f x [3, 5] k (by decide) (by show 2 < _; omega)
  simp only [spec_ReqOk.j1, Bool.false_eq_true, if_false, i1, i2, Option.bind_some, spec_ReqOk.j2, i3, spec_ReqOk.j3, i4, i5]
  clear i1 i2 i3 i4 i5
  unfold tail3 txt
  have hlen : (l.length : Int) > 0 ↔ ¬ l.length = 0 := by omega
  have hlen2 : 0 < l.length ↔ ¬ l.length = 0 := by omega
  rcases kinds hx with rfl | rfl | rfl | rfl | rfl | rfl | rfl | rfl | rfl | rfl | rfl | rfl | rfl | rfl | rfl | rfl <;> simp [used, hlen, hlen2] <;> (repeat' split) <;> simp_all
theorem specReq_f (k : Nat) (x y a b c : Int) (l : List Int) (hb : Bytes.okBytes l = true) (hk : 500 ≤ k) : spec_ReqOk.f k x y a b c l = some (head3 x y a b c l && tail3 x a b c l) := by
  obtain ⟨k, rfl⟩ : ∃ q, k = q + 1 := ⟨k - 1, by omega⟩
  have hno : spec_ReqOk.j0 (k + 1) true x y a b c l = some false := by simp only [spec_ReqOk.j0, if_true]
  have hno1 : ∀ q, 1 ≤ q → spec_ReqOk.j1 q true x y a b c l = some false := fun q hq => by
    obtain ⟨q, rfl⟩ : ∃ m, q = m + 1 := ⟨q - 1, by omega⟩
    simp only [spec_ReqOk.j1, if_true]
  unfold spec_ReqOk.f head3
  by_cases h1 : x < 1
  · rw [if_pos h1, hno, decide_eq_false (by omega : ¬ (1 ≤ x ∧ x ≤ 16))]; rfl
  · rw [if_neg h1]
    by_cases h2 : x > 16
    · rw [if_pos h2, hno, decide_eq_false (by omega : ¬ (1 ≤ x ∧ x ≤ 16))]; rfl
    · rw [if_neg h2, decide_eq_true (by omega : 1 ≤ x ∧ x ≤ 16)]
      by_cases h3 : y < 1
      · rw [if_pos h3, hno, decide_eq_false (by omega : ¬ (1 ≤ y ∧ y ≤ 8))]; rfl
      · rw [if_neg h3]
        by_cases h4 : y > 8
        · rw [decide_eq_true h4, hno, decide_eq_false (by omega : ¬ (1 ≤ y ∧ y ≤ 8))]; rfl
        · rw [decide_eq_false h4, decide_eq_true (by omega : 1 ≤ y ∧ y ≤ 8)]
          simp only [spec_ReqOk.j0, Bool.false_eq_true, if_false, specWord_f, Option.bind_some, Bool.true_and]
          cases ha : decide (0 ≤ a ∧ a ≤ 65535) with
          | false => simp [hno1 k (by omega)]
          | true =>
            cases hb1 : decide (0 ≤ b ∧ b ≤ 65535) with
            | false => simp [hno1 k (by omega)]
            | true =>
              cases hc : decide (0 ≤ c ∧ c ≤ 65535) with
              | false => simp [hno1 k (by omega)]
              | true =>
                simp only [if_true, Bool.true_and]
                rw [specText_f k hb (by omega), Option.bind_some]
                cases ht : isT l with
                | false => simp [hno1 k (by omega)]
                | true =>
                  rw [if_pos rfl]
                  by_cases h5 : (l.length : Int) > 100
                  · rw [decide_eq_true h5, hno1 k (by omega), decide_eq_false (by omega : ¬ l.length ≤ 100)]; rfl
                  · rw [decide_eq_false h5, specTail_f k x y a b c l (by omega) (by omega), decide_eq_true (by omega : l.length ≤ 100)]; rfl
theorem used_f (k : Nat) (x : Int) (hx : 1 ≤ x ∧ x ≤ 16) (hk : 5 ≤ k) : impl_usedNumbers.f k x = some (used x) := by
  obtain ⟨k, rfl⟩ : ∃ q, k = q + 3 := ⟨k - 3, by omega⟩
  unfold impl_usedNumbers.f used
  rcases kinds hx with rfl | rfl | rfl | rfl | rfl | rfl | rfl | rfl | rfl | rfl | rfl | rfl | rfl | rfl | rfl | rfl <;> simp [impl_usedNumbers.j0, impl_usedNumbers.j1]
def okn (x : Int) (i : Nat) (n : Int) : Bool := decide (0 ≤ n ∧ n ≤ 65535) && (decide (n = 0) || decide ((i : Int) + 1 ≤ used x))
theorem round_f (k : Nat) (L : List Int) (x y a b c : Int) (l : List Int) (i : Nat) (hx : 1 ≤ x ∧ x ≤ 16) (hL : L.length = 3) (hi : i < 3) (hk : 5 ≤ k) : impl_isReq.l0 (k + 1) L 3 (i : Int) x y a b c l = if okn x i (L.getD i 0) = true then impl_isReq.l0 k L 3 ((i + 1 : Nat) : Int) x y a b c l else some false := by
  simp only [impl_isReq.l0]
  rw [if_pos (by omega), if_pos (by omega), if_pos (by omega), rd_nat, isWord_f, used_f k x hx hk, w64s i (by omega)]
  simp only [Option.bind_some]
  unfold okn
  by_cases h1 : 0 ≤ L.getD i 0 ∧ L.getD i 0 ≤ 65535
  · rw [decide_eq_true h1, if_pos rfl, Bool.true_and]
    by_cases h2 : (i : Int) ≥ used x
    · rw [if_pos h2, decide_eq_false (by omega : ¬ ((i : Int) + 1 ≤ used x)), Bool.or_false]
      by_cases h3 : L.getD i 0 = 0
      · rw [if_pos h3, if_pos (decide_eq_true h3)]
      · rw [if_neg h3, if_neg (by rw [decide_eq_false h3]; decide)]
    · rw [if_neg h2, decide_eq_true (by omega : (i : Int) + 1 ≤ used x), Bool.or_true, if_pos rfl]
  · rw [decide_eq_false h1, if_neg (by decide), if_neg (by simp)]
set_option maxHeartbeats 2000000 in
theorem implEnd_f (k : Nat) (L : List Int) (x y a b c : Int) (l : List Int) (hx : 1 ≤ x ∧ x ≤ 16) (hk : 5 ≤ k) : impl_isReq.l0 k L 3 ((3 : Nat) : Int) x y a b c l = some (txt x l) := by
  obtain ⟨k, rfl⟩ : ∃ q, k = q + 5 := ⟨k - 5, by omega⟩
  simp only [impl_isReq.l0]
  rw [if_neg (by omega)]
  unfold txt
  have hlen : (l.length : Int) > 0 ↔ ¬ l.length = 0 := by omega
  have hlen2 : 0 < l.length ↔ ¬ l.length = 0 := by omega
  have hlen3 : ((l.length : Int) == 0) = decide (l = []) := by
    rw [Bool.eq_iff_iff, beq_iff_eq, decide_eq_true_eq]
    constructor
    · intro h; exact List.eq_nil_of_length_eq_zero (by omega)
    · rintro rfl; rfl
  rcases kinds hx with rfl | rfl | rfl | rfl | rfl | rfl | rfl | rfl | rfl | rfl | rfl | rfl | rfl | rfl | rfl | rfl <;> simp [impl_isReq.j2, hlen, hlen2, hlen3]
theorem implReq_f (k : Nat) (x y a b c : Int) (l : List Int) (hb : Bytes.okBytes l = true) (hk : 500 ≤ k) : impl_ReqOk.f k x y a b c l = some (head3 x y a b c l && tail3 x a b c l) := by
  obtain ⟨k, rfl⟩ : ∃ q, k = q + 4 := ⟨k - 4, by omega⟩
  have hno : impl_isReq.j0 (k + 4) true x y a b c l = some false := by simp only [impl_isReq.j0, if_true]
  unfold impl_ReqOk.f impl_isReq.f head3
  rw [implIn_f, Option.bind_some]
  by_cases h1 : 1 ≤ x ∧ x ≤ 16
  · rw [decide_eq_true h1, if_pos rfl]
    unfold impl_isSession.f
    rw [implIn_f]
    simp only [Option.bind_some]
    by_cases h2 : 1 ≤ y ∧ y ≤ 8
    · rw [decide_eq_true h2, if_pos rfl]
      unfold impl_isPut.f
      by_cases h3 : l.length ≤ 100
      · rw [if_pos (by omega), implText_f hb, decide_eq_true h3]
        simp only [Option.bind_some]
        cases ht : isT l with
        | false => simp [hno]
        | true =>
          simp only [Bool.not_true, impl_isReq.j0, Bool.false_eq_true, if_false, Option.bind_some, List.length_cons, List.length_nil]
          have r0 := round_f (k + 2) [a, b, c] x y a b c l 0 h1 rfl (by omega) (by omega)
          have r1 := round_f (k + 1) [a, b, c] x y a b c l 1 h1 rfl (by omega) (by omega)
          have r2 := round_f k [a, b, c] x y a b c l 2 h1 rfl (by omega) (by omega)
          have e := implEnd_f k [a, b, c] x y a b c l h1 (by omega)
          rw [show ((0 + 1 + 1 + 1 : Nat) : Int) = 3 from rfl, show impl_isReq.l0 (k + 3) [a, b, c] 3 0 x y a b c l = _ from r0]
          rw [show ((0 + 1 : Nat) : Int) = ((1 : Nat) : Int) from rfl, r1, show ((1 + 1 : Nat) : Int) = ((2 : Nat) : Int) from rfl, r2, show ((2 + 1 : Nat) : Int) = ((3 : Nat) : Int) from rfl, e]
          rw [show [a, b, c].getD 0 0 = a from rfl, show [a, b, c].getD 1 0 = b from rfl, show [a, b, c].getD 2 0 = c from rfl]
          unfold okn tail3
          rw [show ((0 : Nat) : Int) + 1 = 1 from rfl, show ((1 : Nat) : Int) + 1 = 2 from rfl, show ((2 : Nat) : Int) + 1 = 3 from rfl]
          generalize decide (0 ≤ a ∧ a ≤ 65535) = wa
          generalize decide (0 ≤ b ∧ b ≤ 65535) = wb
          generalize decide (0 ≤ c ∧ c ≤ 65535) = wc
          generalize (decide (a = 0) || decide (1 ≤ used x)) = ua
          generalize (decide (b = 0) || decide (2 ≤ used x)) = ub
          generalize (decide (c = 0) || decide (3 ≤ used x)) = uc
          generalize txt x l = tx
          cases wa <;> cases wb <;> cases wc <;> cases ua <;> cases ub <;> cases uc <;> cases tx <;> rfl
      · rw [if_neg (by omega), Option.bind_some, decide_eq_false h3]
        simp [hno]
    · rw [decide_eq_false h2, if_neg (by decide), hno]; simp
  · rw [decide_eq_false h1, if_neg (by decide), hno]; simp
theorem toReq_f (k : Nat) (x y a b c : Int) (l : List Int) (hk : l.length < k) (hl : l.length ≤ 1048576) : laws_toReq.f k x y a b c l = some (x, y, a, b, c, l) := by
  unfold laws_toReq.f
  rw [toByteS_f k l hk hl]
  rfl
theorem FnExactReqOk (a0_0 : Int) (a0_1 : Int) (a0_2 : Int) (a0_3 : Int) (a0_4 : Int) (l0_5 : List Int) (wa0_0 : (Lit.int .i64 a0_0).wf = true) (wa0_1 : (Lit.int .i64 a0_1).wf = true) (wa0_2 : (Lit.int .i64 a0_2).wf = true) (wa0_3 : (Lit.int .i64 a0_3).wf = true) (wa0_4 : (Lit.int .i64 a0_4).wf = true) (wl0_5 : (l0_5.length ≤ maxLen ∧ ∀ x ∈ l0_5, (Lit.int .u8 x).wf = true)) : ∃ k, laws_FnExactReqOk.f k a0_0 a0_1 a0_2 a0_3 a0_4 l0_5 = some true := by
  have hb := okBytes_wf wl0_5.2
  have hm : l0_5.length ≤ 9223372036854775807 := by have := wl0_5.1; unfold maxLen at this; omega
  unfold laws_FnExactReqOk.f laws_szReq.f
  rw [szByteS_f l0_5 1048576 (by omega) (by omega) hm]
  simp only [Option.bind_some]
  by_cases hl : (l0_5.length : Int) ≤ 1048576
  · refine ⟨l0_5.length + 600, ?_⟩
    rw [if_pos hl, if_neg (by omega)]
    simp only [Option.bind_some]
    rw [if_neg (by omega), toReq_f _ a0_0 a0_1 a0_2 a0_3 a0_4 l0_5 (by omega) (by omega)]
    simp only [Option.bind_some]
    rw [specReq_f _ a0_0 a0_1 a0_2 a0_3 a0_4 l0_5 hb (by omega), implReq_f _ a0_0 a0_1 a0_2 a0_3 a0_4 l0_5 hb (by omega)]
    simp only [Option.bind_some, bne_self_eq_false, Bool.false_eq_true, if_false, laws_eqReq.f, if_true]
    rw [eqByteS_self _ l0_5 (by omega) (by omega)]
    simp
  · refine ⟨9, ?_⟩
    rw [if_neg hl]
    simp

end Go.Proofs.YthbmijnpmffmkaaDoor.Pure
