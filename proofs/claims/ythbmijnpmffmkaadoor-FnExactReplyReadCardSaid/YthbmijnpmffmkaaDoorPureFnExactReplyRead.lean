/-
  The law FnExactReplyRead in plain words: what the program's function computes is what the reference's computes. No memory, no machine.
-/
import Derived.Test.YthbmijnpmffmkaaDoorPFnExactReplyReadx
import Derived.Test.YthbmijnpmffmkaaDoorGen
namespace Go.Proofs.YthbmijnpmffmkaaDoor.Pure
open Go.RowKit Go.Proofs.YthbmijnpmffmkaaDoor.PFnExactReplyRead Go.Proofs.YthbmijnpmffmkaaDoorW.PrintWords Go.Proofs.YthbmijnpmffmkaaDoorW.PrintLast Go.Proofs.YthbmijnpmffmkaaDoorW.PrintMore Go.Proofs.YthbmijnpmffmkaaDoor.Gen
set_option linter.unusedVariables false
set_option linter.unusedSimpArgs false

theorem wf_i64 {x : Int} (h : (Lit.int .i64 x).wf = true) : -9223372036854775808 ≤ x ∧ x ≤ 9223372036854775807 := by
  simp only [Lit.wf, Bool.and_eq_true, decide_eq_true_eq] at h
  exact ⟨h.1, h.2⟩
theorem wf_u8 {x : Int} (h : (Lit.int .u8 x).wf = true) : 0 ≤ x ∧ x ≤ 255 := by
  simp only [Lit.wf, Bool.and_eq_true, decide_eq_true_eq] at h
  exact ⟨h.1, h.2⟩
/-- A code point. -/
def isCp (r : Int) : Prop := 0 ≤ r ∧ r ≤ 1114111 ∧ ¬ (55296 ≤ r ∧ r ≤ 57343)
instance (r : Int) : Decidable (isCp r) := by unfold isCp; infer_instance
/-- Its encoding. -/
def rb (r : Int) : List Int :=
  if r < 128 then [r] else if r < 2048 then [192 + r / 64, 128 + r % 64] else if r < 65536 then [224 + r / 4096, 128 + r / 64 % 64, 128 + r % 64]
  else [240 + r / 262144, 128 + r / 4096 % 64, 128 + r / 64 % 64, 128 + r % 64]
theorem rb_length (r : Int) : (rb r).length ≤ 4 := by
  unfold rb
  (repeat' split) <;> simp
theorem by256 {x : Int} (h0 : 0 ≤ x) (h1 : x ≤ 255) : wrap64 x % 256 = x := by unfold wrap64; omega
theorem specRB_f (k : Nat) (hk : 1 ≤ k) (r : Int) : spec_RuneBytes.f k r = some (if isCp r then rb r else []) := by
  obtain ⟨k, rfl⟩ : ∃ m, k = m + 1 := ⟨k - 1, by omega⟩
  by_cases h0 : r < 0
  · have hn : ¬ isCp r := fun h => by unfold isCp at h; omega
    simp only [spec_RuneBytes.f, spec_RuneBytes.j0]
    rw [if_pos h0, if_neg hn]
    simp
  by_cases h1 : r > 1114111
  · have hn : ¬ isCp r := fun h => by unfold isCp at h; omega
    simp only [spec_RuneBytes.f, spec_RuneBytes.j0]
    rw [if_neg h0, if_pos h1, if_neg hn]
    simp
  have key : ∀ b : Bool, (b = true ↔ 55296 ≤ r ∧ r ≤ 57343) → spec_RuneBytes.j0 (k + 1) r b = some (if isCp r then rb r else []) := by
    intro b hb
    simp only [spec_RuneBytes.j0]
    by_cases h2 : b = true
    · have hn : ¬ isCp r := fun h => by have := hb.1 h2; unfold isCp at h; omega
      rw [if_pos h2, if_neg hn]
    · have hc : isCp r := ⟨by omega, by omega, fun h => h2 (hb.2 h)⟩
      rw [if_neg h2, if_pos hc, Int.tdiv_eq_ediv_of_nonneg (by omega), Int.tdiv_eq_ediv_of_nonneg (by omega), Int.tdiv_eq_ediv_of_nonneg (by omega), Int.tmod_eq_emod_of_nonneg (by omega)]
      have e1 : wrap64 (r / 64) = r / 64 := w64 (by omega) (by omega)
      have e2 : wrap64 (r / 4096) = r / 4096 := w64 (by omega) (by omega)
      have e3 : wrap64 (r / 262144) = r / 262144 := w64 (by omega) (by omega)
      rw [e1, e2, e3, Int.tmod_eq_emod_of_nonneg (by omega), Int.tmod_eq_emod_of_nonneg (by omega)]
      unfold rb
      by_cases c1 : r < 128
      · rw [if_pos c1, if_pos c1, show r % 256 = r by omega]
      · rw [if_neg c1, if_neg c1]
        by_cases c2 : r < 2048
        · rw [if_pos c2, if_pos c2, by256 (by omega) (by omega), by256 (by omega) (by omega)]
        · rw [if_neg c2, if_neg c2]
          by_cases c3 : r < 65536
          · rw [if_pos c3, if_pos c3, by256 (by omega) (by omega), by256 (by omega) (by omega), by256 (by omega) (by omega)]
          · rw [if_neg c3, if_neg c3, by256 (by omega) (by omega), by256 (by omega) (by omega), by256 (by omega) (by omega), by256 (by omega) (by omega)]
  unfold spec_RuneBytes.f
  rw [if_neg h0, if_neg h1]
  by_cases h2 : r ≥ 55296
  · rw [if_pos h2]
    exact key _ (by rw [decide_eq_true_eq]; omega)
  · rw [if_neg h2]
    exact key _ ⟨fun h => (by cases h), fun h => (by omega)⟩
theorem toByteS_f (k : Nat) (l : List Int) (hk : l.length < k) (hl : l.length ≤ 1048576) : laws_toByteS.f k l = some l := by
  have h := map_loop (L := fun k out i => laws_toByteS.l0 k l out i) l id 0 0 (fun k out i _ hi ho => by
      simp only [laws_toByteS.l0]
      rw [if_pos (by omega), if_pos (by omega), if_pos (by omega), w64s i (by omega), rd_nat]
      rfl) (fun k out ho => by
      simp only [laws_toByteS.l0]
      rw [if_neg (by omega)]) k (List.replicate ((l.length : Int)).toNat 0) (by omega) (by simp)
  unfold laws_toByteS.f
  rw [if_pos (by omega), if_pos (by omega)]
  simpa using h
theorem eqByteS_f (k : Nat) (l l' : List Int) (hk : l.length < k) (hl : l.length ≤ 1048576) : laws_eqByteS.f k l l' = some (decide (l = l')) := by
  unfold laws_eqByteS.f
  by_cases e : l.length = l'.length
  · rw [if_pos (by omega)]
    obtain ⟨b, h, hb⟩ := all_loop (L := fun k i => laws_eqByteS.l0 k l l' i) l.length 0 (fun i => decide (l.getD i 0 = l'.getD i 0)) (fun k i _ hi => by
      simp only [laws_eqByteS.l0]
      rw [if_pos (by omega), if_pos (by omega), if_pos (by omega), w64s i (by omega), rd_nat, rd_nat]
      simp only [decide_eq_true_eq]) (fun k => by
      simp only [laws_eqByteS.l0]
      rw [if_neg (by omega)]) k (by omega)
    refine h.trans ?_
    congr 1
    simp only [decide_eq_true_eq] at hb
    rw [Bool.eq_iff_iff, decide_eq_true_eq]
    exact hb.trans (eq_of_getD 0 e)
  · rw [if_neg (by omega)]
    congr 1
    symm
    exact decide_eq_false (fun h => e (by rw [h]))
theorem eqByteS_self (k : Nat) (l : List Int) (hk : l.length < k) (hl : l.length ≤ 1048576) : laws_eqByteS.f k l l = some true := by
  rw [eqByteS_f k l l hk hl]; simp
theorem strOfNums_inj {l l' : List Int} (h : Bytes.okBytes l = true) (h' : Bytes.okBytes l' = true) : (strOfNums l).toList = (strOfNums l').toList ↔ l = l' := by
  constructor
  · intro e
    rw [ByteArray.toList_eq, ByteArray.toList_eq] at e
    have e2 : l.map (fun n => UInt8.ofNat n.toNat) = l'.map (fun n => UInt8.ofNat n.toNat) := by simpa [strOfNums] using e
    have hl : l.length = l'.length := by simpa using congrArg List.length e2
    refine List.ext_getElem hl fun i h1 h2 => ?_
    have e3 : (l.map (fun n => UInt8.ofNat n.toNat))[i]? = (l'.map (fun n => UInt8.ofNat n.toNat))[i]? := by rw [e2]
    rw [List.getElem?_map, List.getElem?_map, List.getElem?_eq_getElem h1, List.getElem?_eq_getElem h2] at e3
    simp only [Option.map_some, Option.some.injEq] at e3
    have b1 := Bytes.okBytes_mem h (List.getElem_mem h1)
    have b2 := Bytes.okBytes_mem h' (List.getElem_mem h2)
    have e4 := congrArg UInt8.toNat e3
    rw [UInt8.toNat_ofNat_of_lt' (by show (l[i]).toNat < 256; omega), UInt8.toNat_ofNat_of_lt' (by show (l'[i]).toNat < 256; omega)] at e4
    omega
  · rintro rfl; rfl
/-- What is told of a place's letter: by the bytes that stand there. -/
def rn4 (n b0 b1 b2 b3 : Nat) : Int × Int :=
  if (Lib.decodeN n b0 b1 b2 b3).1 = 65533 ∧ (Lib.decodeN n b0 b1 b2 b3).2 ≤ 1 then (-1, 0) else (((Lib.decodeN n b0 b1 b2 b3).1 : Int), ((Lib.decodeN n b0 b1 b2 b3).2 : Int))
def rn (l : List Int) (i : Nat) : Int × Int :=
  if i < l.length then rn4 (l.length - i) (l.getD i 0).toNat (l.getD (i + 1) 0).toNat (l.getD (i + 2) 0).toNat (l.getD (i + 3) 0).toNat else (-1, 0)
theorem decodeN_le (n b0 b1 b2 b3 : Nat) (h0 : b0 < 256) : (Lib.decodeN n b0 b1 b2 b3).1 ≤ 1114111 ∧ (Lib.decodeN n b0 b1 b2 b3).2 ≤ 4 ∧ 1 ≤ (Lib.decodeN n b0 b1 b2 b3).2 := by
  unfold Lib.decodeN
  (repeat' split) <;> simp only <;> omega
theorem getD_drop (l : List Int) (i j : Nat) : (l.drop i).getD j 0 = l.getD (i + j) 0 := by
  rw [List.getD_eq_getElem?_getD, List.getD_eq_getElem?_getD, List.getElem?_drop]
theorem rb1 {b0 r : Int} (hr : r = b0) (h0 : 0 ≤ b0) (h1 : b0 < 192) : (if isCp r then rb r else []) = [b0] ↔ b0 < 128 := by
  subst hr
  rw [if_pos (show isCp r from ⟨by omega, by omega, by omega⟩)]
  unfold rb
  (repeat' split) <;> simp <;> omega
theorem rb2 {b0 b1 r : Int} (hr : r = 64 * (b0 - 192) + b1 - 128) (h0 : 192 ≤ b0 ∧ b0 < 224) (h1 : 0 ≤ b1 ∧ b1 ≤ 255) : (if isCp r then rb r else []) = [b0, b1] ↔ 128 ≤ b1 ∧ b1 < 192 ∧ 128 ≤ r := by
  by_cases hc : isCp r
  · rw [if_pos hc]
    unfold isCp at hc
    unfold rb
    (repeat' split) <;> simp only [List.cons.injEq, List.nil_eq, and_true, and_false, reduceCtorEq, false_iff, iff_false] <;> omega
  · rw [if_neg hc]
    unfold isCp at hc
    simp only [reduceCtorEq, List.nil_eq, false_iff]
    omega
theorem rb3 {b0 b1 b2 r : Int} (hr : r = 64 * (64 * (b0 - 224) + b1 - 128) + b2 - 128) (h0 : 224 ≤ b0 ∧ b0 < 240) (h1 : 0 ≤ b1 ∧ b1 ≤ 255) (h2 : 0 ≤ b2 ∧ b2 ≤ 255) :
    (if isCp r then rb r else []) = [b0, b1, b2] ↔ 128 ≤ b1 ∧ b1 < 192 ∧ 128 ≤ b2 ∧ b2 < 192 ∧ 2048 ≤ r ∧ ¬ (55296 ≤ r ∧ r ≤ 57343) := by
  by_cases hc : isCp r
  · rw [if_pos hc]
    unfold isCp at hc
    unfold rb
    (repeat' split) <;> simp only [List.cons.injEq, List.nil_eq, and_true, and_false, reduceCtorEq, false_iff, iff_false] <;> omega
  · rw [if_neg hc]
    unfold isCp at hc
    simp only [reduceCtorEq, List.nil_eq, false_iff]
    omega
theorem rb4 {b0 b1 b2 b3 r : Int} (hr : r = 64 * (64 * (64 * (b0 - 240) + b1 - 128) + b2 - 128) + b3 - 128) (h0 : 240 ≤ b0 ∧ b0 ≤ 255) (h1 : 0 ≤ b1 ∧ b1 ≤ 255) (h2 : 0 ≤ b2 ∧ b2 ≤ 255) (h3 : 0 ≤ b3 ∧ b3 ≤ 255) :
    (if isCp r then rb r else []) = [b0, b1, b2, b3] ↔ 128 ≤ b1 ∧ b1 < 192 ∧ 128 ≤ b2 ∧ b2 < 192 ∧ 128 ≤ b3 ∧ b3 < 192 ∧ 65536 ≤ r ∧ r ≤ 1114111 := by
  by_cases hc : isCp r
  · rw [if_pos hc]
    unfold isCp at hc
    unfold rb
    (repeat' split) <;> simp only [List.cons.injEq, List.nil_eq, and_true, and_false, reduceCtorEq, false_iff, iff_false] <;> omega
  · rw [if_neg hc]
    unfold isCp at hc
    simp only [reduceCtorEq, List.nil_eq, false_iff]
    omega
theorem rn4_1 (n b0 b1 b2 b3 : Nat) (h0 : b0 < 192) : rn4 n b0 b1 b2 b3 = if b0 < 128 then ((b0 : Int), 1) else (-1, 0) := by
  have hd : Lib.decodeN n b0 b1 b2 b3 = if b0 < 128 then (b0, 1) else (65533, 1) := by
    unfold Lib.decodeN
    (repeat' split) <;> first | rfl | (exfalso; omega)
  unfold rn4
  rw [hd]
  by_cases h : b0 < 128
  · rw [if_pos h, if_pos h, if_neg (by simp only; omega)]; rfl
  · rw [if_neg h, if_neg h, if_pos (by simp)]
theorem rn4_2 (n b0 b1 b2 b3 : Nat) (r : Int) (hr : r = 64 * ((b0 : Int) - 192) + b1 - 128) (h0 : 192 ≤ b0 ∧ b0 < 224) (h1 : b1 < 256) :
    rn4 n b0 b1 b2 b3 = if 2 ≤ n ∧ 128 ≤ (b1 : Int) ∧ (b1 : Int) < 192 ∧ 128 ≤ r then (r, 2) else (-1, 0) := by
  have hd : Lib.decodeN n b0 b1 b2 b3 = if 2 ≤ n ∧ 128 ≤ (b1 : Int) ∧ (b1 : Int) < 192 ∧ 128 ≤ r then (r.toNat, 2) else (65533, 1) := by
    unfold Lib.decodeN
    (repeat' split) <;> first | rfl | (exfalso; omega) | (apply Prod.ext <;> simp only <;> omega)
  unfold rn4
  rw [hd]
  by_cases h : 2 ≤ n ∧ 128 ≤ (b1 : Int) ∧ (b1 : Int) < 192 ∧ 128 ≤ r
  · rw [if_pos h, if_pos h, if_neg (by simp)]
    apply Prod.ext <;> simp only <;> omega
  · rw [if_neg h, if_neg h, if_pos (by simp)]
theorem rn4_3 (n b0 b1 b2 b3 : Nat) (r : Int) (hr : r = 64 * (64 * ((b0 : Int) - 224) + b1 - 128) + b2 - 128) (h0 : 224 ≤ b0 ∧ b0 < 240) (h1 : b1 < 256) (h2 : b2 < 256) :
    rn4 n b0 b1 b2 b3 = if 3 ≤ n ∧ 128 ≤ (b1 : Int) ∧ (b1 : Int) < 192 ∧ 128 ≤ (b2 : Int) ∧ (b2 : Int) < 192 ∧ 2048 ≤ r ∧ ¬ (55296 ≤ r ∧ r ≤ 57343) then (r, 3) else (-1, 0) := by
  have hd : Lib.decodeN n b0 b1 b2 b3 = if 3 ≤ n ∧ 128 ≤ (b1 : Int) ∧ (b1 : Int) < 192 ∧ 128 ≤ (b2 : Int) ∧ (b2 : Int) < 192 ∧ 2048 ≤ r ∧ ¬ (55296 ≤ r ∧ r ≤ 57343) then (r.toNat, 3) else (65533, 1) := by
    unfold Lib.decodeN
    (repeat' split) <;> first | rfl | (exfalso; omega) | (apply Prod.ext <;> simp only <;> omega)
  unfold rn4
  rw [hd]
  by_cases h : 3 ≤ n ∧ 128 ≤ (b1 : Int) ∧ (b1 : Int) < 192 ∧ 128 ≤ (b2 : Int) ∧ (b2 : Int) < 192 ∧ 2048 ≤ r ∧ ¬ (55296 ≤ r ∧ r ≤ 57343)
  · rw [if_pos h, if_pos h, if_neg (by simp)]
    apply Prod.ext <;> simp only <;> omega
  · rw [if_neg h, if_neg h, if_pos (by simp)]
theorem rn4_4 (n b0 b1 b2 b3 : Nat) (r : Int) (hr : r = 64 * (64 * (64 * ((b0 : Int) - 240) + b1 - 128) + b2 - 128) + b3 - 128) (h0 : 240 ≤ b0 ∧ b0 < 256) (h1 : b1 < 256) (h2 : b2 < 256) (h3 : b3 < 256) :
    rn4 n b0 b1 b2 b3 = if 4 ≤ n ∧ 128 ≤ (b1 : Int) ∧ (b1 : Int) < 192 ∧ 128 ≤ (b2 : Int) ∧ (b2 : Int) < 192 ∧ 128 ≤ (b3 : Int) ∧ (b3 : Int) < 192 ∧ 65536 ≤ r ∧ r ≤ 1114111 then (r, 4) else (-1, 0) := by
  have hd : Lib.decodeN n b0 b1 b2 b3 = if 4 ≤ n ∧ 128 ≤ (b1 : Int) ∧ (b1 : Int) < 192 ∧ 128 ≤ (b2 : Int) ∧ (b2 : Int) < 192 ∧ 128 ≤ (b3 : Int) ∧ (b3 : Int) < 192 ∧ 65536 ≤ r ∧ r ≤ 1114111 then (r.toNat, 4) else (65533, 1) := by
    unfold Lib.decodeN
    (repeat' split) <;> first | rfl | (exfalso; omega) | (apply Prod.ext <;> simp only <;> omega)
  unfold rn4
  rw [hd]
  by_cases h : 4 ≤ n ∧ 128 ≤ (b1 : Int) ∧ (b1 : Int) < 192 ∧ 128 ≤ (b2 : Int) ∧ (b2 : Int) < 192 ∧ 128 ≤ (b3 : Int) ∧ (b3 : Int) < 192 ∧ 65536 ≤ r ∧ r ≤ 1114111
  · rw [if_pos h, if_pos h, if_neg (by simp)]
    apply Prod.ext <;> simp only <;> omega
  · rw [if_neg h, if_neg h, if_pos (by simp)]
theorem cut_getD (l : List Int) (i : Nat) : ∀ s : Nat, i + s ≤ l.length → (l.take (i + s)).drop i = (List.range s).map fun j => l.getD (i + j) 0 := by
  intro s hs
  apply List.ext_getElem?
  intro j
  rw [List.getElem?_drop, List.getElem?_take, List.getElem?_map]
  by_cases hj : j < s
  · rw [if_pos (by omega), List.getElem?_range hj, List.getElem?_eq_getElem (by omega)]
    simp only [Option.map_some, Option.some.injEq]
    rw [List.getD_eq_getElem?_getD, List.getElem?_eq_getElem (by omega)]
    rfl
  · rw [if_neg (by omega), List.getElem?_eq_none (l := List.range s) (by simp; omega)]
    rfl
theorem okBytes_cp (r : Int) : Bytes.okBytes (if isCp r then rb r else []) = true := by
  by_cases hc : isCp r
  · rw [if_pos hc]
    unfold isCp at hc
    apply Bytes.okBytes_of
    intro x hx
    unfold rb at hx
    (repeat' split at hx) <;> simp at hx <;> omega
  · rw [if_neg hc]; rfl
theorem specRune_end (k : Nat) (hk : 1 ≤ k) (l : List Int) (i s : Nat) (r : Int) (hb : Bytes.okBytes l = true) (hl : l.length ≤ 1048576) (his : i + s ≤ l.length) :
    spec_l01Rune.l0 (k + 1) l (i : Int) (s : Int) r (s : Int) = some (if (if isCp r then rb r else []) = (List.range s).map (fun j => l.getD (i + j) 0) then (r, (s : Int)) else (-1, 0)) := by
  have e1 : wrap64 ((i : Int) + (s : Int)) = ((i + s : Nat) : Int) := by rw [w64 (by omega) (by omega)]; omega
  have hcut : Bytes.okBytes ((List.range s).map fun j => l.getD (i + j) 0) = true := by
    rw [← cut_getD l i s his]
    exact Bytes.okBytes_drop (Bytes.okBytes_take hb _) _
  have hcp := okBytes_cp r
  have hrb := specRB_f k hk r
  simp only [spec_l01Rune.l0]
  rw [if_neg (by omega), hrb, Option.bind_some, e1, if_pos (by omega), if_pos (by omega), if_pos (by omega), Int.toNat_natCast, Int.toNat_natCast, cut_getD l i s his]
  generalize (if isCp r then rb r else []) = L1 at hcp
  generalize (List.range s).map (fun j => l.getD (i + j) 0) = L2 at hcut
  by_cases h : L1 = L2
  · rw [if_pos ((strOfNums_inj hcp hcut).2 h), if_pos h]
  · rw [if_neg (fun e => h ((strOfNums_inj hcp hcut).1 e)), if_neg h]
theorem specRune_step (k : Nat) (l : List Int) (i s j : Nat) (r : Int) (hb : Bytes.okBytes l = true) (hl : l.length ≤ 1048576) (hj : j < s) (his : i + s ≤ l.length) (hr : -1000000000 ≤ r ∧ r ≤ 1000000000) :
    spec_l01Rune.l0 (k + 1) l (i : Int) (s : Int) r (j : Int) = spec_l01Rune.l0 k l (i : Int) (s : Int) (64 * r + l.getD (i + j) 0 - 128) ((j + 1 : Nat) : Int) := by
  have hx := Bytes.okBytes_getD hb (i + j)
  have e1 : wrap64 ((i : Int) + (j : Int)) = ((i + j : Nat) : Int) := by rw [w64 (by omega) (by omega)]; omega
  have e2 : wrap64 (wrap64 (wrap64 (64 * r) + wrap64 (l.getD (i + j) 0)) - 128) = 64 * r + l.getD (i + j) 0 - 128 := by
    rw [w64 (x := 64 * r) (by omega) (by omega), w64 (x := l.getD (i + j) 0) (by omega) (by omega), w64 (x := 64 * r + l.getD (i + j) 0) (by omega) (by omega), w64 (by omega) (by omega)]
  simp only [spec_l01Rune.l0]
  rw [if_pos (by omega), e1, if_pos (by omega), if_pos (by omega), rd_nat, e2, w64s j (by omega)]
theorem specRune_f (k : Nat) (hk : 9 ≤ k) (l : List Int) (i : Nat) (hb : Bytes.okBytes l = true) (hl : l.length ≤ 1048576) (hi : i < l.length) : spec_l01Rune.f k l (i : Int) = some (rn l i) := by
  obtain ⟨k, rfl⟩ : ∃ m, k = m + 9 := ⟨k - 9, by omega⟩
  have b0 := Bytes.okBytes_getD hb i
  have b1 := Bytes.okBytes_getD hb (i + 1)
  have b2 := Bytes.okBytes_getD hb (i + 2)
  have b3 := Bytes.okBytes_getD hb (i + 3)
  have j1 : ∀ (s : Nat) (r : Int), spec_l01Rune.j1 (k + 8) l (i : Int) (s : Int) r = if l.length - i < s then some (-1, 0) else spec_l01Rune.l0 (k + 7) l (i : Int) (s : Int) r 1 := by
    intro s r
    simp only [spec_l01Rune.j1]
    rw [w64 (x := (l.length : Int) - (i : Int)) (by omega) (by omega)]
    by_cases h : l.length - i < s
    · rw [if_pos h, if_pos (by omega)]
    · rw [if_neg h, if_neg (by omega)]
  unfold spec_l01Rune.f
  rw [if_neg (by omega), show decide ((i : Int) ≥ (l.length : Int)) = false from decide_eq_false (by omega)]
  simp only [spec_l01Rune.j0]
  rw [if_neg (by simp), if_pos (by omega), if_pos (by omega), rd_nat, w64 (x := l.getD i 0) (by omega) (by omega)]
  unfold rn
  rw [if_pos hi]
  generalize e0 : l.getD i 0 = x0 at b0
  generalize e1 : l.getD (i + 1) 0 = x1 at b1
  generalize e2 : l.getD (i + 2) 0 = x2 at b2
  generalize e3 : l.getD (i + 3) 0 = x3 at b3
  by_cases c4 : x0 ≥ 240
  · rw [if_pos c4, w64 (x := x0 - 240) (by omega) (by omega), show (4 : Int) = ((4 : Nat) : Int) from rfl, j1, rn4_4 (l.length - i) x0.toNat x1.toNat x2.toNat x3.toNat (64 * (64 * (64 * (x0 - 240) + x1 - 128) + x2 - 128) + x3 - 128) (by omega) (by omega) (by omega) (by omega) (by omega)]
    by_cases hn : l.length - i < 4
    · rw [if_pos hn, if_neg (fun h => by omega)]
    · rw [if_neg hn, show (1 : Int) = ((1 : Nat) : Int) from rfl, specRune_step (k + 6) l i 4 1 _ hb hl (by omega) (by omega) (by omega), e1,
        specRune_step (k + 5) l i 4 2 _ hb hl (by omega) (by omega) (by omega), e2, specRune_step (k + 4) l i 4 3 _ hb hl (by omega) (by omega) (by omega), e3, specRune_end (k + 3) (by omega) l i 4 _ hb hl (by omega)]
      have hm : (List.range 4).map (fun j => l.getD (i + j) 0) = [x0, x1, x2, x3] := by
        show [l.getD (i + 0) 0, l.getD (i + 1) 0, l.getD (i + 2) 0, l.getD (i + 3) 0] = _
        rw [Nat.add_zero, e0, e1, e2, e3]
      rw [hm]
      have key := rb4 (b0 := x0) (b1 := x1) (b2 := x2) (b3 := x3) (r := 64 * (64 * (64 * (x0 - 240) + x1 - 128) + x2 - 128) + x3 - 128) rfl (by omega) b1 b2 b3
      congr 1
      exact ite_congr (propext (key.trans ⟨fun h => ⟨by omega, by omega, by omega, by omega, by omega, by omega, by omega, by omega, by omega⟩, fun h => ⟨by omega, by omega, by omega, by omega, by omega, by omega, by omega, by omega⟩⟩)) (fun _ => rfl) (fun _ => rfl)
  · rw [if_neg c4]
    by_cases c3 : x0 ≥ 224
    · rw [if_pos c3, w64 (x := x0 - 224) (by omega) (by omega), show (3 : Int) = ((3 : Nat) : Int) from rfl, j1, rn4_3 (l.length - i) x0.toNat x1.toNat x2.toNat x3.toNat (64 * (64 * (x0 - 224) + x1 - 128) + x2 - 128) (by omega) (by omega) (by omega) (by omega)]
      by_cases hn : l.length - i < 3
      · rw [if_pos hn, if_neg (fun h => by omega)]
      · rw [if_neg hn, show (1 : Int) = ((1 : Nat) : Int) from rfl, specRune_step (k + 6) l i 3 1 _ hb hl (by omega) (by omega) (by omega), e1,
          specRune_step (k + 5) l i 3 2 _ hb hl (by omega) (by omega) (by omega), e2, specRune_end (k + 4) (by omega) l i 3 _ hb hl (by omega)]
        have hm : (List.range 3).map (fun j => l.getD (i + j) 0) = [x0, x1, x2] := by
          show [l.getD (i + 0) 0, l.getD (i + 1) 0, l.getD (i + 2) 0] = _
          rw [Nat.add_zero, e0, e1, e2]
        rw [hm]
        have key := rb3 (b0 := x0) (b1 := x1) (b2 := x2) (r := 64 * (64 * (x0 - 224) + x1 - 128) + x2 - 128) rfl (by omega) b1 b2
        congr 1
        exact ite_congr (propext (key.trans ⟨fun h => ⟨by omega, by omega, by omega, by omega, by omega, by omega, by omega⟩, fun h => ⟨by omega, by omega, by omega, by omega, by omega, by omega⟩⟩)) (fun _ => rfl) (fun _ => rfl)
    · rw [if_neg c3]
      by_cases c2 : x0 ≥ 192
      · rw [if_pos c2, w64 (x := x0 - 192) (by omega) (by omega), show (2 : Int) = ((2 : Nat) : Int) from rfl, j1, rn4_2 (l.length - i) x0.toNat x1.toNat x2.toNat x3.toNat (64 * (x0 - 192) + x1 - 128) (by omega) (by omega) (by omega)]
        by_cases hn : l.length - i < 2
        · rw [if_pos hn, if_neg (fun h => by omega)]
        · rw [if_neg hn, show (1 : Int) = ((1 : Nat) : Int) from rfl, specRune_step (k + 6) l i 2 1 _ hb hl (by omega) (by omega) (by omega), e1, specRune_end (k + 5) (by omega) l i 2 _ hb hl (by omega)]
          have hm : (List.range 2).map (fun j => l.getD (i + j) 0) = [x0, x1] := by
            show [l.getD (i + 0) 0, l.getD (i + 1) 0] = _
            rw [Nat.add_zero, e0, e1]
          rw [hm]
          have key := rb2 (b0 := x0) (b1 := x1) (r := 64 * (x0 - 192) + x1 - 128) rfl (by omega) b1
          congr 1
          exact ite_congr (propext (key.trans ⟨fun h => ⟨by omega, by omega, by omega, by omega⟩, fun h => ⟨by omega, by omega, by omega⟩⟩)) (fun _ => rfl) (fun _ => rfl)
      · rw [if_neg c2, show spec_l01Rune.j1 (k + 8) l (i : Int) 1 x0 = _ from j1 1 x0, rn4_1 (l.length - i) x0.toNat x1.toNat x2.toNat x3.toNat (by omega), if_neg (by omega), show spec_l01Rune.l0 (k + 7) l (i : Int) ((1 : Nat) : Int) x0 1 = _ from specRune_end (k + 6) (by omega) l i 1 x0 hb hl (by omega)]
        have hm : (List.range 1).map (fun j => l.getD (i + j) 0) = [x0] := by
          show [l.getD (i + 0) 0] = _
          rw [Nat.add_zero, e0]
        rw [hm]
        have key := rb1 (b0 := x0) (r := x0) rfl (by omega) (by omega)
        congr 1
        rw [ite_congr (propext (key.trans (⟨fun h => by omega, fun h => by omega⟩ : x0 < 128 ↔ x0.toNat < 128))) (fun _ => rfl) (fun _ => rfl), show ((x0.toNat : Nat) : Int) = x0 by omega]
        rfl
theorem specRune_out (k : Nat) (hk : 1 ≤ k) (l : List Int) (a : Int) (ha : a < 0 ∨ (l.length : Int) ≤ a) : spec_l01Rune.f k l a = some (-1, 0) := by
  obtain ⟨k, rfl⟩ : ∃ m, k = m + 1 := ⟨k - 1, by omega⟩
  have key : spec_l01Rune.j0 (k + 1) l a true = some (-1, 0) := by simp [spec_l01Rune.j0]
  unfold spec_l01Rune.f
  by_cases h : a < 0
  · rw [if_pos h]; exact key
  · rw [if_neg h, show decide (a ≥ (l.length : Int)) = true from decide_eq_true (by omega)]; exact key
/-- The letter at whatever place. -/
def rnA (l : List Int) (a : Int) : Int × Int := if 0 ≤ a ∧ a < (l.length : Int) then rn l a.toNat else (-1, 0)
theorem specRune_all (k : Nat) (hk : 9 ≤ k) (l : List Int) (a : Int) (hb : Bytes.okBytes l = true) (hl : l.length ≤ 1048576) : spec_l01Rune.f k l a = some (rnA l a) := by
  unfold rnA
  by_cases h : 0 ≤ a ∧ a < (l.length : Int)
  · rw [if_pos h]
    have := specRune_f k hk l a.toNat hb hl (by omega)
    rwa [show ((a.toNat : Nat) : Int) = a by omega] at this
  · rw [if_neg h]
    exact specRune_out k (by omega) l a (by omega)
theorem okBytes_wf {l : List Int} (h : ∀ x ∈ l, (Lit.int .u8 x).wf = true) : Bytes.okBytes l = true := Bytes.okBytes_of fun x hx => wf_u8 (h x hx)
/-- A byte that begins no letter. -/
def contB (x : Int) : Bool := decide (128 ≤ x ∧ x < 192)
/-- What a place's letter is: none, or of some bytes, of which the later ones begin none. -/
theorem rn_cases {l : List Int} {p : Nat} (hb : Bytes.okBytes l = true) (hp : p < l.length) :
    rn l p = (-1, 0) ∨ ∃ s : Nat, 1 ≤ s ∧ s ≤ 4 ∧ (rn l p).2 = (s : Int) ∧ 0 ≤ (rn l p).1 ∧ p + s ≤ l.length ∧ contB (l.getD p 0) = false ∧ ∀ j, 1 ≤ j → j < s → contB (l.getD (p + j) 0) = true := by
  have b0 := Bytes.okBytes_getD hb p
  have b1 := Bytes.okBytes_getD hb (p + 1)
  have b2 := Bytes.okBytes_getD hb (p + 2)
  have b3 := Bytes.okBytes_getD hb (p + 3)
  unfold rn
  rw [if_pos hp]
  unfold contB
  generalize e0 : l.getD p 0 = x0 at b0
  generalize e1 : l.getD (p + 1) 0 = x1 at b1
  generalize e2 : l.getD (p + 2) 0 = x2 at b2
  generalize e3 : l.getD (p + 3) 0 = x3 at b3
  by_cases c4 : 240 ≤ x0
  · rw [rn4_4 (l.length - p) x0.toNat x1.toNat x2.toNat x3.toNat (64 * (64 * (64 * (x0 - 240) + x1 - 128) + x2 - 128) + x3 - 128) (by omega) (by omega) (by omega) (by omega) (by omega)]
    by_cases h : 4 ≤ l.length - p ∧ 128 ≤ ((x1.toNat : Nat) : Int) ∧ ((x1.toNat : Nat) : Int) < 192 ∧ 128 ≤ ((x2.toNat : Nat) : Int) ∧ ((x2.toNat : Nat) : Int) < 192 ∧ 128 ≤ ((x3.toNat : Nat) : Int) ∧ ((x3.toNat : Nat) : Int) < 192 ∧ 65536 ≤ 64 * (64 * (64 * (x0 - 240) + x1 - 128) + x2 - 128) + x3 - 128 ∧ 64 * (64 * (64 * (x0 - 240) + x1 - 128) + x2 - 128) + x3 - 128 ≤ 1114111
    · rw [if_pos h]
      refine Or.inr ⟨4, by omega, by omega, rfl, by simp only; omega, by omega, by simp only [decide_eq_false_iff_not]; omega, fun j h1 h2 => ?_⟩
      obtain rfl | rfl | rfl : j = 1 ∨ j = 2 ∨ j = 3 := by omega
      · rw [e1, decide_eq_true_eq]; omega
      · rw [e2, decide_eq_true_eq]; omega
      · rw [e3, decide_eq_true_eq]; omega
    · rw [if_neg h]; exact Or.inl rfl
  · by_cases c3 : 224 ≤ x0
    · rw [rn4_3 (l.length - p) x0.toNat x1.toNat x2.toNat x3.toNat (64 * (64 * (x0 - 224) + x1 - 128) + x2 - 128) (by omega) (by omega) (by omega) (by omega)]
      by_cases h : 3 ≤ l.length - p ∧ 128 ≤ ((x1.toNat : Nat) : Int) ∧ ((x1.toNat : Nat) : Int) < 192 ∧ 128 ≤ ((x2.toNat : Nat) : Int) ∧ ((x2.toNat : Nat) : Int) < 192 ∧ 2048 ≤ 64 * (64 * (x0 - 224) + x1 - 128) + x2 - 128 ∧ ¬ (55296 ≤ 64 * (64 * (x0 - 224) + x1 - 128) + x2 - 128 ∧ 64 * (64 * (x0 - 224) + x1 - 128) + x2 - 128 ≤ 57343)
      · rw [if_pos h]
        refine Or.inr ⟨3, by omega, by omega, rfl, by simp only; omega, by omega, by simp only [decide_eq_false_iff_not]; omega, fun j h1 h2 => ?_⟩
        obtain rfl | rfl : j = 1 ∨ j = 2 := by omega
        · rw [e1, decide_eq_true_eq]; omega
        · rw [e2, decide_eq_true_eq]; omega
      · rw [if_neg h]; exact Or.inl rfl
    · by_cases c2 : 192 ≤ x0
      · rw [rn4_2 (l.length - p) x0.toNat x1.toNat x2.toNat x3.toNat (64 * (x0 - 192) + x1 - 128) (by omega) (by omega) (by omega)]
        by_cases h : 2 ≤ l.length - p ∧ 128 ≤ ((x1.toNat : Nat) : Int) ∧ ((x1.toNat : Nat) : Int) < 192 ∧ 128 ≤ 64 * (x0 - 192) + x1 - 128
        · rw [if_pos h]
          refine Or.inr ⟨2, by omega, by omega, rfl, by simp only; omega, by omega, by simp only [decide_eq_false_iff_not]; omega, fun j h1 h2 => ?_⟩
          obtain rfl : j = 1 := by omega
          rw [e1, decide_eq_true_eq]; omega
        · rw [if_neg h]; exact Or.inl rfl
      · rw [rn4_1 (l.length - p) x0.toNat x1.toNat x2.toNat x3.toNat (by omega)]
        by_cases h : x0.toNat < 128
        · rw [if_pos h]
          refine Or.inr ⟨1, by omega, by omega, rfl, by simp only; omega, by omega, by simp only [decide_eq_false_iff_not]; omega, fun j h1 h2 => by omega⟩
        · rw [if_neg h]; exact Or.inl rfl
/-- The places of the letters from p on, and the end. -/
def cuts (l : List Int) : Nat → Nat → Option (List Int)
  | 0, p => if p < l.length then none else some [(p : Int)]
  | n + 1, p => if p < l.length then (if (rn l p).2 = 0 then none else (cuts l n (p + (rn l p).2.toNat)).map ((p : Int) :: ·)) else some [(p : Int)]
theorem cuts_end (l : List Int) (n p : Nat) (h : ¬ p < l.length) : cuts l n p = some [(p : Int)] := by
  cases n <;> simp [cuts, h]
/-- A text. -/
def isT (l : List Int) : Bool := decide (l.length ≤ 400) && (cuts l l.length 0).isSome
/-- Its cuts. -/
def cutsOf (l : List Int) : List Int := if l.length ≤ 400 then (cuts l l.length 0).getD [] else []
theorem cuts_pos {l : List Int} : ∀ (n p : Nat) (c : List Int), cuts l n p = some c → 0 < c.length := by
  intro n p c h
  cases n with
  | zero =>
    simp only [cuts] at h
    split at h
    · cases h
    · cases h; simp
  | succ n =>
    simp only [cuts] at h
    split at h
    · split at h
      · cases h
      · obtain ⟨c', _, rfl⟩ := Option.map_eq_some_iff.1 h
        simp
    · cases h; simp
theorem specCuts_l0 {l : List Int} (hb : Bytes.okBytes l = true) (hl : l.length ≤ 1048576) : ∀ (n p k : Nat) (out : List Int), p ≤ l.length → l.length - p ≤ n → n + 10 ≤ k → out.length + n ≤ 1048576 →
    spec_l01Cuts.l0 k l out (p : Int) = some (match cuts l n p with | none => [] | some c => out ++ c) := by
  intro n
  induction n with
  | zero =>
    intro p k out h1 h2 h3 h4
    obtain ⟨k, rfl⟩ : ∃ m, k = m + 1 := ⟨k - 1, by omega⟩
    simp only [spec_l01Cuts.l0]
    rw [if_neg (by omega), if_pos (by omega), cuts_end l 0 p (by omega)]
  | succ n ih =>
    intro p k out h1 h2 h3 h4
    obtain ⟨k, rfl⟩ : ∃ m, k = m + 1 := ⟨k - 1, by omega⟩
    simp only [spec_l01Cuts.l0]
    by_cases hp : p < l.length
    · rw [if_pos (by omega)]
      unfold spec_RuneSize.f
      rw [specRune_f k (by omega) l p hb hl hp]
      simp only [Option.bind_some, cuts, if_pos hp]
      rcases rn_cases hb hp with h | ⟨s, hs1, hs4, hs, _, hse, _, _⟩
      · rw [h]; simp
      · rw [hs, if_neg (by omega), if_pos (by omega), show wrap64 ((p : Int) + (s : Int)) = ((p + s : Nat) : Int) from by rw [w64 (by omega) (by omega)]; omega, Int.toNat_natCast,
          ih (p + s) k (out ++ [(p : Int)]) hse (by omega) (by omega) (by simp; omega)]
        cases cuts l n (p + s) <;> simp [show s ≠ 0 by omega]
    · rw [if_neg (by omega), if_pos (by omega), cuts_end l (n + 1) p hp]
theorem specCuts_f {l : List Int} (k : Nat) (hb : Bytes.okBytes l = true) (hk : 411 ≤ k) : spec_l01Cuts.f k l = some (cutsOf l) := by
  unfold spec_l01Cuts.f cutsOf
  by_cases h : l.length ≤ 400
  · rw [if_neg (by omega), if_pos h]
    refine (specCuts_l0 hb (by omega) l.length 0 k [] (by omega) (by omega) (by omega) (by simp; omega)).trans ?_
    cases cuts l l.length 0 <;> simp
  · rw [if_pos (by omega), if_neg h]
theorem isT_cuts {l : List Int} : isT l = true ↔ 0 < (cutsOf l).length := by
  unfold isT cutsOf
  by_cases h : l.length ≤ 400
  · rw [if_pos h]
    cases hc : cuts l l.length 0 with
    | none => simp
    | some c => simpa [h] using cuts_pos _ _ _ hc
  · rw [if_neg h]; simp [h]
theorem isT_len {l : List Int} (h : isT l = true) : l.length ≤ 400 := by
  unfold isT at h
  simp only [Bool.and_eq_true, decide_eq_true_eq] at h
  exact h.1
theorem isT_some {l : List Int} (h : isT l = true) : cuts l l.length 0 = some (cutsOf l) := by
  have hl := isT_len h
  unfold isT at h
  simp only [Bool.and_eq_true, decide_eq_true_eq] at h
  unfold cutsOf
  rw [if_pos hl]
  cases hc : cuts l l.length 0 with
  | none => rw [hc] at h; simp at h
  | some c => rfl
theorem isT_none {l : List Int} (h : isT l = false) : cutsOf l = [] := by
  cases hc : cutsOf l with
  | nil => rfl
  | cons a c =>
    have := isT_cuts.2 (show 0 < (cutsOf l).length by rw [hc]; simp)
    rw [h] at this; cases this
theorem drop_toArray (l : List Int) (p : Nat) : (⟨((Bytes.toBA l).data.toList.drop p).toArray⟩ : ByteArray) = Bytes.toBA (l.drop p) := by
  unfold Bytes.toBA
  simp [List.map_drop]
theorem decode_drop {l : List Int} (hb : Bytes.okBytes l = true) (p : Nat) :
    Utf8.decode (Bytes.toBA (l.drop p)) 0 = Lib.decodeN (l.length - p) (l.getD p 0).toNat (l.getD (p + 1) 0).toNat (l.getD (p + 2) 0).toNat (l.getD (p + 3) 0).toNat := by
  have g : ∀ j, ((Bytes.toBA (l.drop p)).get! j).toNat = (l.getD (p + j) 0).toNat := fun j => by
    have := Bytes.toBA_get (Bytes.okBytes_drop hb p) j
    rw [getD_drop] at this
    omega
  rw [Lib.decode_at, g, g, g, g, Bytes.toBA_size, List.length_drop]
  simp
theorem decode_at_ {l : List Int} (hb : Bytes.okBytes l = true) (p : Nat) :
    Utf8.decode (Bytes.toBA l) p = Lib.decodeN (l.length - p) (l.getD p 0).toNat (l.getD (p + 1) 0).toNat (l.getD (p + 2) 0).toNat (l.getD (p + 3) 0).toNat := by
  have g : ∀ j, ((Bytes.toBA l).get! j).toNat = (l.getD j 0).toNat := fun j => by have := Bytes.toBA_get hb j; omega
  rw [Lib.decode_at, g, g, g, g, Bytes.toBA_size]
theorem valid_cuts {l : List Int} (hb : Bytes.okBytes l = true) : ∀ (n p : Nat), p ≤ l.length → l.length - p ≤ n → Lib.validGoD n ((Bytes.toBA l).data.toList.drop p) = (cuts l n p).isSome := by
  have hsz : (Bytes.toBA l).data.toList.length = l.length := by simp [Bytes.toBA]
  intro n
  induction n with
  | zero =>
    intro p h1 h2
    rw [cuts_end l 0 p (by omega)]
    rfl
  | succ n ih =>
    intro p h1 h2
    unfold Lib.validGoD
    by_cases hp : p < l.length
    · have hne : ¬ ((Bytes.toBA l).data.toList.drop p = []) := by
        intro h
        have := congrArg List.length h
        simp [hsz] at this
        omega
      rw [if_neg hne]
      simp only [cuts, if_pos hp]
      have hd : Lib.decodeL ((Bytes.toBA l).data.toList.drop p) = Lib.decodeN (l.length - p) (l.getD p 0).toNat (l.getD (p + 1) 0).toNat (l.getD (p + 2) 0).toNat (l.getD (p + 3) 0).toNat := by
        unfold Lib.decodeL
        rw [drop_toArray, decode_drop hb]
      have hle := decodeN_le (l.length - p) (l.getD p 0).toNat (l.getD (p + 1) 0).toNat (l.getD (p + 2) 0).toNat (l.getD (p + 3) 0).toNat (by have := Bytes.okBytes_getD hb p; omega)
      have hrn : rn l p = rn4 (l.length - p) (l.getD p 0).toNat (l.getD (p + 1) 0).toNat (l.getD (p + 2) 0).toNat (l.getD (p + 3) 0).toNat := by unfold rn; rw [if_pos hp]
      have hcs := rn_cases hb hp
      unfold rn4 at hrn
      rw [hd]
      generalize Lib.decodeN (l.length - p) (l.getD p 0).toNat (l.getD (p + 1) 0).toNat (l.getD (p + 2) 0).toNat (l.getD (p + 3) 0).toNat = d at hle hrn
      by_cases hbad : d.1 = 65533 ∧ d.2 ≤ 1
      · rw [if_pos ⟨hbad.1, by omega⟩]
        rw [if_pos hbad] at hrn
        rw [hrn]
        simp
      · rw [if_neg (fun h => hbad ⟨h.1, by omega⟩)]
        rw [if_neg hbad] at hrn
        have h2' : (rn l p).2 = (d.2 : Int) := by rw [hrn]
        have hse : p + d.2 ≤ l.length := by
          rcases hcs with h | ⟨s, _, _, hs, _, hse, _, _⟩
          · rw [h] at h2'; simp at h2'; omega
          · omega
        rw [h2', if_neg (by omega), Int.toNat_natCast, List.drop_drop, ih (p + d.2) hse (by omega)]
        cases cuts l n (p + d.2) <;> rfl
    · have he : (Bytes.toBA l).data.toList.drop p = [] := List.drop_eq_nil_of_le (by omega)
      rw [if_pos he, cuts_end l (n + 1) p hp]
      rfl
theorem implValid_f {l : List Int} (hb : Bytes.okBytes l = true) (hl : l.length ≤ 1048576) : utf8_Valid.f l = some (cuts l l.length 0).isSome := by
  unfold utf8_Valid.f
  rw [if_pos hb, if_pos (by omega)]
  congr 1
  have := valid_cuts hb l.length 0 (by omega) (by omega)
  rw [List.drop_zero] at this
  unfold Lib.validD
  rw [show (Bytes.toBA l).data.toList.length = l.length by simp [Bytes.toBA]]
  exact this
theorem specText_f {l : List Int} (k : Nat) (hb : Bytes.okBytes l = true) (hk : 411 ≤ k) : spec_TextOk.f k l = some (isT l) := by
  unfold spec_TextOk.f
  rw [specCuts_f k hb hk]
  simp only [Option.bind_some, Option.some.injEq]
  rw [Bool.eq_iff_iff, isT_cuts, decide_eq_true_eq]
  omega
theorem implText_f {l : List Int} (hb : Bytes.okBytes l = true) : impl_isText.f l = some (isT l) := by
  unfold impl_isText.f isT
  by_cases h : l.length ≤ 400
  · rw [if_pos (by omega), implValid_f hb (by omega)]
    simp [h]
  · rw [if_neg (by omega)]
    simp [h]
theorem implIn_f (a b c : Int) : impl_in.f a b c = some (decide (b ≤ a ∧ a ≤ c)) := by
  unfold impl_in.f
  by_cases h : b ≤ a <;> simp [h]
theorem isWord_f (a : Int) : impl_isWord.f a = some (decide (0 ≤ a ∧ a ≤ 65535)) := by
  unfold impl_isWord.f
  rw [implIn_f]; rfl
theorem specWord_f (a : Int) : spec_l09Word.f a = some (decide (0 ≤ a ∧ a ≤ 65535)) := by
  unfold spec_l09Word.f
  by_cases h : 0 ≤ a
  · rw [if_pos h]; simp [h]
  · rw [if_neg h]; simp [h]
def isRp (x y z : Int) (l : List Int) : Bool := if x = 0 then decide (0 ≤ y ∧ y ≤ 65535) && decide (0 ≤ z ∧ z ≤ 65535) && isT l else decide (0 ≤ x ∧ x ≤ 10) && decide (y = 0) && decide (z = 0) && decide (l.length = 0)
theorem isT_nil {l : List Int} (h : l.length = 0) : isT l = true := by
  obtain rfl := List.eq_nil_of_length_eq_zero h
  rfl
theorem specReply_f {l : List Int} (k : Nat) (x y z : Int) (hb : Bytes.okBytes l = true) (hk : 411 ≤ k) : spec_ReplyOk.f k x y z l = some (isRp x y z l) := by
  unfold spec_ReplyOk.f isRp
  rw [specWord_f, specWord_f, specText_f k hb hk]
  simp only [Option.bind_some]
  by_cases hx : x = 0
  · subst hx
    simp only [Int.lt_irrefl, if_false, if_true, gt_iff_lt]
    rw [if_neg (by omega)]
    by_cases h1 : 0 ≤ y ∧ y ≤ 65535
    · by_cases h2 : 0 ≤ z ∧ z ≤ 65535
      · cases isT l <;> simp [h1, h2]
      · simp [h1, h2]
    · simp [h1]
  · simp only [if_neg hx]
    by_cases h0 : x < 0
    · rw [if_pos h0, decide_eq_false (by omega : ¬ (0 ≤ x ∧ x ≤ 10))]; simp
    · rw [if_neg h0]
      by_cases h10 : x > 10
      · rw [if_pos h10, decide_eq_false (by omega : ¬ (0 ≤ x ∧ x ≤ 10))]; simp
      · rw [if_neg h10, decide_eq_true (by omega : 0 ≤ x ∧ x ≤ 10)]
        by_cases hy : y = 0
        · subst hy
          by_cases hz : z = 0
          · subst hz
            by_cases hl : l.length = 0
            · simp [isT_nil hl, hl]
            · cases isT l <;> simp [hl]
          · by_cases h2 : 0 ≤ z ∧ z ≤ 65535 <;> cases isT l <;> simp [h2, hz]
        · by_cases h1 : 0 ≤ y ∧ y ≤ 65535
          · by_cases h2 : 0 ≤ z ∧ z ≤ 65535 <;> cases isT l <;> simp [h1, h2, hy]
          · simp [h1, hy]
theorem implReply_f {l : List Int} (x y z : Int) (hb : Bytes.okBytes l = true) : impl_isReply.f x y z l = some (isRp x y z l) := by
  unfold impl_isReply.f isRp
  rw [isWord_f, isWord_f, implText_f hb, implIn_f]
  simp only [Option.bind_some]
  by_cases hx : x = 0
  · rw [if_pos hx, if_pos hx]
    by_cases h1 : 0 ≤ y ∧ y ≤ 65535
    · by_cases h2 : 0 ≤ z ∧ z ≤ 65535
      · cases isT l <;> simp [h1, h2]
      · simp [h1, h2]
    · simp [h1]
  · rw [if_neg hx, if_neg hx]
    by_cases h0 : 0 ≤ x ∧ x ≤ 10
    · by_cases hy : y = 0
      · by_cases hz : z = 0
        · by_cases hl : l.length = 0 <;> simp [h0, hy, hz, hl]
        · simp [h0, hy, hz]
      · simp [h0, hy]
    · simp [h0]
theorem or_word (a b : Nat) (ha : a < 256) (hb : b < 256) : Go.bits .or .i64 ((a * 256 : Nat) : Int) (b : Int) = ((a * 256 + b : Nat) : Int) := by
  have h64 : ∀ x : Nat, x < 65536 → (BitVec.ofInt 64 (x : Int)).toNat = x := by
    intro x hx
    rw [BitVec.ofInt_natCast, BitVec.toNat_ofNat]
    exact Nat.mod_eq_of_lt (by omega)
  show IntKind.i64.wrap ((BitVec.ofInt 64 ((a * 256 : Nat) : Int) ||| BitVec.ofInt 64 (b : Int)).toNat : Int) = _
  have e : a * 256 ||| b = a * 256 + b := by
    have h := Nat.two_pow_add_eq_or_of_lt (i := 8) (b := b) (by omega) a
    rw [show (2 : Nat) ^ 8 = 256 from rfl, Nat.mul_comm 256 a] at h
    exact h.symm
  rw [BitVec.toNat_or, h64 _ (by omega), h64 _ (by omega), e]
  have hw : ∀ x : Int, IntKind.i64.wrap x = wrap64 x := fun x => by
    simp [IntKind.wrap, IntKind.bits, IntKind.signed, wrap64]
    split <;> omega
  rw [hw, w64 (by omega) (by omega)]
/-- The word at a place. -/
def wd (l : List Int) (p : Nat) : Int := l.getD p 0 * 256 + l.getD (p + 1) 0
theorem getD_dr (l : List Int) (p j : Nat) : (l.drop p).getD j 0 = l.getD (p + j) 0 := by
  rw [List.getD_eq_getElem?_getD, List.getElem?_drop, List.getD_eq_getElem?_getD]
theorem specAt_f (l : List Int) (p : Nat) (hb : ∀ j, 0 ≤ l.getD j 0 ∧ l.getD j 0 ≤ 255) (hp : p + 2 ≤ l.length) (hl : l.length ≤ 1048576) : spec_l09At.f l (p : Int) = some (wd l p) := by
  have b0 := hb p
  have b1 := hb (p + 1)
  unfold spec_l09At.f wd
  rw [if_pos (by omega), if_pos (by omega), w64s p (by omega), if_pos (by omega), if_pos (by omega), rd_nat, rd_nat, w64 (x := l.getD p 0) (by omega) (by omega), w64 (x := l.getD (p + 1) 0) (by omega) (by omega), w64 (x := 256 * l.getD p 0) (by omega) (by omega), w64 (by omega) (by omega)]
  congr 1
  omega
theorem implWord_f (l : List Int) (p : Nat) (hb : ∀ j, 0 ≤ l.getD j 0 ∧ l.getD j 0 ≤ 255) (hp : p + 2 ≤ l.length) : impl_readWord.f (l.drop p) = some (wd l p) := by
  have b0 := hb p
  have b1 := hb (p + 1)
  have e0 : rd (l.drop p) 0 = l.getD p 0 := by have h := rd_nat (l.drop p) 0; rw [getD_dr, Nat.add_zero] at h; exact h
  have e1 : rd (l.drop p) 1 = l.getD (p + 1) 0 := by have h := rd_nat (l.drop p) 1; rw [getD_dr] at h; exact h
  unfold impl_readWord.f wd
  rw [if_pos (by rw [List.length_drop]; omega), if_pos (by rw [List.length_drop]; omega), e0, e1, w64 (x := l.getD p 0) (by omega) (by omega), w64 (x := l.getD (p + 1) 0) (by omega) (by omega), w64 (x := l.getD p 0 * 256) (by omega) (by omega)]
  have h := or_word (l.getD p 0).toNat (l.getD (p + 1) 0).toNat (by omega) (by omega)
  rw [show (((l.getD p 0).toNat * 256 : Nat) : Int) = l.getD p 0 * 256 by omega, show (((l.getD (p + 1) 0).toNat : Nat) : Int) = l.getD (p + 1) 0 by omega] at h
  rw [h]
  congr 1
  omega
theorem markByteS_f (k : Nat) (l : List Int) (m : Int) (hk : l.length < k) (hl : l.length ≤ 1048576) (h0 : 0 ≤ m) (h1 : m ≤ 4611686018427387904) : laws_markByteS.f k l m = some (m + (l.length : Int), marks l.length m) := by
  unfold laws_markByteS.f
  exact mark_loop (L := fun k out x i => laws_markByteS.l0 k out x i) l.length m (fun k out i hi ho => by
    simp only [laws_markByteS.l0]
    rw [if_pos (by omega), if_pos (by omega), w64s i (by omega), w64 (x := m + (i : Int) + 1) (by omega) (by omega)]
    congr 1
    omega) (fun k out ho => by
    simp only [laws_markByteS.l0]
    rw [if_neg (by omega)]) k l (by omega) rfl
theorem heldByteS_f (k : Nat) (n : Nat) (m : Int) (hk : n < k) (hl : n ≤ 1048576) (h0 : 0 ≤ m) (h1 : m ≤ 4611686018427387904) : laws_heldByteS.f k (marks n m) m = some (m + (n : Int)) := by
  unfold laws_heldByteS.f
  have hm := marks_length n m
  exact held_loop (L := fun k x i => laws_heldByteS.l0 k (marks n m) x i) n m (fun k i hi => by
    simp only [laws_heldByteS.l0]
    rw [if_pos (by omega), if_pos (by omega), rd_nat, if_pos (marks_getD n m i hi), w64s i (by omega), w64 (x := m + (i : Int) + 1) (by omega) (by omega)]
    congr 1
    omega) (fun k => by
    simp only [laws_heldByteS.l0]
    rw [if_neg (by omega)]) k (by omega)
theorem eqReply_self (k : Nat) (x y z : Int) (l : List Int) (hk : l.length < k) (hl : l.length ≤ 1048576) : laws_eqReply.f k x y z l x y z l = some true := by
  unfold laws_eqReply.f
  rw [if_pos rfl, if_pos rfl, if_pos rfl, eqByteS_self k l hk hl]
  rfl
theorem markReply_f (k : Nat) (x y z : Int) (l : List Int) (m : Int) (hk : l.length < k) (hl : l.length ≤ 1048576) (h0 : 0 ≤ m) (h1 : m ≤ 4611686018427387904) : laws_markReply.f k x y z l m = some (m + (l.length : Int), marks l.length m) := by
  unfold laws_markReply.f
  rw [markByteS_f k l m hk hl h0 h1]; rfl
theorem heldReply_f (k : Nat) (x y z : Int) (n : Nat) (m : Int) (hk : n < k) (hl : n ≤ 1048576) (h0 : 0 ≤ m) (h1 : m ≤ 4611686018427387904) : laws_heldReply.f k x y z (marks n m) m = some (m + (n : Int)) := by
  unfold laws_heldReply.f
  rw [heldByteS_f k n m hk hl h0 h1]
  simp only [Option.bind_some]
  rw [if_neg (by omega)]
/-- What is read. -/
def rr (l : List Int) : Int × Int × Int × List Int × Bool := if 7 ≤ l.length ∧ isRp (l.getD 0 0) (wd l 1) (wd l 3) (l.drop 7) = true ∧ (l.length : Int) = 7 + wd l 5 then (l.getD 0 0, wd l 1, wd l 3, l.drop 7, true) else (0, 0, 0, [], false)
theorem isRp_len {x y z : Int} {l : List Int} (h : isRp x y z l = true) : 0 ≤ x ∧ x ≤ 10 ∧ l.length ≤ 400 := by
  unfold isRp at h
  by_cases hx : x = 0
  · rw [if_pos hx] at h
    simp only [Bool.and_eq_true] at h
    have := isT_len h.2
    omega
  · rw [if_neg hx] at h
    simp only [Bool.and_eq_true, decide_eq_true_eq] at h
    omega
theorem bytes_eq (b0 b1 b2 b3 b4 b5 b6 : Int) (t : List Int) (h0 : 0 ≤ b0 ∧ b0 ≤ 255) (h1 : 0 ≤ b1 ∧ b1 ≤ 255) (h2 : 0 ≤ b2 ∧ b2 ≤ 255) (h3 : 0 ≤ b3 ∧ b3 ≤ 255) (h4 : 0 ≤ b4 ∧ b4 ≤ 255) (h5 : 0 ≤ b5 ∧ b5 ≤ 255) (h6 : 0 ≤ b6 ∧ b6 ≤ 255) (ht : t.length ≤ 400) :
    ([b0 % 256] ++ [(wrap64 (Int.tdiv (b1 * 256 + b2) 256)) % 256, (Int.tmod (b1 * 256 + b2) 256) % 256] ++ [(wrap64 (Int.tdiv (b3 * 256 + b4) 256)) % 256, (Int.tmod (b3 * 256 + b4) 256) % 256] ++ [(wrap64 (Int.tdiv (t.length : Int) 256)) % 256, (Int.tmod (t.length : Int) 256) % 256] ++ t = b0 :: b1 :: b2 :: b3 :: b4 :: b5 :: b6 :: t) ↔ (t.length : Int) = b5 * 256 + b6 := by
  have d1 : Int.tdiv (b1 * 256 + b2) 256 = b1 := by rw [Int.tdiv_eq_ediv_of_nonneg (by omega)]; omega
  have m1 : Int.tmod (b1 * 256 + b2) 256 = b2 := by rw [Int.tmod_eq_emod_of_nonneg (by omega)]; omega
  have d2 : Int.tdiv (b3 * 256 + b4) 256 = b3 := by rw [Int.tdiv_eq_ediv_of_nonneg (by omega)]; omega
  have m2 : Int.tmod (b3 * 256 + b4) 256 = b4 := by rw [Int.tmod_eq_emod_of_nonneg (by omega)]; omega
  have d3 : Int.tdiv (t.length : Int) 256 = (t.length : Int) / 256 := Int.tdiv_eq_ediv_of_nonneg (by omega)
  have m3 : Int.tmod (t.length : Int) 256 = (t.length : Int) % 256 := Int.tmod_eq_emod_of_nonneg (by omega)
  rw [d1, m1, d2, m2, d3, m3, w64 (x := b1) (by omega) (by omega), w64 (x := b3) (by omega) (by omega), w64 (x := (t.length : Int) / 256) (by omega) (by omega)]
  simp only [List.cons_append, List.nil_append, List.cons.injEq, and_true]
  constructor
  · rintro ⟨_, _, _, _, _, e5, e6⟩
    omega
  · intro h
    refine ⟨?_, ?_, ?_, ?_, ?_, ?_, ?_⟩ <;> omega
theorem byte_mod (x : Int) : 0 ≤ x % 256 ∧ x % 256 ≤ 255 := by omega
theorem specTwo_f (a : Int) : spec_l09Two.f a = some [(wrap64 (Int.tdiv a 256)) % 256, (Int.tmod a 256) % 256] := rfl
theorem seven {l : List Int} (h : 7 ≤ l.length) : ∃ b0 b1 b2 b3 b4 b5 b6 t, l = b0 :: b1 :: b2 :: b3 :: b4 :: b5 :: b6 :: t := by
  rcases l with _ | ⟨b0, _ | ⟨b1, _ | ⟨b2, _ | ⟨b3, _ | ⟨b4, _ | ⟨b5, _ | ⟨b6, t⟩⟩⟩⟩⟩⟩⟩
  case cons.cons.cons.cons.cons.cons.cons => exact ⟨b0, b1, b2, b3, b4, b5, b6, t, rfl⟩
  all_goals (simp only [List.length_cons, List.length_nil] at h; omega)
theorem specRead_f {l : List Int} (k : Nat) (hb : Bytes.okBytes l = true) (hl : l.length ≤ 1048576) (hk : 411 ≤ k) : spec_ReplyRead.f k l = some (rr l) := by
  have hg := fun j => Bytes.okBytes_getD hb j
  unfold spec_ReplyRead.f
  by_cases h7 : 7 ≤ l.length
  · have ht := Bytes.okBytes_drop hb 7
    have hlen : (l.drop 7).length = l.length - 7 := List.length_drop
    have e1 := specAt_f l 1 hg (by omega) hl
    have e3 := specAt_f l 3 hg (by omega) hl
    have e0 : rd l 0 = l.getD 0 0 := rd_nat l 0
    have g0 := hg 0
    rw [if_neg (by omega), if_pos (by omega), show spec_l09At.f l 1 = _ from e1, show spec_l09At.f l 3 = _ from e3]
    simp only [Option.bind_some, List.nil_append, List.length_nil]
    rw [if_pos (by omega), if_pos (by omega), e0, w64 (x := l.getD 0 0) (by omega) (by omega), specReply_f k _ _ _ ht hk]
    simp only [Option.bind_some]
    unfold rr
    by_cases hr : isRp (l.getD 0 0) (wd l 1) (wd l 3) (l.drop 7) = true
    · have hR := isRp_len hr
      unfold spec_ReplyBytes.f
      rw [specReply_f k _ _ _ ht hk, hr]
      simp only [if_true, Option.bind_some, specTwo_f, List.length_append, List.length_cons, List.length_nil]
      rw [if_pos (by omega), if_pos (by omega), if_pos (by omega), if_pos (by omega)]
      obtain ⟨b0, b1, b2, b3, b4, b5, b6, t, rfl⟩ := seven h7
      have q0 := hg 0; have q1 := hg 1; have q2 := hg 2; have q3 := hg 3; have q4 := hg 4; have q5 := hg 5; have q6 := hg 6
      have ew1 : wd (b0 :: b1 :: b2 :: b3 :: b4 :: b5 :: b6 :: t) 1 = b1 * 256 + b2 := rfl
      have ew3 : wd (b0 :: b1 :: b2 :: b3 :: b4 :: b5 :: b6 :: t) 3 = b3 * 256 + b4 := rfl
      have ew5 : wd (b0 :: b1 :: b2 :: b3 :: b4 :: b5 :: b6 :: t) 5 = b5 * 256 + b6 := rfl
      have ed : (b0 :: b1 :: b2 :: b3 :: b4 :: b5 :: b6 :: t).drop 7 = t := rfl
      have eg : (b0 :: b1 :: b2 :: b3 :: b4 :: b5 :: b6 :: t).getD 0 0 = b0 := rfl
      rw [ew1, ew3, ed, eg, ew5]
      have hbe := bytes_eq b0 b1 b2 b3 b4 b5 b6 t q0 q1 q2 q3 q4 q5 q6 hR.2.2
      have hbx : Bytes.okBytes ([b0 % 256] ++ [(wrap64 (Int.tdiv (b1 * 256 + b2) 256)) % 256, (Int.tmod (b1 * 256 + b2) 256) % 256] ++ [(wrap64 (Int.tdiv (b3 * 256 + b4) 256)) % 256, (Int.tmod (b3 * 256 + b4) 256) % 256] ++ [(wrap64 (Int.tdiv (t.length : Int) 256)) % 256, (Int.tmod (t.length : Int) 256) % 256] ++ t) = true := by
        refine Bytes.okBytes_append (Bytes.okBytes_of fun x hx => ?_) ht
        simp only [List.mem_append, List.mem_cons, List.not_mem_nil, or_false] at hx
        rcases hx with ((hx | hx | hx) | hx | hx) | hx | hx <;> (rw [hx]; exact byte_mod _)
      have hs := (strOfNums_inj hbx hb).trans hbe
      have hle : ((b0 :: b1 :: b2 :: b3 :: b4 :: b5 :: b6 :: t).length : Int) = (t.length : Int) + 7 := by simp only [List.length_cons]; omega
      by_cases he : (t.length : Int) = b5 * 256 + b6
      · rw [Option.bind_some, if_pos (hs.2 he), if_pos ⟨h7, trivial, by omega⟩]
      · rw [Option.bind_some, if_neg (fun e => he (hs.1 e)), if_neg (fun e => he (by have := e.2.2; omega))]
    · rw [if_neg hr, if_neg (fun e => hr e.2.1)]
  · rw [if_pos (by omega)]
    unfold rr
    rw [if_neg (fun e => h7 e.1)]
theorem implRead_f {l : List Int} (k : Nat) (hb : Bytes.okBytes l = true) (hl : l.length ≤ 1048576) (hk : 1 ≤ k) : impl_ReplyRead.f k l = some (rr l) := by
  obtain ⟨k, rfl⟩ : ∃ q, k = q + 1 := ⟨k - 1, by omega⟩
  have hg := fun j => Bytes.okBytes_getD hb j
  have hno : impl_ReplyRead.j0 (k + 1) l true = some (0, 0, 0, [], false) := by simp only [impl_ReplyRead.j0, if_true]
  unfold impl_ReplyRead.f rr
  by_cases h7 : 7 ≤ l.length
  · have ht := Bytes.okBytes_drop hb 7
    have g0 := hg 0
    have g5 := hg 5
    have g6 := hg 6
    have e0 : rd l 0 = l.getD 0 0 := rd_nat l 0
    have hlen : (l.drop 7).length = l.length - 7 := List.length_drop
    have hw5 : wd l 5 = l.getD 5 0 * 256 + l.getD 6 0 := rfl
    rw [if_neg (by omega), if_pos (by omega), implWord_f l 5 hg (by omega), Option.bind_some, w64 (x := 7 + wd l 5) (by omega) (by omega)]
    by_cases he : (l.length : Int) = 7 + wd l 5
    · have hne : ((l.length : Int) != 7 + wd l 5) = false := bne_eq_false_iff_eq.2 he
      rw [hne]
      simp only [impl_ReplyRead.j0, Bool.false_eq_true, if_false]
      rw [if_pos (by omega), if_pos (by omega), implWord_f l 1 hg (by omega), Option.bind_some, if_pos (by omega), implWord_f l 3 hg (by omega), Option.bind_some, if_pos (by omega)]
      unfold slices_Clone_byte_byte.f
      rw [if_pos (by omega), Option.bind_some, e0, w64 (x := l.getD 0 0) (by omega) (by omega), implReply_f _ _ _ ht, Option.bind_some]
      by_cases hr : isRp (l.getD 0 0) (wd l 1) (wd l 3) (l.drop 7) = true
      · rw [if_pos hr, if_pos ⟨h7, hr, he⟩]
      · rw [if_neg hr, if_neg (fun e => hr e.2.1)]
    · have hne : ((l.length : Int) != 7 + wd l 5) = true := bne_iff_ne.2 he
      rw [hne, hno, if_neg (fun e => he e.2.2)]
  · rw [if_pos (by omega), hno, if_neg (fun e => h7 e.1)]
theorem rr_len (l : List Int) : (rr l).2.2.2.1.length ≤ l.length := by
  unfold rr
  split
  · simp only [List.length_drop]; omega
  · simp
theorem FnExactReplyRead (l0 : List Int) (wl0 : (l0.length ≤ maxLen ∧ ∀ x ∈ l0, (Lit.int .u8 x).wf = true)) : ∃ k, laws_FnExactReplyRead.f k l0 = some true := by
  have ha := okBytes_wf wl0.2
  unfold laws_FnExactReplyRead.f
  by_cases hl : (l0.length : Int) > 1048576
  · exact ⟨9, by rw [if_pos hl]⟩
  · refine ⟨3000003, ?_⟩
    obtain ⟨k, hk⟩ : ∃ k : Nat, k = 3000000 := ⟨_, rfl⟩
    rw [show (3000003 : Nat) = k + 3 by omega, if_neg hl, toByteS_f _ l0 (by omega) (by omega)]
    simp only [Option.bind_some]
    rw [specRead_f (k + 3) ha (by omega) (by omega), implRead_f (k + 3) ha (by omega) (by omega)]
    have hlen := rr_len l0
    generalize hr : rr l0 = r at hlen
    obtain ⟨r1, r2, r3, r4, r5⟩ := r
    simp only at hlen
    simp only [Option.bind_some]
    rw [eqReply_self (k + 3) r1 r2 r3 r4 (by omega) (by omega)]
    simp only [Option.bind_some, if_true, bne_self_eq_false, laws_FnExactReplyRead.j0, Bool.false_eq_true, if_false]
    rw [toByteS_f _ l0 (by omega) (by omega)]
    simp only [Option.bind_some]
    rw [eqByteS_self _ l0 (by omega) (by omega), markByteS_f _ l0 1 (by omega) (by omega) (by omega) (by omega)]
    simp only [Option.bind_some, if_true]
    rw [if_neg (by omega), eqReply_self _ r1 r2 r3 r4 (by omega) (by omega)]
    simp only [Option.bind_some, if_true, laws_FnExactReplyRead.j1, bne_self_eq_false, Bool.false_eq_true, if_false]
    rw [markReply_f _ r1 r2 r3 r4 1 (by omega) (by omega) (by omega) (by omega)]
    simp only [Option.bind_some]
    rw [heldReply_f _ r1 r2 r3 r4.length 1 (by omega) (by omega) (by omega) (by omega)]
    simp only [Option.bind_some, if_true]
    rw [if_neg (by omega), toByteS_f _ l0 (by omega) (by omega)]
    simp only [Option.bind_some]
    rw [implRead_f (k + 1) ha (by omega) (by omega), hr]
    simp only [Option.bind_some]
    rw [eqReply_self _ r1 r2 r3 r4 (by omega) (by omega)]
    simp only [Option.bind_some, if_true, laws_FnExactReplyRead.j2, bne_self_eq_false, Bool.false_eq_true, if_false]
    rw [heldReply_f _ r1 r2 r3 r4.length 1 (by omega) (by omega) (by omega) (by omega)]
    simp only [Option.bind_some, if_true]
    rw [if_neg (by omega)]

end Go.Proofs.YthbmijnpmffmkaaDoor.Pure
