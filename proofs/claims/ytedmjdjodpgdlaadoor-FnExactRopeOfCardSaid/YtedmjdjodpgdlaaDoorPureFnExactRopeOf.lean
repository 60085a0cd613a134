/-
  The law FnExactRopeOf in plain words: what the program's function computes is what the reference's computes. No memory, no machine.
-/
import Derived.Test.YtedmjdjodpgdlaaDoorPFnExactRopeOfx
import Derived.Test.YtedmjdjodpgdlaaDoorGen
namespace Go.Proofs.YtedmjdjodpgdlaaDoor.Pure
open Go.RowKit Go.Proofs.YtedmjdjodpgdlaaDoor.PFnExactRopeOf Go.Proofs.YtedmjdjodpgdlaaDoorW.PrintWords Go.Proofs.YtedmjdjodpgdlaaDoorW.PrintLast Go.Proofs.YtedmjdjodpgdlaaDoorW.PrintMore Go.Proofs.YtedmjdjodpgdlaaDoor.Gen
set_option linter.unusedVariables false
set_option linter.unusedSimpArgs false

theorem wf_i64 {x : Int} (h : (Lit.int .i64 x).wf = true) : -9223372036854775808 ≤ x ∧ x ≤ 9223372036854775807 := by
  simp only [Lit.wf, Bool.and_eq_true, decide_eq_true_eq] at h
  exact ⟨h.1, h.2⟩
theorem wf_u8 {x : Int} (h : (Lit.int .u8 x).wf = true) : 0 ≤ x ∧ x ≤ 255 := by
  simp only [Lit.wf, Bool.and_eq_true, decide_eq_true_eq] at h
  exact ⟨h.1, h.2⟩
/-- A code point. -/
def isCp (r : Int) : Prop := 0 ≤ r ∧ r ≤ 1114111 ∧ ¬ (55296 ≤ r ∧ r ≤ 57343)
instance (r : Int) : Decidable (isCp r) := by unfold isCp; infer_instance
/-- Its encoding. -/
def rb (r : Int) : List Int :=
  if r < 128 then [r] else if r < 2048 then [192 + r / 64, 128 + r % 64] else if r < 65536 then [224 + r / 4096, 128 + r / 64 % 64, 128 + r % 64]
  else [240 + r / 262144, 128 + r / 4096 % 64, 128 + r / 64 % 64, 128 + r % 64]
theorem rb_length (r : Int) : (rb r).length ≤ 4 := by
  unfold rb
  (repeat' split) <;> simp
theorem by256 {x : Int} (h0 : 0 ≤ x) (h1 : x ≤ 255) : wrap64 x % 256 = x := by unfold wrap64; omega
theorem specRB_f (k : Nat) (hk : 1 ≤ k) (r : Int) : spec_RuneBytes.f k r = some (if isCp r then rb r else []) := by
  obtain ⟨k, rfl⟩ : ∃ m, k = m + 1 := ⟨k - 1, by omega⟩
  by_cases h0 : r < 0
  · have hn : ¬ isCp r := fun h => by unfold isCp at h; omega
    simp only [spec_RuneBytes.f, spec_RuneBytes.j0]
    rw [if_pos h0, if_neg hn]
    simp
  by_cases h1 : r > 1114111
  · have hn : ¬ isCp r := fun h => by unfold isCp at h; omega
    simp only [spec_RuneBytes.f, spec_RuneBytes.j0]
    rw [if_neg h0, if_pos h1, if_neg hn]
    simp
  have key : ∀ b : Bool, (b = true ↔ 55296 ≤ r ∧ r ≤ 57343) → spec_RuneBytes.j0 (k + 1) r b = some (if isCp r then rb r else []) := by
    intro b hb
    simp only [spec_RuneBytes.j0]
    by_cases h2 : b = true
    · have hn : ¬ isCp r := fun h => by have := hb.1 h2; unfold isCp at h; omega
      rw [if_pos h2, if_neg hn]
    · have hc : isCp r := ⟨by omega, by omega, fun h => h2 (hb.2 h)⟩
      rw [if_neg h2, if_pos hc, Int.tdiv_eq_ediv_of_nonneg (by omega), Int.tdiv_eq_ediv_of_nonneg (by omega), Int.tdiv_eq_ediv_of_nonneg (by omega), Int.tmod_eq_emod_of_nonneg (by omega)]
      have e1 : wrap64 (r / 64) = r / 64 := w64 (by omega) (by omega)
      have e2 : wrap64 (r / 4096) = r / 4096 := w64 (by omega) (by omega)
      have e3 : wrap64 (r / 262144) = r / 262144 := w64 (by omega) (by omega)
      rw [e1, e2, e3, Int.tmod_eq_emod_of_nonneg (by omega), Int.tmod_eq_emod_of_nonneg (by omega)]
      unfold rb
      by_cases c1 : r < 128
      · rw [if_pos c1, if_pos c1, show r % 256 = r by omega]
      · rw [if_neg c1, if_neg c1]
        by_cases c2 : r < 2048
        · rw [if_pos c2, if_pos c2, by256 (by omega) (by omega), by256 (by omega) (by omega)]
        · rw [if_neg c2, if_neg c2]
          by_cases c3 : r < 65536
          · rw [if_pos c3, if_pos c3, by256 (by omega) (by omega), by256 (by omega) (by omega), by256 (by omega) (by omega)]
          · rw [if_neg c3, if_neg c3, by256 (by omega) (by omega), by256 (by omega) (by omega), by256 (by omega) (by omega), by256 (by omega) (by omega)]
  unfold spec_RuneBytes.f
  rw [if_neg h0, if_neg h1]
  by_cases h2 : r ≥ 55296
  · rw [if_pos h2]
    exact key _ (by rw [decide_eq_true_eq]; omega)
  · rw [if_neg h2]
    exact key _ ⟨fun h => (by cases h), fun h => (by omega)⟩
theorem toByteS_f (k : Nat) (l : List Int) (hk : l.length < k) (hl : l.length ≤ 1048576) : laws_toByteS.f k l = some l := by
  have h := map_loop (L := fun k out i => laws_toByteS.l0 k l out i) l id 0 0 (fun k out i _ hi ho => by
      simp only [laws_toByteS.l0]
      rw [if_pos (by omega), if_pos (by omega), if_pos (by omega), w64s i (by omega), rd_nat]
      rfl) (fun k out ho => by
      simp only [laws_toByteS.l0]
      rw [if_neg (by omega)]) k (List.replicate ((l.length : Int)).toNat 0) (by omega) (by simp)
  unfold laws_toByteS.f
  rw [if_pos (by omega), if_pos (by omega)]
  simpa using h
theorem eqByteS_f (k : Nat) (l l' : List Int) (hk : l.length < k) (hl : l.length ≤ 1048576) : laws_eqByteS.f k l l' = some (decide (l = l')) := by
  unfold laws_eqByteS.f
  by_cases e : l.length = l'.length
  · rw [if_pos (by omega)]
    obtain ⟨b, h, hb⟩ := all_loop (L := fun k i => laws_eqByteS.l0 k l l' i) l.length 0 (fun i => decide (l.getD i 0 = l'.getD i 0)) (fun k i _ hi => by
      simp only [laws_eqByteS.l0]
      rw [if_pos (by omega), if_pos (by omega), if_pos (by omega), w64s i (by omega), rd_nat, rd_nat]
      simp only [decide_eq_true_eq]) (fun k => by
      simp only [laws_eqByteS.l0]
      rw [if_neg (by omega)]) k (by omega)
    refine h.trans ?_
    congr 1
    simp only [decide_eq_true_eq] at hb
    rw [Bool.eq_iff_iff, decide_eq_true_eq]
    exact hb.trans (eq_of_getD 0 e)
  · rw [if_neg (by omega)]
    congr 1
    symm
    exact decide_eq_false (fun h => e (by rw [h]))
theorem eqByteS_self (k : Nat) (l : List Int) (hk : l.length < k) (hl : l.length ≤ 1048576) : laws_eqByteS.f k l l = some true := by
  rw [eqByteS_f k l l hk hl]; simp
theorem strOfNums_inj {l l' : List Int} (h : Bytes.okBytes l = true) (h' : Bytes.okBytes l' = true) : (strOfNums l).toList = (strOfNums l').toList ↔ l = l' := by
  constructor
  · intro e
    rw [ByteArray.toList_eq, ByteArray.toList_eq] at e
    have e2 : l.map (fun n => UInt8.ofNat n.toNat) = l'.map (fun n => UInt8.ofNat n.toNat) := by simpa [strOfNums] using e
    have hl : l.length = l'.length := by simpa using congrArg List.length e2
    refine List.ext_getElem hl fun i h1 h2 => ?_
    have e3 : (l.map (fun n => UInt8.ofNat n.toNat))[i]? = (l'.map (fun n => UInt8.ofNat n.toNat))[i]? := by rw [e2]
    rw [List.getElem?_map, List.getElem?_map, List.getElem?_eq_getElem h1, List.getElem?_eq_getElem h2] at e3
    simp only [Option.map_some, Option.some.injEq] at e3
    have b1 := Bytes.okBytes_mem h (List.getElem_mem h1)
    have b2 := Bytes.okBytes_mem h' (List.getElem_mem h2)
    have e4 := congrArg UInt8.toNat e3
    rw [UInt8.toNat_ofNat_of_lt' (by show (l[i]).toNat < 256; omega), UInt8.toNat_ofNat_of_lt' (by show (l'[i]).toNat < 256; omega)] at e4
    omega
  · rintro rfl; rfl
/-- What is told of a place's letter: by the bytes that stand there. -/
def rn4 (n b0 b1 b2 b3 : Nat) : Int × Int :=
  if (Lib.decodeN n b0 b1 b2 b3).1 = 65533 ∧ (Lib.decodeN n b0 b1 b2 b3).2 ≤ 1 then (-1, 0) else (((Lib.decodeN n b0 b1 b2 b3).1 : Int), ((Lib.decodeN n b0 b1 b2 b3).2 : Int))
def rn (l : List Int) (i : Nat) : Int × Int :=
  if i < l.length then rn4 (l.length - i) (l.getD i 0).toNat (l.getD (i + 1) 0).toNat (l.getD (i + 2) 0).toNat (l.getD (i + 3) 0).toNat else (-1, 0)
theorem decodeN_le (n b0 b1 b2 b3 : Nat) (h0 : b0 < 256) : (Lib.decodeN n b0 b1 b2 b3).1 ≤ 1114111 ∧ (Lib.decodeN n b0 b1 b2 b3).2 ≤ 4 ∧ 1 ≤ (Lib.decodeN n b0 b1 b2 b3).2 := by
  unfold Lib.decodeN
  (repeat' split) <;> simp only <;> omega
theorem getD_drop (l : List Int) (i j : Nat) : (l.drop i).getD j 0 = l.getD (i + j) 0 := by
  rw [List.getD_eq_getElem?_getD, List.getD_eq_getElem?_getD, List.getElem?_drop]
theorem rb1 {b0 r : Int} (hr : r = b0) (h0 : 0 ≤ b0) (h1 : b0 < 192) : (if isCp r then rb r else []) = [b0] ↔ b0 < 128 := by
  subst hr
  rw [if_pos (show isCp r from ⟨by omega, by omega, by omega⟩)]
  unfold rb
  (repeat' split) <;> simp <;> omega
theorem rb2 {b0 b1 r : Int} (hr : r = 64 * (b0 - 192) + b1 - 128) (h0 : 192 ≤ b0 ∧ b0 < 224) (h1 : 0 ≤ b1 ∧ b1 ≤ 255) : (if isCp r then rb r else []) = [b0, b1] ↔ 128 ≤ b1 ∧ b1 < 192 ∧ 128 ≤ r := by
  by_cases hc : isCp r
  · rw [if_pos hc]
    unfold isCp at hc
    unfold rb
    (repeat' split) <;> simp only [List.cons.injEq, List.nil_eq, and_true, and_false, reduceCtorEq, false_iff, iff_false] <;> omega
  · rw [if_neg hc]
    unfold isCp at hc
    simp only [reduceCtorEq, List.nil_eq, false_iff]
    omega
theorem rb3 {b0 b1 b2 r : Int} (hr : r = 64 * (64 * (b0 - 224) + b1 - 128) + b2 - 128) (h0 : 224 ≤ b0 ∧ b0 < 240) (h1 : 0 ≤ b1 ∧ b1 ≤ 255) (h2 : 0 ≤ b2 ∧ b2 ≤ 255) :
    (if isCp r then rb r else []) = [b0, b1, b2] ↔ 128 ≤ b1 ∧ b1 < 192 ∧ 128 ≤ b2 ∧ b2 < 192 ∧ 2048 ≤ r ∧ ¬ (55296 ≤ r ∧ r ≤ 57343) := by
  by_cases hc : isCp r
  · rw [if_pos hc]
    unfold isCp at hc
    unfold rb
    (repeat' split) <;> simp only [List.cons.injEq, List.nil_eq, and_true, and_false, reduceCtorEq, false_iff, iff_false] <;> omega
  · rw [if_neg hc]
    unfold isCp at hc
    simp only [reduceCtorEq, List.nil_eq, false_iff]
    omega
theorem rb4 {b0 b1 b2 b3 r : Int} (hr : r = 64 * (64 * (64 * (b0 - 240) + b1 - 128) + b2 - 128) + b3 - 128) (h0 : 240 ≤ b0 ∧ b0 ≤ 255) (h1 : 0 ≤ b1 ∧ b1 ≤ 255) (h2 : 0 ≤ b2 ∧ b2 ≤ 255) (h3 : 0 ≤ b3 ∧ b3 ≤ 255) :
    (if isCp r then rb r else []) = [b0, b1, b2, b3] ↔ 128 ≤ b1 ∧ b1 < 192 ∧ 128 ≤ b2 ∧ b2 < 192 ∧ 128 ≤ b3 ∧ b3 < 192 ∧ 65536 ≤ r ∧ r ≤ 1114111 := by
  by_cases hc : isCp r
  · rw [if_pos hc]
    unfold isCp at hc
    unfold rb
    (repeat' split) <;> simp only [List.cons.injEq, List.nil_eq, and_true, and_false, reduceCtorEq, false_iff, iff_false] <;> omega
  · rw [if_neg hc]
    unfold isCp at hc
    simp only [reduceCtorEq, List.nil_eq, false_iff]
    omega
theorem rn4_1 (n b0 b1 b2 b3 : Nat) (h0 : b0 < 192) : rn4 n b0 b1 b2 b3 = if b0 < 128 then ((b0 : Int), 1) else (-1, 0) := by
  have hd : Lib.decodeN n b0 b1 b2 b3 = if b0 < 128 then (b0, 1) else (65533, 1) := by
    unfold Lib.decodeN
    (repeat' split) <;> first | rfl | (exfalso; omega)
  unfold rn4
  rw [hd]
  by_cases h : b0 < 128
  · rw [if_pos h, if_pos h, if_neg (by simp only; omega)]; rfl
  · rw [if_neg h, if_neg h, if_pos (by simp)]
theorem rn4_2 (n b0 b1 b2 b3 : Nat) (r : Int) (hr : r = 64 * ((b0 : Int) - 192) + b1 - 128) (h0 : 192 ≤ b0 ∧ b0 < 224) (h1 : b1 < 256) :
    rn4 n b0 b1 b2 b3 = if 2 ≤ n ∧ 128 ≤ (b1 : Int) ∧ (b1 : Int) < 192 ∧ 128 ≤ r then (r, 2) else (-1, 0) := by
  have hd : Lib.decodeN n b0 b1 b2 b3 = if 2 ≤ n ∧ 128 ≤ (b1 : Int) ∧ (b1 : Int) < 192 ∧ 128 ≤ r then (r.toNat, 2) else (65533, 1) := by
    unfold Lib.decodeN
    (repeat' split) <;> first | rfl | (exfalso; omega) | (apply Prod.ext <;> simp only <;> omega)
  unfold rn4
  rw [hd]
  by_cases h : 2 ≤ n ∧ 128 ≤ (b1 : Int) ∧ (b1 : Int) < 192 ∧ 128 ≤ r
  · rw [if_pos h, if_pos h, if_neg (by simp)]
    apply Prod.ext <;> simp only <;> omega
  · rw [if_neg h, if_neg h, if_pos (by simp)]
theorem rn4_3 (n b0 b1 b2 b3 : Nat) (r : Int) (hr : r = 64 * (64 * ((b0 : Int) - 224) + b1 - 128) + b2 - 128) (h0 : 224 ≤ b0 ∧ b0 < 240) (h1 : b1 < 256) (h2 : b2 < 256) :
    rn4 n b0 b1 b2 b3 = if 3 ≤ n ∧ 128 ≤ (b1 : Int) ∧ (b1 : Int) < 192 ∧ 128 ≤ (b2 : Int) ∧ (b2 : Int) < 192 ∧ 2048 ≤ r ∧ ¬ (55296 ≤ r ∧ r ≤ 57343) then (r, 3) else (-1, 0) := by
  have hd : Lib.decodeN n b0 b1 b2 b3 = if 3 ≤ n ∧ 128 ≤ (b1 : Int) ∧ (b1 : Int) < 192 ∧ 128 ≤ (b2 : Int) ∧ (b2 : Int) < 192 ∧ 2048 ≤ r ∧ ¬ (55296 ≤ r ∧ r ≤ 57343) then (r.toNat, 3) else (65533, 1) := by
    unfold Lib.decodeN
    (repeat' split) <;> first | rfl | (exfalso; omega) | (apply Prod.ext <;> simp only <;> omega)
  unfold rn4
  rw [hd]
  by_cases h : 3 ≤ n ∧ 128 ≤ (b1 : Int) ∧ (b1 : Int) < 192 ∧ 128 ≤ (b2 : Int) ∧ (b2 : Int) < 192 ∧ 2048 ≤ r ∧ ¬ (55296 ≤ r ∧ r ≤ 57343)
  · rw [if_pos h, if_pos h, if_neg (by simp)]
    apply Prod.ext <;> simp only <;> omega
  · rw [if_neg h, if_neg h, if_pos (by simp)]
theorem rn4_4 (n b0 b1 b2 b3 : Nat) (r : Int) (hr : r = 64 * (64 * (64 * ((b0 : Int) - 240) + b1 - 128) + b2 - 128) + b3 - 128) (h0 : 240 ≤ b0 ∧ b0 < 256) (h1 : b1 < 256) (h2 : b2 < 256) (h3 : b3 < 256) :
    rn4 n b0 b1 b2 b3 = if 4 ≤ n ∧ 128 ≤ (b1 : Int) ∧ (b1 : Int) < 192 ∧ 128 ≤ (b2 : Int) ∧ (b2 : Int) < 192 ∧ 128 ≤ (b3 : Int) ∧ (b3 : Int) < 192 ∧ 65536 ≤ r ∧ r ≤ 1114111 then (r, 4) else (-1, 0) := by
  have hd : Lib.decodeN n b0 b1 b2 b3 = if 4 ≤ n ∧ 128 ≤ (b1 : Int) ∧ (b1 : Int) < 192 ∧ 128 ≤ (b2 : Int) ∧ (b2 : Int) < 192 ∧ 128 ≤ (b3 : Int) ∧ (b3 : Int) < 192 ∧ 65536 ≤ r ∧ r ≤ 1114111 then (r.toNat, 4) else (65533, 1) := by
    unfold Lib.decodeN
    (repeat' split) <;> first | rfl | (exfalso; omega) | (apply Prod.ext <;> simp only <;> omega)
  unfold rn4
  rw [hd]
  by_cases h : 4 ≤ n ∧ 128 ≤ (b1 : Int) ∧ (b1 : Int) < 192 ∧ 128 ≤ (b2 : Int) ∧ (b2 : Int) < 192 ∧ 128 ≤ (b3 : Int) ∧ (b3 : Int) < 192 ∧ 65536 ≤ r ∧ r ≤ 1114111
  · rw [if_pos h, if_pos h, if_neg (by simp)]
    apply Prod.ext <;> simp only <;> omega
  · rw [if_neg h, if_neg h, if_pos (by simp)]
theorem cut_getD (l : List Int) (i : Nat) : ∀ s : Nat, i + s ≤ l.length → (l.take (i + s)).drop i = (List.range s).map fun j => l.getD (i + j) 0 := by
  intro s hs
  apply List.ext_getElem?
  intro j
  rw [List.getElem?_drop, List.getElem?_take, List.getElem?_map]
  by_cases hj : j < s
  · rw [if_pos (by omega), List.getElem?_range hj, List.getElem?_eq_getElem (by omega)]
    simp only [Option.map_some, Option.some.injEq]
    rw [List.getD_eq_getElem?_getD, List.getElem?_eq_getElem (by omega)]
    rfl
  · rw [if_neg (by omega), List.getElem?_eq_none (l := List.range s) (by simp; omega)]
    rfl
theorem okBytes_cp (r : Int) : Bytes.okBytes (if isCp r then rb r else []) = true := by
  by_cases hc : isCp r
  · rw [if_pos hc]
    unfold isCp at hc
    apply Bytes.okBytes_of
    intro x hx
    unfold rb at hx
    (repeat' split at hx) <;> simp at hx <;> omega
  · rw [if_neg hc]; rfl
theorem specRune_end (k : Nat) (hk : 1 ≤ k) (l : List Int) (i s : Nat) (r : Int) (hb : Bytes.okBytes l = true) (hl : l.length ≤ 1048576) (his : i + s ≤ l.length) :
    spec_l01Rune.l0 (k + 1) l (i : Int) (s : Int) r (s : Int) = some (if (if isCp r then rb r else []) = (List.range s).map (fun j => l.getD (i + j) 0) then (r, (s : Int)) else (-1, 0)) := by
  have e1 : wrap64 ((i : Int) + (s : Int)) = ((i + s : Nat) : Int) := by rw [w64 (by omega) (by omega)]; omega
  have hcut : Bytes.okBytes ((List.range s).map fun j => l.getD (i + j) 0) = true := by
    rw [← cut_getD l i s his]
    exact Bytes.okBytes_drop (Bytes.okBytes_take hb _) _
  have hcp := okBytes_cp r
  have hrb := specRB_f k hk r
  simp only [spec_l01Rune.l0]
  rw [if_neg (by omega), hrb, Option.bind_some, e1, if_pos (by omega), if_pos (by omega), if_pos (by omega), Int.toNat_natCast, Int.toNat_natCast, cut_getD l i s his]
  generalize (if isCp r then rb r else []) = L1 at hcp
  generalize (List.range s).map (fun j => l.getD (i + j) 0) = L2 at hcut
  by_cases h : L1 = L2
  · rw [if_pos ((strOfNums_inj hcp hcut).2 h), if_pos h]
  · rw [if_neg (fun e => h ((strOfNums_inj hcp hcut).1 e)), if_neg h]
theorem specRune_step (k : Nat) (l : List Int) (i s j : Nat) (r : Int) (hb : Bytes.okBytes l = true) (hl : l.length ≤ 1048576) (hj : j < s) (his : i + s ≤ l.length) (hr : -1000000000 ≤ r ∧ r ≤ 1000000000) :
    spec_l01Rune.l0 (k + 1) l (i : Int) (s : Int) r (j : Int) = spec_l01Rune.l0 k l (i : Int) (s : Int) (64 * r + l.getD (i + j) 0 - 128) ((j + 1 : Nat) : Int) := by
  have hx := Bytes.okBytes_getD hb (i + j)
  have e1 : wrap64 ((i : Int) + (j : Int)) = ((i + j : Nat) : Int) := by rw [w64 (by omega) (by omega)]; omega
  have e2 : wrap64 (wrap64 (wrap64 (64 * r) + wrap64 (l.getD (i + j) 0)) - 128) = 64 * r + l.getD (i + j) 0 - 128 := by
    rw [w64 (x := 64 * r) (by omega) (by omega), w64 (x := l.getD (i + j) 0) (by omega) (by omega), w64 (x := 64 * r + l.getD (i + j) 0) (by omega) (by omega), w64 (by omega) (by omega)]
  simp only [spec_l01Rune.l0]
  rw [if_pos (by omega), e1, if_pos (by omega), if_pos (by omega), rd_nat, e2, w64s j (by omega)]
theorem specRune_f (k : Nat) (hk : 9 ≤ k) (l : List Int) (i : Nat) (hb : Bytes.okBytes l = true) (hl : l.length ≤ 1048576) (hi : i < l.length) : spec_l01Rune.f k l (i : Int) = some (rn l i) := by
  obtain ⟨k, rfl⟩ : ∃ m, k = m + 9 := ⟨k - 9, by omega⟩
  have b0 := Bytes.okBytes_getD hb i
  have b1 := Bytes.okBytes_getD hb (i + 1)
  have b2 := Bytes.okBytes_getD hb (i + 2)
  have b3 := Bytes.okBytes_getD hb (i + 3)
  have j1 : ∀ (s : Nat) (r : Int), spec_l01Rune.j1 (k + 8) l (i : Int) (s : Int) r = if l.length - i < s then some (-1, 0) else spec_l01Rune.l0 (k + 7) l (i : Int) (s : Int) r 1 := by
    intro s r
    simp only [spec_l01Rune.j1]
    rw [w64 (x := (l.length : Int) - (i : Int)) (by omega) (by omega)]
    by_cases h : l.length - i < s
    · rw [if_pos h, if_pos (by omega)]
    · rw [if_neg h, if_neg (by omega)]
  unfold spec_l01Rune.f
  rw [if_neg (by omega), show decide ((i : Int) ≥ (l.length : Int)) = false from decide_eq_false (by omega)]
  simp only [spec_l01Rune.j0]
  rw [if_neg (by simp), if_pos (by omega), if_pos (by omega), rd_nat, w64 (x := l.getD i 0) (by omega) (by omega)]
  unfold rn
  rw [if_pos hi]
  generalize e0 : l.getD i 0 = x0 at b0
  generalize e1 : l.getD (i + 1) 0 = x1 at b1
  generalize e2 : l.getD (i + 2) 0 = x2 at b2
  generalize e3 : l.getD (i + 3) 0 = x3 at b3
  by_cases c4 : x0 ≥ 240
  · rw [if_pos c4, w64 (x := x0 - 240) (by omega) (by omega), show (4 : Int) = ((4 : Nat) : Int) from rfl, j1, rn4_4 (l.length - i) x0.toNat x1.toNat x2.toNat x3.toNat (64 * (64 * (64 * (x0 - 240) + x1 - 128) + x2 - 128) + x3 - 128) (by omega) (by omega) (by omega) (by omega) (by omega)]
    by_cases hn : l.length - i < 4
    · rw [if_pos hn, if_neg (fun h => by omega)]
    · rw [if_neg hn, show (1 : Int) = ((1 : Nat) : Int) from rfl, specRune_step (k + 6) l i 4 1 _ hb hl (by omega) (by omega) (by omega), e1,
        specRune_step (k + 5) l i 4 2 _ hb hl (by omega) (by omega) (by omega), e2, specRune_step (k + 4) l i 4 3 _ hb hl (by omega) (by omega) (by omega), e3, specRune_end (k + 3) (by omega) l i 4 _ hb hl (by omega)]
      have hm : (List.range 4).map (fun j => l.getD (i + j) 0) = [x0, x1, x2, x3] := by
        show [l.getD (i + 0) 0, l.getD (i + 1) 0, l.getD (i + 2) 0, l.getD (i + 3) 0] = _
        rw [Nat.add_zero, e0, e1, e2, e3]
      rw [hm]
      have key := rb4 (b0 := x0) (b1 := x1) (b2 := x2) (b3 := x3) (r := 64 * (64 * (64 * (x0 - 240) + x1 - 128) + x2 - 128) + x3 - 128) rfl (by omega) b1 b2 b3
      congr 1
      exact ite_congr (propext (key.trans ⟨fun h => ⟨by omega, by omega, by omega, by omega, by omega, by omega, by omega, by omega, by omega⟩, fun h => ⟨by omega, by omega, by omega, by omega, by omega, by omega, by omega, by omega⟩⟩)) (fun _ => rfl) (fun _ => rfl)
  · rw [if_neg c4]
    by_cases c3 : x0 ≥ 224
    · rw [if_pos c3, w64 (x := x0 - 224) (by omega) (by omega), show (3 : Int) = ((3 : Nat) : Int) from rfl, j1, rn4_3 (l.length - i) x0.toNat x1.toNat x2.toNat x3.toNat (64 * (64 * (x0 - 224) + x1 - 128) + x2 - 128) (by omega) (by omega) (by omega) (by omega)]
      by_cases hn : l.length - i < 3
      · rw [if_pos hn, if_neg (fun h => by omega)]
      · rw [if_neg hn, show (1 : Int) = ((1 : Nat) : Int) from rfl, specRune_step (k + 6) l i 3 1 _ hb hl (by omega) (by omega) (by omega), e1,
          specRune_step (k + 5) l i 3 2 _ hb hl (by omega) (by omega) (by omega), e2, specRune_end (k + 4) (by omega) l i 3 _ hb hl (by omega)]
        have hm : (List.range 3).map (fun j => l.getD (i + j) 0) = [x0, x1, x2] := by
          show [l.getD (i + 0) 0, l.getD (i + 1) 0, l.getD (i + 2) 0] = _
          rw [Nat.add_zero, e0, e1, e2]
        rw [hm]
        have key := rb3 (b0 := x0) (b1 := x1) (b2 := x2) (r := 64 * (64 * (x0 - 224) + x1 - 128) + x2 - 128) rfl (by omega) b1 b2
        congr 1
        exact ite_congr (propext (key.trans ⟨fun h => ⟨by omega, by omega, by omega, by omega, by omega, by omega, by omega⟩, fun h => ⟨by omega, by omega, by omega, by omega, by omega, by omega⟩⟩)) (fun _ => rfl) (fun _ => rfl)
    · rw [if_neg c3]
      by_cases c2 : x0 ≥ 192
      · rw [if_pos c2, w64 (x := x0 - 192) (by omega) (by omega), show (2 : Int) = ((2 : Nat) : Int) from rfl, j1, rn4_2 (l.length - i) x0.toNat x1.toNat x2.toNat x3.toNat (64 * (x0 - 192) + x1 - 128) (by omega) (by omega) (by omega)]
        by_cases hn : l.length - i < 2
        · rw [if_pos hn, if_neg (fun h => by omega)]
        · rw [if_neg hn, show (1 : Int) = ((1 : Nat) : Int) from rfl, specRune_step (k + 6) l i 2 1 _ hb hl (by omega) (by omega) (by omega), e1, specRune_end (k + 5) (by omega) l i 2 _ hb hl (by omega)]
          have hm : (List.range 2).map (fun j => l.getD (i + j) 0) = [x0, x1] := by
            show [l.getD (i + 0) 0, l.getD (i + 1) 0] = _
            rw [Nat.add_zero, e0, e1]
          rw [hm]
          have key := rb2 (b0 := x0) (b1 := x1) (r := 64 * (x0 - 192) + x1 - 128) rfl (by omega) b1
          congr 1
          exact ite_congr (propext (key.trans ⟨fun h => ⟨by omega, by omega, by omega, by omega⟩, fun h => ⟨by omega, by omega, by omega⟩⟩)) (fun _ => rfl) (fun _ => rfl)
      · rw [if_neg c2, show spec_l01Rune.j1 (k + 8) l (i : Int) 1 x0 = _ from j1 1 x0, rn4_1 (l.length - i) x0.toNat x1.toNat x2.toNat x3.toNat (by omega), if_neg (by omega), show spec_l01Rune.l0 (k + 7) l (i : Int) ((1 : Nat) : Int) x0 1 = _ from specRune_end (k + 6) (by omega) l i 1 x0 hb hl (by omega)]
        have hm : (List.range 1).map (fun j => l.getD (i + j) 0) = [x0] := by
          show [l.getD (i + 0) 0] = _
          rw [Nat.add_zero, e0]
        rw [hm]
        have key := rb1 (b0 := x0) (r := x0) rfl (by omega) (by omega)
        congr 1
        rw [ite_congr (propext (key.trans (⟨fun h => by omega, fun h => by omega⟩ : x0 < 128 ↔ x0.toNat < 128))) (fun _ => rfl) (fun _ => rfl), show ((x0.toNat : Nat) : Int) = x0 by omega]
        rfl
theorem specRune_out (k : Nat) (hk : 1 ≤ k) (l : List Int) (a : Int) (ha : a < 0 ∨ (l.length : Int) ≤ a) : spec_l01Rune.f k l a = some (-1, 0) := by
  obtain ⟨k, rfl⟩ : ∃ m, k = m + 1 := ⟨k - 1, by omega⟩
  have key : spec_l01Rune.j0 (k + 1) l a true = some (-1, 0) := by simp [spec_l01Rune.j0]
  unfold spec_l01Rune.f
  by_cases h : a < 0
  · rw [if_pos h]; exact key
  · rw [if_neg h, show decide (a ≥ (l.length : Int)) = true from decide_eq_true (by omega)]; exact key
/-- The letter at whatever place. -/
def rnA (l : List Int) (a : Int) : Int × Int := if 0 ≤ a ∧ a < (l.length : Int) then rn l a.toNat else (-1, 0)
theorem specRune_all (k : Nat) (hk : 9 ≤ k) (l : List Int) (a : Int) (hb : Bytes.okBytes l = true) (hl : l.length ≤ 1048576) : spec_l01Rune.f k l a = some (rnA l a) := by
  unfold rnA
  by_cases h : 0 ≤ a ∧ a < (l.length : Int)
  · rw [if_pos h]
    have := specRune_f k hk l a.toNat hb hl (by omega)
    rwa [show ((a.toNat : Nat) : Int) = a by omega] at this
  · rw [if_neg h]
    exact specRune_out k (by omega) l a (by omega)
theorem okBytes_wf {l : List Int} (h : ∀ x ∈ l, (Lit.int .u8 x).wf = true) : Bytes.okBytes l = true := Bytes.okBytes_of fun x hx => wf_u8 (h x hx)
/-- A byte that begins no letter. -/
def contB (x : Int) : Bool := decide (128 ≤ x ∧ x < 192)
/-- What a place's letter is: none, or of some bytes, of which the later ones begin none. -/
theorem rn_cases {l : List Int} {p : Nat} (hb : Bytes.okBytes l = true) (hp : p < l.length) :
    rn l p = (-1, 0) ∨ ∃ s : Nat, 1 ≤ s ∧ s ≤ 4 ∧ (rn l p).2 = (s : Int) ∧ 0 ≤ (rn l p).1 ∧ p + s ≤ l.length ∧ contB (l.getD p 0) = false ∧ ∀ j, 1 ≤ j → j < s → contB (l.getD (p + j) 0) = true := by
  have b0 := Bytes.okBytes_getD hb p
  have b1 := Bytes.okBytes_getD hb (p + 1)
  have b2 := Bytes.okBytes_getD hb (p + 2)
  have b3 := Bytes.okBytes_getD hb (p + 3)
  unfold rn
  rw [if_pos hp]
  unfold contB
  generalize e0 : l.getD p 0 = x0 at b0
  generalize e1 : l.getD (p + 1) 0 = x1 at b1
  generalize e2 : l.getD (p + 2) 0 = x2 at b2
  generalize e3 : l.getD (p + 3) 0 = x3 at b3
  by_cases c4 : 240 ≤ x0
  · rw [rn4_4 (l.length - p) x0.toNat x1.toNat x2.toNat x3.toNat (64 * (64 * (64 * (x0 - 240) + x1 - 128) + x2 - 128) + x3 - 128) (by omega) (by omega) (by omega) (by omega) (by omega)]
    by_cases h : 4 ≤ l.length - p ∧ 128 ≤ ((x1.toNat : Nat) : Int) ∧ ((x1.toNat : Nat) : Int) < 192 ∧ 128 ≤ ((x2.toNat : Nat) : Int) ∧ ((x2.toNat : Nat) : Int) < 192 ∧ 128 ≤ ((x3.toNat : Nat) : Int) ∧ ((x3.toNat : Nat) : Int) < 192 ∧ 65536 ≤ 64 * (64 * (64 * (x0 - 240) + x1 - 128) + x2 - 128) + x3 - 128 ∧ 64 * (64 * (64 * (x0 - 240) + x1 - 128) + x2 - 128) + x3 - 128 ≤ 1114111
    · rw [if_pos h]
      refine Or.inr ⟨4, by omega, by omega, rfl, by simp only; omega, by omega, by simp only [decide_eq_false_iff_not]; omega, fun j h1 h2 => ?_⟩
      obtain rfl | rfl | rfl : j = 1 ∨ j = 2 ∨ j = 3 := by omega
      · rw [e1, decide_eq_true_eq]; omega
      · rw [e2, decide_eq_true_eq]; omega
      · rw [e3, decide_eq_true_eq]; omega
    · rw [if_neg h]; exact Or.inl rfl
  · by_cases c3 : 224 ≤ x0
    · rw [rn4_3 (l.length - p) x0.toNat x1.toNat x2.toNat x3.toNat (64 * (64 * (x0 - 224) + x1 - 128) + x2 - 128) (by omega) (by omega) (by omega) (by omega)]
      by_cases h : 3 ≤ l.length - p ∧ 128 ≤ ((x1.toNat : Nat) : Int) ∧ ((x1.toNat : Nat) : Int) < 192 ∧ 128 ≤ ((x2.toNat : Nat) : Int) ∧ ((x2.toNat : Nat) : Int) < 192 ∧ 2048 ≤ 64 * (64 * (x0 - 224) + x1 - 128) + x2 - 128 ∧ ¬ (55296 ≤ 64 * (64 * (x0 - 224) + x1 - 128) + x2 - 128 ∧ 64 * (64 * (x0 - 224) + x1 - 128) + x2 - 128 ≤ 57343)
      · rw [if_pos h]
        refine Or.inr ⟨3, by omega, by omega, rfl, by simp only; omega, by omega, by simp only [decide_eq_false_iff_not]; omega, fun j h1 h2 => ?_⟩
        obtain rfl | rfl : j = 1 ∨ j = 2 := by omega
        · rw [e1, decide_eq_true_eq]; omega
        · rw [e2, decide_eq_true_eq]; omega
      · rw [if_neg h]; exact Or.inl rfl
    · by_cases c2 : 192 ≤ x0
      · rw [rn4_2 (l.length - p) x0.toNat x1.toNat x2.toNat x3.toNat (64 * (x0 - 192) + x1 - 128) (by omega) (by omega) (by omega)]
        by_cases h : 2 ≤ l.length - p ∧ 128 ≤ ((x1.toNat : Nat) : Int) ∧ ((x1.toNat : Nat) : Int) < 192 ∧ 128 ≤ 64 * (x0 - 192) + x1 - 128
        · rw [if_pos h]
          refine Or.inr ⟨2, by omega, by omega, rfl, by simp only; omega, by omega, by simp only [decide_eq_false_iff_not]; omega, fun j h1 h2 => ?_⟩
          obtain rfl : j = 1 := by omega
          rw [e1, decide_eq_true_eq]; omega
        · rw [if_neg h]; exact Or.inl rfl
      · rw [rn4_1 (l.length - p) x0.toNat x1.toNat x2.toNat x3.toNat (by omega)]
        by_cases h : x0.toNat < 128
        · rw [if_pos h]
          refine Or.inr ⟨1, by omega, by omega, rfl, by simp only; omega, by omega, by simp only [decide_eq_false_iff_not]; omega, fun j h1 h2 => by omega⟩
        · rw [if_neg h]; exact Or.inl rfl
/-- The places of the letters from p on, and the end. -/
def cuts (l : List Int) : Nat → Nat → Option (List Int)
  | 0, p => if p < l.length then none else some [(p : Int)]
  | n + 1, p => if p < l.length then (if (rn l p).2 = 0 then none else (cuts l n (p + (rn l p).2.toNat)).map ((p : Int) :: ·)) else some [(p : Int)]
theorem cuts_end (l : List Int) (n p : Nat) (h : ¬ p < l.length) : cuts l n p = some [(p : Int)] := by
  cases n <;> simp [cuts, h]
/-- A text. -/
def isT (l : List Int) : Bool := decide (l.length ≤ 400) && (cuts l l.length 0).isSome
/-- Its cuts. -/
def cutsOf (l : List Int) : List Int := if l.length ≤ 400 then (cuts l l.length 0).getD [] else []
theorem cuts_pos {l : List Int} : ∀ (n p : Nat) (c : List Int), cuts l n p = some c → 0 < c.length := by
  intro n p c h
  cases n with
  | zero =>
    simp only [cuts] at h
    split at h
    · cases h
    · cases h; simp
  | succ n =>
    simp only [cuts] at h
    split at h
    · split at h
      · cases h
      · obtain ⟨c', _, rfl⟩ := Option.map_eq_some_iff.1 h
        simp
    · cases h; simp
theorem specCuts_l0 {l : List Int} (hb : Bytes.okBytes l = true) (hl : l.length ≤ 1048576) : ∀ (n p k : Nat) (out : List Int), p ≤ l.length → l.length - p ≤ n → n + 10 ≤ k → out.length + n ≤ 1048576 →
    spec_l01Cuts.l0 k l out (p : Int) = some (match cuts l n p with | none => [] | some c => out ++ c) := by
  intro n
  induction n with
  | zero =>
    intro p k out h1 h2 h3 h4
    obtain ⟨k, rfl⟩ : ∃ m, k = m + 1 := ⟨k - 1, by omega⟩
    simp only [spec_l01Cuts.l0]
    rw [if_neg (by omega), if_pos (by omega), cuts_end l 0 p (by omega)]
  | succ n ih =>
    intro p k out h1 h2 h3 h4
    obtain ⟨k, rfl⟩ : ∃ m, k = m + 1 := ⟨k - 1, by omega⟩
    simp only [spec_l01Cuts.l0]
    by_cases hp : p < l.length
    · rw [if_pos (by omega)]
      unfold spec_RuneSize.f
      rw [specRune_f k (by omega) l p hb hl hp]
      simp only [Option.bind_some, cuts, if_pos hp]
      rcases rn_cases hb hp with h | ⟨s, hs1, hs4, hs, _, hse, _, _⟩
      · rw [h]; simp
      · rw [hs, if_neg (by omega), if_pos (by omega), show wrap64 ((p : Int) + (s : Int)) = ((p + s : Nat) : Int) from by rw [w64 (by omega) (by omega)]; omega, Int.toNat_natCast,
          ih (p + s) k (out ++ [(p : Int)]) hse (by omega) (by omega) (by simp; omega)]
        cases cuts l n (p + s) <;> simp [show s ≠ 0 by omega]
    · rw [if_neg (by omega), if_pos (by omega), cuts_end l (n + 1) p hp]
theorem specCuts_f {l : List Int} (k : Nat) (hb : Bytes.okBytes l = true) (hk : 411 ≤ k) : spec_l01Cuts.f k l = some (cutsOf l) := by
  unfold spec_l01Cuts.f cutsOf
  by_cases h : l.length ≤ 400
  · rw [if_neg (by omega), if_pos h]
    refine (specCuts_l0 hb (by omega) l.length 0 k [] (by omega) (by omega) (by omega) (by simp; omega)).trans ?_
    cases cuts l l.length 0 <;> simp
  · rw [if_pos (by omega), if_neg h]
theorem isT_cuts {l : List Int} : isT l = true ↔ 0 < (cutsOf l).length := by
  unfold isT cutsOf
  by_cases h : l.length ≤ 400
  · rw [if_pos h]
    cases hc : cuts l l.length 0 with
    | none => simp
    | some c => simpa [h] using cuts_pos _ _ _ hc
  · rw [if_neg h]; simp [h]
theorem isT_len {l : List Int} (h : isT l = true) : l.length ≤ 400 := by
  unfold isT at h
  simp only [Bool.and_eq_true, decide_eq_true_eq] at h
  exact h.1
theorem isT_some {l : List Int} (h : isT l = true) : cuts l l.length 0 = some (cutsOf l) := by
  have hl := isT_len h
  unfold isT at h
  simp only [Bool.and_eq_true, decide_eq_true_eq] at h
  unfold cutsOf
  rw [if_pos hl]
  cases hc : cuts l l.length 0 with
  | none => rw [hc] at h; simp at h
  | some c => rfl
theorem isT_none {l : List Int} (h : isT l = false) : cutsOf l = [] := by
  cases hc : cutsOf l with
  | nil => rfl
  | cons a c =>
    have := isT_cuts.2 (show 0 < (cutsOf l).length by rw [hc]; simp)
    rw [h] at this; cases this
theorem drop_toArray (l : List Int) (p : Nat) : (⟨((Bytes.toBA l).data.toList.drop p).toArray⟩ : ByteArray) = Bytes.toBA (l.drop p) := by
  unfold Bytes.toBA
  simp [List.map_drop]
theorem decode_drop {l : List Int} (hb : Bytes.okBytes l = true) (p : Nat) :
    Utf8.decode (Bytes.toBA (l.drop p)) 0 = Lib.decodeN (l.length - p) (l.getD p 0).toNat (l.getD (p + 1) 0).toNat (l.getD (p + 2) 0).toNat (l.getD (p + 3) 0).toNat := by
  have g : ∀ j, ((Bytes.toBA (l.drop p)).get! j).toNat = (l.getD (p + j) 0).toNat := fun j => by
    have := Bytes.toBA_get (Bytes.okBytes_drop hb p) j
    rw [getD_drop] at this
    omega
  rw [Lib.decode_at, g, g, g, g, Bytes.toBA_size, List.length_drop]
  simp
theorem decode_at_ {l : List Int} (hb : Bytes.okBytes l = true) (p : Nat) :
    Utf8.decode (Bytes.toBA l) p = Lib.decodeN (l.length - p) (l.getD p 0).toNat (l.getD (p + 1) 0).toNat (l.getD (p + 2) 0).toNat (l.getD (p + 3) 0).toNat := by
  have g : ∀ j, ((Bytes.toBA l).get! j).toNat = (l.getD j 0).toNat := fun j => by have := Bytes.toBA_get hb j; omega
  rw [Lib.decode_at, g, g, g, g, Bytes.toBA_size]
theorem valid_cuts {l : List Int} (hb : Bytes.okBytes l = true) : ∀ (n p : Nat), p ≤ l.length → l.length - p ≤ n → Lib.validGoD n ((Bytes.toBA l).data.toList.drop p) = (cuts l n p).isSome := by
  have hsz : (Bytes.toBA l).data.toList.length = l.length := by simp [Bytes.toBA]
  intro n
  induction n with
  | zero =>
    intro p h1 h2
    rw [cuts_end l 0 p (by omega)]
    rfl
  | succ n ih =>
    intro p h1 h2
    unfold Lib.validGoD
    by_cases hp : p < l.length
    · have hne : ¬ ((Bytes.toBA l).data.toList.drop p = []) := by
        intro h
        have := congrArg List.length h
        simp [hsz] at this
        omega
      rw [if_neg hne]
      simp only [cuts, if_pos hp]
      have hd : Lib.decodeL ((Bytes.toBA l).data.toList.drop p) = Lib.decodeN (l.length - p) (l.getD p 0).toNat (l.getD (p + 1) 0).toNat (l.getD (p + 2) 0).toNat (l.getD (p + 3) 0).toNat := by
        unfold Lib.decodeL
        rw [drop_toArray, decode_drop hb]
      have hle := decodeN_le (l.length - p) (l.getD p 0).toNat (l.getD (p + 1) 0).toNat (l.getD (p + 2) 0).toNat (l.getD (p + 3) 0).toNat (by have := Bytes.okBytes_getD hb p; omega)
      have hrn : rn l p = rn4 (l.length - p) (l.getD p 0).toNat (l.getD (p + 1) 0).toNat (l.getD (p + 2) 0).toNat (l.getD (p + 3) 0).toNat := by unfold rn; rw [if_pos hp]
      have hcs := rn_cases hb hp
      unfold rn4 at hrn
      rw [hd]
      generalize Lib.decodeN (l.length - p) (l.getD p 0).toNat (l.getD (p + 1) 0).toNat (l.getD (p + 2) 0).toNat (l.getD (p + 3) 0).toNat = d at hle hrn
      by_cases hbad : d.1 = 65533 ∧ d.2 ≤ 1
      · rw [if_pos ⟨hbad.1, by omega⟩]
        rw [if_pos hbad] at hrn
        rw [hrn]
        simp
      · rw [if_neg (fun h => hbad ⟨h.1, by omega⟩)]
        rw [if_neg hbad] at hrn
        have h2' : (rn l p).2 = (d.2 : Int) := by rw [hrn]
        have hse : p + d.2 ≤ l.length := by
          rcases hcs with h | ⟨s, _, _, hs, _, hse, _, _⟩
          · rw [h] at h2'; simp at h2'; omega
          · omega
        rw [h2', if_neg (by omega), Int.toNat_natCast, List.drop_drop, ih (p + d.2) hse (by omega)]
        cases cuts l n (p + d.2) <;> rfl
    · have he : (Bytes.toBA l).data.toList.drop p = [] := List.drop_eq_nil_of_le (by omega)
      rw [if_pos he, cuts_end l (n + 1) p hp]
      rfl
theorem implValid_f {l : List Int} (hb : Bytes.okBytes l = true) (hl : l.length ≤ 1048576) : utf8_Valid.f l = some (cuts l l.length 0).isSome := by
  unfold utf8_Valid.f
  rw [if_pos hb, if_pos (by omega)]
  congr 1
  have := valid_cuts hb l.length 0 (by omega) (by omega)
  rw [List.drop_zero] at this
  unfold Lib.validD
  rw [show (Bytes.toBA l).data.toList.length = l.length by simp [Bytes.toBA]]
  exact this
theorem mem_cuts {l : List Int} (hb : Bytes.okBytes l = true) : ∀ (n p : Nat) (c : List Int), p ≤ l.length → cuts l n p = some c → ∀ a : Int, a ∈ c ↔ (a = (l.length : Int) ∨ ∃ q : Nat, p ≤ q ∧ q < l.length ∧ a = (q : Int) ∧ contB (l.getD q 0) = false) := by
  intro n
  induction n with
  | zero =>
    intro p c h1 h2 a
    by_cases hp : p < l.length
    · simp [cuts, hp] at h2
    · rw [cuts_end l 0 p hp] at h2
      cases h2
      simp only [List.mem_singleton]
      constructor
      · rintro rfl; left; omega
      · rintro (h | ⟨q, _, _, _, _⟩) <;> omega
  | succ n ih =>
    intro p c h1 h2 a
    by_cases hp : p < l.length
    · simp only [cuts, if_pos hp] at h2
      rcases rn_cases hb hp with h | ⟨s, hs1, hs4, hs, _, hse, hc0, hcj⟩
      · rw [h] at h2; simp at h2
      · rw [hs, if_neg (by omega), Int.toNat_natCast] at h2
        obtain ⟨c', hc', rfl⟩ := Option.map_eq_some_iff.1 h2
        rw [List.mem_cons, ih (p + s) c' hse hc' a]
        constructor
        · rintro (rfl | h | ⟨q, g1, g2, g3, g4⟩)
          · exact Or.inr ⟨p, by omega, hp, rfl, hc0⟩
          · exact Or.inl h
          · exact Or.inr ⟨q, by omega, g2, g3, g4⟩
        · rintro (h | ⟨q, g1, g2, g3, g4⟩)
          · exact Or.inr (Or.inl h)
          · by_cases hq : q = p
            · subst hq; exact Or.inl g3
            · by_cases hq2 : p + s ≤ q
              · exact Or.inr (Or.inr ⟨q, hq2, g2, g3, g4⟩)
              · have := hcj (q - p) (by omega) (by omega)
                rw [show p + (q - p) = q by omega, g4] at this
                cases this
    · rw [cuts_end l (n + 1) p hp] at h2
      cases h2
      simp only [List.mem_singleton]
      constructor
      · rintro rfl; left; omega
      · rintro (h | ⟨q, _, _, _, _⟩) <;> omega
theorem cuts_length {l : List Int} : ∀ (n p : Nat) (c : List Int), cuts l n p = some c → c.length ≤ n + 1 := by
  intro n
  induction n with
  | zero =>
    intro p c h
    by_cases hp : p < l.length
    · simp [cuts, hp] at h
    · rw [cuts_end l 0 p hp] at h; cases h; simp
  | succ n ih =>
    intro p c h
    by_cases hp : p < l.length
    · simp only [cuts, if_pos hp] at h
      split at h
      · cases h
      · obtain ⟨c', hc', rfl⟩ := Option.map_eq_some_iff.1 h
        have := ih _ _ hc'
        simp; omega
    · rw [cuts_end l (n + 1) p hp] at h; cases h; simp
theorem cutsOf_length (l : List Int) : (cutsOf l).length ≤ 401 := by
  unfold cutsOf
  by_cases h : l.length ≤ 400
  · rw [if_pos h]
    cases hc : cuts l l.length 0 with
    | none => simp
    | some c => have := cuts_length _ _ _ hc; simp; omega
  · rw [if_neg h]; simp
/-- Where a place stands among the cuts. -/
def idxI (c : List Int) (a : Int) : Int := if a ∈ c then (c.idxOf a : Int) else -1
theorem idxI_nonneg (c : List Int) (a : Int) : (0 ≤ idxI c a) ↔ a ∈ c := by
  unfold idxI
  by_cases h : a ∈ c
  · rw [if_pos h]; simp [h]
  · rw [if_neg h]; simp [h]
/-- A cut, by the byte that stands there. -/
def isC (l : List Int) (a : Int) : Bool := decide (a = (l.length : Int) ∨ (0 ≤ a ∧ a < (l.length : Int) ∧ contB (l.getD a.toNat 0) = false))
theorem isC_mem {l : List Int} (hb : Bytes.okBytes l = true) (h : isT l = true) (a : Int) : (a ∈ cutsOf l) ↔ isC l a = true := by
  rw [mem_cuts hb _ _ _ (by omega) (isT_some h) a]
  unfold isC
  rw [decide_eq_true_eq]
  constructor
  · rintro (h | ⟨q, _, h2, rfl, h4⟩)
    · exact Or.inl h
    · exact Or.inr ⟨by omega, by omega, by rwa [Int.toNat_natCast]⟩
  · rintro (h | ⟨h1, h2, h3⟩)
    · exact Or.inl h
    · exact Or.inr ⟨a.toNat, by omega, by omega, by omega, h3⟩
theorem runeStart_f {x : Int} (h0 : 0 ≤ x) (h1 : x ≤ 255) : utf8_RuneStart.f x = some (!contB x) := by
  have key : ∀ y : Fin 256, (Go.bits .and .u8 ((y.val : Nat) : Int) 192 != 128) = !contB ((y.val : Nat) : Int) := by decide +kernel
  unfold utf8_RuneStart.f
  congr 1
  have := key ⟨x.toNat, by omega⟩
  simp only at this
  rwa [show ((x.toNat : Nat) : Int) = x by omega] at this
theorem implCut_f {l : List Int} (a : Int) (hb : Bytes.okBytes l = true) (hl : l.length ≤ 1048576) : impl_isCut.f l a = some (isC l a) := by
  unfold impl_isCut.f isC
  by_cases h : a = (l.length : Int)
  · rw [if_pos h]; simp [h]
  · rw [if_neg h]
    have hin : impl_in.f a 0 (wrap64 ((l.length : Int) - 1)) = some (decide (0 ≤ a ∧ a < (l.length : Int))) := by
      unfold impl_in.f
      rw [w64 (by omega) (by omega)]
      by_cases h0 : 0 ≤ a
      · rw [if_pos h0]
        congr 1
        rw [Bool.eq_iff_iff, decide_eq_true_eq, decide_eq_true_eq]
        omega
      · rw [if_neg h0]
        congr 1
        exact (decide_eq_false (fun h => h0 h.1)).symm
    rw [hin]
    simp only [Option.bind_some]
    by_cases h2 : 0 ≤ a ∧ a < (l.length : Int)
    · rw [if_pos (decide_eq_true h2), if_pos h2.1, if_pos h2.2]
      have e : rd l a = l.getD a.toNat 0 := by
        have := rd_nat l a.toNat
        rwa [show ((a.toNat : Nat) : Int) = a by omega] at this
      have hx := Bytes.okBytes_getD hb a.toNat
      rw [e, runeStart_f hx.1 hx.2]
      simp only [Option.bind_some]
      congr 1
      cases hcb : contB (l.getD a.toNat 0) <;> simp [h, h2]
    · rw [if_neg (by simp only [decide_eq_true_eq]; exact h2)]
      congr 1
      symm
      rw [decide_eq_false_iff_not]
      rintro (h3 | ⟨h3, h4, _⟩)
      · exact h h3
      · exact h2 ⟨h3, h4⟩
theorem cuts_fuel {l : List Int} (hb : Bytes.okBytes l = true) : ∀ (n m p : Nat), p ≤ l.length → l.length - p ≤ n → l.length - p ≤ m → cuts l n p = cuts l m p := by
  intro n
  induction n with
  | zero =>
    intro m p h0 h1 h2
    rw [cuts_end l 0 p (by omega), cuts_end l m p (by omega)]
  | succ n ih =>
    intro m p h0 h1 h2
    by_cases hp : p < l.length
    · obtain ⟨m, rfl⟩ : ∃ m', m = m' + 1 := ⟨m - 1, by omega⟩
      simp only [cuts, if_pos hp]
      rcases rn_cases hb hp with h | ⟨s, hs1, hs4, hs, _, hse, _, _⟩
      · rw [h]; simp
      · rw [hs, if_neg (by omega), if_neg (by omega), Int.toNat_natCast, ih m (p + s) hse (by omega) (by omega)]
    · rw [cuts_end l (n + 1) p hp, cuts_end l m p hp]
theorem rn_drop (l : List Int) (p q : Nat) : rn (l.drop p) q = rn l (p + q) := by
  unfold rn
  rw [List.length_drop, getD_drop, getD_drop, getD_drop, getD_drop, show l.length - p - q = l.length - (p + q) by omega, show p + (q + 1) = p + q + 1 by omega, show p + (q + 2) = p + q + 2 by omega, show p + (q + 3) = p + q + 3 by omega]
  by_cases h : q < l.length - p
  · rw [if_pos h, if_pos (by omega)]
  · rw [if_neg h, if_neg (by omega)]
theorem cuts_drop {l : List Int} (p : Nat) (hp : p ≤ l.length) : ∀ (n q : Nat), (cuts (l.drop p) n q).isSome = (cuts l n (p + q)).isSome := by
  intro n
  induction n with
  | zero =>
    intro q
    simp only [cuts, List.length_drop]
    by_cases h : q < l.length - p
    · rw [if_pos h, if_pos (by omega)]
    · rw [if_neg h, if_neg (by omega)]; rfl
  | succ n ih =>
    intro q
    simp only [cuts, List.length_drop]
    by_cases h : q < l.length - p
    · rw [if_pos h, if_pos (show p + q < l.length by omega), rn_drop]
      by_cases h2 : (rn l (p + q)).2 = 0
      · rw [if_pos h2, if_pos h2]
      · rw [if_neg h2, if_neg h2, Option.isSome_map, Option.isSome_map, ih, show p + (q + (rn l (p + q)).2.toNat) = p + q + (rn l (p + q)).2.toNat by omega]
    · rw [if_neg h, if_neg (by omega)]; rfl
theorem cuts_reach {l : List Int} (hb : Bytes.okBytes l = true) : ∀ (n p : Nat) (c : List Int) (q : Nat), p ≤ l.length → l.length - p ≤ n → cuts l n p = some c → (q : Int) ∈ c → (cuts l l.length q).isSome = true := by
  intro n
  induction n with
  | zero =>
    intro p c q h1 h0 h2 h3
    rw [cuts_end l 0 p (by omega)] at h2; cases h2
    simp only [List.mem_singleton] at h3
    obtain rfl : q = p := by omega
    rw [cuts_end l _ q (by omega)]; rfl
  | succ n ih =>
    intro p c q h1 h0 h2 h3
    by_cases hp : p < l.length
    · by_cases hqp : q = p
      · subst hqp
        rw [← cuts_fuel hb (n + 1) l.length q h1 h0 (by omega), h2]; rfl
      · simp only [cuts, if_pos hp] at h2
        rcases rn_cases hb hp with h | ⟨s, hs1, hs4, hs, _, hse, _, _⟩
        · rw [h] at h2; simp at h2
        · rw [hs, if_neg (by omega), Int.toNat_natCast] at h2
          obtain ⟨c', hc', rfl⟩ := Option.map_eq_some_iff.1 h2
          have h4 : (q : Int) ∈ c' := (List.mem_cons.1 h3).elim (fun e => by omega) id
          exact ih (p + s) c' q hse (by omega) hc' h4
    · rw [cuts_end l (n + 1) p hp] at h2; cases h2
      simp only [List.mem_singleton] at h3
      obtain rfl : q = p := by omega
      rw [cuts_end l _ q hp]; rfl
/-- What stands behind a cut of a text is a text. -/
theorem isT_drop {l : List Int} (hb : Bytes.okBytes l = true) (h : isT l = true) {p : Nat} (hc : isC l (p : Int) = true) : isT (l.drop p) = true := by
  have hl := isT_len h
  have hp : p ≤ l.length := by
    unfold isC at hc
    rw [decide_eq_true_eq] at hc
    omega
  have hm := (isC_mem hb h (p : Int)).2 hc
  have h1 := cuts_reach hb _ _ _ p (by omega) (by omega) (isT_some h) hm
  unfold isT
  rw [List.length_drop, decide_eq_true (by omega), Bool.true_and]
  have h2 := cuts_drop (l := l) p hp (l.length - p) 0
  rw [h2, Nat.add_zero, cuts_fuel hb (l.length - p) l.length p hp (by omega) (by omega)]
  exact h1
theorem isC_drop (l : List Int) (p : Nat) (hp : p ≤ l.length) (a : Int) (ha : 0 ≤ a) : isC (l.drop p) a = isC l ((p : Int) + a) := by
  unfold isC
  rw [List.length_drop]
  rw [Bool.eq_iff_iff, decide_eq_true_eq, decide_eq_true_eq, getD_drop, show ((p : Int) + a).toNat = p + a.toNat by omega]
  constructor
  · rintro (h | ⟨h1, h2, h3⟩)
    · left; omega
    · right; exact ⟨by omega, by omega, h3⟩
  · rintro (h | ⟨h1, h2, h3⟩)
    · left; omega
    · right; exact ⟨by omega, by omega, h3⟩
theorem specText_f {l : List Int} (k : Nat) (hb : Bytes.okBytes l = true) (hk : 411 ≤ k) : spec_TextOk.f k l = some (isT l) := by
  unfold spec_TextOk.f
  rw [specCuts_f k hb hk]
  simp only [Option.bind_some, Option.some.injEq]
  rw [Bool.eq_iff_iff, isT_cuts, decide_eq_true_eq]
  omega
theorem implText_f {l : List Int} (hb : Bytes.okBytes l = true) : impl_isText.f l = some (isT l) := by
  unfold impl_isText.f isT
  by_cases h : l.length ≤ 400
  · rw [if_pos (by omega), implValid_f hb (by omega)]
    simp [h]
  · rw [if_neg (by omega)]
    simp [h]
theorem eqChunk_self (k : Nat) (l : List Int) (hk : l.length < k) (hl : l.length ≤ 1048576) : laws_eqChunk.f k l l = some true := by
  unfold laws_eqChunk.f
  rw [eqByteS_self k l hk hl]
  rfl
/-- A chunk. -/
def isCk (l : List Int) : Bool := decide (1 ≤ l.length ∧ l.length ≤ 16) && isT l
theorem rd_toC (l : List S66) (i : Nat) (h : i < l.length) : l.drop i = rd_T66 l (i : Int) :: l.drop (i + 1) := by
  rw [List.drop_eq_getElem_cons h]
  unfold rd_T66
  rw [Int.toNat_natCast, List.getD_eq_getElem?_getD, List.getElem?_eq_getElem h]
  rfl
theorem rd_mem (l : List S66) (i : Nat) (h : i < l.length) : rd_T66 l (i : Int) ∈ l := List.mem_of_mem_drop (i := i) (by rw [rd_toC l i h]; exact List.mem_cons_self)
theorem eqChunkS_self (k : Nat) (l : List S66) (hl : l.length ≤ 1048576) (hw : ∀ c ∈ l, c.f0.length ≤ 1048576) (hk : 2097154 < k) : laws_eqChunkS.f k l l = some true := by
  have key : ∀ (d i k : Nat), i + d = l.length → d + 1048577 < k → laws_eqChunkS.l0 k l l (i : Int) = some true := by
    intro d
    induction d with
    | zero =>
      intro i k hi hk
      obtain ⟨k, rfl⟩ : ∃ m, k = m + 1 := ⟨k - 1, by omega⟩
      simp only [laws_eqChunkS.l0]
      rw [if_neg (by omega)]
    | succ d ih =>
      intro i k hi hk
      obtain ⟨k, rfl⟩ : ∃ m, k = m + 1 := ⟨k - 1, by omega⟩
      simp only [laws_eqChunkS.l0]
      have := hw _ (rd_mem l i (by omega))
      rw [if_pos (by omega), if_pos (by omega), if_pos (by omega), eqChunk_self k _ (by omega) (by omega)]
      simp only [Option.bind_some, if_true]
      rw [w64s i (by omega)]
      exact ih (i + 1) k (by omega) (by omega)
  unfold laws_eqChunkS.f
  rw [if_pos rfl]
  exact key l.length 0 k (by omega) (by omega)
/-- Chunks, all of them, of so much in all. -/
def areCk : List S66 → Int → Bool
  | [], _ => true
  | c :: cs, n => isCk c.f0 && decide (n + (c.f0.length : Int) ≤ 400) && areCk cs (n + (c.f0.length : Int))
theorem isCk_len {l : List Int} (h : isCk l = true) : 1 ≤ l.length ∧ l.length ≤ 16 := by
  unfold isCk at h
  simp only [Bool.and_eq_true, decide_eq_true_eq] at h
  exact h.1
/-- All that they hold. -/
def sumC (l : List S66) : Nat := (l.map fun c => c.f0.length).sum
theorem sumC_cons (c : S66) (l : List S66) : sumC (c :: l) = c.f0.length + sumC l := by simp [sumC]
theorem areCk_sum : ∀ (l : List S66) (n : Int), n ≤ 400 → areCk l n = true → n + (sumC l : Int) ≤ 400 ∧ l.length ≤ sumC l := by
  intro l
  induction l with
  | nil => intro n hn _; simp [sumC]; omega
  | cons c l ih =>
    intro n hn h
    simp only [areCk, Bool.and_eq_true, decide_eq_true_eq] at h
    have := ih _ h.1.2 h.2
    have := isCk_len h.1.1
    rw [sumC_cons]
    simp only [List.length_cons]
    omega
/-- From here on the text is one. -/
def V (l : List Int) (p : Nat) : Prop := (cuts l l.length p).isSome = true
theorem V_step {l : List Int} (hb : Bytes.okBytes l = true) {p : Nat} (h : V l p) (hp : p < l.length) :
    ∃ s : Nat, 1 ≤ s ∧ s ≤ 4 ∧ (rn l p).2 = (s : Int) ∧ p + s ≤ l.length ∧ V l (p + s) ∧ contB (l.getD p 0) = false ∧ ∀ j, 1 ≤ j → j < s → contB (l.getD (p + j) 0) = true := by
  unfold V at h
  rw [show l.length = (l.length - 1) + 1 by omega] at h
  simp only [cuts, if_pos hp] at h
  rcases rn_cases hb hp with h2 | ⟨s, hs1, hs4, hs, _, hse, hc0, hcj⟩
  · rw [h2] at h; simp at h
  · rw [hs, if_neg (by omega), Int.toNat_natCast, Option.isSome_map] at h
    refine ⟨s, hs1, hs4, hs, hse, ?_, hc0, hcj⟩
    unfold V
    rw [cuts_fuel hb l.length (l.length - 1) (p + s) hse (by omega) (by omega)]
    exact h
theorem isC_byte {l : List Int} {q : Nat} (hq : q < l.length) : isC l (q : Int) = !contB (l.getD q 0) := by
  unfold isC
  rw [Bool.eq_iff_iff, decide_eq_true_eq, Int.toNat_natCast]
  cases contB (l.getD q 0)
  · simp; omega
  · simp; omega
theorem isC_V {l : List Int} (hb : Bytes.okBytes l = true) {p : Nat} (h : V l p) (hp : p ≤ l.length) : isC l (p : Int) = true := by
  by_cases hp' : p < l.length
  · obtain ⟨s, _, _, _, _, _, hc, _⟩ := V_step hb h hp'
    rw [isC_byte hp', hc]; rfl
  · unfold isC
    rw [decide_eq_true_eq]
    left; omega
/-- The greatest cut up to a place. -/
def dn (l : List Int) : Nat → Nat
  | 0 => 0
  | n + 1 => if isC l ((n + 1 : Nat) : Int) = true then n + 1 else dn l n
theorem dn_eq (l : List Int) (a : Nat) (ha : isC l (a : Int) = true) : ∀ m, a ≤ m → (∀ j, a < j → j ≤ m → isC l (j : Int) = false) → dn l m = a := by
  intro m
  induction m with
  | zero => intro h _; simp only [dn]; omega
  | succ m ih =>
    intro h hj
    simp only [dn]
    by_cases e : a = m + 1
    · subst e; rw [if_pos ha]
    · rw [if_neg (by rw [hj (m + 1) (by omega) (by omega)]; simp)]
      exact ih (by omega) (fun j h1 h2 => hj j h1 (by omega))
/-- The chunks of a text. -/
def spl : Nat → List Int → List S66
  | 0, _ => []
  | f + 1, l => if l = [] then [] else ⟨l.take (dn l (min l.length 16))⟩ :: spl f (l.drop (dn l (min l.length 16)))
theorem take_drop_sub (l : List Int) (a b : Nat) : (l.take b).drop a = (l.drop a).take (b - a) := by
  rw [List.drop_take]
theorem spec_run {l : List Int} (hb : Bytes.okBytes l = true) (hl : l.length ≤ 400) : ∀ (d en k at_ : Nat) (out : List S66), at_ ≤ en → en ≤ at_ + 16 → en ≤ l.length → V l en → l.length - en ≤ d → d + 420 < k → out.length ≤ 400 →
    ∃ e k' : Nat, en ≤ e ∧ e ≤ at_ + 16 ∧ e ≤ l.length ∧ V l e ∧ (∀ j : Nat, e < j → j ≤ at_ + 16 → j ≤ l.length → isC l (j : Int) = false) ∧ k ≤ k' + d + 1 ∧ (en < l.length → en + 4 ≤ at_ + 16 → en < e) ∧
      spec_ChunksOf.l1 k l out (at_ : Int) (en : Int) = spec_ChunksOf.l0 k' l (out ++ [⟨(l.take e).drop at_⟩]) (e : Int) := by
  intro d
  induction d with
  | zero =>
    intro en k at_ out h1 h2 h3 h4 h5 hk ho
    obtain ⟨k, rfl⟩ : ∃ m, k = m + 1 := ⟨k - 1, by omega⟩
    refine ⟨en, k, Nat.le_refl _, h2, h3, h4, fun j hj1 hj2 hj3 => by omega, by omega, fun h => by omega, ?_⟩
    simp only [spec_ChunksOf.l1]
    rw [if_neg (by omega)]
    simp only [Option.bind_some]
    rw [if_pos (by omega), if_pos (by omega), if_pos (by omega), if_pos (by rw [List.length_nil, List.length_drop, List.length_take]; omega), if_pos (by omega), Int.toNat_natCast, Int.toNat_natCast, List.nil_append]
  | succ d ih =>
    intro en k at_ out h1 h2 h3 h4 h5 hk ho
    obtain ⟨k, rfl⟩ : ∃ m, k = m + 1 := ⟨k - 1, by omega⟩
    by_cases hp : en < l.length
    · obtain ⟨s, hs1, hs4, hs, hse, hV, hc0, hcj⟩ := V_step hb h4 hp
      have hr : spec_RuneSize.f k l (en : Int) = some (s : Int) := by
        unfold spec_RuneSize.f
        rw [specRune_f k (by omega) l en hb (by omega) hp]
        simp only [Option.bind_some]
        rw [← hs]
      have hw : wrap64 ((en : Int) + (s : Int)) = ((en + s : Nat) : Int) := by
        rw [w64 (by omega) (by omega)]
        omega
      have hw2 : wrap64 (((en + s : Nat) : Int) - (at_ : Int)) = ((en + s : Nat) : Int) - (at_ : Int) := w64 (by omega) (by omega)
      by_cases hle : en + s ≤ at_ + 16
      · obtain ⟨e, k', g1, g2, g3, g4, g5, g6, g7, g8⟩ := ih (en + s) k at_ out (by omega) hle hse hV (by omega) (by omega) ho
        refine ⟨e, k', by clear g8; omega, g2, g3, g4, g5, by clear g8; omega, fun _ _ => by clear g8; omega, ?_⟩
        rw [← g8]
        clear g8 ih
        simp only [spec_ChunksOf.l1]
        rw [if_pos (show (en : Int) < (l.length : Int) by omega), hr, Option.bind_some, hw, hw2, if_pos (show ((en + s : Nat) : Int) - (at_ : Int) ≤ 16 by omega), Option.bind_some, hw]
      · refine ⟨en, k, Nat.le_refl _, h2, h3, h4, fun j hj1 hj2 hj3 => ?_, by omega, fun _ h => by omega, ?_⟩
        · have := hcj (j - en) (by omega) (by omega)
          rw [show en + (j - en) = j by omega] at this
          rw [isC_byte (by omega), this]; rfl
        · clear ih
          simp only [spec_ChunksOf.l1]
          rw [if_pos (show (en : Int) < (l.length : Int) by omega), hr, Option.bind_some, hw, hw2, if_neg (show ¬ ((en + s : Nat) : Int) - (at_ : Int) ≤ 16 by omega), Option.bind_some]
          rw [if_pos (by omega), if_pos (by omega), if_pos (by omega), if_pos (by rw [List.length_nil, List.length_drop, List.length_take]; omega), if_pos (by omega), Int.toNat_natCast, Int.toNat_natCast, List.nil_append]
    · refine ⟨en, k, Nat.le_refl _, h2, h3, h4, fun j hj1 hj2 hj3 => by omega, by omega, fun h => by omega, ?_⟩
      simp only [spec_ChunksOf.l1]
      rw [if_neg (by omega)]
      simp only [Option.bind_some]
      rw [if_pos (by omega), if_pos (by omega), if_pos (by omega), if_pos (by rw [List.length_nil, List.length_drop, List.length_take]; omega), if_pos (by omega), Int.toNat_natCast, Int.toNat_natCast, List.nil_append]
/-- Where the next chunk ends. -/
theorem next_cut {l : List Int} (hb : Bytes.okBytes l = true) (hl : l.length ≤ 400) {p : Nat} (hV : V l p) (hp : p < l.length) :
    ∃ e : Nat, p < e ∧ e ≤ l.length ∧ V l e ∧ dn (l.drop p) (min (l.drop p).length 16) = e - p := by
  obtain ⟨e, k', g1, g2, g3, g4, g5, _, g7, _⟩ := spec_run hb hl l.length p 1000 p [] (Nat.le_refl _) (by omega) (by omega) hV (by omega) (by omega) (by simp)
  have hlt := g7 hp (by omega)
  refine ⟨e, hlt, g3, g4, ?_⟩
  have hj : ∀ j : Nat, isC (l.drop p) (j : Int) = isC l ((p + j : Nat) : Int) := fun j => by
    rw [isC_drop l p (by omega) (j : Int) (by omega)]
    congr 1
  refine dn_eq _ _ ?_ _ ?_ ?_
  · rw [hj, show p + (e - p) = e by omega]
    exact isC_V hb g4 g3
  · rw [List.length_drop]; omega
  · intro j h1 h2
    rw [List.length_drop] at h2
    rw [hj]
    exact g5 (p + j) (by omega) (by omega) (by omega)
theorem specSplit {l : List Int} (hb : Bytes.okBytes l = true) (hl : l.length ≤ 400) : ∀ (f p k : Nat) (out : List S66), p ≤ l.length → V l p → l.length - p ≤ f → f * 500 + 1000 < k → out.length + f ≤ 400 →
    spec_ChunksOf.l0 k l out (p : Int) = some (out ++ spl f (l.drop p)) := by
  intro f
  induction f with
  | zero =>
    intro p k out h1 h2 h3 hk ho
    obtain ⟨k, rfl⟩ : ∃ m, k = m + 1 := ⟨k - 1, by omega⟩
    simp only [spec_ChunksOf.l0]
    rw [if_neg (by omega)]
    simp [spl]
  | succ f ih =>
    intro p k out h1 h2 h3 hk ho
    obtain ⟨k, rfl⟩ : ∃ m, k = m + 1 := ⟨k - 1, by omega⟩
    simp only [spec_ChunksOf.l0]
    by_cases hp : p < l.length
    · rw [if_pos (by omega)]
      obtain ⟨e, hlt, he, hVe, hdn⟩ := next_cut hb hl h2 hp
      obtain ⟨e', k', g1, g2, g3, g4, g5, g6, g7, g8⟩ := spec_run hb hl l.length p k p out (Nat.le_refl _) (by omega) (by omega) h2 (by omega) (by omega) (by omega)
      have hlt' := g7 hp (by omega)
      have hee : e' = e := by
        have hj : ∀ j : Nat, isC (l.drop p) (j : Int) = isC l ((p + j : Nat) : Int) := fun j => by
          rw [isC_drop l p (by omega) (j : Int) (by omega)]
          congr 1
        have := dn_eq (l.drop p) (e' - p) (by rw [hj, show p + (e' - p) = e' by omega]; exact isC_V hb g4 g3) (min (l.drop p).length 16) (by rw [List.length_drop]; omega) (fun j h1 h2 => by
          rw [List.length_drop] at h2
          rw [hj]
          exact g5 (p + j) (by omega) (by omega) (by omega))
        omega
      subst hee
      have q1 : l.length - e' ≤ f := by clear g8 g5 g7; omega
      have q2 : f * 500 + 1000 < k' := by
        rw [Nat.succ_mul] at hk
        clear g8 g5 g7 q1 hdn ih
        generalize f * 500 = ff at hk ⊢
        omega
      have q3 : (out ++ [(⟨(l.take e').drop p⟩ : S66)]).length + f ≤ 400 := by rw [List.length_append, List.length_singleton]; clear g8 g5 g7; omega
      rw [g8, ih e' k' _ he hVe q1 q2 q3]
      have hne : l.drop p ≠ [] := fun h => by
        have := congrArg List.length h
        simp at this
        omega
      simp only [spl]
      rw [if_neg hne, hdn, take_drop_sub, List.drop_drop, show p + (e' - p) = e' by omega]
      simp
    · rw [if_neg (by omega)]
      have he : l.drop p = [] := List.drop_eq_nil_of_le (by omega)
      rw [he]
      simp [spl]
theorem impl_run {l : List Int} (hb : Bytes.okBytes l = true) (hl : l.length ≤ 400) (out : List S66) (ho : out.length ≤ 400) : ∀ (m k : Nat), m ≤ l.length → m < k → 1 ≤ dn l m → isC l (dn l m : Int) = true →
    ∃ k', k ≤ k' + m + 1 ∧ impl_chunksOf.l1 k l out (m : Int) = impl_chunksOf.l0 k' (l.drop (dn l m)) (out ++ [⟨l.take (dn l m)⟩]) := by
  intro m
  induction m with
  | zero => intro k h1 h2 h3; simp [dn] at h3
  | succ m ih =>
    intro k h1 h2 h3 h4
    obtain ⟨k, rfl⟩ : ∃ q, k = q + 1 := ⟨k - 1, by omega⟩
    simp only [impl_chunksOf.l1]
    rw [implCut_f _ hb (by omega)]
    simp only [Option.bind_some]
    by_cases h : isC l ((m + 1 : Nat) : Int) = true
    · have e : dn l (m + 1) = m + 1 := by simp only [dn]; rw [if_pos h]
      rw [e, if_pos h, if_pos (by omega), if_pos (by omega), Int.toNat_natCast]
      refine ⟨k, by omega, ?_⟩
      have : slices_Clone_byte_byte.f (l.take (m + 1)) = some (l.take (m + 1)) := by
        unfold slices_Clone_byte_byte.f
        rw [if_pos (by rw [List.length_take]; omega)]
      rw [this]
      simp only [Option.bind_some]
      rw [if_pos (by omega)]
    · have e : dn l (m + 1) = dn l m := by simp only [dn]; rw [if_neg h]
      rw [e] at h3 h4 ⊢
      rw [if_neg h, show wrap64 (((m + 1 : Nat) : Int) - 1) = (m : Int) from by rw [w64 (by omega) (by omega)]; omega]
      obtain ⟨k', g1, g2⟩ := ih k (by omega) (by omega) h3 h4
      exact ⟨k', by omega, g2⟩
theorem implSplit {l : List Int} (hb : Bytes.okBytes l = true) (hl : l.length ≤ 400) : ∀ (f p k : Nat) (out : List S66), p ≤ l.length → V l p → l.length - p ≤ f → f * 500 + 1000 < k → out.length + f ≤ 400 →
    impl_chunksOf.l0 k (l.drop p) out = some (out ++ spl f (l.drop p)) := by
  intro f
  induction f with
  | zero =>
    intro p k out h1 h2 h3 hk ho
    obtain ⟨k, rfl⟩ : ∃ m, k = m + 1 := ⟨k - 1, by omega⟩
    simp only [impl_chunksOf.l0]
    rw [if_neg (by rw [List.length_drop]; omega)]
    simp [spl]
  | succ f ih =>
    intro p k out h1 h2 h3 hk ho
    obtain ⟨k, rfl⟩ : ∃ m, k = m + 1 := ⟨k - 1, by omega⟩
    simp only [impl_chunksOf.l0]
    by_cases hp : p < l.length
    · rw [if_pos (by rw [List.length_drop]; omega)]
      obtain ⟨e, hlt, he, hVe, hdn⟩ := next_cut hb hl h2 hp
      have hmn : mn ((l.drop p).length : Int) 16 = ((min (l.drop p).length 16 : Nat) : Int) := by unfold mn; split <;> omega
      have hj : isC (l.drop p) ((e - p : Nat) : Int) = true := by
        rw [isC_drop l p (by omega) _ (by omega), show (p : Int) + ((e - p : Nat) : Int) = (e : Int) by omega]
        exact isC_V hb hVe he
      obtain ⟨k', g1, g2⟩ := impl_run (Bytes.okBytes_drop hb p) (by rw [List.length_drop]; omega) out (by omega) (min (l.drop p).length 16) k (by omega) (by omega) (by rw [hdn]; omega) (by rw [hdn]; exact hj)
      have hmin : min (l.drop p).length 16 ≤ 16 := Nat.min_le_right _ _
      have q1 : l.length - e ≤ f := by clear g2; omega
      have q2 : f * 500 + 1000 < k' := by
        rw [Nat.succ_mul] at hk
        clear g2 q1 hdn ih
        generalize f * 500 = ff at hk ⊢
        omega
      rw [hmn, g2, hdn, List.drop_drop, show p + (e - p) = e by omega]
      rw [ih e k' _ he hVe q1 q2 (by rw [List.length_append, List.length_singleton]; clear g2; omega)]
      have hne : l.drop p ≠ [] := fun h => by
        have := congrArg List.length h
        simp at this
        omega
      simp only [spl]
      rw [if_neg hne, hdn, List.drop_drop, show p + (e - p) = e by omega]
      simp
    · have he : l.drop p = [] := List.drop_eq_nil_of_le (by omega)
      rw [he]
      simp [spl]
theorem spl_sum : ∀ (f : Nat) (l : List Int), ((spl f l).map fun c => c.f0.length).sum ≤ l.length ∧ (spl f l).length ≤ f := by
  intro f
  induction f with
  | zero => intro l; simp [spl]
  | succ f ih =>
    intro l
    simp only [spl]
    by_cases h : l = []
    · rw [if_pos h]; simp
    · rw [if_neg h]
      have := ih (l.drop (dn l (min l.length 16)))
      rw [List.length_drop] at this
      simp only [List.map_cons, List.sum_cons, List.length_cons, List.length_take]
      omega
/-- What both make of a text. -/
def chunksI (l : List Int) : List S66 := if isT l = true then spl l.length l else []
theorem specChunks_f {l : List Int} (k : Nat) (hb : Bytes.okBytes l = true) (hk : 300000 < k) : spec_ChunksOf.f k l = some (chunksI l) := by
  unfold spec_ChunksOf.f chunksI
  rw [specText_f k hb (by omega)]
  simp only [Option.bind_some]
  cases h : isT l with
  | false => simp
  | true =>
    have hl := isT_len h
    have hV : V l 0 := by unfold V; rw [isT_some h]; rfl
    simp only [if_true]
    refine (specSplit hb hl l.length 0 k [] (by omega) hV (by omega) (by omega) (by simpa using hl)).trans ?_
    simp
theorem sumC_mem {l : List S66} {c : S66} (h : c ∈ l) : c.f0.length ≤ (l.map fun c => c.f0.length).sum := by
  induction l with
  | nil => cases h
  | cons d l ih =>
    rw [List.map_cons, List.sum_cons]
    rcases List.mem_cons.1 h with rfl | h
    · omega
    · have := ih h; omega
theorem chunksI_sum (l : List Int) : sumC (chunksI l) ≤ 400 ∧ (chunksI l).length ≤ 400 ∧ ∀ c ∈ chunksI l, c.f0.length ≤ 1048576 := by
  have key : sumC (chunksI l) ≤ 400 ∧ (chunksI l).length ≤ 400 := by
    unfold chunksI
    cases h : isT l with
    | false => simp [sumC]
    | true =>
      have hl := isT_len h
      have := spl_sum l.length l
      simp only [if_true]
      unfold sumC
      omega
  refine ⟨key.1, key.2, fun c hc => ?_⟩
  have : c.f0.length ≤ sumC (chunksI l) := by
    unfold sumC
    exact sumC_mem hc
  omega
theorem markByteS_f (k : Nat) (l : List Int) (m : Int) (hk : l.length < k) (hl : l.length ≤ 1048576) (h0 : 0 ≤ m) (h1 : m ≤ 4611686018427387904) : laws_markByteS.f k l m = some (m + (l.length : Int), marks l.length m) := by
  unfold laws_markByteS.f
  exact mark_loop (L := fun k out x i => laws_markByteS.l0 k out x i) l.length m (fun k out i hi ho => by
    simp only [laws_markByteS.l0]
    rw [if_pos (by omega), if_pos (by omega), w64s i (by omega), w64 (x := m + (i : Int) + 1) (by omega) (by omega)]
    congr 1
    omega) (fun k out ho => by
    simp only [laws_markByteS.l0]
    rw [if_neg (by omega)]) k l (by omega) rfl
theorem heldByteS_f (k : Nat) (n : Nat) (m : Int) (hk : n < k) (hl : n ≤ 1048576) (h0 : 0 ≤ m) (h1 : m ≤ 4611686018427387904) : laws_heldByteS.f k (marks n m) m = some (m + (n : Int)) := by
  unfold laws_heldByteS.f
  have hm := marks_length n m
  exact held_loop (L := fun k x i => laws_heldByteS.l0 k (marks n m) x i) n m (fun k i hi => by
    simp only [laws_heldByteS.l0]
    rw [if_pos (by omega), if_pos (by omega), rd_nat, if_pos (marks_getD n m i hi), w64s i (by omega), w64 (x := m + (i : Int) + 1) (by omega) (by omega)]
    congr 1
    omega) (fun k => by
    simp only [laws_heldByteS.l0]
    rw [if_neg (by omega)]) k (by omega)
/-- What markChunkS leaves. -/
def marksC : List S66 → Int → List S66
  | [], _ => []
  | c :: l, m => ⟨marks c.f0.length m⟩ :: marksC l (m + (c.f0.length : Int))
theorem marksC_length : ∀ (l : List S66) (m : Int), (marksC l m).length = l.length := by
  intro l
  induction l with
  | nil => intro m; rfl
  | cons c l ih => intro m; simp [marksC, ih]
theorem rd_mid (a b : List S66) (c : S66) : rd_T66 (a ++ c :: b) (a.length : Int) = c := by
  unfold rd_T66
  rw [Int.toNat_natCast, List.getD_eq_getElem?_getD, List.getElem?_append_right (by omega)]
  simp
theorem set_mid (a b : List S66) (c d : S66) : (a ++ c :: b).set ((a.length : Int)).toNat d = (a ++ [d]) ++ b := by
  rw [Int.toNat_natCast, List.set_append_right _ _ (by omega)]
  simp
theorem markChunkS_l0 : ∀ (l done : List S66) (k : Nat) (m : Int), (∀ c ∈ l, c.f0.length ≤ 1048576) → l.length + 1048577 < k → done.length + l.length ≤ 1048576 → 0 ≤ m → m + (sumC l : Int) ≤ 4611686018427387904 →
    laws_markChunkS.l0 k (done ++ l) m (done.length : Int) = some (m + (sumC l : Int), done ++ marksC l m) := by
  intro l
  induction l with
  | nil =>
    intro done k m _ hk hl h0 h1
    obtain ⟨k, rfl⟩ : ∃ q, k = q + 1 := ⟨k - 1, by omega⟩
    simp only [laws_markChunkS.l0]
    rw [if_neg (by simp)]
    have : sumC [] = 0 := rfl
    rw [this]
    simp [marksC]
  | cons c l ih =>
    intro done k m hw hk hl h0 h1
    obtain ⟨k, rfl⟩ : ∃ q, k = q + 1 := ⟨k - 1, by omega⟩
    rw [List.length_cons] at hk hl
    rw [sumC_cons] at h1
    have hc := hw c List.mem_cons_self
    simp only [laws_markChunkS.l0]
    rw [if_pos (by rw [List.length_append, List.length_cons]; omega), if_pos (by omega), rd_mid, markByteS_f k _ m (by omega) (by omega) (by omega) (by omega)]
    simp only [Option.bind_some]
    rw [set_mid, w64s _ (by omega)]
    have := ih (done ++ [⟨marks c.f0.length m⟩]) k (m + (c.f0.length : Int)) (fun x hx => hw x (List.mem_cons_of_mem _ hx)) (by omega) (by rw [List.length_append, List.length_singleton]; omega) (by omega) (by omega)
    rw [List.length_append, List.length_singleton] at this
    rw [this, sumC_cons]
    simp only [marksC, List.append_assoc, List.singleton_append]
    congr 2
    omega
theorem markChunkS_f (k : Nat) (l : List S66) (m : Int) (hw : ∀ c ∈ l, c.f0.length ≤ 1048576) (hk : l.length + 1048577 < k) (hl : l.length ≤ 1048576) (h0 : 0 ≤ m) (h1 : m + (sumC l : Int) ≤ 4611686018427387904) :
    laws_markChunkS.f k l m = some (m + (sumC l : Int), marksC l m) := markChunkS_l0 l [] k m hw hk (by simpa using hl) h0 h1
theorem heldChunkS_l0 (L : List S66) : ∀ (l done : List S66) (k : Nat) (m : Int), L = done ++ marksC l m → (∀ c ∈ l, c.f0.length ≤ 1048576) → l.length + 1048577 < k → done.length + l.length ≤ 1048576 → 0 ≤ m → m + (sumC l : Int) ≤ 4611686018427387904 →
    laws_heldChunkS.l0 k L m (done.length : Int) = some (m + (sumC l : Int)) := by
  intro l
  induction l with
  | nil =>
    intro done k m hL _ hk hl h0 h1
    obtain ⟨k, rfl⟩ : ∃ q, k = q + 1 := ⟨k - 1, by omega⟩
    subst hL
    simp only [laws_heldChunkS.l0]
    rw [if_neg (by simp [marksC])]
    have : sumC [] = 0 := rfl
    rw [this]
    simp
  | cons c l ih =>
    intro done k m hL hw hk hl h0 h1
    obtain ⟨k, rfl⟩ : ∃ q, k = q + 1 := ⟨k - 1, by omega⟩
    rw [List.length_cons] at hk hl
    rw [sumC_cons] at h1
    have hc := hw c List.mem_cons_self
    have hr : rd_T66 L (done.length : Int) = ⟨marks c.f0.length m⟩ := by rw [hL]; simp only [marksC]; exact rd_mid _ _ _
    have hlen : L.length = done.length + (l.length + 1) := by rw [hL]; simp [marksC_length]
    simp only [laws_heldChunkS.l0]
    rw [if_pos (by omega), if_pos (by omega), hr, heldByteS_f k _ m (by omega) (by omega) (by omega) (by omega)]
    simp only [Option.bind_some]
    rw [if_neg (by omega), w64s _ (by omega)]
    have := ih (done ++ [⟨marks c.f0.length m⟩]) k (m + (c.f0.length : Int)) (by rw [hL]; simp [marksC]) (fun x hx => hw x (List.mem_cons_of_mem _ hx)) (by omega) (by rw [List.length_append, List.length_singleton]; omega) (by omega) (by omega)
    rw [List.length_append, List.length_singleton] at this
    rw [this, sumC_cons]
    congr 1
    omega
theorem heldChunkS_f (k : Nat) (l : List S66) (m : Int) (hw : ∀ c ∈ l, c.f0.length ≤ 1048576) (hk : l.length + 1048577 < k) (hl : l.length ≤ 1048576) (h0 : 0 ≤ m) (h1 : m + (sumC l : Int) ≤ 4611686018427387904) :
    laws_heldChunkS.f k (marksC l m) m = some (m + (sumC l : Int)) := by
  unfold laws_heldChunkS.f
  exact heldChunkS_l0 (marksC l m) l [] k m (by simp) hw hk (by simpa using hl) h0 h1
theorem eqRope_self (k : Nat) (l : List S66) (hl : l.length ≤ 1048576) (hw : ∀ c ∈ l, c.f0.length ≤ 1048576) (hk : 2097154 < k) : laws_eqRope.f k l l = some true := by
  unfold laws_eqRope.f
  rw [eqChunkS_self k l hl hw hk]; rfl
theorem markRope_f (k : Nat) (l : List S66) (m : Int) (hw : ∀ c ∈ l, c.f0.length ≤ 1048576) (hk : l.length + 1048577 < k) (hl : l.length ≤ 1048576) (h0 : 0 ≤ m) (h1 : m + (sumC l : Int) ≤ 4611686018427387904) :
    laws_markRope.f k l m = some (m + (sumC l : Int), marksC l m) := markChunkS_f k l m hw hk hl h0 h1
theorem heldRope_f (k : Nat) (l : List S66) (m : Int) (hw : ∀ c ∈ l, c.f0.length ≤ 1048576) (hk : l.length + 1048577 < k) (hl : l.length ≤ 1048576) (h0 : 0 ≤ m) (h1 : m + (sumC l : Int) ≤ 4611686018427387904) :
    laws_heldRope.f k (marksC l m) m = some (m + (sumC l : Int)) := by
  unfold laws_heldRope.f
  rw [heldChunkS_f k l m hw hk hl h0 h1]
  simp only [Option.bind_some]
  rw [if_neg (by omega)]
theorem specRopeOf_f {l : List Int} (k : Nat) (hb : Bytes.okBytes l = true) (hk : 300000 < k) : spec_RopeOf.f k l = some (chunksI l, isT l) := by
  unfold spec_RopeOf.f
  rw [specText_f k hb (by omega)]
  simp only [Option.bind_some]
  cases h : isT l with
  | false => simp [chunksI, h]
  | true =>
    simp only [if_true]
    rw [specChunks_f k hb hk]
    rfl
theorem implRopeOf_f {l : List Int} (k : Nat) (hb : Bytes.okBytes l = true) (hk : 300000 < k) : impl_RopeOf.f k l = some (chunksI l, isT l) := by
  unfold impl_RopeOf.f impl_ropeOf.f impl_chunksOf.f
  rw [implText_f hb]
  simp only [Option.bind_some]
  cases h : isT l with
  | false => simp [chunksI, h]
  | true =>
    have hl := isT_len h
    have hV : V l 0 := by unfold V; rw [isT_some h]; rfl
    simp only [if_true]
    have h2 := implSplit hb hl l.length 0 k [] (by omega) hV (by omega) (by omega) (by simpa using hl)
    rw [List.drop_zero, List.nil_append] at h2
    rw [h2]
    unfold chunksI
    rw [if_pos h]
    rfl
theorem FnExactRopeOf (l0 : List Int) (wl0 : (l0.length ≤ maxLen ∧ ∀ x ∈ l0, (Lit.int .u8 x).wf = true)) : ∃ k, laws_FnExactRopeOf.f k l0 = some true := by
  have hb := okBytes_wf wl0.2
  have hm : l0.length ≤ 9223372036854775807 := by have := wl0.1; unfold maxLen at this; omega
  refine ⟨3000000, ?_⟩
  generalize hk : (3000000 : Nat) = k
  unfold laws_FnExactRopeOf.f
  by_cases hl : (l0.length : Int) > 1048576
  · rw [if_pos hl]
  · rw [if_neg hl, toByteS_f k l0 (by omega) (by omega)]
    obtain ⟨h1, h2, h3⟩ := chunksI_sum l0
    simp only [Option.bind_some]
    rw [specRopeOf_f k hb (by omega), implRopeOf_f k hb (by omega)]
    simp only [Option.bind_some]
    rw [eqRope_self k _ (by omega) h3 (by omega)]
    simp only [Option.bind_some, if_true]
    rw [eqByteS_self k l0 (by omega) (by omega)]
    simp only [Option.bind_some, if_true]
    rw [markByteS_f k l0 1 (by omega) (by omega) (by omega) (by omega)]
    simp only [Option.bind_some]
    rw [if_neg (by omega), markRope_f k _ 1 h3 (by omega) (by omega) (by omega) (by omega)]
    simp only [Option.bind_some]
    rw [heldRope_f k _ 1 h3 (by omega) (by omega) (by omega) (by omega)]
    simp only [Option.bind_some]
    rw [if_neg (by omega)]
    simp only [if_true]
    rw [if_neg (by omega)]

end Go.Proofs.YtedmjdjodpgdlaaDoor.Pure
