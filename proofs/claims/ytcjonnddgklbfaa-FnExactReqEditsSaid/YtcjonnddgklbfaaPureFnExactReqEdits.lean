/-
  The law FnExactReqEdits in plain words: what the program's function computes is what the reference's computes. No memory, no machine.
-/
import Derived.Test.YtcjonnddgklbfaaPFnExactReqEditsx
import Derived.Test.YtcjonnddgklbfaaGen
namespace Go.Proofs.Ytcjonnddgklbfaa.Pure
open Go.RowKit Go.Proofs.Ytcjonnddgklbfaa.PFnExactReqEdits Go.Proofs.YtcjonnddgklbfaaW.PrintWords Go.Proofs.YtcjonnddgklbfaaW.PrintLast Go.Proofs.YtcjonnddgklbfaaW.PrintMore Go.Proofs.Ytcjonnddgklbfaa.Gen
set_option linter.unusedVariables false
set_option linter.unusedSimpArgs false

theorem szByteS_f (l : List Int) (a : Int) (h0 : 0 ≤ a) (h1 : a ≤ 1048576) (hl : l.length ≤ 9223372036854775807) :
    laws_szByteS.f l a = some (if (l.length : Int) ≤ a then a - (l.length : Int) else -1) := by
  unfold laws_szByteS.f
  rw [w64 (x := a - (l.length : Int)) (by omega) (by omega)]
  by_cases h : (l.length : Int) ≤ a
  · rw [if_neg (by omega), if_pos h]
  · rw [if_pos (by omega), if_neg h]
theorem toByteS_f (k : Nat) (l : List Int) (hk : l.length < k) (hl : l.length ≤ 1048576) : laws_toByteS.f k l = some l := by
  have h := map_loop (L := fun k out i => laws_toByteS.l0 k l out i) l id 0 0 (fun k out i _ hi ho => by
      simp only [laws_toByteS.l0]
      rw [if_pos (by omega), if_pos (by omega), if_pos (by omega), w64s i (by omega), rd_nat]
      rfl) (fun k out ho => by
      simp only [laws_toByteS.l0]
      rw [if_neg (by omega)]) k (List.replicate ((l.length : Int)).toNat 0) (by omega) (by simp)
  unfold laws_toByteS.f
  rw [if_pos (by omega), if_pos (by omega)]
  simpa using h
theorem eqByteS_f (k : Nat) (l l' : List Int) (hk : l.length < k) (hl : l.length ≤ 1048576) : laws_eqByteS.f k l l' = some (decide (l = l')) := by
  unfold laws_eqByteS.f
  by_cases e : l.length = l'.length
  · rw [if_pos (by omega)]
    obtain ⟨b, h, hb⟩ := all_loop (L := fun k i => laws_eqByteS.l0 k l l' i) l.length 0 (fun i => decide (l.getD i 0 = l'.getD i 0)) (fun k i _ hi => by
      simp only [laws_eqByteS.l0]
      rw [if_pos (by omega), if_pos (by omega), if_pos (by omega), w64s i (by omega), rd_nat, rd_nat]
      simp only [decide_eq_true_eq]) (fun k => by
      simp only [laws_eqByteS.l0]
      rw [if_neg (by omega)]) k (by omega)
    refine h.trans ?_
    congr 1
    simp only [decide_eq_true_eq] at hb
    rw [Bool.eq_iff_iff, decide_eq_true_eq]
    exact hb.trans (eq_of_getD 0 e)
  · rw [if_neg (by omega)]
    congr 1
    symm
    exact decide_eq_false (fun h => e (by rw [h]))
theorem eqByteS_self (k : Nat) (l : List Int) (hk : l.length < k) (hl : l.length ≤ 1048576) : laws_eqByteS.f k l l = some true := by
  rw [eqByteS_f k l l hk hl]; simp
theorem FnExactReqEdits (a0_0 : Int) (a0_1 : Int) (a0_2 : Int) (a0_3 : Int) (a0_4 : Int) (l0_5 : List Int) (wa0_0 : (Lit.int .i64 a0_0).wf = true) (wa0_1 : (Lit.int .i64 a0_1).wf = true) (wa0_2 : (Lit.int .i64 a0_2).wf = true) (wa0_3 : (Lit.int .i64 a0_3).wf = true) (wa0_4 : (Lit.int .i64 a0_4).wf = true) (wl0_5 : (l0_5.length ≤ maxLen ∧ ∀ x ∈ l0_5, (Lit.int .u8 x).wf = true)) : ∃ k, laws_FnExactReqEdits.f k a0_0 a0_1 a0_2 a0_3 a0_4 l0_5 = some true := by
  have ha := wl0_5.1
  unfold maxLen at ha
  refine ⟨l0_5.length + 4, ?_⟩
  generalize hk : l0_5.length + 4 = k
  have hsz : laws_szReq.f a0_0 a0_1 a0_2 a0_3 a0_4 l0_5 1048576 = some (if (l0_5.length : Int) ≤ 1048576 then 1048576 - (l0_5.length : Int) else -1) := by
    unfold laws_szReq.f
    rw [szByteS_f _ _ (by omega) (by omega) ha]
    simp only [Option.bind_some]
    by_cases h : (l0_5.length : Int) ≤ 1048576
    · rw [if_pos h, if_neg (by omega)]
    · rw [if_neg h, if_pos (by omega)]
  unfold laws_FnExactReqEdits.f
  rw [hsz]
  simp only [Option.bind_some]
  by_cases c1 : (l0_5.length : Int) ≤ 1048576
  · rw [if_pos c1, if_neg (by omega)]
    have e1 : laws_toReq.f k a0_0 a0_1 a0_2 a0_3 a0_4 l0_5 = some (a0_0, a0_1, a0_2, a0_3, a0_4, l0_5) := by
      unfold laws_toReq.f
      rw [toByteS_f k l0_5 (by omega) (by omega)]
      rfl
    have e2 : laws_eqReq.f k a0_0 a0_1 a0_2 a0_3 a0_4 l0_5 a0_0 a0_1 a0_2 a0_3 a0_4 l0_5 = some true := by
      simp [laws_eqReq.f, eqByteS_self k l0_5 (by omega) (by omega)]
    have e3 : spec_ReqEdits.f k a0_0 a0_1 a0_2 a0_3 a0_4 l0_5 = some (decide (3 ≤ a0_0 ∧ a0_0 ≤ 5)) := by
      obtain ⟨k, rfl⟩ : ∃ m, k = m + 4 := ⟨k - 4, by omega⟩
      simp only [spec_ReqEdits.f, spec_l09Is.f, spec_l09Is.l0]
      by_cases h3 : 3 = a0_0
      · subst h3; simp [rd]
      · by_cases h4 : 4 = a0_0
        · subst h4; simp [rd, wrap64]
        · by_cases h5 : 5 = a0_0
          · subst h5; simp [rd, wrap64]
          · simp [rd, wrap64, h3, h4, h5]
            omega
    have e4 : impl_ReqEdits.f a0_0 a0_1 a0_2 a0_3 a0_4 l0_5 = some (decide (3 ≤ a0_0 ∧ a0_0 ≤ 5)) := by
      simp only [impl_ReqEdits.f, impl_reqEdits.f, impl_in.f]
      by_cases h : 3 ≤ a0_0 <;> simp [h]
    simp only [e1, e2, e3, e4, Option.bind_some]
    simp
  · rw [if_neg c1, if_pos (by omega)]

end Go.Proofs.Ytcjonnddgklbfaa.Pure
