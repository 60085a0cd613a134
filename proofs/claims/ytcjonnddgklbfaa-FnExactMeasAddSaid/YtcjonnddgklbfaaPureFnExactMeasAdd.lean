/-
  The law FnExactMeasAdd in plain words: what the program's function computes is what the reference's computes. No memory, no machine.
-/
import Derived.Test.YtcjonnddgklbfaaPFnExactMeasAddx
import Derived.Test.YtcjonnddgklbfaaGen
namespace Go.Proofs.Ytcjonnddgklbfaa.Pure
open Go.RowKit Go.Proofs.Ytcjonnddgklbfaa.PFnExactMeasAdd Go.Proofs.YtcjonnddgklbfaaW.PrintWords Go.Proofs.YtcjonnddgklbfaaW.PrintLast Go.Proofs.YtcjonnddgklbfaaW.PrintMore Go.Proofs.Ytcjonnddgklbfaa.Gen
set_option linter.unusedVariables false
set_option linter.unusedSimpArgs false

theorem FnExactMeasAdd (a0_0 : Int) (a0_1 : Int) (a0_2 : Int) (a1_0 : Int) (a1_1 : Int) (a1_2 : Int) (wa0_0 : (Lit.int .i64 a0_0).wf = true) (wa0_1 : (Lit.int .i64 a0_1).wf = true) (wa0_2 : (Lit.int .i64 a0_2).wf = true) (wa1_0 : (Lit.int .i64 a1_0).wf = true) (wa1_1 : (Lit.int .i64 a1_1).wf = true) (wa1_2 : (Lit.int .i64 a1_2).wf = true) : laws_FnExactMeasAdd.f a0_0 a0_1 a0_2 a1_0 a1_1 a1_2 = some true := by
  have hs : ∀ x : Int, spec_l02Small.f x = some (decide (0 ≤ x ∧ x ≤ 400)) := by
    intro x
    unfold spec_l02Small.f
    by_cases h : 0 ≤ x <;> simp [h]
  have hi : ∀ a b c : Int, impl_isMeas.f a b c = some (decide ((0 ≤ a ∧ a ≤ 400) ∧ (0 ≤ b ∧ b ≤ 400) ∧ (0 ≤ c ∧ c ≤ 400))) := by
    intro a b c
    unfold impl_isMeas.f impl_in.f
    by_cases ha : 0 ≤ a <;> by_cases ha2 : a ≤ 400 <;> by_cases hb : 0 ≤ b <;> by_cases hb2 : b ≤ 400 <;> by_cases hc : 0 ≤ c <;> simp [ha, ha2, hb, hb2, hc]
  have e : impl_MeasAdd.f a0_0 a0_1 a0_2 a1_0 a1_1 a1_2 = spec_MeasAdd.f a0_0 a0_1 a0_2 a1_0 a1_1 a1_2 := by
    simp only [spec_MeasAdd.f, impl_MeasAdd.f, hs, hi, impl_measAdd.f, Option.bind_some]
    by_cases p1 : 0 ≤ a0_0 ∧ a0_0 ≤ 400 <;> by_cases p2 : 0 ≤ a0_1 ∧ a0_1 ≤ 400 <;> by_cases p3 : 0 ≤ a0_2 ∧ a0_2 ≤ 400 <;>
      by_cases p4 : 0 ≤ a1_0 ∧ a1_0 ≤ 400 <;> by_cases p5 : 0 ≤ a1_1 ∧ a1_1 ≤ 400 <;> by_cases p6 : 0 ≤ a1_2 ∧ a1_2 ≤ 400 <;> simp [p1, p2, p3, p4, p5, p6]
  obtain ⟨b, hb⟩ : ∃ b, spec_MeasAdd.f a0_0 a0_1 a0_2 a1_0 a1_1 a1_2 = some b := by
    simp only [spec_MeasAdd.f, hs, Option.bind_some]
    (repeat' split) <;> exact ⟨_, rfl⟩
  simp only [laws_FnExactMeasAdd.f, laws_toMeas.f, Option.bind_some, e, hb]
  simp [laws_eqMeas.f]

end Go.Proofs.Ytcjonnddgklbfaa.Pure
