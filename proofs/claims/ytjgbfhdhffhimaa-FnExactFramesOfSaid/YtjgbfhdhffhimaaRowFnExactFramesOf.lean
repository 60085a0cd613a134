/-
  The law FnExactFramesOf of the seat: for every input the program's function answers as the reference's: the row, over the printed contract and the pure theorem. Under no condition of its own.
-/
import Derived.Test.YtjgbfhdhffhimaaRows
import Derived.Test.YtjgbfhdhffhimaaPFnExactFramesOfx
import Derived.Test.YtjgbfhdhffhimaaPureFnExactFramesOf
import Derived.Test.YtjgbfhdhffhimaaOpen
import Derived.WalkKit
import Derived.ProofKit
import Derived.OpenShut
import Derived.ShutString
import Derived.ChangeOld
import Derived.Below
import Derived.SizedLaws
import Derived.Lib.SmallJoins
namespace Go.Proofs.Ytjgbfhdhffhimaa.fnExactFramesOf
open Go.ChangeShapes Go.WideShapes Go.ChangeAt Go.RowKit Go.Proofs.Ytjgbfhdhffhimaa.PFnExactFramesOf Go.Proofs.YtjgbfhdhffhimaaW.PrintWords Go.Proofs.Ytjgbfhdhffhimaa.Open
open Go.ChangeMaps (open_string shut_string)
set_option linter.unusedVariables false
theorem own : ownKnob Try.prog.godebug = none := by kernel_rfl
theorem laidOut : laidOutB Try.prog = true := by kernel_rfl
instance : Inhabited S56 := ⟨z56⟩
theorem opens56 : Opens Try.prog 56 k56 Pure.wf56 := by
  intro H enc w base spare held fuel cs x h
  obtain ⟨hl, hf⟩ := fields_of Try.underlying56 h
  have hl : cs.length = 1 := hl.trans (by kernel_rfl)
  obtain ⟨n0, y0, h0⟩ := hf 0 _ rfl
  obtain ⟨c0, rfl⟩ := len1 hl
  have e0 : (([c0] : List Value).drop 0).take (Try.prog.cellsOf 22) = [c0] := by rw [show Try.prog.cellsOf 22 = 1 by kernel_rfl]; rfl
  have g0 : DataW.trod enc Try.prog w base spare held n0 22 [c0] = some y0 := by rw [← e0]; exact h0
  clear e0 h0
  obtain ⟨z0, k0_, w0⟩ := (opens_slice (d := (Kd.int .u8)) Try.underlying22 (by kernel_rfl) (opens_int Try.underlying5)) g0
  obtain ⟨A0, m0, rfl, l0, r0⟩ := slice_parts k0_
  exact ⟨⟨z0⟩, k56_mk w ⟨z0⟩ l0 r0, w0⟩
set_option maxRecDepth 100000 in
theorem lifted (os : Os) (started : os.Started) (H : Type) (enc : TypeId × Value → H) :
    ReturnsInHanded {} Try.checked os 5 .any (Rows.fnExactFramesOfSpec.pre6 enc Try.prog Try.f5 Rows.fnExactFramesOfRow.domain false) (Rows.fnExactFramesOfSpec.post enc Try.prog Try.f5 false true false false) := by
  refine returnsInHanded_of_change_sized (C := Try.checked) own started (by kernel_rfl) Try.func5
    (ChangeSpec.witness6 (enc := enc) (C := Try.checked) false ⟨#[], #[.slice none 0 0], []⟩ 8 (by kernel_rfl) (by kernel_rfl) (by kernel_rfl) (by kernel_rfl)) ?_
  intro W base args ds gs before hval0 hW hcnd hsz0 _
  have hval : ∀ (j : Nat) t v, Try.f5.params[j]? = some t → args[j]? = some v → Value.okWide Try.prog W .any base t v := hval0
  have hW' := hW
  obtain ⟨p, q, hA0, hV, rfl, hfz, hnd⟩ := hW
  have hA : DataW.TrodAll enc Try.prog W 0 (fun _ => true) true Try.f5.params.toList args.toList ds p := hA0
  rw [Try.params5] at hA hval
  obtain ⟨v0, vs0, d0, ds0, p0, q0, hargs, rfl, rfl, h0, r0⟩ := trodAll_cons hA
  obtain ⟨rfl, rfl, rfl⟩ := trodAll_nil r0
  obtain rfl : args = #[v0] := by cases args; simp_all
  obtain ⟨rfl, rfl⟩ := trodVars_none hV
  have k0 := h0
  have lt0 : ∀ x ∈ p0, x.block < W.heap.size := by obtain ⟨m, hm⟩ := k0; exact DataW.trod_lt m _ _ _ hm
  obtain ⟨a0, len0, cap0, rfl⟩ := okWide_slice Try.underlying43 (hval 0 43 v0 rfl rfl)
  obtain ⟨fu0, hf0⟩ := h0
  have hx0 : DataW.trod enc Try.prog W 0 (fun _ => true) true fu0 43 [.slice a0 len0 cap0] = some (d0, p0) := by simpa [Value.cells] using hf0
  obtain ⟨z0, k0_, w0⟩ := (opens_slice (d := k56) Try.underlying43 (by kernel_rfl) opens56) hx0
  obtain ⟨A0, m0, es0, hl0, hr0⟩ := slice_parts k0_
  obtain ⟨rfl, rfl, rfl⟩ : a0 = A0 ∧ len0 = z0.length ∧ cap0 = m0 := by injection es0 with q0 q1 q2; exact ⟨q0, q1, q2⟩
  clear hA0 hval0 hsz0
  obtain ⟨k, hp⟩ := Pure.FnExactFramesOf z0 w0
  refine (laws_FnExactFramesOf.calls k _ _ z0 true W hr0 hl0 rfl hp).mono fun e W' ⟨he, bel⟩ => ?_
  subst he
  exact ⟨_, rfl, _, _, _, [], _, [], hW', trodAll_mk1 (shut_bool Try.underlying4 _), (trodAll_cons_mk (Below.trod laidOut (by kernel_rfl) (of_decide_eq_true (by kernel_rfl)) k0 bel lt0) trodAll_mk0), rfl, bel.frame _, fun h => by cases h⟩
theorem over : Rows.fnExactFramesOfRow.holds Try.pinned (OpenSpec.ofChange Rows.fnExactFramesOfSpec) :=
  OpenClaim.holds_of_wide 5 Try.f5 rfl rfl rfl rfl rfl rfl rfl ⟨rfl, rfl, rfl, rfl, rfl⟩ rfl rfl rfl rfl rfl (by kernel_rfl) Try.func5 (by kernel_rfl)
    (of_decide_eq_true (by kernel_rfl)) (by unfold Func.isWrapper; first | (rw [if_pos (by decide +kernel)]; kernel_rfl) | (rw [if_neg (by decide +kernel)]; exact ⟨rfl, rfl⟩))
    (fun os started H enc _ => lifted os started H enc)
theorem proved : Rows.FnExactFramesOfSaid := over
#print axioms proved
end Go.Proofs.Ytjgbfhdhffhimaa.fnExactFramesOf
namespace Go.Proofs.Ytjgbfhdhffhimaa
/-- The row, under a short name, for the claim. -/
theorem fnExactFramesOf_holds : Rows.FnExactFramesOfSaid := fnExactFramesOf.proved
end Go.Proofs.Ytjgbfhdhffhimaa
