/-
  The law FnExactMeasAdd of the seat: for every input the program's function answers as the reference's: the row, over the printed contract and the pure theorem. Under no condition of its own.
-/
import Derived.Test.YtcjonnddgklbfaaRows
import Derived.Test.YtcjonnddgklbfaaPFnExactMeasAddx
import Derived.Test.YtcjonnddgklbfaaPureFnExactMeasAdd
import Derived.Test.YtcjonnddgklbfaaOpen
import Derived.WalkKit
import Derived.ProofKit
import Derived.OpenShut
import Derived.ShutString
import Derived.ChangeOld
import Derived.Below
import Derived.SizedLaws
import Derived.Lib.SmallJoins
namespace Go.Proofs.Ytcjonnddgklbfaa.fnExactMeasAdd
open Go.ChangeShapes Go.WideShapes Go.ChangeAt Go.RowKit Go.Proofs.Ytcjonnddgklbfaa.PFnExactMeasAdd Go.Proofs.YtcjonnddgklbfaaW.PrintWords Go.Proofs.Ytcjonnddgklbfaa.Open
open Go.ChangeMaps (open_string shut_string)
set_option linter.unusedVariables false
theorem own : ownKnob Try.prog.godebug = none := by kernel_rfl
theorem laidOut : laidOutB Try.prog = true := by kernel_rfl
set_option maxRecDepth 100000 in
theorem lifted (os : Os) (started : os.Started) (H : Type) (enc : TypeId × Value → H) :
    ReturnsInHanded {} Try.checked os 4 .any (Rows.fnExactMeasAddSpec.pre6 enc Try.prog Try.f4 Rows.fnExactMeasAddRow.domain false) (Rows.fnExactMeasAddSpec.post enc Try.prog Try.f4 false true false false) := by
  refine returnsInHanded_of_change_sized (C := Try.checked) own started (by kernel_rfl) Try.func4
    (ChangeSpec.witness6 (enc := enc) (C := Try.checked) false ⟨#[], #[.agg #[.int .i64 0, .int .i64 0, .int .i64 0], .agg #[.int .i64 0, .int .i64 0, .int .i64 0]], []⟩ 8 (by kernel_rfl) (by kernel_rfl) (by kernel_rfl) (by kernel_rfl)) ?_
  intro W base args ds gs before hval0 hW hcnd hsz0 _
  have hval : ∀ (j : Nat) t v, Try.f4.params[j]? = some t → args[j]? = some v → Value.okWide Try.prog W .any base t v := hval0
  have hW' := hW
  obtain ⟨p, q, hA0, hV, rfl, hfz, hnd⟩ := hW
  have hA : DataW.TrodAll enc Try.prog W 0 (fun _ => true) true Try.f4.params.toList args.toList ds p := hA0
  rw [Try.params4] at hA hval
  obtain ⟨v0, vs0, d0, ds0, p0, q0, hargs, rfl, rfl, h0, r0⟩ := trodAll_cons hA
  obtain ⟨v1, vs1, d1, ds1, p1, q1, rfl, rfl, rfl, h1, r1⟩ := trodAll_cons r0
  obtain ⟨rfl, rfl, rfl⟩ := trodAll_nil r1
  obtain rfl : args = #[v0, v1] := by cases args; simp_all
  obtain ⟨rfl, rfl⟩ := trodVars_none hV
  have k0 := h0
  have lt0 : ∀ x ∈ p0, x.block < W.heap.size := by obtain ⟨m, hm⟩ := k0; exact DataW.trod_lt m _ _ _ hm
  obtain ⟨cs0, rfl, hs0⟩ := okWide_struct Try.underlying24 (hval 0 24 v0 rfl rfl)
  obtain ⟨fu0, hf0⟩ := h0
  obtain ⟨hl0, ff0⟩ := fields_of (cs := cs0.toList) Try.underlying24 (by simpa [Value.cells] using hf0)
  have hl0 : cs0.toList.length = 3 := hl0.trans (by kernel_rfl)
  obtain ⟨n0_0, y0_0, h0_0⟩ := ff0 0 _ rfl
  obtain ⟨n0_1, y0_1, h0_1⟩ := ff0 1 _ rfl
  obtain ⟨n0_2, y0_2, h0_2⟩ := ff0 2 _ rfl
  obtain ⟨c0_0, c0_1, c0_2, ec0⟩ := len3 hl0
  rw [ec0] at h0_0 h0_1 h0_2
  obtain rfl : cs0 = #[c0_0, c0_1, c0_2] := by rw [← Array.toArray_toList (xs := cs0), ec0]
  have e0_0 : (([c0_0, c0_1, c0_2] : List Value).drop 0).take (Try.prog.cellsOf 3) = [c0_0] := by rw [show Try.prog.cellsOf 3 = 1 by kernel_rfl]; rfl
  have g0_0 : DataW.trod enc Try.prog W 0 (fun _ => true) true n0_0 3 [c0_0] = some y0_0 := by rw [← e0_0]; exact h0_0
  have e0_1 : (([c0_0, c0_1, c0_2] : List Value).drop 1).take (Try.prog.cellsOf 3) = [c0_1] := by rw [show Try.prog.cellsOf 3 = 1 by kernel_rfl]; rfl
  have g0_1 : DataW.trod enc Try.prog W 0 (fun _ => true) true n0_1 3 [c0_1] = some y0_1 := by rw [← e0_1]; exact h0_1
  have e0_2 : (([c0_0, c0_1, c0_2] : List Value).drop 2).take (Try.prog.cellsOf 3) = [c0_2] := by rw [show Try.prog.cellsOf 3 = 1 by kernel_rfl]; rfl
  have g0_2 : DataW.trod enc Try.prog W 0 (fun _ => true) true n0_2 3 [c0_2] = some y0_2 := by rw [← e0_2]; exact h0_2
  clear e0_0 h0_0 e0_1 h0_1 e0_2 h0_2
  obtain ⟨z0_0, k0_0, w0_0⟩ := (opens_int Try.underlying3) g0_0
  obtain rfl : c0_0 = .int .i64 z0_0 := by injection k0_0
  obtain ⟨z0_1, k0_1, w0_1⟩ := (opens_int Try.underlying3) g0_1
  obtain rfl : c0_1 = .int .i64 z0_1 := by injection k0_1
  obtain ⟨z0_2, k0_2, w0_2⟩ := (opens_int Try.underlying3) g0_2
  obtain rfl : c0_2 = .int .i64 z0_2 := by injection k0_2
  have k1 := h1
  have lt1 : ∀ x ∈ p1, x.block < W.heap.size := by obtain ⟨m, hm⟩ := k1; exact DataW.trod_lt m _ _ _ hm
  obtain ⟨cs1, rfl, hs1⟩ := okWide_struct Try.underlying24 (hval 1 24 v1 rfl rfl)
  obtain ⟨fu1, hf1⟩ := h1
  obtain ⟨hl1, ff1⟩ := fields_of (cs := cs1.toList) Try.underlying24 (by simpa [Value.cells] using hf1)
  have hl1 : cs1.toList.length = 3 := hl1.trans (by kernel_rfl)
  obtain ⟨n1_0, y1_0, h1_0⟩ := ff1 0 _ rfl
  obtain ⟨n1_1, y1_1, h1_1⟩ := ff1 1 _ rfl
  obtain ⟨n1_2, y1_2, h1_2⟩ := ff1 2 _ rfl
  obtain ⟨c1_0, c1_1, c1_2, ec1⟩ := len3 hl1
  rw [ec1] at h1_0 h1_1 h1_2
  obtain rfl : cs1 = #[c1_0, c1_1, c1_2] := by rw [← Array.toArray_toList (xs := cs1), ec1]
  have e1_0 : (([c1_0, c1_1, c1_2] : List Value).drop 0).take (Try.prog.cellsOf 3) = [c1_0] := by rw [show Try.prog.cellsOf 3 = 1 by kernel_rfl]; rfl
  have g1_0 : DataW.trod enc Try.prog W 0 (fun _ => true) true n1_0 3 [c1_0] = some y1_0 := by rw [← e1_0]; exact h1_0
  have e1_1 : (([c1_0, c1_1, c1_2] : List Value).drop 1).take (Try.prog.cellsOf 3) = [c1_1] := by rw [show Try.prog.cellsOf 3 = 1 by kernel_rfl]; rfl
  have g1_1 : DataW.trod enc Try.prog W 0 (fun _ => true) true n1_1 3 [c1_1] = some y1_1 := by rw [← e1_1]; exact h1_1
  have e1_2 : (([c1_0, c1_1, c1_2] : List Value).drop 2).take (Try.prog.cellsOf 3) = [c1_2] := by rw [show Try.prog.cellsOf 3 = 1 by kernel_rfl]; rfl
  have g1_2 : DataW.trod enc Try.prog W 0 (fun _ => true) true n1_2 3 [c1_2] = some y1_2 := by rw [← e1_2]; exact h1_2
  clear e1_0 h1_0 e1_1 h1_1 e1_2 h1_2
  obtain ⟨z1_0, k1_0, w1_0⟩ := (opens_int Try.underlying3) g1_0
  obtain rfl : c1_0 = .int .i64 z1_0 := by injection k1_0
  obtain ⟨z1_1, k1_1, w1_1⟩ := (opens_int Try.underlying3) g1_1
  obtain rfl : c1_1 = .int .i64 z1_1 := by injection k1_1
  obtain ⟨z1_2, k1_2, w1_2⟩ := (opens_int Try.underlying3) g1_2
  obtain rfl : c1_2 = .int .i64 z1_2 := by injection k1_2
  clear hA0 hval0 hsz0
  have hp := Pure.FnExactMeasAdd z0_0 z0_1 z0_2 z1_0 z1_1 z1_2 w0_0 w0_1 w0_2 w1_0 w1_1 w1_2
  refine (laws_FnExactMeasAdd.calls z0_0 z0_1 z0_2 z1_0 z1_1 z1_2 true W rfl hp).mono fun e W' ⟨he, bel⟩ => ?_
  subst he
  exact ⟨_, rfl, _, _, _, [], _, [], hW', trodAll_mk1 (shut_bool Try.underlying4 _), (trodAll_cons_mk (Below.trod laidOut (by kernel_rfl) (of_decide_eq_true (by kernel_rfl)) k0 bel lt0) (trodAll_cons_mk (Below.trod laidOut (by kernel_rfl) (of_decide_eq_true (by kernel_rfl)) k1 bel lt1) trodAll_mk0)), rfl, bel.frame _, fun h => by cases h⟩
theorem over : Rows.fnExactMeasAddRow.holds Try.pinned (OpenSpec.ofChange Rows.fnExactMeasAddSpec) :=
  OpenClaim.holds_of_wide 4 Try.f4 rfl rfl rfl rfl rfl rfl rfl ⟨rfl, rfl, rfl, rfl, rfl⟩ rfl rfl rfl rfl rfl (by kernel_rfl) Try.func4 (by kernel_rfl)
    (of_decide_eq_true (by kernel_rfl)) (by unfold Func.isWrapper; first | (rw [if_pos (by decide +kernel)]; kernel_rfl) | (rw [if_neg (by decide +kernel)]; exact ⟨rfl, rfl⟩))
    (fun os started H enc _ => lifted os started H enc)
theorem proved : Rows.FnExactMeasAddSaid := over
#print axioms proved
end Go.Proofs.Ytcjonnddgklbfaa.fnExactMeasAdd
namespace Go.Proofs.Ytcjonnddgklbfaa
/-- The row, under a short name, for the claim. -/
theorem fnExactMeasAdd_holds : Rows.FnExactMeasAddSaid := fnExactMeasAdd.proved
end Go.Proofs.Ytcjonnddgklbfaa
