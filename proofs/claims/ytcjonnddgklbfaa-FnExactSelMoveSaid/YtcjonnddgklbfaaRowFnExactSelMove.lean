/-
  The law FnExactSelMove of the seat: for every input the program's function answers as the reference's: the row, over the printed contract and the pure theorem. Under no condition of its own.
-/
import Derived.Test.YtcjonnddgklbfaaRows
import Derived.Test.YtcjonnddgklbfaaPFnExactSelMovex
import Derived.Test.YtcjonnddgklbfaaPureFnExactSelMove
import Derived.Test.YtcjonnddgklbfaaOpen
import Derived.WalkKit
import Derived.ProofKit
import Derived.OpenShut
import Derived.ShutString
import Derived.ChangeOld
import Derived.Below
import Derived.SizedLaws
import Derived.Lib.SmallJoins
namespace Go.Proofs.Ytcjonnddgklbfaa.fnExactSelMove
open Go.ChangeShapes Go.WideShapes Go.ChangeAt Go.RowKit Go.Proofs.Ytcjonnddgklbfaa.PFnExactSelMove Go.Proofs.YtcjonnddgklbfaaW.PrintWords Go.Proofs.Ytcjonnddgklbfaa.Open
open Go.ChangeMaps (open_string shut_string)
set_option linter.unusedVariables false
theorem own : ownKnob Try.prog.godebug = none := by kernel_rfl
theorem laidOut : laidOutB Try.prog = true := by kernel_rfl
set_option maxRecDepth 100000 in
theorem lifted (os : Os) (started : os.Started) (H : Type) (enc : TypeId × Value → H) :
    ReturnsInHanded {} Try.checked os 12 .any (Rows.fnExactSelMoveSpec.pre6 enc Try.prog Try.f12 Rows.fnExactSelMoveRow.domain false) (Rows.fnExactSelMoveSpec.post enc Try.prog Try.f12 false true false false) := by
  refine returnsInHanded_of_change_sized (C := Try.checked) own started (by kernel_rfl) Try.func12
    (ChangeSpec.witness6 (enc := enc) (C := Try.checked) false ⟨#[], #[.agg #[.int .i64 0, .int .i64 0], .agg #[.int .i64 0, .int .i64 0, .slice none 0 0], .bool false], []⟩ 8 (by kernel_rfl) (by kernel_rfl) (by kernel_rfl) (by kernel_rfl)) ?_
  intro W base args ds gs before hval0 hW hcnd hsz0 _
  have hval : ∀ (j : Nat) t v, Try.f12.params[j]? = some t → args[j]? = some v → Value.okWide Try.prog W .any base t v := hval0
  have hW' := hW
  obtain ⟨p, q, hA0, hV, rfl, hfz, hnd⟩ := hW
  have hA : DataW.TrodAll enc Try.prog W 0 (fun _ => true) true Try.f12.params.toList args.toList ds p := hA0
  rw [Try.params12] at hA hval
  obtain ⟨v0, vs0, d0, ds0, p0, q0, hargs, rfl, rfl, h0, r0⟩ := trodAll_cons hA
  obtain ⟨v1, vs1, d1, ds1, p1, q1, rfl, rfl, rfl, h1, r1⟩ := trodAll_cons r0
  obtain ⟨v2, vs2, d2, ds2, p2, q2, rfl, rfl, rfl, h2, r2⟩ := trodAll_cons r1
  obtain ⟨rfl, rfl, rfl⟩ := trodAll_nil r2
  obtain rfl : args = #[v0, v1, v2] := by cases args; simp_all
  obtain ⟨rfl, rfl⟩ := trodVars_none hV
  have k0 := h0
  have lt0 : ∀ x ∈ p0, x.block < W.heap.size := by obtain ⟨m, hm⟩ := k0; exact DataW.trod_lt m _ _ _ hm
  obtain ⟨cs0, rfl, hs0⟩ := okWide_struct Try.underlying65 (hval 0 65 v0 rfl rfl)
  obtain ⟨fu0, hf0⟩ := h0
  obtain ⟨hl0, ff0⟩ := fields_of (cs := cs0.toList) Try.underlying65 (by simpa [Value.cells] using hf0)
  have hl0 : cs0.toList.length = 2 := hl0.trans (by kernel_rfl)
  obtain ⟨n0_0, y0_0, h0_0⟩ := ff0 0 _ rfl
  obtain ⟨n0_1, y0_1, h0_1⟩ := ff0 1 _ rfl
  obtain ⟨c0_0, c0_1, ec0⟩ := len2 hl0
  rw [ec0] at h0_0 h0_1
  obtain rfl : cs0 = #[c0_0, c0_1] := by rw [← Array.toArray_toList (xs := cs0), ec0]
  have e0_0 : (([c0_0, c0_1] : List Value).drop 0).take (Try.prog.cellsOf 3) = [c0_0] := by rw [show Try.prog.cellsOf 3 = 1 by kernel_rfl]; rfl
  have g0_0 : DataW.trod enc Try.prog W 0 (fun _ => true) true n0_0 3 [c0_0] = some y0_0 := by rw [← e0_0]; exact h0_0
  have e0_1 : (([c0_0, c0_1] : List Value).drop 1).take (Try.prog.cellsOf 3) = [c0_1] := by rw [show Try.prog.cellsOf 3 = 1 by kernel_rfl]; rfl
  have g0_1 : DataW.trod enc Try.prog W 0 (fun _ => true) true n0_1 3 [c0_1] = some y0_1 := by rw [← e0_1]; exact h0_1
  clear e0_0 h0_0 e0_1 h0_1
  obtain ⟨z0_0, k0_0, w0_0⟩ := (opens_int Try.underlying3) g0_0
  obtain rfl : c0_0 = .int .i64 z0_0 := by injection k0_0
  obtain ⟨z0_1, k0_1, w0_1⟩ := (opens_int Try.underlying3) g0_1
  obtain rfl : c0_1 = .int .i64 z0_1 := by injection k0_1
  have k1 := h1
  have lt1 : ∀ x ∈ p1, x.block < W.heap.size := by obtain ⟨m, hm⟩ := k1; exact DataW.trod_lt m _ _ _ hm
  obtain ⟨cs1, rfl, hs1⟩ := okWide_struct Try.underlying32 (hval 1 32 v1 rfl rfl)
  obtain ⟨fu1, hf1⟩ := h1
  obtain ⟨hl1, ff1⟩ := fields_of (cs := cs1.toList) Try.underlying32 (by simpa [Value.cells] using hf1)
  have hl1 : cs1.toList.length = 3 := hl1.trans (by kernel_rfl)
  obtain ⟨n1_0, y1_0, h1_0⟩ := ff1 0 _ rfl
  obtain ⟨n1_1, y1_1, h1_1⟩ := ff1 1 _ rfl
  obtain ⟨n1_2, y1_2, h1_2⟩ := ff1 2 _ rfl
  obtain ⟨c1_0, c1_1, c1_2, ec1⟩ := len3 hl1
  rw [ec1] at h1_0 h1_1 h1_2
  obtain rfl : cs1 = #[c1_0, c1_1, c1_2] := by rw [← Array.toArray_toList (xs := cs1), ec1]
  have e1_0 : (([c1_0, c1_1, c1_2] : List Value).drop 0).take (Try.prog.cellsOf 3) = [c1_0] := by rw [show Try.prog.cellsOf 3 = 1 by kernel_rfl]; rfl
  have g1_0 : DataW.trod enc Try.prog W 0 (fun _ => true) true n1_0 3 [c1_0] = some y1_0 := by rw [← e1_0]; exact h1_0
  have e1_1 : (([c1_0, c1_1, c1_2] : List Value).drop 1).take (Try.prog.cellsOf 3) = [c1_1] := by rw [show Try.prog.cellsOf 3 = 1 by kernel_rfl]; rfl
  have g1_1 : DataW.trod enc Try.prog W 0 (fun _ => true) true n1_1 3 [c1_1] = some y1_1 := by rw [← e1_1]; exact h1_1
  have e1_2 : (([c1_0, c1_1, c1_2] : List Value).drop 2).take (Try.prog.cellsOf 30) = [c1_2] := by rw [show Try.prog.cellsOf 30 = 1 by kernel_rfl]; rfl
  have g1_2 : DataW.trod enc Try.prog W 0 (fun _ => true) true n1_2 30 [c1_2] = some y1_2 := by rw [← e1_2]; exact h1_2
  clear e1_0 h1_0 e1_1 h1_1 e1_2 h1_2
  obtain ⟨z1_0, k1_0, w1_0⟩ := (opens_int Try.underlying3) g1_0
  obtain rfl : c1_0 = .int .i64 z1_0 := by injection k1_0
  obtain ⟨z1_1, k1_1, w1_1⟩ := (opens_int Try.underlying3) g1_1
  obtain rfl : c1_1 = .int .i64 z1_1 := by injection k1_1
  obtain ⟨z1_2, k1_2, w1_2⟩ := (opens_slice (d := (Kd.int .u8)) Try.underlying30 (by kernel_rfl) (opens_int Try.underlying5)) g1_2
  obtain ⟨A1_2, m1_2, rfl, l1_2, r1_2⟩ := slice_parts k1_2
  have k2 := h2
  have lt2 : ∀ x ∈ p2, x.block < W.heap.size := by obtain ⟨m, hm⟩ := k2; exact DataW.trod_lt m _ _ _ hm
  obtain ⟨a2, rfl, -, -⟩ := open_bool Try.underlying4 (hval 2 4 v2 rfl rfl) h2
  clear hA0 hval0 hsz0
  obtain ⟨k, hp⟩ := Pure.FnExactSelMove z0_0 z0_1 z1_0 z1_1 z1_2 a2 w0_0 w0_1 w1_0 w1_1 w1_2
  refine (laws_FnExactSelMove.calls k z0_0 z0_1 z1_0 z1_1 _ _ z1_2 a2 true W r1_2 l1_2 rfl hp).mono fun e W' ⟨he, bel⟩ => ?_
  subst he
  exact ⟨_, rfl, _, _, _, [], _, [], hW', trodAll_mk1 (shut_bool Try.underlying4 _), (trodAll_cons_mk (Below.trod laidOut (by kernel_rfl) (of_decide_eq_true (by kernel_rfl)) k0 bel lt0) (trodAll_cons_mk (Below.trod laidOut (by kernel_rfl) (of_decide_eq_true (by kernel_rfl)) k1 bel lt1) (trodAll_cons_mk (Below.trod laidOut (by kernel_rfl) (of_decide_eq_true (by kernel_rfl)) k2 bel lt2) trodAll_mk0))), rfl, bel.frame _, fun h => by cases h⟩
theorem over : Rows.fnExactSelMoveRow.holds Try.pinned (OpenSpec.ofChange Rows.fnExactSelMoveSpec) :=
  OpenClaim.holds_of_wide 12 Try.f12 rfl rfl rfl rfl rfl rfl rfl ⟨rfl, rfl, rfl, rfl, rfl⟩ rfl rfl rfl rfl rfl (by kernel_rfl) Try.func12 (by kernel_rfl)
    (of_decide_eq_true (by kernel_rfl)) (by unfold Func.isWrapper; first | (rw [if_pos (by decide +kernel)]; kernel_rfl) | (rw [if_neg (by decide +kernel)]; exact ⟨rfl, rfl⟩))
    (fun os started H enc _ => lifted os started H enc)
theorem proved : Rows.FnExactSelMoveSaid := over
#print axioms proved
end Go.Proofs.Ytcjonnddgklbfaa.fnExactSelMove
namespace Go.Proofs.Ytcjonnddgklbfaa
/-- The row, under a short name, for the claim. -/
theorem fnExactSelMove_holds : Rows.FnExactSelMoveSaid := fnExactSelMove.proved
end Go.Proofs.Ytcjonnddgklbfaa
