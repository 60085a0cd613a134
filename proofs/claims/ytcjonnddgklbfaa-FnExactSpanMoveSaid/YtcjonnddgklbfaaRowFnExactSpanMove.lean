/-
  The law FnExactSpanMove of the seat: for every input the program's function answers as the reference's: the row, over the printed contract and the pure theorem. Under no condition of its own.
-/
import Derived.Test.YtcjonnddgklbfaaRows
import Derived.Test.YtcjonnddgklbfaaPFnExactSpanMovex
import Derived.Test.YtcjonnddgklbfaaPureFnExactSpanMove
import Derived.Test.YtcjonnddgklbfaaOpen
import Derived.WalkKit
import Derived.ProofKit
import Derived.OpenShut
import Derived.ShutString
import Derived.ChangeOld
import Derived.Below
import Derived.SizedLaws
import Derived.Lib.SmallJoins
namespace Go.Proofs.Ytcjonnddgklbfaa.fnExactSpanMove
open Go.ChangeShapes Go.WideShapes Go.ChangeAt Go.RowKit Go.Proofs.Ytcjonnddgklbfaa.PFnExactSpanMove Go.Proofs.YtcjonnddgklbfaaW.PrintWords Go.Proofs.Ytcjonnddgklbfaa.Open
open Go.ChangeMaps (open_string shut_string)
set_option linter.unusedVariables false
theorem own : ownKnob Try.prog.godebug = none := by kernel_rfl
theorem laidOut : laidOutB Try.prog = true := by kernel_rfl
set_option maxRecDepth 100000 in
theorem lifted (os : Os) (started : os.Started) (H : Type) (enc : TypeId × Value → H) :
    ReturnsInHanded {} Try.checked os 11 .any (Rows.fnExactSpanMoveSpec.pre6 enc Try.prog Try.f11 Rows.fnExactSpanMoveRow.domain false) (Rows.fnExactSpanMoveSpec.post enc Try.prog Try.f11 false true false false) := by
  refine returnsInHanded_of_change_sized (C := Try.checked) own started (by kernel_rfl) Try.func11
    (ChangeSpec.witness6 (enc := enc) (C := Try.checked) false ⟨#[], #[.int .i64 0, .int .i64 0, .agg #[.int .i64 0, .int .i64 0, .slice none 0 0]], []⟩ 8 (by kernel_rfl) (by kernel_rfl) (by kernel_rfl) (by kernel_rfl)) ?_
  intro W base args ds gs before hval0 hW hcnd hsz0 _
  have hval : ∀ (j : Nat) t v, Try.f11.params[j]? = some t → args[j]? = some v → Value.okWide Try.prog W .any base t v := hval0
  have hW' := hW
  obtain ⟨p, q, hA0, hV, rfl, hfz, hnd⟩ := hW
  have hA : DataW.TrodAll enc Try.prog W 0 (fun _ => true) true Try.f11.params.toList args.toList ds p := hA0
  rw [Try.params11] at hA hval
  obtain ⟨v0, vs0, d0, ds0, p0, q0, hargs, rfl, rfl, h0, r0⟩ := trodAll_cons hA
  obtain ⟨v1, vs1, d1, ds1, p1, q1, rfl, rfl, rfl, h1, r1⟩ := trodAll_cons r0
  obtain ⟨v2, vs2, d2, ds2, p2, q2, rfl, rfl, rfl, h2, r2⟩ := trodAll_cons r1
  obtain ⟨rfl, rfl, rfl⟩ := trodAll_nil r2
  obtain rfl : args = #[v0, v1, v2] := by cases args; simp_all
  obtain ⟨rfl, rfl⟩ := trodVars_none hV
  have k0 := h0
  have lt0 : ∀ x ∈ p0, x.block < W.heap.size := by obtain ⟨m, hm⟩ := k0; exact DataW.trod_lt m _ _ _ hm
  obtain ⟨a0, rfl, -, -, w0⟩ := open_int Try.underlying3 (hval 0 3 v0 rfl rfl) h0
  have k1 := h1
  have lt1 : ∀ x ∈ p1, x.block < W.heap.size := by obtain ⟨m, hm⟩ := k1; exact DataW.trod_lt m _ _ _ hm
  obtain ⟨a1, rfl, -, -, w1⟩ := open_int Try.underlying3 (hval 1 3 v1 rfl rfl) h1
  have k2 := h2
  have lt2 : ∀ x ∈ p2, x.block < W.heap.size := by obtain ⟨m, hm⟩ := k2; exact DataW.trod_lt m _ _ _ hm
  obtain ⟨cs2, rfl, hs2⟩ := okWide_struct Try.underlying32 (hval 2 32 v2 rfl rfl)
  obtain ⟨fu2, hf2⟩ := h2
  obtain ⟨hl2, ff2⟩ := fields_of (cs := cs2.toList) Try.underlying32 (by simpa [Value.cells] using hf2)
  have hl2 : cs2.toList.length = 3 := hl2.trans (by kernel_rfl)
  obtain ⟨n2_0, y2_0, h2_0⟩ := ff2 0 _ rfl
  obtain ⟨n2_1, y2_1, h2_1⟩ := ff2 1 _ rfl
  obtain ⟨n2_2, y2_2, h2_2⟩ := ff2 2 _ rfl
  obtain ⟨c2_0, c2_1, c2_2, ec2⟩ := len3 hl2
  rw [ec2] at h2_0 h2_1 h2_2
  obtain rfl : cs2 = #[c2_0, c2_1, c2_2] := by rw [← Array.toArray_toList (xs := cs2), ec2]
  have e2_0 : (([c2_0, c2_1, c2_2] : List Value).drop 0).take (Try.prog.cellsOf 3) = [c2_0] := by rw [show Try.prog.cellsOf 3 = 1 by kernel_rfl]; rfl
  have g2_0 : DataW.trod enc Try.prog W 0 (fun _ => true) true n2_0 3 [c2_0] = some y2_0 := by rw [← e2_0]; exact h2_0
  have e2_1 : (([c2_0, c2_1, c2_2] : List Value).drop 1).take (Try.prog.cellsOf 3) = [c2_1] := by rw [show Try.prog.cellsOf 3 = 1 by kernel_rfl]; rfl
  have g2_1 : DataW.trod enc Try.prog W 0 (fun _ => true) true n2_1 3 [c2_1] = some y2_1 := by rw [← e2_1]; exact h2_1
  have e2_2 : (([c2_0, c2_1, c2_2] : List Value).drop 2).take (Try.prog.cellsOf 30) = [c2_2] := by rw [show Try.prog.cellsOf 30 = 1 by kernel_rfl]; rfl
  have g2_2 : DataW.trod enc Try.prog W 0 (fun _ => true) true n2_2 30 [c2_2] = some y2_2 := by rw [← e2_2]; exact h2_2
  clear e2_0 h2_0 e2_1 h2_1 e2_2 h2_2
  obtain ⟨z2_0, k2_0, w2_0⟩ := (opens_int Try.underlying3) g2_0
  obtain rfl : c2_0 = .int .i64 z2_0 := by injection k2_0
  obtain ⟨z2_1, k2_1, w2_1⟩ := (opens_int Try.underlying3) g2_1
  obtain rfl : c2_1 = .int .i64 z2_1 := by injection k2_1
  obtain ⟨z2_2, k2_2, w2_2⟩ := (opens_slice (d := (Kd.int .u8)) Try.underlying30 (by kernel_rfl) (opens_int Try.underlying5)) g2_2
  obtain ⟨A2_2, m2_2, rfl, l2_2, r2_2⟩ := slice_parts k2_2
  clear hA0 hval0 hsz0
  obtain ⟨k, hp⟩ := Pure.FnExactSpanMove a0 a1 z2_0 z2_1 z2_2 w0 w1 w2_0 w2_1 w2_2
  refine (laws_FnExactSpanMove.calls k a0 a1 z2_0 z2_1 _ _ z2_2 true W r2_2 l2_2 hp).mono fun e W' ⟨he, bel⟩ => ?_
  subst he
  exact ⟨_, rfl, _, _, _, [], _, [], hW', trodAll_mk1 (shut_bool Try.underlying4 _), (trodAll_cons_mk (Below.trod laidOut (by kernel_rfl) (of_decide_eq_true (by kernel_rfl)) k0 bel lt0) (trodAll_cons_mk (Below.trod laidOut (by kernel_rfl) (of_decide_eq_true (by kernel_rfl)) k1 bel lt1) (trodAll_cons_mk (Below.trod laidOut (by kernel_rfl) (of_decide_eq_true (by kernel_rfl)) k2 bel lt2) trodAll_mk0))), rfl, bel.frame _, fun h => by cases h⟩
theorem over : Rows.fnExactSpanMoveRow.holds Try.pinned (OpenSpec.ofChange Rows.fnExactSpanMoveSpec) :=
  OpenClaim.holds_of_wide 11 Try.f11 rfl rfl rfl rfl rfl rfl rfl ⟨rfl, rfl, rfl, rfl, rfl⟩ rfl rfl rfl rfl rfl (by kernel_rfl) Try.func11 (by kernel_rfl)
    (of_decide_eq_true (by kernel_rfl)) (by unfold Func.isWrapper; first | (rw [if_pos (by decide +kernel)]; kernel_rfl) | (rw [if_neg (by decide +kernel)]; exact ⟨rfl, rfl⟩))
    (fun os started H enc _ => lifted os started H enc)
theorem proved : Rows.FnExactSpanMoveSaid := over
#print axioms proved
end Go.Proofs.Ytcjonnddgklbfaa.fnExactSpanMove
namespace Go.Proofs.Ytcjonnddgklbfaa
/-- The row, under a short name, for the claim. -/
theorem fnExactSpanMove_holds : Rows.FnExactSpanMoveSaid := fnExactSpanMove.proved
end Go.Proofs.Ytcjonnddgklbfaa
