/-
  The law FnExactLeaseMoved of the seat: for every input the program's function answers as the reference's: the row, over the printed contract and the pure theorem. Under no condition of its own.
-/
import Derived.Test.YtoelccjfdiidpaaRows
import Derived.Test.YtoelccjfdiidpaaPFnExactLeaseMovedx
import Derived.Test.YtoelccjfdiidpaaPureFnExactLeaseMoved
import Derived.Test.YtoelccjfdiidpaaOpen
import Derived.WalkKit
import Derived.ProofKit
import Derived.OpenShut
import Derived.ShutString
import Derived.ChangeOld
import Derived.Below
import Derived.SizedLaws
import Derived.Lib.SmallJoins
namespace Go.Proofs.Ytoelccjfdiidpaa.fnExactLeaseMoved
open Go.ChangeShapes Go.WideShapes Go.ChangeAt Go.RowKit Go.Proofs.Ytoelccjfdiidpaa.PFnExactLeaseMoved Go.Proofs.YtoelccjfdiidpaaW.PrintWords Go.Proofs.Ytoelccjfdiidpaa.Open
open Go.ChangeMaps (open_string shut_string)
set_option linter.unusedVariables false
theorem own : ownKnob Try.prog.godebug = none := by kernel_rfl
theorem laidOut : laidOutB Try.prog = true := by kernel_rfl
instance : Inhabited S31 := ⟨z31⟩
theorem opens31 : Opens Try.prog 31 k31 Pure.wf31 := by
  intro H enc w base spare held fuel cs x h
  obtain ⟨hl, hf⟩ := fields_of Try.underlying31 h
  have hl : cs.length = 4 := hl.trans (by kernel_rfl)
  obtain ⟨n0, y0, h0⟩ := hf 0 _ rfl
  obtain ⟨n1, y1, h1⟩ := hf 1 _ rfl
  obtain ⟨n2, y2, h2⟩ := hf 2 _ rfl
  obtain ⟨n3, y3, h3⟩ := hf 3 _ rfl
  obtain ⟨c0, c1, c2, c3, rfl⟩ := len4 hl
  have e0 : (([c0, c1, c2, c3] : List Value).drop 0).take (Try.prog.cellsOf 3) = [c0] := by rw [show Try.prog.cellsOf 3 = 1 by kernel_rfl]; rfl
  have g0 : DataW.trod enc Try.prog w base spare held n0 3 [c0] = some y0 := by rw [← e0]; exact h0
  have e1 : (([c0, c1, c2, c3] : List Value).drop 1).take (Try.prog.cellsOf 3) = [c1] := by rw [show Try.prog.cellsOf 3 = 1 by kernel_rfl]; rfl
  have g1 : DataW.trod enc Try.prog w base spare held n1 3 [c1] = some y1 := by rw [← e1]; exact h1
  have e2 : (([c0, c1, c2, c3] : List Value).drop 2).take (Try.prog.cellsOf 3) = [c2] := by rw [show Try.prog.cellsOf 3 = 1 by kernel_rfl]; rfl
  have g2 : DataW.trod enc Try.prog w base spare held n2 3 [c2] = some y2 := by rw [← e2]; exact h2
  have e3 : (([c0, c1, c2, c3] : List Value).drop 3).take (Try.prog.cellsOf 3) = [c3] := by rw [show Try.prog.cellsOf 3 = 1 by kernel_rfl]; rfl
  have g3 : DataW.trod enc Try.prog w base spare held n3 3 [c3] = some y3 := by rw [← e3]; exact h3
  clear e0 h0 e1 h1 e2 h2 e3 h3
  obtain ⟨z0, k0_, w0⟩ := (opens_int Try.underlying3) g0
  obtain rfl : c0 = .int .i64 z0 := by injection k0_
  obtain ⟨z1, k1_, w1⟩ := (opens_int Try.underlying3) g1
  obtain rfl : c1 = .int .i64 z1 := by injection k1_
  obtain ⟨z2, k2_, w2⟩ := (opens_int Try.underlying3) g2
  obtain rfl : c2 = .int .i64 z2 := by injection k2_
  obtain ⟨z3, k3_, w3⟩ := (opens_int Try.underlying3) g3
  obtain rfl : c3 = .int .i64 z3 := by injection k3_
  exact ⟨⟨z0, z1, z2, z3⟩, k31_mk w ⟨z0, z1, z2, z3⟩ , ⟨w0, w1, w2, w3⟩⟩
set_option maxRecDepth 100000 in
theorem lifted (os : Os) (started : os.Started) (H : Type) (enc : TypeId × Value → H) :
    ReturnsInHanded {} Try.checked os 9 .any (Rows.fnExactLeaseMovedSpec.pre6 enc Try.prog Try.f9 Rows.fnExactLeaseMovedRow.domain false) (Rows.fnExactLeaseMovedSpec.post enc Try.prog Try.f9 false true false false) := by
  refine returnsInHanded_of_change_sized (C := Try.checked) own started (by kernel_rfl) Try.func9
    (ChangeSpec.witness6 (enc := enc) (C := Try.checked) false ⟨#[], #[.slice none 0 0, .agg #[.int .i64 0, .int .i64 0, .slice none 0 0]], []⟩ 8 (by kernel_rfl) (by kernel_rfl) (by kernel_rfl) (by kernel_rfl)) ?_
  intro W base args ds gs before hval0 hW hcnd hsz0 _
  have hval : ∀ (j : Nat) t v, Try.f9.params[j]? = some t → args[j]? = some v → Value.okWide Try.prog W .any base t v := hval0
  have hW' := hW
  obtain ⟨p, q, hA0, hV, rfl, hfz, hnd⟩ := hW
  have hA : DataW.TrodAll enc Try.prog W 0 (fun _ => true) true Try.f9.params.toList args.toList ds p := hA0
  rw [Try.params9] at hA hval
  obtain ⟨v0, vs0, d0, ds0, p0, q0, hargs, rfl, rfl, h0, r0⟩ := trodAll_cons hA
  obtain ⟨v1, vs1, d1, ds1, p1, q1, rfl, rfl, rfl, h1, r1⟩ := trodAll_cons r0
  obtain ⟨rfl, rfl, rfl⟩ := trodAll_nil r1
  obtain rfl : args = #[v0, v1] := by cases args; simp_all
  obtain ⟨rfl, rfl⟩ := trodVars_none hV
  have k0 := h0
  have lt0 : ∀ x ∈ p0, x.block < W.heap.size := by obtain ⟨m, hm⟩ := k0; exact DataW.trod_lt m _ _ _ hm
  obtain ⟨a0, len0, cap0, rfl⟩ := okWide_slice Try.underlying22 (hval 0 22 v0 rfl rfl)
  obtain ⟨fu0, hf0⟩ := h0
  have hx0 : DataW.trod enc Try.prog W 0 (fun _ => true) true fu0 22 [.slice a0 len0 cap0] = some (d0, p0) := by simpa [Value.cells] using hf0
  obtain ⟨z0, k0_, w0⟩ := (opens_slice (d := k31) Try.underlying22 (by kernel_rfl) opens31) hx0
  obtain ⟨A0, m0, es0, hl0, hr0⟩ := slice_parts k0_
  obtain ⟨rfl, rfl, rfl⟩ : a0 = A0 ∧ len0 = z0.length ∧ cap0 = m0 := by injection es0 with q0 q1 q2; exact ⟨q0, q1, q2⟩
  have k1 := h1
  have lt1 : ∀ x ∈ p1, x.block < W.heap.size := by obtain ⟨m, hm⟩ := k1; exact DataW.trod_lt m _ _ _ hm
  obtain ⟨cs1, rfl, hs1⟩ := okWide_struct Try.underlying39 (hval 1 39 v1 rfl rfl)
  obtain ⟨fu1, hf1⟩ := h1
  obtain ⟨hl1, ff1⟩ := fields_of (cs := cs1.toList) Try.underlying39 (by simpa [Value.cells] using hf1)
  have hl1 : cs1.toList.length = 3 := hl1.trans (by kernel_rfl)
  obtain ⟨n1_0, y1_0, h1_0⟩ := ff1 0 _ rfl
  obtain ⟨n1_1, y1_1, h1_1⟩ := ff1 1 _ rfl
  obtain ⟨n1_2, y1_2, h1_2⟩ := ff1 2 _ rfl
  obtain ⟨c1_0, c1_1, c1_2, ec1⟩ := len3 hl1
  rw [ec1] at h1_0 h1_1 h1_2
  obtain rfl : cs1 = #[c1_0, c1_1, c1_2] := by rw [← Array.toArray_toList (xs := cs1), ec1]
  have e1_0 : (([c1_0, c1_1, c1_2] : List Value).drop 0).take (Try.prog.cellsOf 3) = [c1_0] := by rw [show Try.prog.cellsOf 3 = 1 by kernel_rfl]; rfl
  have g1_0 : DataW.trod enc Try.prog W 0 (fun _ => true) true n1_0 3 [c1_0] = some y1_0 := by rw [← e1_0]; exact h1_0
  have e1_1 : (([c1_0, c1_1, c1_2] : List Value).drop 1).take (Try.prog.cellsOf 3) = [c1_1] := by rw [show Try.prog.cellsOf 3 = 1 by kernel_rfl]; rfl
  have g1_1 : DataW.trod enc Try.prog W 0 (fun _ => true) true n1_1 3 [c1_1] = some y1_1 := by rw [← e1_1]; exact h1_1
  have e1_2 : (([c1_0, c1_1, c1_2] : List Value).drop 2).take (Try.prog.cellsOf 37) = [c1_2] := by rw [show Try.prog.cellsOf 37 = 1 by kernel_rfl]; rfl
  have g1_2 : DataW.trod enc Try.prog W 0 (fun _ => true) true n1_2 37 [c1_2] = some y1_2 := by rw [← e1_2]; exact h1_2
  clear e1_0 h1_0 e1_1 h1_1 e1_2 h1_2
  obtain ⟨z1_0, k1_0, w1_0⟩ := (opens_int Try.underlying3) g1_0
  obtain rfl : c1_0 = .int .i64 z1_0 := by injection k1_0
  obtain ⟨z1_1, k1_1, w1_1⟩ := (opens_int Try.underlying3) g1_1
  obtain rfl : c1_1 = .int .i64 z1_1 := by injection k1_1
  obtain ⟨z1_2, k1_2, w1_2⟩ := (opens_slice (d := (Kd.int .u8)) Try.underlying37 (by kernel_rfl) (opens_int Try.underlying5)) g1_2
  obtain ⟨A1_2, m1_2, rfl, l1_2, r1_2⟩ := slice_parts k1_2
  clear hA0 hval0 hsz0
  obtain ⟨k, hp⟩ := Pure.FnExactLeaseMoved z0 z1_0 z1_1 z1_2 w0 w1_0 w1_1 w1_2
  refine (laws_FnExactLeaseMoved.calls k _ _ z0 z1_0 z1_1 _ _ z1_2 true W hr0 hl0 r1_2 l1_2 rfl hp).mono fun e W' ⟨he, bel⟩ => ?_
  subst he
  exact ⟨_, rfl, _, _, _, [], _, [], hW', trodAll_mk1 (shut_bool Try.underlying4 _), (trodAll_cons_mk (Below.trod laidOut (by kernel_rfl) (of_decide_eq_true (by kernel_rfl)) k0 bel lt0) (trodAll_cons_mk (Below.trod laidOut (by kernel_rfl) (of_decide_eq_true (by kernel_rfl)) k1 bel lt1) trodAll_mk0)), rfl, bel.frame _, fun h => by cases h⟩
theorem over : Rows.fnExactLeaseMovedRow.holds Try.pinned (OpenSpec.ofChange Rows.fnExactLeaseMovedSpec) :=
  OpenClaim.holds_of_wide 9 Try.f9 rfl rfl rfl rfl rfl rfl rfl ⟨rfl, rfl, rfl, rfl, rfl⟩ rfl rfl rfl rfl rfl (by kernel_rfl) Try.func9 (by kernel_rfl)
    (of_decide_eq_true (by kernel_rfl)) (by unfold Func.isWrapper; first | (rw [if_pos (by decide +kernel)]; kernel_rfl) | (rw [if_neg (by decide +kernel)]; exact ⟨rfl, rfl⟩))
    (fun os started H enc _ => lifted os started H enc)
theorem proved : Rows.FnExactLeaseMovedSaid := over
#print axioms proved
end Go.Proofs.Ytoelccjfdiidpaa.fnExactLeaseMoved
namespace Go.Proofs.Ytoelccjfdiidpaa
/-- The row, under a short name, for the claim. -/
theorem fnExactLeaseMoved_holds : Rows.FnExactLeaseMovedSaid := fnExactLeaseMoved.proved
end Go.Proofs.Ytoelccjfdiidpaa
