/-
  The law FnExactReqOk of the seat: for every input the program's function answers as the reference's: the row, over the printed contract and the pure theorem. Under no condition of its own.
-/
import Derived.Test.YthbmijnpmffmkaaDoorRows
import Derived.Test.YthbmijnpmffmkaaDoorPFnExactReqOkx
import Derived.Test.YthbmijnpmffmkaaDoorPureFnExactReqOk
import Derived.Test.YthbmijnpmffmkaaDoorOpen
import Derived.Test.YthbmijnpmffmkaaDoorLaid
import Derived.Test.YthbmijnpmffmkaaDoorTie
import Derived.Test.YthbmijnpmffmkaaDoorCards
import Derived.WalkKit
import Derived.ProofKit
import Derived.OpenShut
import Derived.ShutString
import Derived.ChangeOld
import Derived.Below
import Derived.SizedLaws
import Derived.Lib.SmallJoins
namespace Go.Proofs.YthbmijnpmffmkaaDoor.fnExactReqOk
open Go.ChangeShapes Go.WideShapes Go.ChangeAt Go.RowKit Go.Proofs.YthbmijnpmffmkaaDoor.PFnExactReqOk Go.Proofs.YthbmijnpmffmkaaDoorW.PrintWords Go.Proofs.YthbmijnpmffmkaaDoor.Open
open Go.ChangeMaps (open_string shut_string)
set_option linter.unusedVariables false
theorem own : ownKnob Tryd.prog.godebug = none := by kernel_rfl
theorem laidOut : laidOutB Tryd.prog = true := by kernel_rfl
set_option maxRecDepth 100000 in
theorem lifted (os : Os) (started : os.Started) (H : Type) (enc : TypeId × Value → H) :
    ReturnsInHanded {} Tryd.checked os 5 .any (fun w args => (Rows.fnExactReqOkSpec.pre enc Tryd.prog Tryd.f5 Rows.fnExactReqOkRow.domain false w args ∧ laidMetH Tryd.prog Laid.laid w) ∧ sizedMet enc Tryd.prog Tryd.f5 (OpenSpec.ofChange Rows.fnExactReqOkSpec) false w args) (Rows.fnExactReqOkSpec.post enc Tryd.prog Tryd.f5 false true false false) := by
  refine returnsInHanded_of_change_and (C := Tryd.checked) (X := fun w _ => laidMetH Tryd.prog Laid.laid w) (fun _ _ _ hh h => h.of_heap hh) own started (by kernel_rfl) Tryd.func5
    (ChangeSpec.witness_shaped (enc := enc) (C := Tryd.checked) (os := os) (X := fun w _ => laidMetH Tryd.prog Laid.laid w) false (World.laidAll Tryd.prog os Laid.laid) #[.agg #[.int .i64 0, .int .i64 0, .int .i64 0, .int .i64 0, .int .i64 0, .slice none 0 0]] 8 (World.laidAll_os _ _ _)
      (World.shaped_of_ZipB (by kernel_rfl) (by kernel_rfl)) (by kernel_rfl) (by kernel_rfl) (by kernel_rfl)
      (by rw [MakeChecks.laidMetH_plain _ _ _ (by kernel_rfl)]; exact laidMet_laidAll _ (by kernel_rfl) (by kernel_rfl))) ?_
  intro W base args ds gs before hval0 hW hcnd hsz0 hL _
  have hTabs := Laid.tabs hL
  have hval : ∀ (j : Nat) t v, Tryd.f5.params[j]? = some t → args[j]? = some v → Value.okWide Tryd.prog W .any base t v := hval0
  have hW' := hW
  obtain ⟨p, q, hA0, hV, rfl, hfz, hnd⟩ := hW
  have hA : DataW.TrodAll enc Tryd.prog W 0 (fun _ => true) true Tryd.f5.params.toList args.toList ds p := hA0
  rw [Tryd.params5] at hA hval
  obtain ⟨v0, vs0, d0, ds0, p0, q0, hargs, rfl, rfl, h0, r0⟩ := trodAll_cons hA
  obtain ⟨rfl, rfl, rfl⟩ := trodAll_nil r0
  obtain rfl : args = #[v0] := by cases args; simp_all
  obtain ⟨rfl, rfl⟩ := trodVars_none hV
  have k0 := h0
  have lt0 : ∀ x ∈ p0, x.block < W.heap.size := by obtain ⟨m, hm⟩ := k0; exact DataW.trod_lt m _ _ _ hm
  obtain ⟨cs0, rfl, hs0⟩ := okWide_struct Tryd.underlying48 (hval 0 48 v0 rfl rfl)
  obtain ⟨fu0, hf0⟩ := h0
  obtain ⟨hl0, ff0⟩ := fields_of (cs := cs0.toList) Tryd.underlying48 (by simpa [Value.cells] using hf0)
  have hl0 : cs0.toList.length = 6 := hl0.trans (by kernel_rfl)
  obtain ⟨n0_0, y0_0, h0_0⟩ := ff0 0 _ rfl
  obtain ⟨n0_1, y0_1, h0_1⟩ := ff0 1 _ rfl
  obtain ⟨n0_2, y0_2, h0_2⟩ := ff0 2 _ rfl
  obtain ⟨n0_3, y0_3, h0_3⟩ := ff0 3 _ rfl
  obtain ⟨n0_4, y0_4, h0_4⟩ := ff0 4 _ rfl
  obtain ⟨n0_5, y0_5, h0_5⟩ := ff0 5 _ rfl
  obtain ⟨c0_0, c0_1, c0_2, c0_3, c0_4, c0_5, ec0⟩ := len6 hl0
  rw [ec0] at h0_0 h0_1 h0_2 h0_3 h0_4 h0_5
  obtain rfl : cs0 = #[c0_0, c0_1, c0_2, c0_3, c0_4, c0_5] := by rw [← Array.toArray_toList (xs := cs0), ec0]
  have e0_0 : (([c0_0, c0_1, c0_2, c0_3, c0_4, c0_5] : List Value).drop 0).take (Tryd.prog.cellsOf 3) = [c0_0] := by rw [show Tryd.prog.cellsOf 3 = 1 by kernel_rfl]; rfl
  have g0_0 : DataW.trod enc Tryd.prog W 0 (fun _ => true) true n0_0 3 [c0_0] = some y0_0 := by rw [← e0_0]; exact h0_0
  have e0_1 : (([c0_0, c0_1, c0_2, c0_3, c0_4, c0_5] : List Value).drop 1).take (Tryd.prog.cellsOf 3) = [c0_1] := by rw [show Tryd.prog.cellsOf 3 = 1 by kernel_rfl]; rfl
  have g0_1 : DataW.trod enc Tryd.prog W 0 (fun _ => true) true n0_1 3 [c0_1] = some y0_1 := by rw [← e0_1]; exact h0_1
  have e0_2 : (([c0_0, c0_1, c0_2, c0_3, c0_4, c0_5] : List Value).drop 2).take (Tryd.prog.cellsOf 3) = [c0_2] := by rw [show Tryd.prog.cellsOf 3 = 1 by kernel_rfl]; rfl
  have g0_2 : DataW.trod enc Tryd.prog W 0 (fun _ => true) true n0_2 3 [c0_2] = some y0_2 := by rw [← e0_2]; exact h0_2
  have e0_3 : (([c0_0, c0_1, c0_2, c0_3, c0_4, c0_5] : List Value).drop 3).take (Tryd.prog.cellsOf 3) = [c0_3] := by rw [show Tryd.prog.cellsOf 3 = 1 by kernel_rfl]; rfl
  have g0_3 : DataW.trod enc Tryd.prog W 0 (fun _ => true) true n0_3 3 [c0_3] = some y0_3 := by rw [← e0_3]; exact h0_3
  have e0_4 : (([c0_0, c0_1, c0_2, c0_3, c0_4, c0_5] : List Value).drop 4).take (Tryd.prog.cellsOf 3) = [c0_4] := by rw [show Tryd.prog.cellsOf 3 = 1 by kernel_rfl]; rfl
  have g0_4 : DataW.trod enc Tryd.prog W 0 (fun _ => true) true n0_4 3 [c0_4] = some y0_4 := by rw [← e0_4]; exact h0_4
  have e0_5 : (([c0_0, c0_1, c0_2, c0_3, c0_4, c0_5] : List Value).drop 5).take (Tryd.prog.cellsOf 22) = [c0_5] := by rw [show Tryd.prog.cellsOf 22 = 1 by kernel_rfl]; rfl
  have g0_5 : DataW.trod enc Tryd.prog W 0 (fun _ => true) true n0_5 22 [c0_5] = some y0_5 := by rw [← e0_5]; exact h0_5
  clear e0_0 h0_0 e0_1 h0_1 e0_2 h0_2 e0_3 h0_3 e0_4 h0_4 e0_5 h0_5
  obtain ⟨z0_0, k0_0, w0_0⟩ := (opens_int Tryd.underlying3) g0_0
  obtain rfl : c0_0 = .int .i64 z0_0 := by injection k0_0
  obtain ⟨z0_1, k0_1, w0_1⟩ := (opens_int Tryd.underlying3) g0_1
  obtain rfl : c0_1 = .int .i64 z0_1 := by injection k0_1
  obtain ⟨z0_2, k0_2, w0_2⟩ := (opens_int Tryd.underlying3) g0_2
  obtain rfl : c0_2 = .int .i64 z0_2 := by injection k0_2
  obtain ⟨z0_3, k0_3, w0_3⟩ := (opens_int Tryd.underlying3) g0_3
  obtain rfl : c0_3 = .int .i64 z0_3 := by injection k0_3
  obtain ⟨z0_4, k0_4, w0_4⟩ := (opens_int Tryd.underlying3) g0_4
  obtain rfl : c0_4 = .int .i64 z0_4 := by injection k0_4
  obtain ⟨z0_5, k0_5, w0_5⟩ := (opens_slice (d := (Kd.int .u8)) Tryd.underlying22 (by kernel_rfl) (opens_int Tryd.underlying5)) g0_5
  obtain ⟨A0_5, m0_5, rfl, l0_5, r0_5⟩ := slice_parts k0_5
  clear hA0 hval0 hsz0
  obtain ⟨k, hp⟩ := Pure.FnExactReqOk z0_0 z0_1 z0_2 z0_3 z0_4 z0_5 w0_0 w0_1 w0_2 w0_3 w0_4 w0_5
  refine (laws_FnExactReqOk.calls k z0_0 z0_1 z0_2 z0_3 z0_4 _ _ z0_5 true W r0_5 l0_5 hTabs rfl hp).mono fun e W' ⟨he, bel⟩ => ?_
  subst he
  exact ⟨_, rfl, _, _, _, [], _, [], hW', trodAll_mk1 (shut_bool Tryd.underlying4 _), (trodAll_cons_mk (Below.trod laidOut (by kernel_rfl) (of_decide_eq_true (by kernel_rfl)) k0 bel lt0) trodAll_mk0), rfl, bel.frame _, fun h => by cases h⟩
theorem over : Rows.fnExactReqOkRow.holds Tryd.pinned (OpenSpec.ofChange Rows.fnExactReqOkSpec) :=
  OpenClaim.holds_of_wide 5 Tryd.f5 rfl rfl rfl rfl rfl rfl rfl ⟨rfl, rfl, rfl, rfl, rfl⟩ rfl rfl rfl rfl rfl (by kernel_rfl) Tryd.func5 (by kernel_rfl)
    (of_decide_eq_true (by kernel_rfl)) (by unfold Func.isWrapper; first | (rw [if_pos (by decide +kernel)]; kernel_rfl) | (rw [if_neg (by decide +kernel)]; exact ⟨rfl, rfl⟩))
    (fun os started H enc _ => lifted os started H enc)
theorem proved : Rows.FnExactReqOkSaid := over
theorem card_holds : Rows.FnExactReqOkCardSaid :=
  Claim7.holds_tied_plain_at .later [] [.data, .pinned] true (true, "2200d833e325100f34b871814f358983062ad26405be2b4c3a85d3fdc759f574") false proved (fun _ h => by cases h) (by kernel_rfl) (fun _ h => by cases h) fnExactReqOk_row_tie rfl ⟨rfl, rfl⟩ (by kernel_rfl) rfl
    (fun f fn hf hfn => by
      obtain rfl : f = 5 := Option.some.inj ((show Tryd.prog.funcNamed "loop.example/g00677/laws.FnExactReqOk" = some 5 by kernel_rfl).symm.trans hf) |>.symm
      obtain rfl : fn = Tryd.f5 := (Option.some.inj (Tryd.func5.symm.trans hfn)).symm
      exact ⟨by kernel_rfl, fun j t ht => by
        rw [Tryd.params5] at ht
        have hm : t ∈ [48] := by simpa using Array.mem_of_getElem? ht
        have hall : ([48].all fun u => !Tryd.prog.wantsStandIn u) = true := by kernel_rfl
        exact (show Tryd.prog.wantsStandIn t = false by simpa using List.all_eq_true.1 hall t hm)⟩)
    (by kernel_rfl)
#print axioms card_holds
#print axioms proved
end Go.Proofs.YthbmijnpmffmkaaDoor.fnExactReqOk
namespace Go.Proofs.YthbmijnpmffmkaaDoor
/-- The row, under a short name, for the claim. -/
theorem fnExactReqOk_holds : Rows.FnExactReqOkCardSaid := fnExactReqOk.card_holds
end Go.Proofs.YthbmijnpmffmkaaDoor
