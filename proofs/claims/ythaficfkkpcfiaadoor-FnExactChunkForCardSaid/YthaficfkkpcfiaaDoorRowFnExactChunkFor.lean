/-
  The law FnExactChunkFor of the seat: for every input the program's function answers as the reference's: the row, over the printed contract and the pure theorem. Under no condition of its own.
-/
import Derived.Test.YthaficfkkpcfiaaDoorRows
import Derived.Test.YthaficfkkpcfiaaDoorPFnExactChunkForx
import Derived.Test.YthaficfkkpcfiaaDoorPureFnExactChunkFor
import Derived.Test.YthaficfkkpcfiaaDoorOpen
import Derived.Test.YthaficfkkpcfiaaDoorLaid
import Derived.Test.YthaficfkkpcfiaaDoorTie
import Derived.Test.YthaficfkkpcfiaaDoorCards
import Derived.WalkKit
import Derived.ProofKit
import Derived.OpenShut
import Derived.ShutString
import Derived.ChangeOld
import Derived.Below
import Derived.SizedLaws
import Derived.Lib.SmallJoins
namespace Go.Proofs.YthaficfkkpcfiaaDoor.fnExactChunkFor
open Go.ChangeShapes Go.WideShapes Go.ChangeAt Go.RowKit Go.Proofs.YthaficfkkpcfiaaDoor.PFnExactChunkFor Go.Proofs.YthaficfkkpcfiaaDoorW.PrintWords Go.Proofs.YthaficfkkpcfiaaDoor.Open
open Go.ChangeMaps (open_string shut_string)
set_option linter.unusedVariables false
theorem own : ownKnob Tryd.prog.godebug = none := by kernel_rfl
theorem laidOut : laidOutB Tryd.prog = true := by kernel_rfl
instance : Inhabited S77 := ⟨z77⟩
theorem opens77 : Opens Tryd.prog 77 k77 Pure.wf77 := by
  intro H enc w base spare held fuel cs x h
  obtain ⟨hl, hf⟩ := fields_of Tryd.underlying77 h
  have hl : cs.length = 1 := hl.trans (by kernel_rfl)
  obtain ⟨n0, y0, h0⟩ := hf 0 _ rfl
  obtain ⟨c0, rfl⟩ := len1 hl
  have e0 : (([c0] : List Value).drop 0).take (Tryd.prog.cellsOf 29) = [c0] := by rw [show Tryd.prog.cellsOf 29 = 1 by kernel_rfl]; rfl
  have g0 : DataW.trod enc Tryd.prog w base spare held n0 29 [c0] = some y0 := by rw [← e0]; exact h0
  clear e0 h0
  obtain ⟨z0, k0_, w0⟩ := (opens_slice (d := (Kd.int .u8)) Tryd.underlying29 (by kernel_rfl) (opens_int Tryd.underlying5)) g0
  obtain ⟨A0, m0, rfl, l0, r0⟩ := slice_parts k0_
  exact ⟨⟨z0⟩, k77_mk w ⟨z0⟩ l0 r0, w0⟩
set_option maxRecDepth 100000 in
theorem lifted (os : Os) (started : os.Started) (H : Type) (enc : TypeId × Value → H) :
    ReturnsInHanded {} Tryd.checked os 5 .any (fun w args => (Rows.fnExactChunkForSpec.pre enc Tryd.prog Tryd.f5 Rows.fnExactChunkForRow.domain false w args ∧ laidMetH Tryd.prog Laid.laid w) ∧ sizedMet enc Tryd.prog Tryd.f5 (OpenSpec.ofChange Rows.fnExactChunkForSpec) false w args) (Rows.fnExactChunkForSpec.post enc Tryd.prog Tryd.f5 false true false false) := by
  refine returnsInHanded_of_change_and (C := Tryd.checked) (X := fun w _ => laidMetH Tryd.prog Laid.laid w) (fun _ _ _ hh h => h.of_heap hh) own started (by kernel_rfl) Tryd.func5
    (ChangeSpec.witness_shaped (enc := enc) (C := Tryd.checked) (os := os) (X := fun w _ => laidMetH Tryd.prog Laid.laid w) false (World.laidAll Tryd.prog os Laid.laid) #[.slice none 0 0, .int .i64 0] 8 (World.laidAll_os _ _ _)
      (World.shaped_of_ZipB (by kernel_rfl) (by kernel_rfl)) (by kernel_rfl) (by kernel_rfl) (by kernel_rfl)
      (by rw [MakeChecks.laidMetH_plain _ _ _ (by kernel_rfl)]; exact laidMet_laidAll _ (by kernel_rfl) (by kernel_rfl))) ?_
  intro W base args ds gs before hval0 hW hcnd hsz0 hL _
  have hTabs := Laid.tabs hL
  have hval : ∀ (j : Nat) t v, Tryd.f5.params[j]? = some t → args[j]? = some v → Value.okWide Tryd.prog W .any base t v := hval0
  have hW' := hW
  obtain ⟨p, q, hA0, hV, rfl, hfz, hnd⟩ := hW
  have hA : DataW.TrodAll enc Tryd.prog W 0 (fun _ => true) true Tryd.f5.params.toList args.toList ds p := hA0
  rw [Tryd.params5] at hA hval
  obtain ⟨v0, vs0, d0, ds0, p0, q0, hargs, rfl, rfl, h0, r0⟩ := trodAll_cons hA
  obtain ⟨v1, vs1, d1, ds1, p1, q1, rfl, rfl, rfl, h1, r1⟩ := trodAll_cons r0
  obtain ⟨rfl, rfl, rfl⟩ := trodAll_nil r1
  obtain rfl : args = #[v0, v1] := by cases args; simp_all
  obtain ⟨rfl, rfl⟩ := trodVars_none hV
  have k0 := h0
  have lt0 : ∀ x ∈ p0, x.block < W.heap.size := by obtain ⟨m, hm⟩ := k0; exact DataW.trod_lt m _ _ _ hm
  obtain ⟨a0, len0, cap0, rfl⟩ := okWide_slice Tryd.underlying22 (hval 0 22 v0 rfl rfl)
  obtain ⟨fu0, hf0⟩ := h0
  have hx0 : DataW.trod enc Tryd.prog W 0 (fun _ => true) true fu0 22 [.slice a0 len0 cap0] = some (d0, p0) := by simpa [Value.cells] using hf0
  obtain ⟨z0, k0_, w0⟩ := (opens_slice (d := k77) Tryd.underlying22 (by kernel_rfl) opens77) hx0
  obtain ⟨A0, m0, es0, hl0, hr0⟩ := slice_parts k0_
  obtain ⟨rfl, rfl, rfl⟩ : a0 = A0 ∧ len0 = z0.length ∧ cap0 = m0 := by injection es0 with q0 q1 q2; exact ⟨q0, q1, q2⟩
  have k1 := h1
  have lt1 : ∀ x ∈ p1, x.block < W.heap.size := by obtain ⟨m, hm⟩ := k1; exact DataW.trod_lt m _ _ _ hm
  obtain ⟨a1, rfl, -, -, w1⟩ := open_int Tryd.underlying3 (hval 1 3 v1 rfl rfl) h1
  clear hA0 hval0 hsz0
  obtain ⟨k, hp⟩ := Pure.FnExactChunkFor z0 a1 w0 w1
  refine (laws_FnExactChunkFor.calls k _ _ z0 a1 true W hr0 hl0 hTabs rfl hp).mono fun e W' ⟨he, bel⟩ => ?_
  subst he
  exact ⟨_, rfl, _, _, _, [], _, [], hW', trodAll_mk1 (shut_bool Tryd.underlying4 _), (trodAll_cons_mk (Below.trod laidOut (by kernel_rfl) (of_decide_eq_true (by kernel_rfl)) k0 bel lt0) (trodAll_cons_mk (Below.trod laidOut (by kernel_rfl) (of_decide_eq_true (by kernel_rfl)) k1 bel lt1) trodAll_mk0)), rfl, bel.frame _, fun h => by cases h⟩
theorem over : Rows.fnExactChunkForRow.holds Tryd.pinned (OpenSpec.ofChange Rows.fnExactChunkForSpec) :=
  OpenClaim.holds_of_wide 5 Tryd.f5 rfl rfl rfl rfl rfl rfl rfl ⟨rfl, rfl, rfl, rfl, rfl⟩ rfl rfl rfl rfl rfl (by kernel_rfl) Tryd.func5 (by kernel_rfl)
    (of_decide_eq_true (by kernel_rfl)) (by unfold Func.isWrapper; first | (rw [if_pos (by decide +kernel)]; kernel_rfl) | (rw [if_neg (by decide +kernel)]; exact ⟨rfl, rfl⟩))
    (fun os started H enc _ => lifted os started H enc)
theorem proved : Rows.FnExactChunkForSaid := over
theorem card_holds : Rows.FnExactChunkForCardSaid :=
  Claim7.holds_tied_plain_at .later [] [.data, .pinned] true (true, "45b1a460bda47c420ac9ad680df0e135584b807fb219d3d195aa582a9451cc2e") false proved (fun _ h => by cases h) (by kernel_rfl) (fun _ h => by cases h) fnExactChunkFor_row_tie rfl ⟨rfl, rfl⟩ (by kernel_rfl) rfl
    (fun f fn hf hfn => by
      obtain rfl : f = 5 := Option.some.inj ((show Tryd.prog.funcNamed "loop.example/g00677/laws.FnExactChunkFor" = some 5 by kernel_rfl).symm.trans hf) |>.symm
      obtain rfl : fn = Tryd.f5 := (Option.some.inj (Tryd.func5.symm.trans hfn)).symm
      exact ⟨by kernel_rfl, fun j t ht => by
        rw [Tryd.params5] at ht
        have hm : t ∈ [22, 3] := by simpa using Array.mem_of_getElem? ht
        have hall : ([22, 3].all fun u => !Tryd.prog.wantsStandIn u) = true := by kernel_rfl
        exact (show Tryd.prog.wantsStandIn t = false by simpa using List.all_eq_true.1 hall t hm)⟩)
    (by kernel_rfl)
#print axioms card_holds
#print axioms proved
end Go.Proofs.YthaficfkkpcfiaaDoor.fnExactChunkFor
namespace Go.Proofs.YthaficfkkpcfiaaDoor
/-- The row, under a short name, for the claim. -/
theorem fnExactChunkFor_holds : Rows.FnExactChunkForCardSaid := fnExactChunkFor.card_holds
end Go.Proofs.YthaficfkkpcfiaaDoor
