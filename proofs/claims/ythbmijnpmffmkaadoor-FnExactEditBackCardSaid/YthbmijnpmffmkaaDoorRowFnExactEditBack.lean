/-
  The law FnExactEditBack of the seat: for every input the program's function answers as the reference's: the row, over the printed contract and the pure theorem. Under no condition of its own.
-/
import Derived.Test.YthbmijnpmffmkaaDoorRows
import Derived.Test.YthbmijnpmffmkaaDoorPFnExactEditBackx
import Derived.Test.YthbmijnpmffmkaaDoorPureFnExactEditBack
import Derived.Test.YthbmijnpmffmkaaDoorOpen
import Derived.Test.YthbmijnpmffmkaaDoorLaid
import Derived.Test.YthbmijnpmffmkaaDoorTie
import Derived.Test.YthbmijnpmffmkaaDoorCards
import Derived.WalkKit
import Derived.ProofKit
import Derived.OpenShut
import Derived.ShutString
import Derived.ChangeOld
import Derived.Below
import Derived.SizedLaws
import Derived.Lib.SmallJoins
namespace Go.Proofs.YthbmijnpmffmkaaDoor.fnExactEditBack
open Go.ChangeShapes Go.WideShapes Go.ChangeAt Go.RowKit Go.Proofs.YthbmijnpmffmkaaDoor.PFnExactEditBack Go.Proofs.YthbmijnpmffmkaaDoorW.PrintWords Go.Proofs.YthbmijnpmffmkaaDoor.Open
open Go.ChangeMaps (open_string shut_string)
set_option linter.unusedVariables false
theorem own : ownKnob Tryd.prog.godebug = none := by kernel_rfl
theorem laidOut : laidOutB Tryd.prog = true := by kernel_rfl
set_option maxRecDepth 100000 in
theorem lifted (os : Os) (started : os.Started) (H : Type) (enc : TypeId × Value → H) :
    ReturnsInHanded {} Tryd.checked os 3 .any (fun w args => (Rows.fnExactEditBackSpec.pre enc Tryd.prog Tryd.f3 Rows.fnExactEditBackRow.domain false w args ∧ laidMetH Tryd.prog Laid.laid w) ∧ sizedMet enc Tryd.prog Tryd.f3 (OpenSpec.ofChange Rows.fnExactEditBackSpec) false w args) (Rows.fnExactEditBackSpec.post enc Tryd.prog Tryd.f3 false true false false) := by
  refine returnsInHanded_of_change_and (C := Tryd.checked) (X := fun w _ => laidMetH Tryd.prog Laid.laid w) (fun _ _ _ hh h => h.of_heap hh) own started (by kernel_rfl) Tryd.func3
    (ChangeSpec.witness_shaped (enc := enc) (C := Tryd.checked) (os := os) (X := fun w _ => laidMetH Tryd.prog Laid.laid w) false (World.laidAll Tryd.prog os Laid.laid) #[.slice none 0 0, .agg #[.int .i64 0, .int .i64 0, .slice none 0 0]] 8 (World.laidAll_os _ _ _)
      (World.shaped_of_ZipB (by kernel_rfl) (by kernel_rfl)) (by kernel_rfl) (by kernel_rfl) (by kernel_rfl)
      (by rw [MakeChecks.laidMetH_plain _ _ _ (by kernel_rfl)]; exact laidMet_laidAll _ (by kernel_rfl) (by kernel_rfl))) ?_
  intro W base args ds gs before hval0 hW hcnd hsz0 hL _
  have hTabs := Laid.tabs hL
  have hval : ∀ (j : Nat) t v, Tryd.f3.params[j]? = some t → args[j]? = some v → Value.okWide Tryd.prog W .any base t v := hval0
  have hW' := hW
  obtain ⟨p, q, hA0, hV, rfl, hfz, hnd⟩ := hW
  have hA : DataW.TrodAll enc Tryd.prog W 0 (fun _ => true) true Tryd.f3.params.toList args.toList ds p := hA0
  rw [Tryd.params3] at hA hval
  obtain ⟨v0, vs0, d0, ds0, p0, q0, hargs, rfl, rfl, h0, r0⟩ := trodAll_cons hA
  obtain ⟨v1, vs1, d1, ds1, p1, q1, rfl, rfl, rfl, h1, r1⟩ := trodAll_cons r0
  obtain ⟨rfl, rfl, rfl⟩ := trodAll_nil r1
  obtain rfl : args = #[v0, v1] := by cases args; simp_all
  obtain ⟨rfl, rfl⟩ := trodVars_none hV
  have k0 := h0
  have lt0 : ∀ x ∈ p0, x.block < W.heap.size := by obtain ⟨m, hm⟩ := k0; exact DataW.trod_lt m _ _ _ hm
  obtain ⟨a0, len0, cap0, rfl⟩ := okWide_slice Tryd.underlying22 (hval 0 22 v0 rfl rfl)
  obtain ⟨fu0, hf0⟩ := h0
  have hx0 : DataW.trod enc Tryd.prog W 0 (fun _ => true) true fu0 22 [.slice a0 len0 cap0] = some (d0, p0) := by simpa [Value.cells] using hf0
  obtain ⟨z0, k0_, w0⟩ := (opens_slice (d := (Kd.int .u8)) Tryd.underlying22 (by kernel_rfl) (opens_int Tryd.underlying5)) hx0
  obtain ⟨A0, m0, es0, hl0, hr0⟩ := slice_parts k0_
  obtain ⟨rfl, rfl, rfl⟩ : a0 = A0 ∧ len0 = z0.length ∧ cap0 = m0 := by injection es0 with q0 q1 q2; exact ⟨q0, q1, q2⟩
  have k1 := h1
  have lt1 : ∀ x ∈ p1, x.block < W.heap.size := by obtain ⟨m, hm⟩ := k1; exact DataW.trod_lt m _ _ _ hm
  obtain ⟨cs1, rfl, hs1⟩ := okWide_struct Tryd.underlying24 (hval 1 24 v1 rfl rfl)
  obtain ⟨fu1, hf1⟩ := h1
  obtain ⟨hl1, ff1⟩ := fields_of (cs := cs1.toList) Tryd.underlying24 (by simpa [Value.cells] using hf1)
  have hl1 : cs1.toList.length = 3 := hl1.trans (by kernel_rfl)
  obtain ⟨n1_0, y1_0, h1_0⟩ := ff1 0 _ rfl
  obtain ⟨n1_1, y1_1, h1_1⟩ := ff1 1 _ rfl
  obtain ⟨n1_2, y1_2, h1_2⟩ := ff1 2 _ rfl
  obtain ⟨c1_0, c1_1, c1_2, ec1⟩ := len3 hl1
  rw [ec1] at h1_0 h1_1 h1_2
  obtain rfl : cs1 = #[c1_0, c1_1, c1_2] := by rw [← Array.toArray_toList (xs := cs1), ec1]
  have e1_0 : (([c1_0, c1_1, c1_2] : List Value).drop 0).take (Tryd.prog.cellsOf 3) = [c1_0] := by rw [show Tryd.prog.cellsOf 3 = 1 by kernel_rfl]; rfl
  have g1_0 : DataW.trod enc Tryd.prog W 0 (fun _ => true) true n1_0 3 [c1_0] = some y1_0 := by rw [← e1_0]; exact h1_0
  have e1_1 : (([c1_0, c1_1, c1_2] : List Value).drop 1).take (Tryd.prog.cellsOf 3) = [c1_1] := by rw [show Tryd.prog.cellsOf 3 = 1 by kernel_rfl]; rfl
  have g1_1 : DataW.trod enc Tryd.prog W 0 (fun _ => true) true n1_1 3 [c1_1] = some y1_1 := by rw [← e1_1]; exact h1_1
  have e1_2 : (([c1_0, c1_1, c1_2] : List Value).drop 2).take (Tryd.prog.cellsOf 22) = [c1_2] := by rw [show Tryd.prog.cellsOf 22 = 1 by kernel_rfl]; rfl
  have g1_2 : DataW.trod enc Tryd.prog W 0 (fun _ => true) true n1_2 22 [c1_2] = some y1_2 := by rw [← e1_2]; exact h1_2
  clear e1_0 h1_0 e1_1 h1_1 e1_2 h1_2
  obtain ⟨z1_0, k1_0, w1_0⟩ := (opens_int Tryd.underlying3) g1_0
  obtain rfl : c1_0 = .int .i64 z1_0 := by injection k1_0
  obtain ⟨z1_1, k1_1, w1_1⟩ := (opens_int Tryd.underlying3) g1_1
  obtain rfl : c1_1 = .int .i64 z1_1 := by injection k1_1
  obtain ⟨z1_2, k1_2, w1_2⟩ := (opens_slice (d := (Kd.int .u8)) Tryd.underlying22 (by kernel_rfl) (opens_int Tryd.underlying5)) g1_2
  obtain ⟨A1_2, m1_2, rfl, l1_2, r1_2⟩ := slice_parts k1_2
  clear hA0 hval0 hsz0
  obtain ⟨k, hp⟩ := Pure.FnExactEditBack z0 z1_0 z1_1 z1_2 w0 w1_0 w1_1 w1_2
  refine (laws_FnExactEditBack.calls k _ _ z0 z1_0 z1_1 _ _ z1_2 true W hr0 hl0 r1_2 l1_2 hTabs rfl hp).mono fun e W' ⟨he, bel⟩ => ?_
  subst he
  exact ⟨_, rfl, _, _, _, [], _, [], hW', trodAll_mk1 (shut_bool Tryd.underlying4 _), (trodAll_cons_mk (Below.trod laidOut (by kernel_rfl) (of_decide_eq_true (by kernel_rfl)) k0 bel lt0) (trodAll_cons_mk (Below.trod laidOut (by kernel_rfl) (of_decide_eq_true (by kernel_rfl)) k1 bel lt1) trodAll_mk0)), rfl, bel.frame _, fun h => by cases h⟩
theorem over : Rows.fnExactEditBackRow.holds Tryd.pinned (OpenSpec.ofChange Rows.fnExactEditBackSpec) :=
  OpenClaim.holds_of_wide 3 Tryd.f3 rfl rfl rfl rfl rfl rfl rfl ⟨rfl, rfl, rfl, rfl, rfl⟩ rfl rfl rfl rfl rfl (by kernel_rfl) Tryd.func3 (by kernel_rfl)
    (of_decide_eq_true (by kernel_rfl)) (by unfold Func.isWrapper; first | (rw [if_pos (by decide +kernel)]; kernel_rfl) | (rw [if_neg (by decide +kernel)]; exact ⟨rfl, rfl⟩))
    (fun os started H enc _ => lifted os started H enc)
theorem proved : Rows.FnExactEditBackSaid := over
theorem card_holds : Rows.FnExactEditBackCardSaid :=
  Claim7.holds_tied_plain_at .later [] [.data, .pinned] true (true, "2200d833e325100f34b871814f358983062ad26405be2b4c3a85d3fdc759f574") false proved (fun _ h => by cases h) (by kernel_rfl) (fun _ h => by cases h) fnExactEditBack_row_tie rfl ⟨rfl, rfl⟩ (by kernel_rfl) rfl
    (fun f fn hf hfn => by
      obtain rfl : f = 3 := Option.some.inj ((show Tryd.prog.funcNamed "loop.example/g00677/laws.FnExactEditBack" = some 3 by kernel_rfl).symm.trans hf) |>.symm
      obtain rfl : fn = Tryd.f3 := (Option.some.inj (Tryd.func3.symm.trans hfn)).symm
      exact ⟨by kernel_rfl, fun j t ht => by
        rw [Tryd.params3] at ht
        have hm : t ∈ [22, 24] := by simpa using Array.mem_of_getElem? ht
        have hall : ([22, 24].all fun u => !Tryd.prog.wantsStandIn u) = true := by kernel_rfl
        exact (show Tryd.prog.wantsStandIn t = false by simpa using List.all_eq_true.1 hall t hm)⟩)
    (by kernel_rfl)
#print axioms card_holds
#print axioms proved
end Go.Proofs.YthbmijnpmffmkaaDoor.fnExactEditBack
namespace Go.Proofs.YthbmijnpmffmkaaDoor
/-- The row, under a short name, for the claim. -/
theorem fnExactEditBack_holds : Rows.FnExactEditBackCardSaid := fnExactEditBack.card_holds
end Go.Proofs.YthbmijnpmffmkaaDoor
