/-
  The law FnExactEditOf of the seat: for every input the program's function answers as the reference's: the row, over the printed contract and the pure theorem. Under no condition of its own.
-/
import Derived.Test.YteiohadahaljhaaDoorRows
import Derived.Test.YteiohadahaljhaaDoorPFnExactEditOfx
import Derived.Test.YteiohadahaljhaaDoorPureFnExactEditOf
import Derived.Test.YteiohadahaljhaaDoorOpen
import Derived.Test.YteiohadahaljhaaDoorLaid
import Derived.Test.YteiohadahaljhaaDoorTie
import Derived.Test.YteiohadahaljhaaDoorCards
import Derived.WalkKit
import Derived.ProofKit
import Derived.OpenShut
import Derived.ShutString
import Derived.ChangeOld
import Derived.Below
import Derived.SizedLaws
import Derived.Lib.SmallJoins
namespace Go.Proofs.YteiohadahaljhaaDoor.fnExactEditOf
open Go.ChangeShapes Go.WideShapes Go.ChangeAt Go.RowKit Go.Proofs.YteiohadahaljhaaDoor.PFnExactEditOf Go.Proofs.YteiohadahaljhaaDoorW.PrintWords Go.Proofs.YteiohadahaljhaaDoor.Open
open Go.ChangeMaps (open_string shut_string)
set_option linter.unusedVariables false
theorem own : ownKnob Tryd.prog.godebug = none := by kernel_rfl
theorem laidOut : laidOutB Tryd.prog = true := by kernel_rfl
set_option maxRecDepth 100000 in
theorem lifted (os : Os) (started : os.Started) (H : Type) (enc : TypeId × Value → H) :
    ReturnsInHanded {} Tryd.checked os 8 .any (fun w args => (Rows.fnExactEditOfSpec.pre enc Tryd.prog Tryd.f8 Rows.fnExactEditOfRow.domain false w args ∧ laidMetH Tryd.prog Laid.laid w) ∧ sizedMet enc Tryd.prog Tryd.f8 (OpenSpec.ofChange Rows.fnExactEditOfSpec) false w args) (Rows.fnExactEditOfSpec.post enc Tryd.prog Tryd.f8 false true false false) := by
  refine returnsInHanded_of_change_and (C := Tryd.checked) (X := fun w _ => laidMetH Tryd.prog Laid.laid w) (fun _ _ _ hh h => h.of_heap hh) own started (by kernel_rfl) Tryd.func8
    (ChangeSpec.witness_shaped (enc := enc) (C := Tryd.checked) (os := os) (X := fun w _ => laidMetH Tryd.prog Laid.laid w) false (World.laidAll Tryd.prog os Laid.laid) #[.slice none 0 0, .slice none 0 0] 8 (World.laidAll_os _ _ _)
      (World.shaped_of_ZipB (by kernel_rfl) (by kernel_rfl)) (by kernel_rfl) (by kernel_rfl) (by kernel_rfl)
      (by rw [MakeChecks.laidMetH_plain _ _ _ (by kernel_rfl)]; exact laidMet_laidAll _ (by kernel_rfl) (by kernel_rfl))) ?_
  intro W base args ds gs before hval0 hW hcnd hsz0 hL _
  have hTabs := Laid.tabs hL
  have hval : ∀ (j : Nat) t v, Tryd.f8.params[j]? = some t → args[j]? = some v → Value.okWide Tryd.prog W .any base t v := hval0
  have hW' := hW
  obtain ⟨p, q, hA0, hV, rfl, hfz, hnd⟩ := hW
  have hA : DataW.TrodAll enc Tryd.prog W 0 (fun _ => true) true Tryd.f8.params.toList args.toList ds p := hA0
  rw [Tryd.params8] at hA hval
  obtain ⟨v0, vs0, d0, ds0, p0, q0, hargs, rfl, rfl, h0, r0⟩ := trodAll_cons hA
  obtain ⟨v1, vs1, d1, ds1, p1, q1, rfl, rfl, rfl, h1, r1⟩ := trodAll_cons r0
  obtain ⟨rfl, rfl, rfl⟩ := trodAll_nil r1
  obtain rfl : args = #[v0, v1] := by cases args; simp_all
  obtain ⟨rfl, rfl⟩ := trodVars_none hV
  have k0 := h0
  have lt0 : ∀ x ∈ p0, x.block < W.heap.size := by obtain ⟨m, hm⟩ := k0; exact DataW.trod_lt m _ _ _ hm
  obtain ⟨a0, len0, cap0, rfl⟩ := okWide_slice Tryd.underlying36 (hval 0 36 v0 rfl rfl)
  obtain ⟨fu0, hf0⟩ := h0
  have hx0 : DataW.trod enc Tryd.prog W 0 (fun _ => true) true fu0 36 [.slice a0 len0 cap0] = some (d0, p0) := by simpa [Value.cells] using hf0
  obtain ⟨z0, k0_, w0⟩ := (opens_slice (d := (Kd.int .u8)) Tryd.underlying36 (by kernel_rfl) (opens_int Tryd.underlying5)) hx0
  obtain ⟨A0, m0, es0, hl0, hr0⟩ := slice_parts k0_
  obtain ⟨rfl, rfl, rfl⟩ : a0 = A0 ∧ len0 = z0.length ∧ cap0 = m0 := by injection es0 with q0 q1 q2; exact ⟨q0, q1, q2⟩
  have k1 := h1
  have lt1 : ∀ x ∈ p1, x.block < W.heap.size := by obtain ⟨m, hm⟩ := k1; exact DataW.trod_lt m _ _ _ hm
  obtain ⟨a1, len1, cap1, rfl⟩ := okWide_slice Tryd.underlying36 (hval 1 36 v1 rfl rfl)
  obtain ⟨fu1, hf1⟩ := h1
  have hx1 : DataW.trod enc Tryd.prog W 0 (fun _ => true) true fu1 36 [.slice a1 len1 cap1] = some (d1, p1) := by simpa [Value.cells] using hf1
  obtain ⟨z1, k1_, w1⟩ := (opens_slice (d := (Kd.int .u8)) Tryd.underlying36 (by kernel_rfl) (opens_int Tryd.underlying5)) hx1
  obtain ⟨A1, m1, es1, hl1, hr1⟩ := slice_parts k1_
  obtain ⟨rfl, rfl, rfl⟩ : a1 = A1 ∧ len1 = z1.length ∧ cap1 = m1 := by injection es1 with q0 q1 q2; exact ⟨q0, q1, q2⟩
  clear hA0 hval0 hsz0
  obtain ⟨k, hp⟩ := Pure.FnExactEditOf z0 z1 w0 w1
  refine (laws_FnExactEditOf.calls k _ _ z0 _ _ z1 true W hr0 hl0 hr1 hl1 hTabs rfl hp).mono fun e W' ⟨he, bel⟩ => ?_
  subst he
  exact ⟨_, rfl, _, _, _, [], _, [], hW', trodAll_mk1 (shut_bool Tryd.underlying4 _), (trodAll_cons_mk (Below.trod laidOut (by kernel_rfl) (of_decide_eq_true (by kernel_rfl)) k0 bel lt0) (trodAll_cons_mk (Below.trod laidOut (by kernel_rfl) (of_decide_eq_true (by kernel_rfl)) k1 bel lt1) trodAll_mk0)), rfl, bel.frame _, fun h => by cases h⟩
theorem over : Rows.fnExactEditOfRow.holds Tryd.pinned (OpenSpec.ofChange Rows.fnExactEditOfSpec) :=
  OpenClaim.holds_of_wide 8 Tryd.f8 rfl rfl rfl rfl rfl rfl rfl ⟨rfl, rfl, rfl, rfl, rfl⟩ rfl rfl rfl rfl rfl (by kernel_rfl) Tryd.func8 (by kernel_rfl)
    (of_decide_eq_true (by kernel_rfl)) (by unfold Func.isWrapper; first | (rw [if_pos (by decide +kernel)]; kernel_rfl) | (rw [if_neg (by decide +kernel)]; exact ⟨rfl, rfl⟩))
    (fun os started H enc _ => lifted os started H enc)
theorem proved : Rows.FnExactEditOfSaid := over
theorem card_holds : Rows.FnExactEditOfCardSaid :=
  Claim7.holds_tied_plain_at .later [] [.data, .pinned] true (true, "5d4f3a6624c27bfd64b3b8077060ebe7d02f8108d6c152a07234be97f28025a4") false proved (fun _ h => by cases h) (by kernel_rfl) (fun _ h => by cases h) fnExactEditOf_row_tie rfl ⟨rfl, rfl⟩ (by kernel_rfl) rfl
    (fun f fn hf hfn => by
      obtain rfl : f = 8 := Option.some.inj ((show Tryd.prog.funcNamed "loop.example/g00677/laws.FnExactEditOf" = some 8 by kernel_rfl).symm.trans hf) |>.symm
      obtain rfl : fn = Tryd.f8 := (Option.some.inj (Tryd.func8.symm.trans hfn)).symm
      exact ⟨by kernel_rfl, fun j t ht => by
        rw [Tryd.params8] at ht
        have hm : t ∈ [36, 36] := by simpa using Array.mem_of_getElem? ht
        have hall : ([36, 36].all fun u => !Tryd.prog.wantsStandIn u) = true := by kernel_rfl
        exact (show Tryd.prog.wantsStandIn t = false by simpa using List.all_eq_true.1 hall t hm)⟩)
    (by kernel_rfl)
#print axioms card_holds
#print axioms proved
end Go.Proofs.YteiohadahaljhaaDoor.fnExactEditOf
namespace Go.Proofs.YteiohadahaljhaaDoor
/-- The row, under a short name, for the claim. -/
theorem fnExactEditOf_holds : Rows.FnExactEditOfCardSaid := fnExactEditOf.card_holds
end Go.Proofs.YteiohadahaljhaaDoor
