/-
  The law FnExactRopeFindBack of the seat: for every input the program's function answers as the reference's: the row, over the printed contract and the pure theorem. Under no condition of its own.
-/
import Derived.Test.YteiohadahaljhaaDoorRows
import Derived.Test.YteiohadahaljhaaDoorPFnExactRopeFindBackx
import Derived.Test.YteiohadahaljhaaDoorPureFnExactRopeFindBack
import Derived.Test.YteiohadahaljhaaDoorOpen
import Derived.Test.YteiohadahaljhaaDoorLaid
import Derived.Test.YteiohadahaljhaaDoorTie
import Derived.Test.YteiohadahaljhaaDoorCards
import Derived.WalkKit
import Derived.ProofKit
import Derived.OpenShut
import Derived.ShutString
import Derived.ChangeOld
import Derived.Below
import Derived.SizedLaws
import Derived.Lib.SmallJoins
namespace Go.Proofs.YteiohadahaljhaaDoor.fnExactRopeFindBack
open Go.ChangeShapes Go.WideShapes Go.ChangeAt Go.RowKit Go.Proofs.YteiohadahaljhaaDoor.PFnExactRopeFindBack Go.Proofs.YteiohadahaljhaaDoorW.PrintWords Go.Proofs.YteiohadahaljhaaDoor.Open
open Go.ChangeMaps (open_string shut_string)
set_option linter.unusedVariables false
theorem own : ownKnob Tryd.prog.godebug = none := by kernel_rfl
theorem laidOut : laidOutB Tryd.prog = true := by kernel_rfl
instance : Inhabited S75 := ⟨z75⟩
theorem opens75 : Opens Tryd.prog 75 k75 Pure.wf75 := by
  intro H enc w base spare held fuel cs x h
  obtain ⟨hl, hf⟩ := fields_of Tryd.underlying75 h
  have hl : cs.length = 1 := hl.trans (by kernel_rfl)
  obtain ⟨n0, y0, h0⟩ := hf 0 _ rfl
  obtain ⟨c0, rfl⟩ := len1 hl
  have e0 : (([c0] : List Value).drop 0).take (Tryd.prog.cellsOf 36) = [c0] := by rw [show Tryd.prog.cellsOf 36 = 1 by kernel_rfl]; rfl
  have g0 : DataW.trod enc Tryd.prog w base spare held n0 36 [c0] = some y0 := by rw [← e0]; exact h0
  clear e0 h0
  obtain ⟨z0, k0_, w0⟩ := (opens_slice (d := (Kd.int .u8)) Tryd.underlying36 (by kernel_rfl) (opens_int Tryd.underlying5)) g0
  obtain ⟨A0, m0, rfl, l0, r0⟩ := slice_parts k0_
  exact ⟨⟨z0⟩, k75_mk w ⟨z0⟩ l0 r0, w0⟩
set_option maxRecDepth 100000 in
theorem lifted (os : Os) (started : os.Started) (H : Type) (enc : TypeId × Value → H) :
    ReturnsInHanded {} Tryd.checked os 6 .any (fun w args => (Rows.fnExactRopeFindBackSpec.pre enc Tryd.prog Tryd.f6 Rows.fnExactRopeFindBackRow.domain false w args ∧ laidMetH Tryd.prog Laid.laid w) ∧ sizedMet enc Tryd.prog Tryd.f6 (OpenSpec.ofChange Rows.fnExactRopeFindBackSpec) false w args) (Rows.fnExactRopeFindBackSpec.post enc Tryd.prog Tryd.f6 false true false false) := by
  refine returnsInHanded_of_change_and (C := Tryd.checked) (X := fun w _ => laidMetH Tryd.prog Laid.laid w) (fun _ _ _ hh h => h.of_heap hh) own started (by kernel_rfl) Tryd.func6
    (ChangeSpec.witness_shaped (enc := enc) (C := Tryd.checked) (os := os) (X := fun w _ => laidMetH Tryd.prog Laid.laid w) false (World.laidAll Tryd.prog os Laid.laid) #[.agg #[.slice none 0 0], .slice none 0 0, .int .i64 0] 8 (World.laidAll_os _ _ _)
      (World.shaped_of_ZipB (by kernel_rfl) (by kernel_rfl)) (by kernel_rfl) (by kernel_rfl) (by kernel_rfl)
      (by rw [MakeChecks.laidMetH_plain _ _ _ (by kernel_rfl)]; exact laidMet_laidAll _ (by kernel_rfl) (by kernel_rfl))) ?_
  intro W base args ds gs before hval0 hW hcnd hsz0 hL _
  have hTabs := Laid.tabs hL
  have hval : ∀ (j : Nat) t v, Tryd.f6.params[j]? = some t → args[j]? = some v → Value.okWide Tryd.prog W .any base t v := hval0
  have hW' := hW
  obtain ⟨p, q, hA0, hV, rfl, hfz, hnd⟩ := hW
  have hA : DataW.TrodAll enc Tryd.prog W 0 (fun _ => true) true Tryd.f6.params.toList args.toList ds p := hA0
  rw [Tryd.params6] at hA hval
  obtain ⟨v0, vs0, d0, ds0, p0, q0, hargs, rfl, rfl, h0, r0⟩ := trodAll_cons hA
  obtain ⟨v1, vs1, d1, ds1, p1, q1, rfl, rfl, rfl, h1, r1⟩ := trodAll_cons r0
  obtain ⟨v2, vs2, d2, ds2, p2, q2, rfl, rfl, rfl, h2, r2⟩ := trodAll_cons r1
  obtain ⟨rfl, rfl, rfl⟩ := trodAll_nil r2
  obtain rfl : args = #[v0, v1, v2] := by cases args; simp_all
  obtain ⟨rfl, rfl⟩ := trodVars_none hV
  have k0 := h0
  have lt0 : ∀ x ∈ p0, x.block < W.heap.size := by obtain ⟨m, hm⟩ := k0; exact DataW.trod_lt m _ _ _ hm
  obtain ⟨cs0, rfl, hs0⟩ := okWide_struct Tryd.underlying24 (hval 0 24 v0 rfl rfl)
  obtain ⟨fu0, hf0⟩ := h0
  obtain ⟨hl0, ff0⟩ := fields_of (cs := cs0.toList) Tryd.underlying24 (by simpa [Value.cells] using hf0)
  have hl0 : cs0.toList.length = 1 := hl0.trans (by kernel_rfl)
  obtain ⟨n0_0, y0_0, h0_0⟩ := ff0 0 _ rfl
  obtain ⟨c0_0, ec0⟩ := len1 hl0
  rw [ec0] at h0_0
  obtain rfl : cs0 = #[c0_0] := by rw [← Array.toArray_toList (xs := cs0), ec0]
  have e0_0 : (([c0_0] : List Value).drop 0).take (Tryd.prog.cellsOf 22) = [c0_0] := by rw [show Tryd.prog.cellsOf 22 = 1 by kernel_rfl]; rfl
  have g0_0 : DataW.trod enc Tryd.prog W 0 (fun _ => true) true n0_0 22 [c0_0] = some y0_0 := by rw [← e0_0]; exact h0_0
  clear e0_0 h0_0
  obtain ⟨z0_0, k0_0, w0_0⟩ := (opens_slice (d := k75) Tryd.underlying22 (by kernel_rfl) opens75) g0_0
  obtain ⟨A0_0, m0_0, rfl, l0_0, r0_0⟩ := slice_parts k0_0
  have k1 := h1
  have lt1 : ∀ x ∈ p1, x.block < W.heap.size := by obtain ⟨m, hm⟩ := k1; exact DataW.trod_lt m _ _ _ hm
  obtain ⟨a1, len1, cap1, rfl⟩ := okWide_slice Tryd.underlying36 (hval 1 36 v1 rfl rfl)
  obtain ⟨fu1, hf1⟩ := h1
  have hx1 : DataW.trod enc Tryd.prog W 0 (fun _ => true) true fu1 36 [.slice a1 len1 cap1] = some (d1, p1) := by simpa [Value.cells] using hf1
  obtain ⟨z1, k1_, w1⟩ := (opens_slice (d := (Kd.int .u8)) Tryd.underlying36 (by kernel_rfl) (opens_int Tryd.underlying5)) hx1
  obtain ⟨A1, m1, es1, hl1, hr1⟩ := slice_parts k1_
  obtain ⟨rfl, rfl, rfl⟩ : a1 = A1 ∧ len1 = z1.length ∧ cap1 = m1 := by injection es1 with q0 q1 q2; exact ⟨q0, q1, q2⟩
  have k2 := h2
  have lt2 : ∀ x ∈ p2, x.block < W.heap.size := by obtain ⟨m, hm⟩ := k2; exact DataW.trod_lt m _ _ _ hm
  obtain ⟨a2, rfl, -, -, w2⟩ := open_int Tryd.underlying3 (hval 2 3 v2 rfl rfl) h2
  clear hA0 hval0 hsz0
  obtain ⟨k, hp⟩ := Pure.FnExactRopeFindBack z0_0 z1 a2 w0_0 w1 w2
  refine (laws_FnExactRopeFindBack.calls k _ _ z0_0 _ _ z1 a2 true W r0_0 l0_0 hr1 hl1 hTabs rfl hp).mono fun e W' ⟨he, bel⟩ => ?_
  subst he
  exact ⟨_, rfl, _, _, _, [], _, [], hW', trodAll_mk1 (shut_bool Tryd.underlying4 _), (trodAll_cons_mk (Below.trod laidOut (by kernel_rfl) (of_decide_eq_true (by kernel_rfl)) k0 bel lt0) (trodAll_cons_mk (Below.trod laidOut (by kernel_rfl) (of_decide_eq_true (by kernel_rfl)) k1 bel lt1) (trodAll_cons_mk (Below.trod laidOut (by kernel_rfl) (of_decide_eq_true (by kernel_rfl)) k2 bel lt2) trodAll_mk0))), rfl, bel.frame _, fun h => by cases h⟩
theorem over : Rows.fnExactRopeFindBackRow.holds Tryd.pinned (OpenSpec.ofChange Rows.fnExactRopeFindBackSpec) :=
  OpenClaim.holds_of_wide 6 Tryd.f6 rfl rfl rfl rfl rfl rfl rfl ⟨rfl, rfl, rfl, rfl, rfl⟩ rfl rfl rfl rfl rfl (by kernel_rfl) Tryd.func6 (by kernel_rfl)
    (of_decide_eq_true (by kernel_rfl)) (by unfold Func.isWrapper; first | (rw [if_pos (by decide +kernel)]; kernel_rfl) | (rw [if_neg (by decide +kernel)]; exact ⟨rfl, rfl⟩))
    (fun os started H enc _ => lifted os started H enc)
theorem proved : Rows.FnExactRopeFindBackSaid := over
theorem card_holds : Rows.FnExactRopeFindBackCardSaid :=
  Claim7.holds_tied_plain_at .later [] [.data, .pinned] true (true, "5d4f3a6624c27bfd64b3b8077060ebe7d02f8108d6c152a07234be97f28025a4") false proved (fun _ h => by cases h) (by kernel_rfl) (fun _ h => by cases h) fnExactRopeFindBack_row_tie rfl ⟨rfl, rfl⟩ (by kernel_rfl) rfl
    (fun f fn hf hfn => by
      obtain rfl : f = 6 := Option.some.inj ((show Tryd.prog.funcNamed "loop.example/g00677/laws.FnExactRopeFindBack" = some 6 by kernel_rfl).symm.trans hf) |>.symm
      obtain rfl : fn = Tryd.f6 := (Option.some.inj (Tryd.func6.symm.trans hfn)).symm
      exact ⟨by kernel_rfl, fun j t ht => by
        rw [Tryd.params6] at ht
        have hm : t ∈ [24, 36, 3] := by simpa using Array.mem_of_getElem? ht
        have hall : ([24, 36, 3].all fun u => !Tryd.prog.wantsStandIn u) = true := by kernel_rfl
        exact (show Tryd.prog.wantsStandIn t = false by simpa using List.all_eq_true.1 hall t hm)⟩)
    (by kernel_rfl)
#print axioms card_holds
#print axioms proved
end Go.Proofs.YteiohadahaljhaaDoor.fnExactRopeFindBack
namespace Go.Proofs.YteiohadahaljhaaDoor
/-- The row, under a short name, for the claim. -/
theorem fnExactRopeFindBack_holds : Rows.FnExactRopeFindBackCardSaid := fnExactRopeFindBack.card_holds
end Go.Proofs.YteiohadahaljhaaDoor
