/-
  The law FnExactRopeFind of the seat: for every input the program's function answers as the reference's: the row, over the printed contract and the pure theorem. Under no condition of its own.
-/
import Derived.Test.YthbmijnpmffmkaaDoorRows
import Derived.Test.YthbmijnpmffmkaaDoorPFnExactRopeFindx
import Derived.Test.YthbmijnpmffmkaaDoorPureFnExactRopeFind
import Derived.Test.YthbmijnpmffmkaaDoorOpen
import Derived.Test.YthbmijnpmffmkaaDoorLaid
import Derived.Test.YthbmijnpmffmkaaDoorTie
import Derived.Test.YthbmijnpmffmkaaDoorCards
import Derived.Shelf.Vars
import Derived.WalkKit
import Derived.ProofKit
import Derived.OpenShut
import Derived.ShutString
import Derived.ChangeOld
import Derived.Below
import Derived.SizedLaws
import Derived.Lib.SmallJoins
namespace Go.Proofs.YthbmijnpmffmkaaDoor.fnExactRopeFind
open Go.ChangeShapes Go.WideShapes Go.ChangeAt Go.RowKit Go.Proofs.YthbmijnpmffmkaaDoor.PFnExactRopeFind Go.Proofs.YthbmijnpmffmkaaDoorW.PrintWords Go.Proofs.YthbmijnpmffmkaaDoor.Open
open Go.ChangeMaps (open_string shut_string)
set_option linter.unusedVariables false
theorem own : ownKnob Tryd.prog.godebug = none := by kernel_rfl
theorem laidOut : laidOutB Tryd.prog = true := by kernel_rfl
instance : Inhabited S83 := ⟨z83⟩
theorem opens83 : Opens Tryd.prog 83 k83 Pure.wf83 := by
  intro H enc w base spare held fuel cs x h
  obtain ⟨hl, hf⟩ := fields_of Tryd.underlying83 h
  have hl : cs.length = 1 := hl.trans (by kernel_rfl)
  obtain ⟨n0, y0, h0⟩ := hf 0 _ rfl
  obtain ⟨c0, rfl⟩ := len1 hl
  have e0 : (([c0] : List Value).drop 0).take (Tryd.prog.cellsOf 22) = [c0] := by rw [show Tryd.prog.cellsOf 22 = 1 by kernel_rfl]; rfl
  have g0 : DataW.trod enc Tryd.prog w base spare held n0 22 [c0] = some y0 := by rw [← e0]; exact h0
  clear e0 h0
  obtain ⟨z0, k0_, w0⟩ := (opens_slice (d := (Kd.int .u8)) Tryd.underlying22 (by kernel_rfl) (opens_int Tryd.underlying5)) g0
  obtain ⟨A0, m0, rfl, l0, r0⟩ := slice_parts k0_
  exact ⟨⟨z0⟩, k83_mk w ⟨z0⟩ l0 r0, w0⟩
theorem maxLenCell {W : World} (h : W.ShapedOpen Tryd.prog) : ∃ m : Int, W.cell? ⟨0, 0, none⟩ = some (.int .i64 m) := cell_of_shapedOpen_int (P := Tryd.prog) (g := 0) (t := 3) (zero := #[.int .i64 0]) h (of_decide_eq_true (by kernel_rfl)) (by kernel_rfl) rfl (by kernel_rfl) (by kernel_rfl) Tryd.underlying3
/-- A row that lists variables: its calls begin in a world of the program's shape. -/
theorem returns_listed_shaped {H : Type} {enc : TypeId × Value → H} {a : Assume} {C : Checked} {os : Os} {f : FuncId} {fn : Func} {s : ChangeSpec} {conds : List PathCond} {apart fresh handsOn again : Bool} {X : World → Array Value → Prop}
    (hX : ∀ (w w' : World) (args : Array Value), w.heap = w'.heap → X w args → X w' args) (own : ownKnob C.prog.godebug = none) (started : os.Started) (noInit : C.prog.inits.idxOf? f = none) (hfn : C.prog.funcs[f]? = some fn)
    (witness : ∃ (w : World) (tape : Tape) (i : Input), w.os = os ∧ (w.forCall tape i).Shaped C.prog ∧ i.vars = [] ∧ Input.okWide C.prog (w.forCall tape i) .any w.heap.size f i ∧
      ((s.pre enc C.prog fn conds apart (w.forCall tape i).memory i.args ∧ X (w.forCall tape i).memory i.args) ∧ sizedMet enc C.prog fn (OpenSpec.ofChange s) apart (w.forCall tape i).memory i.args) ∧ a.holds C.prog (lone (Frame.enter C.prog f i.args .normal) [] (w.forCall tape i)))
    (contract : ∀ (W : World) (base : Nat) (args : Array Value) (ds gs : List (DataW H)) (before : List MemPlace), (∀ (j : Nat) t v, fn.params[j]? = some t → args[j]? = some v → Value.okWide C.prog W .any base t v) →
      DataW.Whole enc C.prog fn.params.toList s.vars apart W args.toList ds gs before → X W args → W.ShapedOpen C.prog → Calls C.prog f args W fun e W' => ∃ v, e = .returned v ∧ s.post enc C.prog fn apart fresh handsOn again W args v W') :
    ReturnsInHanded a C os f .any (fun w args => (s.pre enc C.prog fn conds apart w args ∧ X w args) ∧ sizedMet enc C.prog fn (OpenSpec.ofChange s) apart w args) (s.post enc C.prog fn apart fresh handsOn again) := by
  refine returnsInHanded_of_calls own started noInit witness ?_
  intro w tape i _ hsh _ hok hpre hholds
  obtain ⟨_, _, _, fn', hfn', _, _, _, _, hval⟩ := hok
  have e : fn' = fn := Option.some.inj (hfn'.symm.trans hfn)
  subst e
  obtain ⟨⟨⟨ds, gs, before, hw, hc⟩, hx⟩, hz⟩ := hpre
  refine (contract (w.forCall tape i) w.heap.size i.args ds gs before hval (DataW.Whole.of_heap (w' := w.forCall tape i) (by rfl) hw) (hX _ _ _ (by rfl) hx) hsh).mono fun e W' ⟨v, he, hp⟩ => ?_
  subst he
  exact ChangeSpec.post_blind hp
set_option maxRecDepth 100000 in
theorem lifted (os : Os) (started : os.Started) (H : Type) (enc : TypeId × Value → H) :
    ReturnsInHanded {} Tryd.checked os 4 .any (fun w args => (Rows.fnExactRopeFindSpec.pre enc Tryd.prog Tryd.f4 Rows.fnExactRopeFindRow.domain false w args ∧ laidMetH Tryd.prog Laid.laid w) ∧ sizedMet enc Tryd.prog Tryd.f4 (OpenSpec.ofChange Rows.fnExactRopeFindSpec) false w args) (Rows.fnExactRopeFindSpec.post enc Tryd.prog Tryd.f4 false true false false) := by
  refine returns_listed_shaped (C := Tryd.checked) (X := fun w _ => laidMetH Tryd.prog Laid.laid w) (fun _ _ _ hh h => h.of_heap hh) own started (by kernel_rfl) Tryd.func4
    (ChangeSpec.witness_shaped (enc := enc) (C := Tryd.checked) (os := os) (X := fun w _ => laidMetH Tryd.prog Laid.laid w) false (World.laidAll Tryd.prog os Laid.laid) #[.agg #[.slice none 0 0], .slice none 0 0, .int .i64 0] 8 (World.laidAll_os _ _ _)
      (World.shaped_of_ZipB (by kernel_rfl) (by kernel_rfl)) (by kernel_rfl) (by kernel_rfl) (by kernel_rfl)
      (by rw [MakeChecks.laidMetH_plain _ _ _ (by kernel_rfl)]; exact laidMet_laidAll _ (by kernel_rfl) (by kernel_rfl))) ?_
  intro W base args ds gs before hval0 hW hL hSh
  have hTabs : Index.Tabs 1 2 0 W := ⟨Laid.tabs hL, maxLenCell hSh⟩
  have hval : ∀ (j : Nat) t v, Tryd.f4.params[j]? = some t → args[j]? = some v → Value.okWide Tryd.prog W .any base t v := hval0
  have hW' := hW
  obtain ⟨p, q, hA0, hV, rfl, hfz, hnd⟩ := hW
  have hA : DataW.TrodAll enc Tryd.prog W 0 (fun _ => true) true Tryd.f4.params.toList args.toList ds p := hA0
  rw [Tryd.params4] at hA hval
  obtain ⟨v0, vs0, d0, ds0, p0, q0, hargs, rfl, rfl, h0, r0⟩ := trodAll_cons hA
  obtain ⟨v1, vs1, d1, ds1, p1, q1, rfl, rfl, rfl, h1, r1⟩ := trodAll_cons r0
  obtain ⟨v2, vs2, d2, ds2, p2, q2, rfl, rfl, rfl, h2, r2⟩ := trodAll_cons r1
  obtain ⟨rfl, rfl, rfl⟩ := trodAll_nil r2
  obtain rfl : args = #[v0, v1, v2] := by cases args; simp_all
  obtain ⟨rfl, rfl⟩ := trodVars_none hV
  have k0 := h0
  have lt0 : ∀ x ∈ p0, x.block < W.heap.size := by obtain ⟨m, hm⟩ := k0; exact DataW.trod_lt m _ _ _ hm
  obtain ⟨cs0, rfl, hs0⟩ := okWide_struct Tryd.underlying38 (hval 0 38 v0 rfl rfl)
  obtain ⟨fu0, hf0⟩ := h0
  obtain ⟨hl0, ff0⟩ := fields_of (cs := cs0.toList) Tryd.underlying38 (by simpa [Value.cells] using hf0)
  have hl0 : cs0.toList.length = 1 := hl0.trans (by kernel_rfl)
  obtain ⟨n0_0, y0_0, h0_0⟩ := ff0 0 _ rfl
  obtain ⟨c0_0, ec0⟩ := len1 hl0
  rw [ec0] at h0_0
  obtain rfl : cs0 = #[c0_0] := by rw [← Array.toArray_toList (xs := cs0), ec0]
  have e0_0 : (([c0_0] : List Value).drop 0).take (Tryd.prog.cellsOf 36) = [c0_0] := by rw [show Tryd.prog.cellsOf 36 = 1 by kernel_rfl]; rfl
  have g0_0 : DataW.trod enc Tryd.prog W 0 (fun _ => true) true n0_0 36 [c0_0] = some y0_0 := by rw [← e0_0]; exact h0_0
  clear e0_0 h0_0
  obtain ⟨z0_0, k0_0, w0_0⟩ := (opens_slice (d := k83) Tryd.underlying36 (by kernel_rfl) opens83) g0_0
  obtain ⟨A0_0, m0_0, rfl, l0_0, r0_0⟩ := slice_parts k0_0
  have k1 := h1
  have lt1 : ∀ x ∈ p1, x.block < W.heap.size := by obtain ⟨m, hm⟩ := k1; exact DataW.trod_lt m _ _ _ hm
  obtain ⟨a1, len1, cap1, rfl⟩ := okWide_slice Tryd.underlying22 (hval 1 22 v1 rfl rfl)
  obtain ⟨fu1, hf1⟩ := h1
  have hx1 : DataW.trod enc Tryd.prog W 0 (fun _ => true) true fu1 22 [.slice a1 len1 cap1] = some (d1, p1) := by simpa [Value.cells] using hf1
  obtain ⟨z1, k1_, w1⟩ := (opens_slice (d := (Kd.int .u8)) Tryd.underlying22 (by kernel_rfl) (opens_int Tryd.underlying5)) hx1
  obtain ⟨A1, m1, es1, hl1, hr1⟩ := slice_parts k1_
  obtain ⟨rfl, rfl, rfl⟩ : a1 = A1 ∧ len1 = z1.length ∧ cap1 = m1 := by injection es1 with q0 q1 q2; exact ⟨q0, q1, q2⟩
  have k2 := h2
  have lt2 : ∀ x ∈ p2, x.block < W.heap.size := by obtain ⟨m, hm⟩ := k2; exact DataW.trod_lt m _ _ _ hm
  obtain ⟨a2, rfl, -, -, w2⟩ := open_int Tryd.underlying3 (hval 2 3 v2 rfl rfl) h2
  clear hA0 hval0
  obtain ⟨k, hp⟩ := Pure.FnExactRopeFind z0_0 z1 a2 w0_0 w1 w2
  refine (laws_FnExactRopeFind.calls k _ _ z0_0 _ _ z1 a2 true W r0_0 l0_0 hr1 hl1 hTabs rfl hp).mono fun e W' ⟨he, bel⟩ => ?_
  subst he
  exact ⟨_, rfl, _, _, _, [], _, [], hW', trodAll_mk1 (shut_bool Tryd.underlying4 _), (trodAll_cons_mk (Below.trod laidOut (by kernel_rfl) (of_decide_eq_true (by kernel_rfl)) k0 bel lt0) (trodAll_cons_mk (Below.trod laidOut (by kernel_rfl) (of_decide_eq_true (by kernel_rfl)) k1 bel lt1) (trodAll_cons_mk (Below.trod laidOut (by kernel_rfl) (of_decide_eq_true (by kernel_rfl)) k2 bel lt2) trodAll_mk0))), rfl, bel.frame _, fun h => by cases h⟩
theorem over : Rows.fnExactRopeFindRow.holds Tryd.pinned (OpenSpec.ofChange Rows.fnExactRopeFindSpec) :=
  OpenClaim.holds_of_wide 4 Tryd.f4 rfl rfl rfl rfl rfl rfl rfl ⟨rfl, rfl, rfl, rfl, rfl⟩ rfl rfl rfl rfl rfl (by kernel_rfl) Tryd.func4 (by kernel_rfl)
    (of_decide_eq_true (by kernel_rfl)) (by unfold Func.isWrapper; first | (rw [if_pos (by decide +kernel)]; kernel_rfl) | (rw [if_neg (by decide +kernel)]; exact ⟨rfl, rfl⟩))
    (fun os started H enc _ => lifted os started H enc)
theorem proved : Rows.FnExactRopeFindSaid := over
theorem card_holds : Rows.FnExactRopeFindCardSaid :=
  Claim7.holds_tied_plain_at .later [] [.data, .pinned] true (true, "2200d833e325100f34b871814f358983062ad26405be2b4c3a85d3fdc759f574") false proved (fun _ h => by cases h) (by kernel_rfl) (fun _ h => by cases h) fnExactRopeFind_row_tie rfl ⟨rfl, rfl⟩ (by kernel_rfl) rfl
    (fun f fn hf hfn => by
      obtain rfl : f = 4 := Option.some.inj ((show Tryd.prog.funcNamed "loop.example/g00677/laws.FnExactRopeFind" = some 4 by kernel_rfl).symm.trans hf) |>.symm
      obtain rfl : fn = Tryd.f4 := (Option.some.inj (Tryd.func4.symm.trans hfn)).symm
      exact ⟨by kernel_rfl, fun j t ht => by
        rw [Tryd.params4] at ht
        have hm : t ∈ [38, 22, 3] := by simpa using Array.mem_of_getElem? ht
        have hall : ([38, 22, 3].all fun u => !Tryd.prog.wantsStandIn u) = true := by kernel_rfl
        exact (show Tryd.prog.wantsStandIn t = false by simpa using List.all_eq_true.1 hall t hm)⟩)
    (by kernel_rfl)
#print axioms card_holds
#print axioms proved
end Go.Proofs.YthbmijnpmffmkaaDoor.fnExactRopeFind
namespace Go.Proofs.YthbmijnpmffmkaaDoor
/-- The row, under a short name, for the claim. -/
theorem fnExactRopeFind_holds : Rows.FnExactRopeFindCardSaid := fnExactRopeFind.card_holds
end Go.Proofs.YthbmijnpmffmkaaDoor
