/-
  The law FnExactFingText of the seat: for every input the program's function answers as the reference's: the row, over the printed contract and the pure theorem. Under no condition of its own.
-/
import Derived.Test.YtjkipaipaobibaaRows
import Derived.Test.YtjkipaipaobibaaPFnExactFingTextx
import Derived.Test.YtjkipaipaobibaaPureFnExactFingText
import Derived.Test.YtjkipaipaobibaaOpen
import Derived.WalkKit
import Derived.ProofKit
import Derived.OpenShut
import Derived.ShutString
import Derived.ChangeOld
import Derived.Below
import Derived.SizedLaws
import Derived.Lib.SmallJoins
namespace Go.Proofs.Ytjkipaipaobibaa.fnExactFingText
open Go.ChangeShapes Go.WideShapes Go.ChangeAt Go.RowKit Go.Proofs.Ytjkipaipaobibaa.PFnExactFingText Go.Proofs.YtjkipaipaobibaaW.PrintWords Go.Proofs.Ytjkipaipaobibaa.Open
open Go.ChangeMaps (open_string shut_string)
set_option linter.unusedVariables false
theorem own : ownKnob Try.prog.godebug = none := by kernel_rfl
theorem laidOut : laidOutB Try.prog = true := by kernel_rfl
instance : Inhabited S56 := ⟨z56⟩
theorem opens56 : Opens Try.prog 56 k56 Pure.wf56 := by
  intro H enc w base spare held fuel cs x h
  obtain ⟨hl, hf⟩ := fields_of Try.underlying56 h
  have hl : cs.length = 2 := hl.trans (by kernel_rfl)
  obtain ⟨n0, y0, h0⟩ := hf 0 _ rfl
  obtain ⟨n1, y1, h1⟩ := hf 1 _ rfl
  obtain ⟨c0, c1, rfl⟩ := len2 hl
  have e0 : (([c0, c1] : List Value).drop 0).take (Try.prog.cellsOf 41) = [c0] := by rw [show Try.prog.cellsOf 41 = 1 by kernel_rfl]; rfl
  have g0 : DataW.trod enc Try.prog w base spare held n0 41 [c0] = some y0 := by rw [← e0]; exact h0
  have e1 : (([c0, c1] : List Value).drop 1).take (Try.prog.cellsOf 41) = [c1] := by rw [show Try.prog.cellsOf 41 = 1 by kernel_rfl]; rfl
  have g1 : DataW.trod enc Try.prog w base spare held n1 41 [c1] = some y1 := by rw [← e1]; exact h1
  clear e0 h0 e1 h1
  obtain ⟨z0, k0_, w0⟩ := (opens_slice (d := Kd.string) Try.underlying41 (by kernel_rfl) (opens_string Try.underlying9)) g0
  obtain ⟨A0, m0, rfl, l0, r0⟩ := slice_parts k0_
  obtain ⟨z1, k1_, w1⟩ := (opens_slice (d := Kd.string) Try.underlying41 (by kernel_rfl) (opens_string Try.underlying9)) g1
  obtain ⟨A1, m1, rfl, l1, r1⟩ := slice_parts k1_
  exact ⟨⟨z0, z1⟩, k56_mk w ⟨z0, z1⟩ l0 r0 l1 r1, ⟨w0, w1⟩⟩
set_option maxRecDepth 100000 in
theorem lifted (os : Os) (started : os.Started) (H : Type) (enc : TypeId × Value → H) :
    ReturnsInHanded {} Try.checked os 3 .any (Rows.fnExactFingTextSpec.pre6 enc Try.prog Try.f3 Rows.fnExactFingTextRow.domain false) (Rows.fnExactFingTextSpec.post enc Try.prog Try.f3 false true false false) := by
  refine returnsInHanded_of_change_sized (C := Try.checked) own started (by kernel_rfl) Try.func3
    (ChangeSpec.witness6 (enc := enc) (C := Try.checked) false ⟨#[], #[.agg #[.slice none 0 0]], []⟩ 8 (by kernel_rfl) (by kernel_rfl) (by kernel_rfl) (by kernel_rfl)) ?_
  intro W base args ds gs before hval0 hW hcnd hsz0 _
  have hval : ∀ (j : Nat) t v, Try.f3.params[j]? = some t → args[j]? = some v → Value.okWide Try.prog W .any base t v := hval0
  have hW' := hW
  obtain ⟨p, q, hA0, hV, rfl, hfz, hnd⟩ := hW
  have hA : DataW.TrodAll enc Try.prog W 0 (fun _ => true) true Try.f3.params.toList args.toList ds p := hA0
  rw [Try.params3] at hA hval
  obtain ⟨v0, vs0, d0, ds0, p0, q0, hargs, rfl, rfl, h0, r0⟩ := trodAll_cons hA
  obtain ⟨rfl, rfl, rfl⟩ := trodAll_nil r0
  obtain rfl : args = #[v0] := by cases args; simp_all
  obtain ⟨rfl, rfl⟩ := trodVars_none hV
  have k0 := h0
  have lt0 : ∀ x ∈ p0, x.block < W.heap.size := by obtain ⟨m, hm⟩ := k0; exact DataW.trod_lt m _ _ _ hm
  obtain ⟨cs0, rfl, hs0⟩ := okWide_struct Try.underlying24 (hval 0 24 v0 rfl rfl)
  obtain ⟨fu0, hf0⟩ := h0
  obtain ⟨hl0, ff0⟩ := fields_of (cs := cs0.toList) Try.underlying24 (by simpa [Value.cells] using hf0)
  have hl0 : cs0.toList.length = 1 := hl0.trans (by kernel_rfl)
  obtain ⟨n0_0, y0_0, h0_0⟩ := ff0 0 _ rfl
  obtain ⟨c0_0, ec0⟩ := len1 hl0
  rw [ec0] at h0_0
  obtain rfl : cs0 = #[c0_0] := by rw [← Array.toArray_toList (xs := cs0), ec0]
  have e0_0 : (([c0_0] : List Value).drop 0).take (Try.prog.cellsOf 22) = [c0_0] := by rw [show Try.prog.cellsOf 22 = 1 by kernel_rfl]; rfl
  have g0_0 : DataW.trod enc Try.prog W 0 (fun _ => true) true n0_0 22 [c0_0] = some y0_0 := by rw [← e0_0]; exact h0_0
  clear e0_0 h0_0
  obtain ⟨z0_0, k0_0, w0_0⟩ := (opens_slice (d := k56) Try.underlying22 (by kernel_rfl) opens56) g0_0
  obtain ⟨A0_0, m0_0, rfl, l0_0, r0_0⟩ := slice_parts k0_0
  clear hA0 hval0 hsz0
  obtain ⟨k, hp⟩ := Pure.FnExactFingText z0_0 w0_0
  refine (laws_FnExactFingText.calls k _ _ z0_0 true W r0_0 l0_0 rfl hp).mono fun e W' ⟨he, bel⟩ => ?_
  subst he
  exact ⟨_, rfl, _, _, _, [], _, [], hW', trodAll_mk1 (shut_bool Try.underlying4 _), (trodAll_cons_mk (Below.trod laidOut (by kernel_rfl) (of_decide_eq_true (by kernel_rfl)) k0 bel lt0) trodAll_mk0), rfl, bel.frame _, fun h => by cases h⟩
theorem over : Rows.fnExactFingTextRow.holds Try.pinned (OpenSpec.ofChange Rows.fnExactFingTextSpec) :=
  OpenClaim.holds_of_wide 3 Try.f3 rfl rfl rfl rfl rfl rfl rfl ⟨rfl, rfl, rfl, rfl, rfl⟩ rfl rfl rfl rfl rfl (by kernel_rfl) Try.func3 (by kernel_rfl)
    (of_decide_eq_true (by kernel_rfl)) (by unfold Func.isWrapper; first | (rw [if_pos (by decide +kernel)]; kernel_rfl) | (rw [if_neg (by decide +kernel)]; exact ⟨rfl, rfl⟩))
    (fun os started H enc _ => lifted os started H enc)
theorem proved : Rows.FnExactFingTextSaid := over
#print axioms proved
end Go.Proofs.Ytjkipaipaobibaa.fnExactFingText
namespace Go.Proofs.Ytjkipaipaobibaa
/-- The row, under a short name, for the claim. -/
theorem fnExactFingText_holds : Rows.FnExactFingTextSaid := fnExactFingText.proved
end Go.Proofs.Ytjkipaipaobibaa
