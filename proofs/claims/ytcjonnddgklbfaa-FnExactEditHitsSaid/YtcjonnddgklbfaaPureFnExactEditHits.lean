/-
  The law FnExactEditHits in plain words: what the program's function computes is what the reference's computes. No memory, no machine.
-/
import Derived.Test.YtcjonnddgklbfaaPFnExactEditHitsx
import Derived.Test.YtcjonnddgklbfaaGen
namespace Go.Proofs.Ytcjonnddgklbfaa.Pure
open Go.RowKit Go.Proofs.Ytcjonnddgklbfaa.PFnExactEditHits Go.Proofs.YtcjonnddgklbfaaW.PrintWords Go.Proofs.YtcjonnddgklbfaaW.PrintLast Go.Proofs.YtcjonnddgklbfaaW.PrintMore Go.Proofs.Ytcjonnddgklbfaa.Gen
set_option linter.unusedVariables false
set_option linter.unusedSimpArgs false

theorem szByteS_f (l : List Int) (a : Int) (h0 : 0 ≤ a) (h1 : a ≤ 1048576) (hl : l.length ≤ 9223372036854775807) :
    laws_szByteS.f l a = some (if (l.length : Int) ≤ a then a - (l.length : Int) else -1) := by
  unfold laws_szByteS.f
  rw [w64 (x := a - (l.length : Int)) (by omega) (by omega)]
  by_cases h : (l.length : Int) ≤ a
  · rw [if_neg (by omega), if_pos h]
  · rw [if_pos (by omega), if_neg h]
theorem szEdit_f (x y : Int) (l : List Int) (a : Int) (h0 : 0 ≤ a) (h1 : a ≤ 1048576) (hl : l.length ≤ 9223372036854775807) :
    laws_szEdit.f x y l a = some (if (l.length : Int) ≤ a then a - (l.length : Int) else -1) := by
  unfold laws_szEdit.f
  rw [szByteS_f l a h0 h1 hl]
  simp only [Option.bind_some]
  by_cases h : (l.length : Int) ≤ a
  · rw [if_pos h, if_neg (by omega)]
  · rw [if_neg h, if_pos (by omega)]
theorem toByteS_f (k : Nat) (l : List Int) (hk : l.length < k) (hl : l.length ≤ 1048576) : laws_toByteS.f k l = some l := by
  have h := map_loop (L := fun k out i => laws_toByteS.l0 k l out i) l id 0 0 (fun k out i _ hi ho => by
      simp only [laws_toByteS.l0]
      rw [if_pos (by omega), if_pos (by omega), if_pos (by omega), w64s i (by omega), rd_nat]
      rfl) (fun k out ho => by
      simp only [laws_toByteS.l0]
      rw [if_neg (by omega)]) k (List.replicate ((l.length : Int)).toNat 0) (by omega) (by simp)
  unfold laws_toByteS.f
  rw [if_pos (by omega), if_pos (by omega)]
  simpa using h
theorem toEdit_f (k : Nat) (x y : Int) (l : List Int) (hk : l.length < k) (hl : l.length ≤ 1048576) : laws_toEdit.f k x y l = some (x, y, l) := by
  unfold laws_toEdit.f
  rw [toByteS_f k l hk hl]
  rfl
theorem eqByteS_f (k : Nat) (l l' : List Int) (hk : l.length < k) (hl : l.length ≤ 1048576) : laws_eqByteS.f k l l' = some (decide (l = l')) := by
  unfold laws_eqByteS.f
  by_cases e : l.length = l'.length
  · rw [if_pos (by omega)]
    obtain ⟨b, h, hb⟩ := all_loop (L := fun k i => laws_eqByteS.l0 k l l' i) l.length 0 (fun i => decide (l.getD i 0 = l'.getD i 0)) (fun k i _ hi => by
      simp only [laws_eqByteS.l0]
      rw [if_pos (by omega), if_pos (by omega), if_pos (by omega), w64s i (by omega), rd_nat, rd_nat]
      simp only [decide_eq_true_eq]) (fun k => by
      simp only [laws_eqByteS.l0]
      rw [if_neg (by omega)]) k (by omega)
    refine h.trans ?_
    congr 1
    simp only [decide_eq_true_eq] at hb
    rw [Bool.eq_iff_iff, decide_eq_true_eq]
    exact hb.trans (eq_of_getD 0 e)
  · rw [if_neg (by omega)]
    congr 1
    symm
    exact decide_eq_false (fun h => e (by rw [h]))
theorem eqByteS_self (k : Nat) (l : List Int) (hk : l.length < k) (hl : l.length ≤ 1048576) : laws_eqByteS.f k l l = some true := by
  rw [eqByteS_f k l l hk hl]; simp
theorem eqEdit_self (k : Nat) (x y : Int) (l : List Int) (hk : l.length < k) (hl : l.length ≤ 1048576) : laws_eqEdit.f k x y l x y l = some true := by
  unfold laws_eqEdit.f
  rw [if_pos rfl, if_pos rfl, eqByteS_self k l hk hl]
  rfl
def small (x y : Int) (l : List Int) : Bool := decide (0 ≤ x ∧ x ≤ 400 ∧ 0 ≤ y ∧ y ≤ 400 ∧ (l.length : Int) ≤ 400)
theorem specSmall_f (x y : Int) (l : List Int) : spec_l05Small.f x y l = some (small x y l) := by
  simp only [spec_l05Small.f, spec_l02Small.f, small]
  by_cases h1 : 0 ≤ x <;> by_cases h2 : x ≤ 400 <;> by_cases h3 : 0 ≤ y <;> by_cases h4 : y ≤ 400 <;> simp [h1, h2, h3, h4]
theorem implSmall_f (x y : Int) (l : List Int) : impl_Edit_isSmall.f x y l = some (small x y l) := by
  simp only [impl_Edit_isSmall.f, impl_in.f, small]
  by_cases h1 : 0 ≤ x <;> by_cases h2 : x ≤ 400 <;> by_cases h3 : 0 ≤ y <;> by_cases h4 : y ≤ 400 <;> simp [h1, h2, h3, h4]
theorem specPlace_f (p : Int) : spec_l06Place.f p = some (decide (0 ≤ p ∧ p ≤ 800)) := by
  unfold spec_l06Place.f
  by_cases h : 0 ≤ p <;> simp [h]
theorem implPos_f (p : Int) : impl_isPos.f p = some (decide (0 ≤ p ∧ p ≤ 800)) := by
  unfold impl_isPos.f impl_in.f
  by_cases h : 0 ≤ p <;> simp [h]
theorem FnExactEditHits (a0_0 : Int) (a0_1 : Int) (l0_2 : List Int) (a1 : Int) (a2 : Int) (wa0_0 : (Lit.int .i64 a0_0).wf = true) (wa0_1 : (Lit.int .i64 a0_1).wf = true) (wl0_2 : (l0_2.length ≤ maxLen ∧ ∀ x ∈ l0_2, (Lit.int .u8 x).wf = true)) (wa1 : (Lit.int .i64 a1).wf = true) (wa2 : (Lit.int .i64 a2).wf = true) : ∃ k, laws_FnExactEditHits.f k a0_0 a0_1 l0_2 a1 a2 = some true := by
  have ha := wl0_2.1
  unfold maxLen at ha
  refine ⟨l0_2.length + 4, ?_⟩
  generalize hk : l0_2.length + 4 = k
  unfold laws_FnExactEditHits.f
  rw [szEdit_f _ _ _ _ (by omega) (by omega) ha]
  simp only [Option.bind_some]
  by_cases c1 : (l0_2.length : Int) ≤ 1048576
  · rw [if_pos c1, if_neg (by omega)]
    have e : spec_EditHits.f k a0_0 a0_1 l0_2 a1 a2 = impl_EditHits.f a0_0 a0_1 l0_2 a1 a2 := by
      obtain ⟨k, rfl⟩ : ∃ m, k = m + 1 := ⟨k - 1, by omega⟩
      simp only [impl_EditHits.f, spec_EditHits.f, spec_EditHits.j0, impl_Edit_hits.f, specSmall_f, implSmall_f, specPlace_f, implPos_f, Option.bind_some]
      cases small a0_0 a0_1 l0_2 <;> by_cases h1 : 0 ≤ a1 ∧ a1 ≤ 800 <;> by_cases h2 : 0 ≤ a2 ∧ a2 ≤ 800 <;> by_cases h3 : a1 < a2 <;> by_cases h4 : a0_1 = 0 <;> by_cases h5 : a1 < a0_0 <;> by_cases h6 : a0_0 < a2 <;> simp [h1, h2, h3, h4, h5, h6, Int.not_le.2, Int.not_lt.1] <;> omega
    obtain ⟨b, hb⟩ : ∃ b, impl_EditHits.f a0_0 a0_1 l0_2 a1 a2 = some b := by
      simp only [impl_EditHits.f, impl_Edit_hits.f, implSmall_f, implPos_f, Option.bind_some]
      (repeat' split) <;> exact ⟨_, rfl⟩
    simp only [toEdit_f k a0_0 a0_1 l0_2 (by omega) (by omega), Option.bind_some, e, hb, eqEdit_self k a0_0 a0_1 l0_2 (by omega) (by omega)]
    simp
  · rw [if_neg c1, if_pos (by omega)]

end Go.Proofs.Ytcjonnddgklbfaa.Pure
