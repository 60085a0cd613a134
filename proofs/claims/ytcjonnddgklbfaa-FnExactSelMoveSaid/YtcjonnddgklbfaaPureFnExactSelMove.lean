/-
  The law FnExactSelMove in plain words: what the program's function computes is what the reference's computes. No memory, no machine.
-/
import Derived.Test.YtcjonnddgklbfaaPFnExactSelMovex
import Derived.Test.YtcjonnddgklbfaaGen
namespace Go.Proofs.Ytcjonnddgklbfaa.Pure
open Go.RowKit Go.Proofs.Ytcjonnddgklbfaa.PFnExactSelMove Go.Proofs.YtcjonnddgklbfaaW.PrintWords Go.Proofs.YtcjonnddgklbfaaW.PrintLast Go.Proofs.YtcjonnddgklbfaaW.PrintMore Go.Proofs.Ytcjonnddgklbfaa.Gen
set_option linter.unusedVariables false
set_option linter.unusedSimpArgs false

theorem szByteS_f (l : List Int) (a : Int) (h0 : 0 ≤ a) (h1 : a ≤ 1048576) (hl : l.length ≤ 9223372036854775807) :
    laws_szByteS.f l a = some (if (l.length : Int) ≤ a then a - (l.length : Int) else -1) := by
  unfold laws_szByteS.f
  rw [w64 (x := a - (l.length : Int)) (by omega) (by omega)]
  by_cases h : (l.length : Int) ≤ a
  · rw [if_neg (by omega), if_pos h]
  · rw [if_pos (by omega), if_neg h]
theorem szEdit_f (x y : Int) (l : List Int) (a : Int) (h0 : 0 ≤ a) (h1 : a ≤ 1048576) (hl : l.length ≤ 9223372036854775807) :
    laws_szEdit.f x y l a = some (if (l.length : Int) ≤ a then a - (l.length : Int) else -1) := by
  unfold laws_szEdit.f
  rw [szByteS_f l a h0 h1 hl]
  simp only [Option.bind_some]
  by_cases h : (l.length : Int) ≤ a
  · rw [if_pos h, if_neg (by omega)]
  · rw [if_neg h, if_pos (by omega)]
theorem toByteS_f (k : Nat) (l : List Int) (hk : l.length < k) (hl : l.length ≤ 1048576) : laws_toByteS.f k l = some l := by
  have h := map_loop (L := fun k out i => laws_toByteS.l0 k l out i) l id 0 0 (fun k out i _ hi ho => by
      simp only [laws_toByteS.l0]
      rw [if_pos (by omega), if_pos (by omega), if_pos (by omega), w64s i (by omega), rd_nat]
      rfl) (fun k out ho => by
      simp only [laws_toByteS.l0]
      rw [if_neg (by omega)]) k (List.replicate ((l.length : Int)).toNat 0) (by omega) (by simp)
  unfold laws_toByteS.f
  rw [if_pos (by omega), if_pos (by omega)]
  simpa using h
theorem toEdit_f (k : Nat) (x y : Int) (l : List Int) (hk : l.length < k) (hl : l.length ≤ 1048576) : laws_toEdit.f k x y l = some (x, y, l) := by
  unfold laws_toEdit.f
  rw [toByteS_f k l hk hl]
  rfl
theorem eqByteS_f (k : Nat) (l l' : List Int) (hk : l.length < k) (hl : l.length ≤ 1048576) : laws_eqByteS.f k l l' = some (decide (l = l')) := by
  unfold laws_eqByteS.f
  by_cases e : l.length = l'.length
  · rw [if_pos (by omega)]
    obtain ⟨b, h, hb⟩ := all_loop (L := fun k i => laws_eqByteS.l0 k l l' i) l.length 0 (fun i => decide (l.getD i 0 = l'.getD i 0)) (fun k i _ hi => by
      simp only [laws_eqByteS.l0]
      rw [if_pos (by omega), if_pos (by omega), if_pos (by omega), w64s i (by omega), rd_nat, rd_nat]
      simp only [decide_eq_true_eq]) (fun k => by
      simp only [laws_eqByteS.l0]
      rw [if_neg (by omega)]) k (by omega)
    refine h.trans ?_
    congr 1
    simp only [decide_eq_true_eq] at hb
    rw [Bool.eq_iff_iff, decide_eq_true_eq]
    exact hb.trans (eq_of_getD 0 e)
  · rw [if_neg (by omega)]
    congr 1
    symm
    exact decide_eq_false (fun h => e (by rw [h]))
theorem eqByteS_self (k : Nat) (l : List Int) (hk : l.length < k) (hl : l.length ≤ 1048576) : laws_eqByteS.f k l l = some true := by
  rw [eqByteS_f k l l hk hl]; simp
theorem eqEdit_self (k : Nat) (x y : Int) (l : List Int) (hk : l.length < k) (hl : l.length ≤ 1048576) : laws_eqEdit.f k x y l x y l = some true := by
  unfold laws_eqEdit.f
  rw [if_pos rfl, if_pos rfl, eqByteS_self k l hk hl]
  rfl
def small (x y : Int) (l : List Int) : Bool := decide (0 ≤ x ∧ x ≤ 400 ∧ 0 ≤ y ∧ y ≤ 400 ∧ (l.length : Int) ≤ 400)
theorem specSmall_f (x y : Int) (l : List Int) : spec_l05Small.f x y l = some (small x y l) := by
  simp only [spec_l05Small.f, spec_l02Small.f, small]
  by_cases h1 : 0 ≤ x <;> by_cases h2 : x ≤ 400 <;> by_cases h3 : 0 ≤ y <;> by_cases h4 : y ≤ 400 <;> simp [h1, h2, h3, h4]
theorem implSmall_f (x y : Int) (l : List Int) : impl_Edit_isSmall.f x y l = some (small x y l) := by
  simp only [impl_Edit_isSmall.f, impl_in.f, small]
  by_cases h1 : 0 ≤ x <;> by_cases h2 : x ≤ 400 <;> by_cases h3 : 0 ≤ y <;> by_cases h4 : y ≤ 400 <;> simp [h1, h2, h3, h4]
theorem specPlace_f (p : Int) : spec_l06Place.f p = some (decide (0 ≤ p ∧ p ≤ 800)) := by
  unfold spec_l06Place.f
  by_cases h : 0 ≤ p <;> simp [h]
theorem implPos_f (p : Int) : impl_isPos.f p = some (decide (0 ≤ p ∧ p ≤ 800)) := by
  unfold impl_isPos.f impl_in.f
  by_cases h : 0 ≤ p <;> simp [h]
/-- Where a position goes. -/
def posv (p : Int) (r : Bool) (x y n : Int) : Int := if p < x then p else if p = x ∨ p < x + y then (if r = true then x + n else x) else p - y + n
theorem small_of {x y : Int} {l : List Int} (h : small x y l = true) : 0 ≤ x ∧ x ≤ 400 ∧ 0 ≤ y ∧ y ≤ 400 ∧ (l.length : Int) ≤ 400 := of_decide_eq_true h
theorem implPosv_f (k : Nat) (hk : 1 ≤ k) (p : Int) (r : Bool) (x y : Int) (l : List Int) (hs : small x y l = true) (h0 : 0 ≤ p) (h1 : p ≤ 800) : impl_Edit_pos.f k x y l p r = some (posv p r x y l.length) := by
  obtain ⟨k, rfl⟩ : ∃ m, k = m + 1 := ⟨k - 1, by omega⟩
  obtain ⟨s1, s2, s3, s4, s5⟩ := small_of hs
  simp only [impl_Edit_pos.f, impl_Edit_pos.j0, posv]
  rw [w64 (x := x + y) (by omega) (by omega), w64 (x := x + (l.length : Int)) (by omega) (by omega), w64 (x := p - y) (by omega) (by omega), w64 (x := p - y + (l.length : Int)) (by omega) (by omega)]
  by_cases c1 : p < x
  · simp [c1]
  · by_cases c2 : p = x
    · cases r <;> simp [c2]
    · by_cases c3 : p < x + y <;> cases r <;> simp [c1, c2, c3]
theorem specPosv_f (k : Nat) (hk : 2 ≤ k) (p : Int) (r : Bool) (x y : Int) (l : List Int) :
    spec_PosMove.f k p r x y l = some (if (0 ≤ p ∧ p ≤ 800) ∧ small x y l = true then posv p r x y l.length else -1) := by
  obtain ⟨k, rfl⟩ : ∃ m, k = m + 2 := ⟨k - 2, by omega⟩
  simp only [spec_PosMove.f, specPlace_f, specSmall_f, Option.bind_some, spec_PosMove.j0, spec_PosMove.j1, posv]
  by_cases c0 : 0 ≤ p ∧ p ≤ 800
  · cases hs : small x y l with
    | false => simp [c0]
    | true =>
      obtain ⟨s1, s2, s3, s4, s5⟩ := small_of hs
      rw [w64 (x := x + y) (by omega) (by omega), w64 (x := x + (l.length : Int)) (by omega) (by omega), w64 (x := p - y) (by omega) (by omega), w64 (x := p - y + (l.length : Int)) (by omega) (by omega)]
      by_cases c1 : p < x
      · simp [c0, c1]
      · by_cases c2 : p = x
        · subst c2
          cases r <;> simp [c0]
        · by_cases c3 : p < x + y <;> cases r <;> simp [c0, c1, c2, c3]
  · simp [c0]
theorem posv_nonneg {p : Int} {r : Bool} {x y : Int} {l : List Int} (hs : small x y l = true) (h0 : 0 ≤ p) : 0 ≤ posv p r x y l.length := by
  obtain ⟨s1, s2, s3, s4, s5⟩ := small_of hs
  unfold posv
  split
  · omega
  · split
    · split <;> omega
    · omega
theorem FnExactSelMove (a0_0 : Int) (a0_1 : Int) (a1_0 : Int) (a1_1 : Int) (l1_2 : List Int) (a2 : Bool) (wa0_0 : (Lit.int .i64 a0_0).wf = true) (wa0_1 : (Lit.int .i64 a0_1).wf = true) (wa1_0 : (Lit.int .i64 a1_0).wf = true) (wa1_1 : (Lit.int .i64 a1_1).wf = true) (wl1_2 : (l1_2.length ≤ maxLen ∧ ∀ x ∈ l1_2, (Lit.int .u8 x).wf = true)) : ∃ k, laws_FnExactSelMove.f k a0_0 a0_1 a1_0 a1_1 l1_2 a2 = some true := by
  have ha := wl1_2.1
  unfold maxLen at ha
  refine ⟨l1_2.length + 8, ?_⟩
  generalize hk : l1_2.length + 8 = k
  have e : impl_SelMove.f k a0_0 a0_1 a1_0 a1_1 l1_2 a2 = spec_SelMove.f k a0_0 a0_1 a1_0 a1_1 l1_2 a2 := by
    obtain ⟨k, rfl⟩ : ∃ m, k = m + 5 := ⟨k - 5, by omega⟩
    simp only [impl_SelMove.f, spec_SelMove.f, spec_SelMove.j0, impl_Edit_sel.f, specPlace_f, implPos_f, specSmall_f, implSmall_f, specPosv_f (k + 4) (by omega), Option.bind_some]
    by_cases h0 : 0 ≤ a0_0 ∧ a0_0 ≤ 800
    · by_cases h1 : 0 ≤ a0_1 ∧ a0_1 ≤ 800
      · cases hs : small a1_0 a1_1 l1_2 with
        | false => simp [h0, h1]
        | true =>
          have q0 := fun r => implPosv_f (k + 5) (by omega) a0_0 r a1_0 a1_1 l1_2 hs h0.1 h0.2
          have q1 := fun r => implPosv_f (k + 5) (by omega) a0_1 r a1_0 a1_1 l1_2 hs h1.1 h1.2
          cases a2 <;> simp [h0, h1, q0, q1]
      · simp [h0, h1]
    · simp [h0]
  obtain ⟨b, hb⟩ : ∃ b, spec_SelMove.f k a0_0 a0_1 a1_0 a1_1 l1_2 a2 = some b := by
    obtain ⟨k, rfl⟩ : ∃ m, k = m + 5 := ⟨k - 5, by omega⟩
    simp only [spec_SelMove.f, spec_SelMove.j0, specPlace_f, specSmall_f, specPosv_f (k + 4) (by omega), Option.bind_some]
    (repeat' split) <;> exact ⟨_, rfl⟩
  unfold laws_FnExactSelMove.f
  rw [szEdit_f _ _ _ _ (by omega) (by omega) ha]
  simp only [Option.bind_some]
  by_cases c1 : (l1_2.length : Int) ≤ 1048576
  · rw [if_pos c1, if_neg (by omega)]
    simp only [laws_toSel.f, toEdit_f k a1_0 a1_1 l1_2 (by omega) (by omega), Option.bind_some, e, hb, eqEdit_self k a1_0 a1_1 l1_2 (by omega) (by omega)]
    simp [laws_eqSel.f]
  · rw [if_neg c1, if_pos (by omega)]

end Go.Proofs.Ytcjonnddgklbfaa.Pure
