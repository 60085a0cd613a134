/-
  The law FnExactLeasesOk in plain words: what the program's function computes is what the reference's computes. No memory, no machine.
-/
import Derived.Test.YtcjonnddgklbfaaPFnExactLeasesOkx
import Derived.Test.YtcjonnddgklbfaaGen
namespace Go.Proofs.Ytcjonnddgklbfaa.Pure
open Go.RowKit Go.Proofs.Ytcjonnddgklbfaa.PFnExactLeasesOk Go.Proofs.YtcjonnddgklbfaaW.PrintWords Go.Proofs.YtcjonnddgklbfaaW.PrintLast Go.Proofs.YtcjonnddgklbfaaW.PrintMore Go.Proofs.Ytcjonnddgklbfaa.Gen
set_option linter.unusedVariables false
set_option linter.unusedSimpArgs false

def wf108 (x : S108) : Prop := (Lit.int .i64 x.f0).wf = true ∧ (Lit.int .i64 x.f1).wf = true ∧ (Lit.int .i64 x.f2).wf = true ∧ (Lit.int .i64 x.f3).wf = true
theorem wf_i64 {x : Int} (h : (Lit.int .i64 x).wf = true) : -9223372036854775808 ≤ x ∧ x ≤ 9223372036854775807 := by
  simp only [Lit.wf, Bool.and_eq_true, decide_eq_true_eq] at h
  exact ⟨h.1, h.2⟩
theorem wf_u8 {x : Int} (h : (Lit.int .u8 x).wf = true) : 0 ≤ x ∧ x ≤ 255 := by
  simp only [Lit.wf, Bool.and_eq_true, decide_eq_true_eq] at h
  exact ⟨h.1, h.2⟩
def right (x : S105) : Bool := decide (0 ≤ x.f0 ∧ x.f0 ≤ x.f1 ∧ x.f1 ≤ 400 ∧ 1 ≤ x.f2 ∧ x.f2 ≤ 8 ∧ 1 ≤ x.f3 ∧ x.f3 ≤ 1000)
def less (x y : S105) : Bool := decide (x.f0 < y.f0 ∨ (x.f0 = y.f0 ∧ (x.f1 < y.f1 ∨ (x.f1 = y.f1 ∧ x.f2 < y.f2))))
theorem specRight_f (x : S105) : spec_l07Right.f x.f0 x.f1 x.f2 x.f3 = some (right x) := by
  simp only [spec_l07Right.f, right]
  by_cases h1 : 0 ≤ x.f0 <;> by_cases h2 : x.f0 ≤ x.f1 <;> by_cases h3 : x.f1 ≤ 400 <;> by_cases h4 : 1 ≤ x.f2 <;> by_cases h5 : x.f2 ≤ 8 <;> by_cases h6 : 1 ≤ x.f3 <;> simp [h1, h2, h3, h4, h5, h6]
theorem implRight_f (x : S105) : impl_isLease.f x.f0 x.f1 x.f2 x.f3 = some (right x) := by
  simp only [impl_isLease.f, impl_isSession.f, impl_in.f, right]
  by_cases h1 : 0 ≤ x.f0 <;> by_cases h2 : x.f0 ≤ x.f1 <;> by_cases h3 : x.f1 ≤ 400 <;> by_cases h4 : 1 ≤ x.f2 <;> by_cases h5 : x.f2 ≤ 8 <;> by_cases h6 : 1 ≤ x.f3 <;> simp [h1, h2, h3, h4, h5, h6]
theorem specLess_f (x y : S105) : spec_l07Less.f x.f0 x.f1 x.f2 x.f3 y.f0 y.f1 y.f2 y.f3 = some (less x y) := by
  simp only [spec_l07Less.f, less]
  by_cases h1 : x.f0 = y.f0
  · by_cases h2 : x.f1 = y.f1 <;> simp [h1, h2]
  · simp [h1]
theorem compare_f (a b : Int) : cmp_Compare_int.f a b = some (if a < b then -1 else if b < a then 1 else 0) := by
  simp [cmp_Compare_int.f, cmp_isNaN_int.f]
  split
  · rfl
  · split <;> rfl
theorem implLess_f (k : Nat) (hk : 4 ≤ k) (x y : S105) : ∃ c, impl_compareLeases.f k x.f0 x.f1 x.f2 x.f3 y.f0 y.f1 y.f2 y.f3 = some c ∧ (c ≥ 0 ↔ less x y = false) := by
  obtain ⟨k, rfl⟩ : ∃ m, k = m + 4 := ⟨k - 4, by omega⟩
  simp only [impl_compareLeases.f, compare_f, Option.bind_some, cmp_Or_int.f, cmp_Or_int.l0, less]
  rcases Int.lt_trichotomy x.f0 y.f0 with h1 | h1 | h1
  · refine ⟨-1, ?_, ?_⟩
    · simp [h1, rd, wrap64]
    · simp [h1]
  · rcases Int.lt_trichotomy x.f1 y.f1 with h2 | h2 | h2
    · refine ⟨-1, ?_, ?_⟩
      · simp [h1, h2, rd, wrap64]
      · simp [h1, h2]
    · rcases Int.lt_trichotomy x.f2 y.f2 with h3 | h3 | h3
      · refine ⟨-1, ?_, ?_⟩
        · simp [h1, h2, h3, rd, wrap64]
        · simp [h1, h2, h3]
      · refine ⟨0, ?_, ?_⟩
        · simp [h1, h2, h3, rd, wrap64]
        · simp [h1, h2, h3]
      · refine ⟨1, ?_, ?_⟩
        · have h4 : ¬ x.f2 < y.f2 := by omega
          simp [h1, h2, h3, h4, rd, wrap64]
        · have h4 : ¬ x.f2 < y.f2 := by omega
          simp [h1, h2, h4]
    · refine ⟨1, ?_, ?_⟩
      · have h4 : ¬ x.f1 < y.f1 := by omega
        simp [h1, h2, h4, rd, wrap64]
      · have h4 : ¬ x.f1 < y.f1 := by omega
        have h5 : ¬ x.f1 = y.f1 := by omega
        simp [h1, h4, h5]
  · refine ⟨1, ?_, ?_⟩
    · have h4 : ¬ x.f0 < y.f0 := by omega
      simp [h1, h4, rd, wrap64]
    · have h4 : ¬ x.f0 < y.f0 := by omega
      have h5 : ¬ x.f0 = y.f0 := by omega
      simp [h4, h5]
def lget (l : List S105) (i : Nat) : S105 := l.getD i z105
theorem rdT_nat (l : List S105) (i : Nat) : rd_T105 l (i : Int) = lget l i := by simp [rd_T105, lget]
/-- The condition of place i. -/
def leaseAt (l : List S105) (i : Nat) : Bool := right (lget l i) && (i == 0 || less (lget l (i - 1)) (lget l i))
theorem specLeases_f (k : Nat) (l : List S105) (hk : l.length < k) (hl : l.length ≤ 1048576) :
    spec_LeasesOk.f k l = some (decide (l.length ≤ 12 ∧ ∀ i, i < l.length → leaseAt l i = true)) := by
  unfold spec_LeasesOk.f
  by_cases h : (l.length : Int) > 12
  · rw [if_pos h]
    congr 1
    symm
    exact decide_eq_false (fun H => by omega)
  · rw [if_neg h]
    obtain ⟨b, h1, h2⟩ := all_loop (L := fun k i => spec_LeasesOk.l0 k l i) l.length 0 (leaseAt l) (fun k i _ hi => by
      simp only [spec_LeasesOk.l0]
      rw [if_pos (by omega), if_pos (by omega), rdT_nat, specRight_f, w64s i (by omega)]
      simp only [Option.bind_some, leaseAt]
      by_cases hr : right (lget l i) = true
      · rw [if_pos hr]
        by_cases h0 : i = 0
        · subst h0; simp [hr]
        · rw [if_pos (show (i : Int) > 0 by omega), w64 (x := (i : Int) - 1) (by omega) (by omega), if_pos (by omega), if_pos (by omega), show (i : Int) - 1 = ((i - 1 : Nat) : Int) by omega, rdT_nat, specLess_f]
          simp [h0, hr]
      · rw [if_neg hr]
        simp [hr]) (fun k => by
      simp only [spec_LeasesOk.l0]
      rw [if_neg (by omega)]) k (by omega)
    refine h1.trans ?_
    congr 1
    rw [Bool.eq_iff_iff, h2, decide_eq_true_eq]
    exact ⟨fun H => ⟨by omega, H⟩, fun H => H.2⟩
theorem implLeases_f (k : Nat) (l : List S105) (hk : l.length + 4 < k) (hl : l.length ≤ 1048576) :
    impl_areLeases.f k l = some (decide (l.length ≤ 12 ∧ ∀ i, i < l.length → leaseAt l i = true)) := by
  unfold impl_areLeases.f
  have key : ∀ (d k i : Nat), i + d = l.length → d + 4 < k → ∃ b, impl_areLeases.l0 k l l (l.length : Int) (i : Int) = some b ∧ (b = true ↔ l.length ≤ 12 ∧ ∀ j, i ≤ j → j < l.length → leaseAt l j = true) := by
    intro d
    induction d with
    | zero =>
      intro k i hi hk
      obtain ⟨k, rfl, hk⟩ := pos_k hk
      simp only [impl_areLeases.l0]
      rw [if_neg (by omega)]
      refine ⟨_, rfl, ?_⟩
      rw [decide_eq_true_eq]
      exact ⟨fun H => ⟨by omega, fun j h1 h2 => by omega⟩, fun H => by omega⟩
    | succ d ih =>
      intro k i hi hk
      obtain ⟨k, rfl, hk⟩ := pos_k hk
      obtain ⟨b, h1, h2⟩ := ih k (i + 1) (by omega) (by omega)
      simp only [impl_areLeases.l0]
      rw [if_pos (by omega), if_pos (by omega), if_pos (by omega), rdT_nat, implRight_f, w64s i (by omega)]
      simp only [Option.bind_some]
      have split1 : (∀ j, i ≤ j → j < l.length → leaseAt l j = true) ↔ leaseAt l i = true ∧ ∀ j, i + 1 ≤ j → j < l.length → leaseAt l j = true := by
        constructor
        · exact fun H => ⟨H i (by omega) (by omega), fun j a b => H j (by omega) b⟩
        · intro H j a b
          by_cases e : j = i
          · subst e; exact H.1
          · exact H.2 j (by omega) b
      rw [split1]
      cases hr : right (lget l i) with
      | false =>
        refine ⟨false, by simp, ?_⟩
        simp [leaseAt, hr]
      | true =>
        rw [if_pos rfl]
        by_cases h0 : i = 0
        · subst h0
          refine ⟨b, by simpa using h1, ?_⟩
          rw [h2]
          simp [leaseAt, hr]
        · rw [if_pos (show (i : Int) > 0 by omega), w64 (x := (i : Int) - 1) (by omega) (by omega), if_pos (by omega), if_pos (by omega), show (i : Int) - 1 = ((i - 1 : Nat) : Int) by omega, rdT_nat]
          obtain ⟨c, hc, hc2⟩ := implLess_f k (by omega) (lget l (i - 1)) (lget l i)
          rw [hc]
          simp only [Option.bind_some]
          cases hs : less (lget l (i - 1)) (lget l i) with
          | false =>
            rw [if_pos (hc2.2 hs)]
            refine ⟨false, rfl, ?_⟩
            simp [leaseAt, hr, hs, h0]
          | true =>
            rw [if_neg (fun H => by rw [hc2.1 H] at hs; cases hs)]
            refine ⟨b, h1, ?_⟩
            rw [h2]
            simp [leaseAt, hr, hs]
  obtain ⟨b, h1, h2⟩ := key l.length k 0 (by omega) (by omega)
  refine h1.trans ?_
  congr 1
  rw [Bool.eq_iff_iff, h2, decide_eq_true_eq]
  exact ⟨fun H => ⟨H.1, fun i hi => H.2 i (by omega) hi⟩, fun H => ⟨H.1, fun i _ hi => H.2 i hi⟩⟩
def conv (x : S108) : S105 := ⟨x.f0, x.f1, x.f2, x.f3⟩
theorem toLeaseS_f (k : Nat) (l : List S108) (hk : l.length < k) (hl : l.length ≤ 1048576) : laws_toLeaseS.f k l = some (l.map conv) := by
  have h := map_loop (L := fun k out i => laws_toLeaseS.l0 k l out i) l conv z108 0 (fun k out i _ hi ho => by
      simp only [laws_toLeaseS.l0, laws_toLease.f, Option.bind_some]
      rw [if_pos (by omega), if_pos (by omega), if_pos (by omega), w64s i (by omega)]
      simp [rd_T108, conv]) (fun k out ho => by
      simp only [laws_toLeaseS.l0]
      rw [if_neg (by omega)]) k (List.replicate ((l.length : Int)).toNat z105) (by omega) (by simp)
  unfold laws_toLeaseS.f
  rw [if_pos (by omega), if_pos (by omega)]
  exact h
theorem eqLeaseS_self (k : Nat) (l : List S105) (hk : l.length < k) (hl : l.length ≤ 1048576) : laws_eqLeaseS.f k l l = some true := by
  unfold laws_eqLeaseS.f
  rw [if_pos rfl]
  obtain ⟨b, h, hb⟩ := all_loop (L := fun k i => laws_eqLeaseS.l0 k l l i) l.length 0 (fun _ => true) (fun k i _ hi => by
    simp only [laws_eqLeaseS.l0]
    rw [if_pos (by omega), if_pos (by omega), if_pos (by omega), w64s i (by omega)]
    simp [laws_eqLease.f]) (fun k => by
    simp only [laws_eqLeaseS.l0]
    rw [if_neg (by omega)]) k (by omega)
  rw [h, hb.2 (fun _ _ => rfl)]
theorem FnExactLeasesOk (l0 : List S108) (wl0 : (l0.length ≤ maxLen ∧ ∀ x ∈ l0, wf108 x)) : ∃ k, laws_FnExactLeasesOk.f k l0 = some true := by
  have ha := wl0.1
  unfold maxLen at ha
  refine ⟨l0.length + 6, ?_⟩
  generalize hk : l0.length + 6 = k
  have hsz : laws_szLeaseS.f l0 1048576 = some (if (l0.length : Int) ≤ 1048576 then 1048576 - (l0.length : Int) else -1) := by
    unfold laws_szLeaseS.f
    rw [w64 (x := 1048576 - (l0.length : Int)) (by omega) (by omega)]
    by_cases h : (l0.length : Int) ≤ 1048576
    · rw [if_neg (by omega), if_pos h]
    · rw [if_pos (by omega), if_neg h]
  unfold laws_FnExactLeasesOk.f
  rw [hsz]
  simp only [Option.bind_some]
  by_cases c1 : (l0.length : Int) ≤ 1048576
  · rw [if_pos c1, if_neg (by omega)]
    have hm : (l0.map conv).length = l0.length := by simp
    simp only [toLeaseS_f k l0 (by omega) (by omega), Option.bind_some, specLeases_f k (l0.map conv) (by omega) (by omega), impl_LeasesOk.f, implLeases_f k (l0.map conv) (by omega) (by omega), eqLeaseS_self k (l0.map conv) (by omega) (by omega)]
    simp
  · rw [if_neg c1, if_pos (by omega)]

end Go.Proofs.Ytcjonnddgklbfaa.Pure
