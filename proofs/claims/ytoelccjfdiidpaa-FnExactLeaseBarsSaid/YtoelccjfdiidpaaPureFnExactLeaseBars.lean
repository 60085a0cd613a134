/-
  The law FnExactLeaseBars in plain words: what the program's function computes is what the reference's computes. No memory, no machine.
-/
import Derived.Test.YtoelccjfdiidpaaPFnExactLeaseBarsx
import Derived.Test.YtoelccjfdiidpaaGen
namespace Go.Proofs.Ytoelccjfdiidpaa.Pure
open Go.RowKit Go.Proofs.Ytoelccjfdiidpaa.PFnExactLeaseBars Go.Proofs.YtoelccjfdiidpaaW.PrintWords Go.Proofs.YtoelccjfdiidpaaW.PrintLast Go.Proofs.YtoelccjfdiidpaaW.PrintMore Go.Proofs.Ytoelccjfdiidpaa.Gen
set_option linter.unusedVariables false
set_option linter.unusedSimpArgs false

def wf31 (x : S31) : Prop := (Lit.int .i64 x.f0).wf = true ∧ (Lit.int .i64 x.f1).wf = true ∧ (Lit.int .i64 x.f2).wf = true ∧ (Lit.int .i64 x.f3).wf = true
theorem wf_i64 {x : Int} (h : (Lit.int .i64 x).wf = true) : -9223372036854775808 ≤ x ∧ x ≤ 9223372036854775807 := by
  simp only [Lit.wf, Bool.and_eq_true, decide_eq_true_eq] at h
  exact ⟨h.1, h.2⟩
theorem wf_u8 {x : Int} (h : (Lit.int .u8 x).wf = true) : 0 ≤ x ∧ x ≤ 255 := by
  simp only [Lit.wf, Bool.and_eq_true, decide_eq_true_eq] at h
  exact ⟨h.1, h.2⟩
def right (x : S34) : Bool := decide (0 ≤ x.f0 ∧ x.f0 ≤ x.f1 ∧ x.f1 ≤ 400 ∧ 1 ≤ x.f2 ∧ x.f2 ≤ 8 ∧ 1 ≤ x.f3 ∧ x.f3 ≤ 1000)
def less (x y : S34) : Bool := decide (x.f0 < y.f0 ∨ (x.f0 = y.f0 ∧ (x.f1 < y.f1 ∨ (x.f1 = y.f1 ∧ x.f2 < y.f2))))
theorem specRight_f (x : S34) : spec_l07Right.f x.f0 x.f1 x.f2 x.f3 = some (right x) := by
  simp only [spec_l07Right.f, right]
  by_cases h1 : 0 ≤ x.f0 <;> by_cases h2 : x.f0 ≤ x.f1 <;> by_cases h3 : x.f1 ≤ 400 <;> by_cases h4 : 1 ≤ x.f2 <;> by_cases h5 : x.f2 ≤ 8 <;> by_cases h6 : 1 ≤ x.f3 <;> simp [h1, h2, h3, h4, h5, h6]
theorem implRight_f (x : S34) : impl_isLease.f x.f0 x.f1 x.f2 x.f3 = some (right x) := by
  simp only [impl_isLease.f, impl_isSession.f, impl_in.f, right]
  by_cases h1 : 0 ≤ x.f0 <;> by_cases h2 : x.f0 ≤ x.f1 <;> by_cases h3 : x.f1 ≤ 400 <;> by_cases h4 : 1 ≤ x.f2 <;> by_cases h5 : x.f2 ≤ 8 <;> by_cases h6 : 1 ≤ x.f3 <;> simp [h1, h2, h3, h4, h5, h6]
theorem specLess_f (x y : S34) : spec_l07Less.f x.f0 x.f1 x.f2 x.f3 y.f0 y.f1 y.f2 y.f3 = some (less x y) := by
  simp only [spec_l07Less.f, less]
  by_cases h1 : x.f0 = y.f0
  · by_cases h2 : x.f1 = y.f1 <;> simp [h1, h2]
  · simp [h1]
theorem compare_f (a b : Int) : cmp_Compare_int.f a b = some (if a < b then -1 else if b < a then 1 else 0) := by
  simp [cmp_Compare_int.f, cmp_isNaN_int.f]
  split
  · rfl
  · split <;> rfl
theorem implLess_f (k : Nat) (hk : 4 ≤ k) (x y : S34) : ∃ c, impl_compareLeases.f k x.f0 x.f1 x.f2 x.f3 y.f0 y.f1 y.f2 y.f3 = some c ∧ (c ≥ 0 ↔ less x y = false) := by
  obtain ⟨k, rfl⟩ : ∃ m, k = m + 4 := ⟨k - 4, by omega⟩
  simp only [impl_compareLeases.f, compare_f, Option.bind_some, cmp_Or_int.f, cmp_Or_int.l0, less]
  rcases Int.lt_trichotomy x.f0 y.f0 with h1 | h1 | h1
  · refine ⟨-1, ?_, ?_⟩
    · simp [h1, rd, wrap64]
    · simp [h1]
  · rcases Int.lt_trichotomy x.f1 y.f1 with h2 | h2 | h2
    · refine ⟨-1, ?_, ?_⟩
      · simp [h1, h2, rd, wrap64]
      · simp [h1, h2]
    · rcases Int.lt_trichotomy x.f2 y.f2 with h3 | h3 | h3
      · refine ⟨-1, ?_, ?_⟩
        · simp [h1, h2, h3, rd, wrap64]
        · simp [h1, h2, h3]
      · refine ⟨0, ?_, ?_⟩
        · simp [h1, h2, h3, rd, wrap64]
        · simp [h1, h2, h3]
      · refine ⟨1, ?_, ?_⟩
        · have h4 : ¬ x.f2 < y.f2 := by omega
          simp [h1, h2, h3, h4, rd, wrap64]
        · have h4 : ¬ x.f2 < y.f2 := by omega
          simp [h1, h2, h4]
    · refine ⟨1, ?_, ?_⟩
      · have h4 : ¬ x.f1 < y.f1 := by omega
        simp [h1, h2, h4, rd, wrap64]
      · have h4 : ¬ x.f1 < y.f1 := by omega
        have h5 : ¬ x.f1 = y.f1 := by omega
        simp [h1, h4, h5]
  · refine ⟨1, ?_, ?_⟩
    · have h4 : ¬ x.f0 < y.f0 := by omega
      simp [h1, h4, rd, wrap64]
    · have h4 : ¬ x.f0 < y.f0 := by omega
      have h5 : ¬ x.f0 = y.f0 := by omega
      simp [h4, h5]
def lget (l : List S34) (i : Nat) : S34 := l.getD i z34
theorem rdT_nat (l : List S34) (i : Nat) : rd_T34 l (i : Int) = lget l i := by simp [rd_T34, lget]
/-- The condition of place i. -/
def leaseAt (l : List S34) (i : Nat) : Bool := right (lget l i) && (i == 0 || less (lget l (i - 1)) (lget l i))
theorem specLeases_f (k : Nat) (l : List S34) (hk : l.length < k) (hl : l.length ≤ 1048576) :
    spec_LeasesOk.f k l = some (decide (l.length ≤ 12 ∧ ∀ i, i < l.length → leaseAt l i = true)) := by
  unfold spec_LeasesOk.f
  by_cases h : (l.length : Int) > 12
  · rw [if_pos h]
    congr 1
    symm
    exact decide_eq_false (fun H => by omega)
  · rw [if_neg h]
    obtain ⟨b, h1, h2⟩ := all_loop (L := fun k i => spec_LeasesOk.l0 k l i) l.length 0 (leaseAt l) (fun k i _ hi => by
      simp only [spec_LeasesOk.l0]
      rw [if_pos (by omega), if_pos (by omega), rdT_nat, specRight_f, w64s i (by omega)]
      simp only [Option.bind_some, leaseAt]
      by_cases hr : right (lget l i) = true
      · rw [if_pos hr]
        by_cases h0 : i = 0
        · subst h0; simp [hr]
        · rw [if_pos (show (i : Int) > 0 by omega), w64 (x := (i : Int) - 1) (by omega) (by omega), if_pos (by omega), if_pos (by omega), show (i : Int) - 1 = ((i - 1 : Nat) : Int) by omega, rdT_nat, specLess_f]
          simp [h0, hr]
      · rw [if_neg hr]
        simp [hr]) (fun k => by
      simp only [spec_LeasesOk.l0]
      rw [if_neg (by omega)]) k (by omega)
    refine h1.trans ?_
    congr 1
    rw [Bool.eq_iff_iff, h2, decide_eq_true_eq]
    exact ⟨fun H => ⟨by omega, H⟩, fun H => H.2⟩
theorem implLeases_f (k : Nat) (l : List S34) (hk : l.length + 4 < k) (hl : l.length ≤ 1048576) :
    impl_areLeases.f k l = some (decide (l.length ≤ 12 ∧ ∀ i, i < l.length → leaseAt l i = true)) := by
  unfold impl_areLeases.f
  have key : ∀ (d k i : Nat), i + d = l.length → d + 4 < k → ∃ b, impl_areLeases.l0 k l l (l.length : Int) (i : Int) = some b ∧ (b = true ↔ l.length ≤ 12 ∧ ∀ j, i ≤ j → j < l.length → leaseAt l j = true) := by
    intro d
    induction d with
    | zero =>
      intro k i hi hk
      obtain ⟨k, rfl, hk⟩ := pos_k hk
      simp only [impl_areLeases.l0]
      rw [if_neg (by omega)]
      refine ⟨_, rfl, ?_⟩
      rw [decide_eq_true_eq]
      exact ⟨fun H => ⟨by omega, fun j h1 h2 => by omega⟩, fun H => by omega⟩
    | succ d ih =>
      intro k i hi hk
      obtain ⟨k, rfl, hk⟩ := pos_k hk
      obtain ⟨b, h1, h2⟩ := ih k (i + 1) (by omega) (by omega)
      simp only [impl_areLeases.l0]
      rw [if_pos (by omega), if_pos (by omega), if_pos (by omega), rdT_nat, implRight_f, w64s i (by omega)]
      simp only [Option.bind_some]
      have split1 : (∀ j, i ≤ j → j < l.length → leaseAt l j = true) ↔ leaseAt l i = true ∧ ∀ j, i + 1 ≤ j → j < l.length → leaseAt l j = true := by
        constructor
        · exact fun H => ⟨H i (by omega) (by omega), fun j a b => H j (by omega) b⟩
        · intro H j a b
          by_cases e : j = i
          · subst e; exact H.1
          · exact H.2 j (by omega) b
      rw [split1]
      cases hr : right (lget l i) with
      | false =>
        refine ⟨false, by simp, ?_⟩
        simp [leaseAt, hr]
      | true =>
        rw [if_pos rfl]
        by_cases h0 : i = 0
        · subst h0
          refine ⟨b, by simpa using h1, ?_⟩
          rw [h2]
          simp [leaseAt, hr]
        · rw [if_pos (show (i : Int) > 0 by omega), w64 (x := (i : Int) - 1) (by omega) (by omega), if_pos (by omega), if_pos (by omega), show (i : Int) - 1 = ((i - 1 : Nat) : Int) by omega, rdT_nat]
          obtain ⟨c, hc, hc2⟩ := implLess_f k (by omega) (lget l (i - 1)) (lget l i)
          rw [hc]
          simp only [Option.bind_some]
          cases hs : less (lget l (i - 1)) (lget l i) with
          | false =>
            rw [if_pos (hc2.2 hs)]
            refine ⟨false, rfl, ?_⟩
            simp [leaseAt, hr, hs, h0]
          | true =>
            rw [if_neg (fun H => by rw [hc2.1 H] at hs; cases hs)]
            refine ⟨b, h1, ?_⟩
            rw [h2]
            simp [leaseAt, hr, hs]
  obtain ⟨b, h1, h2⟩ := key l.length k 0 (by omega) (by omega)
  refine h1.trans ?_
  congr 1
  rw [Bool.eq_iff_iff, h2, decide_eq_true_eq]
  exact ⟨fun H => ⟨H.1, fun i hi => H.2 i (by omega) hi⟩, fun H => ⟨H.1, fun i _ hi => H.2 i hi⟩⟩
def conv (x : S31) : S34 := ⟨x.f0, x.f1, x.f2, x.f3⟩
theorem toLeaseS_f (k : Nat) (l : List S31) (hk : l.length < k) (hl : l.length ≤ 1048576) : laws_toLeaseS.f k l = some (l.map conv) := by
  have h := map_loop (L := fun k out i => laws_toLeaseS.l0 k l out i) l conv z31 0 (fun k out i _ hi ho => by
      simp only [laws_toLeaseS.l0, laws_toLease.f, Option.bind_some]
      rw [if_pos (by omega), if_pos (by omega), if_pos (by omega), w64s i (by omega)]
      simp [rd_T31, conv]) (fun k out ho => by
      simp only [laws_toLeaseS.l0]
      rw [if_neg (by omega)]) k (List.replicate ((l.length : Int)).toNat z34) (by omega) (by simp)
  unfold laws_toLeaseS.f
  rw [if_pos (by omega), if_pos (by omega)]
  exact h
theorem eqLeaseS_self (k : Nat) (l : List S34) (hk : l.length < k) (hl : l.length ≤ 1048576) : laws_eqLeaseS.f k l l = some true := by
  unfold laws_eqLeaseS.f
  rw [if_pos rfl]
  obtain ⟨b, h, hb⟩ := all_loop (L := fun k i => laws_eqLeaseS.l0 k l l i) l.length 0 (fun _ => true) (fun k i _ hi => by
    simp only [laws_eqLeaseS.l0]
    rw [if_pos (by omega), if_pos (by omega), if_pos (by omega), w64s i (by omega)]
    simp [laws_eqLease.f]) (fun k => by
    simp only [laws_eqLeaseS.l0]
    rw [if_neg (by omega)]) k (by omega)
  rw [h, hb.2 (fun _ _ => rfl)]
/-- Are they leases? -/
def lok (l : List S34) : Bool := decide (l.length ≤ 12 ∧ ∀ i, i < l.length → leaseAt l i = true)
theorem szLeaseS_f (l : List S31) (hl : l.length ≤ 9223372036854775807) : laws_szLeaseS.f l 1048576 = some (if (l.length : Int) ≤ 1048576 then 1048576 - (l.length : Int) else -1) := by
  unfold laws_szLeaseS.f
  rw [w64 (x := 1048576 - (l.length : Int)) (by omega) (by omega)]
  by_cases h : (l.length : Int) ≤ 1048576
  · rw [if_neg (by omega), if_pos h]
  · rw [if_pos (by omega), if_neg h]
theorem rdset (l : List S34) (i : Nat) (a : S34) (h : i < l.length) : rd_T34 (l.set i a) (i : Int) = a := by
  unfold rd_T34
  rw [Int.toNat_natCast, List.getD_eq_getElem?_getD, List.getElem?_set_self h, Option.getD_some]
def lmarks (n : Nat) : List S34 := (List.range n).map fun j : Nat => ⟨1 + 4 * (j : Int), 1 + 4 * (j : Int) + 1, 1 + 4 * (j : Int) + 2, 1 + 4 * (j : Int) + 3⟩
theorem lmarks_length (n : Nat) : (lmarks n).length = n := by simp [lmarks]
theorem lmarks_get (n i : Nat) (h : i < n) : (lmarks n)[i]? = some ⟨1 + 4 * (i : Int), 1 + 4 * (i : Int) + 1, 1 + 4 * (i : Int) + 2, 1 + 4 * (i : Int) + 3⟩ := by
  rw [List.getElem?_eq_getElem (by simpa [lmarks] using h)]
  simp [lmarks]
theorem lmarks_rd (n i : Nat) (h : i < n) : rd_T34 (lmarks n) (i : Int) = ⟨1 + 4 * (i : Int), 1 + 4 * (i : Int) + 1, 1 + 4 * (i : Int) + 2, 1 + 4 * (i : Int) + 3⟩ := by
  unfold rd_T34
  rw [Int.toNat_natCast, List.getD_eq_getElem?_getD, lmarks_get n i h, Option.getD_some]
/-- A loop that looks for one of which a test holds. -/
theorem any_loop {α : Type} (da : α) (l : List α) (p : α → Bool) (N : Nat) {L : Nat → Int → Option Bool}
    (hstep : ∀ k (i : Nat), N ≤ k → i < l.length → L (k + 2) (i : Int) = if p (l.getD i da) = true then some true else L k ((i + 1 : Nat) : Int))
    (hend : ∀ k, N ≤ k → L (k + 2) (l.length : Int) = some false) : ∀ (k : Nat), 2 * l.length + N + 2 ≤ k → L k 0 = some (l.any p) := by
  have key : ∀ (d k i : Nat), i + d = l.length → 2 * d + N + 2 ≤ k → L k (i : Int) = some ((l.drop i).any p) := by
    intro d
    induction d with
    | zero =>
      intro k i hi hk
      obtain ⟨k, rfl⟩ : ∃ m, k = m + 2 := ⟨k - 2, by omega⟩
      obtain rfl : i = l.length := by omega
      rw [hend k (by omega), List.drop_length]
      rfl
    | succ d ih =>
      intro k i hi hk
      obtain ⟨k, rfl⟩ : ∃ m, k = m + 2 := ⟨k - 2, by omega⟩
      have hl : i < l.length := by omega
      rw [hstep k i (by omega) hl, List.getD_eq_getElem?_getD, List.getElem?_eq_getElem hl, Option.getD_some, List.drop_eq_getElem_cons hl, List.any_cons]
      by_cases h : p l[i] = true
      · rw [if_pos h, h, Bool.true_or]
      · rw [if_neg h, ih k (i + 1) (by omega) (by omega), Bool.eq_false_iff.2 h, Bool.false_or]
  intro k hk
  have := key l.length k 0 (by omega) (by omega)
  simpa using this
theorem szByteS_f (l : List Int) (a : Int) (h0 : 0 ≤ a) (h1 : a ≤ 1048576) (hl : l.length ≤ 9223372036854775807) :
    laws_szByteS.f l a = some (if (l.length : Int) ≤ a then a - (l.length : Int) else -1) := by
  unfold laws_szByteS.f
  rw [w64 (x := a - (l.length : Int)) (by omega) (by omega)]
  by_cases h : (l.length : Int) ≤ a
  · rw [if_neg (by omega), if_pos h]
  · rw [if_pos (by omega), if_neg h]
theorem szEdit_f (x y : Int) (l : List Int) (a : Int) (h0 : 0 ≤ a) (h1 : a ≤ 1048576) (hl : l.length ≤ 9223372036854775807) :
    laws_szEdit.f x y l a = some (if (l.length : Int) ≤ a then a - (l.length : Int) else -1) := by
  unfold laws_szEdit.f
  rw [szByteS_f l a h0 h1 hl]
  simp only [Option.bind_some]
  by_cases h : (l.length : Int) ≤ a
  · rw [if_pos h, if_neg (by omega)]
  · rw [if_neg h, if_pos (by omega)]
theorem toByteS_f (k : Nat) (l : List Int) (hk : l.length < k) (hl : l.length ≤ 1048576) : laws_toByteS.f k l = some l := by
  have h := map_loop (L := fun k out i => laws_toByteS.l0 k l out i) l id 0 0 (fun k out i _ hi ho => by
      simp only [laws_toByteS.l0]
      rw [if_pos (by omega), if_pos (by omega), if_pos (by omega), w64s i (by omega), rd_nat]
      rfl) (fun k out ho => by
      simp only [laws_toByteS.l0]
      rw [if_neg (by omega)]) k (List.replicate ((l.length : Int)).toNat 0) (by omega) (by simp)
  unfold laws_toByteS.f
  rw [if_pos (by omega), if_pos (by omega)]
  simpa using h
theorem toEdit_f (k : Nat) (x y : Int) (l : List Int) (hk : l.length < k) (hl : l.length ≤ 1048576) : laws_toEdit.f k x y l = some (x, y, l) := by
  unfold laws_toEdit.f
  rw [toByteS_f k l hk hl]
  rfl
theorem eqByteS_f (k : Nat) (l l' : List Int) (hk : l.length < k) (hl : l.length ≤ 1048576) : laws_eqByteS.f k l l' = some (decide (l = l')) := by
  unfold laws_eqByteS.f
  by_cases e : l.length = l'.length
  · rw [if_pos (by omega)]
    obtain ⟨b, h, hb⟩ := all_loop (L := fun k i => laws_eqByteS.l0 k l l' i) l.length 0 (fun i => decide (l.getD i 0 = l'.getD i 0)) (fun k i _ hi => by
      simp only [laws_eqByteS.l0]
      rw [if_pos (by omega), if_pos (by omega), if_pos (by omega), w64s i (by omega), rd_nat, rd_nat]
      simp only [decide_eq_true_eq]) (fun k => by
      simp only [laws_eqByteS.l0]
      rw [if_neg (by omega)]) k (by omega)
    refine h.trans ?_
    congr 1
    simp only [decide_eq_true_eq] at hb
    rw [Bool.eq_iff_iff, decide_eq_true_eq]
    exact hb.trans (eq_of_getD 0 e)
  · rw [if_neg (by omega)]
    congr 1
    symm
    exact decide_eq_false (fun h => e (by rw [h]))
theorem eqByteS_self (k : Nat) (l : List Int) (hk : l.length < k) (hl : l.length ≤ 1048576) : laws_eqByteS.f k l l = some true := by
  rw [eqByteS_f k l l hk hl]; simp
theorem eqEdit_self (k : Nat) (x y : Int) (l : List Int) (hk : l.length < k) (hl : l.length ≤ 1048576) : laws_eqEdit.f k x y l x y l = some true := by
  unfold laws_eqEdit.f
  rw [if_pos rfl, if_pos rfl, eqByteS_self k l hk hl]
  rfl
def small (x y : Int) (l : List Int) : Bool := decide (0 ≤ x ∧ x ≤ 400 ∧ 0 ≤ y ∧ y ≤ 400 ∧ (l.length : Int) ≤ 400)
theorem specSmall_f (x y : Int) (l : List Int) : spec_l05Small.f x y l = some (small x y l) := by
  simp only [spec_l05Small.f, spec_l02Small.f, small]
  by_cases h1 : 0 ≤ x <;> by_cases h2 : x ≤ 400 <;> by_cases h3 : 0 ≤ y <;> by_cases h4 : y ≤ 400 <;> simp [h1, h2, h3, h4]
theorem implSmall_f (x y : Int) (l : List Int) : impl_Edit_isSmall.f x y l = some (small x y l) := by
  simp only [impl_Edit_isSmall.f, impl_in.f, small]
  by_cases h1 : 0 ≤ x <;> by_cases h2 : x ≤ 400 <;> by_cases h3 : 0 ≤ y <;> by_cases h4 : y ≤ 400 <;> simp [h1, h2, h3, h4]
theorem specPlace_f (p : Int) : spec_l06Place.f p = some (decide (0 ≤ p ∧ p ≤ 800)) := by
  unfold spec_l06Place.f
  by_cases h : 0 ≤ p <;> simp [h]
theorem implPos_f (p : Int) : impl_isPos.f p = some (decide (0 ≤ p ∧ p ≤ 800)) := by
  unfold impl_isPos.f impl_in.f
  by_cases h : 0 ≤ p <;> simp [h]
theorem implHits_some (e0 e1 : Int) (l2 : List Int) (i j : Int) : ∃ b, impl_EditHits.f e0 e1 l2 i j = some b := by
  simp only [impl_EditHits.f, impl_Edit_hits.f, implSmall_f, implPos_f, Option.bind_some]
  (repeat' split) <;> exact ⟨_, rfl⟩
theorem specHits_f (k : Nat) (a0_0 a0_1 : Int) (l0_2 : List Int) (a1 a2 : Int) : spec_EditHits.f (k + 1) a0_0 a0_1 l0_2 a1 a2 = impl_EditHits.f a0_0 a0_1 l0_2 a1 a2 := by
  simp only [impl_EditHits.f, spec_EditHits.f, spec_EditHits.j0, impl_Edit_hits.f, specSmall_f, implSmall_f, specPlace_f, implPos_f, Option.bind_some]
  cases small a0_0 a0_1 l0_2 <;> by_cases h1 : 0 ≤ a1 ∧ a1 ≤ 800 <;> by_cases h2 : 0 ≤ a2 ∧ a2 ≤ 800 <;> by_cases h3 : a1 < a2 <;> by_cases h4 : a0_1 = 0 <;> by_cases h5 : a1 < a0_0 <;> by_cases h6 : a0_0 < a2 <;> simp [h1, h2, h3, h4, h5, h6, Int.not_le.2, Int.not_lt.1] <;> omega
def isHit (a1 e0 e1 : Int) (l2 : List Int) (a3 : Int) (x : S34) : Bool := impl_leaseBars.hit a1 e0 e1 l2 a3 x == some true
theorem hit_some (a1 e0 e1 : Int) (l2 : List Int) (a3 : Int) (x : S34) : impl_leaseBars.hit a1 e0 e1 l2 a3 x = some (isHit a1 e0 e1 l2 a3 x) := by
  unfold isHit
  obtain ⟨b, hb⟩ : ∃ b, impl_leaseBars.hit a1 e0 e1 l2 a3 x = some b := by
    unfold impl_leaseBars.hit
    split
    · exact ⟨_, rfl⟩
    · split
      · exact implHits_some _ _ _ _ _
      · exact ⟨_, rfl⟩
  rw [hb]
  cases b <;> rfl
theorem specBars_f (k : Nat) (l : List S34) (a1 e0 e1 : Int) (l2 : List Int) (a3 : Int) (hk : 3 * l.length + 8 < k) (hl : l.length ≤ 1048576) :
    spec_LeaseBars.f k l a1 e0 e1 l2 a3 = some (lok l && l.any (isHit a1 e0 e1 l2 a3)) := by
  unfold spec_LeaseBars.f
  cases hb : lok l with
  | false =>
    obtain ⟨k, rfl⟩ : ∃ m, k = m + 2 := ⟨k - 2, by omega⟩
    simp only [spec_LeaseBars.l0]
    rw [specLeases_f (k + 1) l (by omega) hl]
    unfold lok at hb
    rw [hb]
    simp [spec_LeaseBars.j1]
  | true =>
    rw [Bool.true_and]
    refine any_loop z34 l (isHit a1 e0 e1 l2 a3) (l.length + 1) (L := fun k i => spec_LeaseBars.l0 k l a1 a3 i e0 e1 l2) ?_ ?_ k (by omega)
    · intro k i hk hi
      obtain ⟨k, rfl⟩ : ∃ m, k = m + 1 := ⟨k - 1, by omega⟩
      simp only [spec_LeaseBars.l0]
      rw [specLeases_f (k + 1 + 1) l (by omega) hl]
      unfold lok at hb
      rw [hb]
      simp only [Option.bind_some, if_true, spec_LeaseBars.j1]
      rw [if_pos (by simp; omega), if_pos (by omega), if_pos (by omega), w64s i (by omega), rdT_nat]
      rw [show l.getD i z34 = lget l i from rfl, specHits_f]
      have hh := hit_some a1 e0 e1 l2 a3 (lget l i)
      unfold impl_leaseBars.hit at hh
      by_cases h : (lget l i).f2 = a1
      · rw [if_pos h] at hh ⊢
        rw [← Option.some.inj hh, if_neg (by decide)]
        simp only [spec_LeaseBars.l0]
      · rw [if_neg h] at hh ⊢
        by_cases h2 : (lget l i).f3 > a3
        · rw [if_pos h2] at hh ⊢
          rw [hh]
          rfl
        · rw [if_neg h2] at hh ⊢
          rw [← Option.some.inj hh, if_neg (by decide)]
          simp only [spec_LeaseBars.l0]
    · intro k hk
      simp only [spec_LeaseBars.l0]
      rw [specLeases_f (k + 1) l (by omega) hl]
      unfold lok at hb
      rw [hb]
      simp [spec_LeaseBars.j1]
theorem implBars_f (k : Nat) (l : List S34) (a1 e0 e1 : Int) (l2 : List Int) (a3 : Int) (hk : 3 * l.length + 8 < k) (hl : l.length ≤ 1048576) :
    impl_LeaseBars.f k l a1 e0 e1 l2 a3 = some (lok l && l.any (isHit a1 e0 e1 l2 a3)) := by
  unfold impl_LeaseBars.f impl_leaseBars.f
  rw [implLeases_f k l (by omega) hl]
  simp only [Option.bind_some]
  cases hb : lok l with
  | false =>
    unfold lok at hb
    rw [hb, if_neg (by decide)]
    rfl
  | true =>
    unfold lok at hb
    rw [hb, if_pos rfl, if_pos ⟨hl, List.all_eq_true.2 (fun x _ => by rw [hit_some]; rfl)⟩]
    rfl
theorem FnExactLeaseBars (l0 : List S31) (a1 : Int) (a2_0 : Int) (a2_1 : Int) (l2_2 : List Int) (a3 : Int) (wl0 : (l0.length ≤ maxLen ∧ ∀ x ∈ l0, wf31 x)) (wa1 : (Lit.int .i64 a1).wf = true) (wa2_0 : (Lit.int .i64 a2_0).wf = true) (wa2_1 : (Lit.int .i64 a2_1).wf = true) (wl2_2 : (l2_2.length ≤ maxLen ∧ ∀ x ∈ l2_2, (Lit.int .u8 x).wf = true)) (wa3 : (Lit.int .i64 a3).wf = true) : ∃ k, laws_FnExactLeaseBars.f k l0 a1 a2_0 a2_1 l2_2 a3 = some true := by
  have ha := wl0.1
  have hb := wl2_2.1
  unfold maxLen at ha hb
  refine ⟨3 * l0.length + l2_2.length + 20, ?_⟩
  generalize hk : 3 * l0.length + l2_2.length + 20 = k
  unfold laws_FnExactLeaseBars.f
  rw [szLeaseS_f l0 (by omega)]
  simp only [Option.bind_some]
  by_cases c1 : (l0.length : Int) ≤ 1048576
  · rw [if_pos c1, if_neg (by omega), szEdit_f _ _ _ _ (by omega) (by omega) hb]
    simp only [Option.bind_some]
    by_cases c2 : (l2_2.length : Int) ≤ 1048576 - (l0.length : Int)
    · rw [if_pos c2, if_neg (by omega)]
      have hm : (l0.map conv).length = l0.length := by simp
      simp only [toLeaseS_f k l0 (by omega) (by omega), Option.bind_some, toEdit_f k _ _ l2_2 (by omega) (by omega), specBars_f k (l0.map conv) a1 a2_0 a2_1 l2_2 a3 (by omega) (by omega), implBars_f k (l0.map conv) a1 a2_0 a2_1 l2_2 a3 (by omega) (by omega), eqLeaseS_self k (l0.map conv) (by omega) (by omega), eqEdit_self k a2_0 a2_1 l2_2 (by omega) (by omega)]
      simp
    · rw [if_neg c2, if_pos (by omega)]
  · rw [if_neg c1, if_pos (by omega)]

end Go.Proofs.Ytoelccjfdiidpaa.Pure
