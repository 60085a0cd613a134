/-
  The law FnExactLeaseExpire in plain words: what the program's function computes is what the reference's computes. No memory, no machine.
-/
import Derived.Test.YtoelccjfdiidpaaPFnExactLeaseExpirex
import Derived.Test.YtoelccjfdiidpaaGen
namespace Go.Proofs.Ytoelccjfdiidpaa.Pure
open Go.RowKit Go.Proofs.Ytoelccjfdiidpaa.PFnExactLeaseExpire Go.Proofs.YtoelccjfdiidpaaW.PrintWords Go.Proofs.YtoelccjfdiidpaaW.PrintLast Go.Proofs.YtoelccjfdiidpaaW.PrintMore Go.Proofs.Ytoelccjfdiidpaa.Gen
set_option linter.unusedVariables false
set_option linter.unusedSimpArgs false

def wf31 (x : S31) : Prop := (Lit.int .i64 x.f0).wf = true ∧ (Lit.int .i64 x.f1).wf = true ∧ (Lit.int .i64 x.f2).wf = true ∧ (Lit.int .i64 x.f3).wf = true
theorem wf_i64 {x : Int} (h : (Lit.int .i64 x).wf = true) : -9223372036854775808 ≤ x ∧ x ≤ 9223372036854775807 := by
  simp only [Lit.wf, Bool.and_eq_true, decide_eq_true_eq] at h
  exact ⟨h.1, h.2⟩
theorem wf_u8 {x : Int} (h : (Lit.int .u8 x).wf = true) : 0 ≤ x ∧ x ≤ 255 := by
  simp only [Lit.wf, Bool.and_eq_true, decide_eq_true_eq] at h
  exact ⟨h.1, h.2⟩
def right (x : S34) : Bool := decide (0 ≤ x.f0 ∧ x.f0 ≤ x.f1 ∧ x.f1 ≤ 400 ∧ 1 ≤ x.f2 ∧ x.f2 ≤ 8 ∧ 1 ≤ x.f3 ∧ x.f3 ≤ 1000)
def less (x y : S34) : Bool := decide (x.f0 < y.f0 ∨ (x.f0 = y.f0 ∧ (x.f1 < y.f1 ∨ (x.f1 = y.f1 ∧ x.f2 < y.f2))))
theorem specRight_f (x : S34) : spec_l07Right.f x.f0 x.f1 x.f2 x.f3 = some (right x) := by
  simp only [spec_l07Right.f, right]
  by_cases h1 : 0 ≤ x.f0 <;> by_cases h2 : x.f0 ≤ x.f1 <;> by_cases h3 : x.f1 ≤ 400 <;> by_cases h4 : 1 ≤ x.f2 <;> by_cases h5 : x.f2 ≤ 8 <;> by_cases h6 : 1 ≤ x.f3 <;> simp [h1, h2, h3, h4, h5, h6]
theorem implRight_f (x : S34) : impl_isLease.f x.f0 x.f1 x.f2 x.f3 = some (right x) := by
  simp only [impl_isLease.f, impl_isSession.f, impl_in.f, right]
  by_cases h1 : 0 ≤ x.f0 <;> by_cases h2 : x.f0 ≤ x.f1 <;> by_cases h3 : x.f1 ≤ 400 <;> by_cases h4 : 1 ≤ x.f2 <;> by_cases h5 : x.f2 ≤ 8 <;> by_cases h6 : 1 ≤ x.f3 <;> simp [h1, h2, h3, h4, h5, h6]
theorem specLess_f (x y : S34) : spec_l07Less.f x.f0 x.f1 x.f2 x.f3 y.f0 y.f1 y.f2 y.f3 = some (less x y) := by
  simp only [spec_l07Less.f, less]
  by_cases h1 : x.f0 = y.f0
  · by_cases h2 : x.f1 = y.f1 <;> simp [h1, h2]
  · simp [h1]
theorem compare_f (a b : Int) : cmp_Compare_int.f a b = some (if a < b then -1 else if b < a then 1 else 0) := by
  simp [cmp_Compare_int.f, cmp_isNaN_int.f]
  split
  · rfl
  · split <;> rfl
theorem implLess_f (k : Nat) (hk : 4 ≤ k) (x y : S34) : ∃ c, impl_compareLeases.f k x.f0 x.f1 x.f2 x.f3 y.f0 y.f1 y.f2 y.f3 = some c ∧ (c ≥ 0 ↔ less x y = false) := by
  obtain ⟨k, rfl⟩ : ∃ m, k = m + 4 := ⟨k - 4, by omega⟩
  simp only [impl_compareLeases.f, compare_f, Option.bind_some, cmp_Or_int.f, cmp_Or_int.l0, less]
  rcases Int.lt_trichotomy x.f0 y.f0 with h1 | h1 | h1
  · refine ⟨-1, ?_, ?_⟩
    · simp [h1, rd, wrap64]
    · simp [h1]
  · rcases Int.lt_trichotomy x.f1 y.f1 with h2 | h2 | h2
    · refine ⟨-1, ?_, ?_⟩
      · simp [h1, h2, rd, wrap64]
      · simp [h1, h2]
    · rcases Int.lt_trichotomy x.f2 y.f2 with h3 | h3 | h3
      · refine ⟨-1, ?_, ?_⟩
        · simp [h1, h2, h3, rd, wrap64]
        · simp [h1, h2, h3]
      · refine ⟨0, ?_, ?_⟩
        · simp [h1, h2, h3, rd, wrap64]
        · simp [h1, h2, h3]
      · refine ⟨1, ?_, ?_⟩
        · have h4 : ¬ x.f2 < y.f2 := by omega
          simp [h1, h2, h3, h4, rd, wrap64]
        · have h4 : ¬ x.f2 < y.f2 := by omega
          simp [h1, h2, h4]
    · refine ⟨1, ?_, ?_⟩
      · have h4 : ¬ x.f1 < y.f1 := by omega
        simp [h1, h2, h4, rd, wrap64]
      · have h4 : ¬ x.f1 < y.f1 := by omega
        have h5 : ¬ x.f1 = y.f1 := by omega
        simp [h1, h4, h5]
  · refine ⟨1, ?_, ?_⟩
    · have h4 : ¬ x.f0 < y.f0 := by omega
      simp [h1, h4, rd, wrap64]
    · have h4 : ¬ x.f0 < y.f0 := by omega
      have h5 : ¬ x.f0 = y.f0 := by omega
      simp [h4, h5]
def lget (l : List S34) (i : Nat) : S34 := l.getD i z34
theorem rdT_nat (l : List S34) (i : Nat) : rd_T34 l (i : Int) = lget l i := by simp [rd_T34, lget]
/-- The condition of place i. -/
def leaseAt (l : List S34) (i : Nat) : Bool := right (lget l i) && (i == 0 || less (lget l (i - 1)) (lget l i))
theorem specLeases_f (k : Nat) (l : List S34) (hk : l.length < k) (hl : l.length ≤ 1048576) :
    spec_LeasesOk.f k l = some (decide (l.length ≤ 12 ∧ ∀ i, i < l.length → leaseAt l i = true)) := by
  unfold spec_LeasesOk.f
  by_cases h : (l.length : Int) > 12
  · rw [if_pos h]
    congr 1
    symm
    exact decide_eq_false (fun H => by omega)
  · rw [if_neg h]
    obtain ⟨b, h1, h2⟩ := all_loop (L := fun k i => spec_LeasesOk.l0 k l i) l.length 0 (leaseAt l) (fun k i _ hi => by
      simp only [spec_LeasesOk.l0]
      rw [if_pos (by omega), if_pos (by omega), rdT_nat, specRight_f, w64s i (by omega)]
      simp only [Option.bind_some, leaseAt]
      by_cases hr : right (lget l i) = true
      · rw [if_pos hr]
        by_cases h0 : i = 0
        · subst h0; simp [hr]
        · rw [if_pos (show (i : Int) > 0 by omega), w64 (x := (i : Int) - 1) (by omega) (by omega), if_pos (by omega), if_pos (by omega), show (i : Int) - 1 = ((i - 1 : Nat) : Int) by omega, rdT_nat, specLess_f]
          simp [h0, hr]
      · rw [if_neg hr]
        simp [hr]) (fun k => by
      simp only [spec_LeasesOk.l0]
      rw [if_neg (by omega)]) k (by omega)
    refine h1.trans ?_
    congr 1
    rw [Bool.eq_iff_iff, h2, decide_eq_true_eq]
    exact ⟨fun H => ⟨by omega, H⟩, fun H => H.2⟩
theorem implLeases_f (k : Nat) (l : List S34) (hk : l.length + 4 < k) (hl : l.length ≤ 1048576) :
    impl_areLeases.f k l = some (decide (l.length ≤ 12 ∧ ∀ i, i < l.length → leaseAt l i = true)) := by
  unfold impl_areLeases.f
  have key : ∀ (d k i : Nat), i + d = l.length → d + 4 < k → ∃ b, impl_areLeases.l0 k l l (l.length : Int) (i : Int) = some b ∧ (b = true ↔ l.length ≤ 12 ∧ ∀ j, i ≤ j → j < l.length → leaseAt l j = true) := by
    intro d
    induction d with
    | zero =>
      intro k i hi hk
      obtain ⟨k, rfl, hk⟩ := pos_k hk
      simp only [impl_areLeases.l0]
      rw [if_neg (by omega)]
      refine ⟨_, rfl, ?_⟩
      rw [decide_eq_true_eq]
      exact ⟨fun H => ⟨by omega, fun j h1 h2 => by omega⟩, fun H => by omega⟩
    | succ d ih =>
      intro k i hi hk
      obtain ⟨k, rfl, hk⟩ := pos_k hk
      obtain ⟨b, h1, h2⟩ := ih k (i + 1) (by omega) (by omega)
      simp only [impl_areLeases.l0]
      rw [if_pos (by omega), if_pos (by omega), if_pos (by omega), rdT_nat, implRight_f, w64s i (by omega)]
      simp only [Option.bind_some]
      have split1 : (∀ j, i ≤ j → j < l.length → leaseAt l j = true) ↔ leaseAt l i = true ∧ ∀ j, i + 1 ≤ j → j < l.length → leaseAt l j = true := by
        constructor
        · exact fun H => ⟨H i (by omega) (by omega), fun j a b => H j (by omega) b⟩
        · intro H j a b
          by_cases e : j = i
          · subst e; exact H.1
          · exact H.2 j (by omega) b
      rw [split1]
      cases hr : right (lget l i) with
      | false =>
        refine ⟨false, by simp, ?_⟩
        simp [leaseAt, hr]
      | true =>
        rw [if_pos rfl]
        by_cases h0 : i = 0
        · subst h0
          refine ⟨b, by simpa using h1, ?_⟩
          rw [h2]
          simp [leaseAt, hr]
        · rw [if_pos (show (i : Int) > 0 by omega), w64 (x := (i : Int) - 1) (by omega) (by omega), if_pos (by omega), if_pos (by omega), show (i : Int) - 1 = ((i - 1 : Nat) : Int) by omega, rdT_nat]
          obtain ⟨c, hc, hc2⟩ := implLess_f k (by omega) (lget l (i - 1)) (lget l i)
          rw [hc]
          simp only [Option.bind_some]
          cases hs : less (lget l (i - 1)) (lget l i) with
          | false =>
            rw [if_pos (hc2.2 hs)]
            refine ⟨false, rfl, ?_⟩
            simp [leaseAt, hr, hs, h0]
          | true =>
            rw [if_neg (fun H => by rw [hc2.1 H] at hs; cases hs)]
            refine ⟨b, h1, ?_⟩
            rw [h2]
            simp [leaseAt, hr, hs]
  obtain ⟨b, h1, h2⟩ := key l.length k 0 (by omega) (by omega)
  refine h1.trans ?_
  congr 1
  rw [Bool.eq_iff_iff, h2, decide_eq_true_eq]
  exact ⟨fun H => ⟨H.1, fun i hi => H.2 i (by omega) hi⟩, fun H => ⟨H.1, fun i _ hi => H.2 i hi⟩⟩
def conv (x : S31) : S34 := ⟨x.f0, x.f1, x.f2, x.f3⟩
theorem toLeaseS_f (k : Nat) (l : List S31) (hk : l.length < k) (hl : l.length ≤ 1048576) : laws_toLeaseS.f k l = some (l.map conv) := by
  have h := map_loop (L := fun k out i => laws_toLeaseS.l0 k l out i) l conv z31 0 (fun k out i _ hi ho => by
      simp only [laws_toLeaseS.l0, laws_toLease.f, Option.bind_some]
      rw [if_pos (by omega), if_pos (by omega), if_pos (by omega), w64s i (by omega)]
      simp [rd_T31, conv]) (fun k out ho => by
      simp only [laws_toLeaseS.l0]
      rw [if_neg (by omega)]) k (List.replicate ((l.length : Int)).toNat z34) (by omega) (by simp)
  unfold laws_toLeaseS.f
  rw [if_pos (by omega), if_pos (by omega)]
  exact h
theorem eqLeaseS_self (k : Nat) (l : List S34) (hk : l.length < k) (hl : l.length ≤ 1048576) : laws_eqLeaseS.f k l l = some true := by
  unfold laws_eqLeaseS.f
  rw [if_pos rfl]
  obtain ⟨b, h, hb⟩ := all_loop (L := fun k i => laws_eqLeaseS.l0 k l l i) l.length 0 (fun _ => true) (fun k i _ hi => by
    simp only [laws_eqLeaseS.l0]
    rw [if_pos (by omega), if_pos (by omega), if_pos (by omega), w64s i (by omega)]
    simp [laws_eqLease.f]) (fun k => by
    simp only [laws_eqLeaseS.l0]
    rw [if_neg (by omega)]) k (by omega)
  rw [h, hb.2 (fun _ _ => rfl)]
/-- Are they leases? -/
def lok (l : List S34) : Bool := decide (l.length ≤ 12 ∧ ∀ i, i < l.length → leaseAt l i = true)
theorem szLeaseS_f (l : List S31) (hl : l.length ≤ 9223372036854775807) : laws_szLeaseS.f l 1048576 = some (if (l.length : Int) ≤ 1048576 then 1048576 - (l.length : Int) else -1) := by
  unfold laws_szLeaseS.f
  rw [w64 (x := 1048576 - (l.length : Int)) (by omega) (by omega)]
  by_cases h : (l.length : Int) ≤ 1048576
  · rw [if_neg (by omega), if_pos h]
  · rw [if_pos (by omega), if_neg h]
theorem rdset (l : List S34) (i : Nat) (a : S34) (h : i < l.length) : rd_T34 (l.set i a) (i : Int) = a := by
  unfold rd_T34
  rw [Int.toNat_natCast, List.getD_eq_getElem?_getD, List.getElem?_set_self h, Option.getD_some]
def lmarks (n : Nat) : List S34 := (List.range n).map fun j : Nat => ⟨1 + 4 * (j : Int), 1 + 4 * (j : Int) + 1, 1 + 4 * (j : Int) + 2, 1 + 4 * (j : Int) + 3⟩
theorem lmarks_length (n : Nat) : (lmarks n).length = n := by simp [lmarks]
theorem lmarks_get (n i : Nat) (h : i < n) : (lmarks n)[i]? = some ⟨1 + 4 * (i : Int), 1 + 4 * (i : Int) + 1, 1 + 4 * (i : Int) + 2, 1 + 4 * (i : Int) + 3⟩ := by
  rw [List.getElem?_eq_getElem (by simpa [lmarks] using h)]
  simp [lmarks]
theorem lmarks_rd (n i : Nat) (h : i < n) : rd_T34 (lmarks n) (i : Int) = ⟨1 + 4 * (i : Int), 1 + 4 * (i : Int) + 1, 1 + 4 * (i : Int) + 2, 1 + 4 * (i : Int) + 3⟩ := by
  unfold rd_T34
  rw [Int.toNat_natCast, List.getD_eq_getElem?_getD, lmarks_get n i h, Option.getD_some]
theorem markLeaseS_f (k : Nat) (l : List S34) (hk : l.length < k) (hl : l.length ≤ 1048576) : laws_markLeaseS.f k l 1 = some (1 + 4 * (l.length : Int), lmarks l.length) := by
  have key : ∀ (n d k i : Nat) (out : List S34), n ≤ 1048576 → i + d = n → d < k → out.length = n → (∀ j, j < i → out[j]? = (lmarks n)[j]?) → laws_markLeaseS.l0 k out (1 + 4 * (i : Int)) (i : Int) = some (1 + 4 * (n : Int), lmarks n) := by
    intro n d
    induction d with
    | zero =>
      intro k i out hn hi hk ho hj
      obtain ⟨k, rfl, hk⟩ := pos_k hk
      obtain rfl : i = n := by omega
      simp only [laws_markLeaseS.l0]
      rw [if_neg (by omega)]
      congr 2
      apply List.ext_getElem?
      intro j
      by_cases h : j < i
      · exact hj j h
      · rw [List.getElem?_eq_none (by omega), List.getElem?_eq_none (by rw [lmarks_length]; omega)]
    | succ d ih =>
      intro k i out hn hi hk ho hj
      obtain ⟨k, rfl, hk⟩ := pos_k hk
      simp only [laws_markLeaseS.l0]
      rw [if_pos (by omega), if_pos (by omega)]
      simp only [Option.bind_some, Int.toNat_natCast]
      rw [w64 (x := 1 + 4 * (i : Int) + 1) (by omega) (by omega), w64 (x := 1 + 4 * (i : Int) + 1 + 1) (by omega) (by omega), w64 (x := 1 + 4 * (i : Int) + 1 + 1 + 1) (by omega) (by omega), w64 (x := 1 + 4 * (i : Int) + 1 + 1 + 1 + 1) (by omega) (by omega), w64s i (by omega)]
      simp only [List.set_set, rdset, ho, show i < n by omega]
      rw [show 1 + 4 * (i : Int) + 1 + 1 + 1 + 1 = 1 + 4 * ((i + 1 : Nat) : Int) by omega, show 1 + 4 * (i : Int) + 1 + 1 + 1 = 1 + 4 * (i : Int) + 3 by omega, show 1 + 4 * (i : Int) + 1 + 1 = 1 + 4 * (i : Int) + 2 by omega]
      refine ih k (i + 1) _ hn (by omega) (by omega) (by simpa using ho) ?_
      intro j hj'
      by_cases e : j = i
      · subst e
        rw [List.getElem?_set_self (by omega), lmarks_get n j (by omega)]
      · rw [List.getElem?_set_ne (by omega)]
        exact hj j (by omega)
  have := key l.length l.length k 0 l hl (by omega) hk rfl (fun j hj => by omega)
  simpa [laws_markLeaseS.f] using this
theorem heldLeaseS_f (k n : Nat) (hk : n < k) (hl : n ≤ 1048576) : laws_heldLeaseS.f k (lmarks n) 1 = some (1 + 4 * (n : Int)) := by
  have key : ∀ (d k i : Nat), i + d = n → d < k → laws_heldLeaseS.l0 k (lmarks n) (1 + 4 * (i : Int)) (i : Int) = some (1 + 4 * (n : Int)) := by
    intro d
    induction d with
    | zero =>
      intro k i hi hk
      obtain ⟨k, rfl, hk⟩ := pos_k hk
      obtain rfl : i = n := by omega
      simp only [laws_heldLeaseS.l0, lmarks_length]
      rw [if_neg (by omega)]
    | succ d ih =>
      intro k i hi hk
      obtain ⟨k, rfl, hk⟩ := pos_k hk
      simp only [laws_heldLeaseS.l0, lmarks_length]
      rw [if_pos (by omega), if_pos (by omega), lmarks_rd n i (by omega)]
      rw [w64 (x := 1 + 4 * (i : Int) + 1) (by omega) (by omega), w64 (x := 1 + 4 * (i : Int) + 1 + 1) (by omega) (by omega), w64 (x := 1 + 4 * (i : Int) + 1 + 1 + 1) (by omega) (by omega), w64 (x := 1 + 4 * (i : Int) + 1 + 1 + 1 + 1) (by omega) (by omega), w64s i (by omega)]
      rw [if_pos rfl, if_pos rfl, if_pos (by simp only []; omega), if_pos (by simp only []; omega), show 1 + 4 * (i : Int) + 1 + 1 + 1 + 1 = 1 + 4 * ((i + 1 : Nat) : Int) by omega]
      exact ih k (i + 1) (by omega) (by omega)
  have := key n k 0 (by omega) hk
  simpa [laws_heldLeaseS.f] using this
/-- A loop that keeps what a test says. -/
theorem filt_loop {α : Type} (da : α) (l : List α) (p : α → Bool) (N : Nat) {L : Nat → List α → Int → Option (List α)}
    (hstep : ∀ k (out : List α) (i : Nat), N ≤ k → i < l.length → out.length ≤ i → L (k + 2) out (i : Int) = L k (if p (l.getD i da) = true then out ++ [l.getD i da] else out) ((i + 1 : Nat) : Int))
    (hend : ∀ k (out : List α), N ≤ k → L (k + 2) out (l.length : Int) = some out) : ∀ (k : Nat), 2 * l.length + N + 2 ≤ k → L k [] 0 = some (l.filter p) := by
  have key : ∀ (d k i : Nat) (out : List α), i + d = l.length → 2 * d + N + 2 ≤ k → out.length ≤ i → L k out (i : Int) = some (out ++ (l.drop i).filter p) := by
    intro d
    induction d with
    | zero =>
      intro k i out hi hk ho
      obtain ⟨k, rfl⟩ : ∃ m, k = m + 2 := ⟨k - 2, by omega⟩
      obtain rfl : i = l.length := by omega
      rw [hend k out (by omega), List.drop_length, List.filter_nil, List.append_nil]
    | succ d ih =>
      intro k i out hi hk ho
      obtain ⟨k, rfl⟩ : ∃ m, k = m + 2 := ⟨k - 2, by omega⟩
      have hl : i < l.length := by omega
      rw [hstep k out i (by omega) hl ho, List.getD_eq_getElem?_getD, List.getElem?_eq_getElem hl, Option.getD_some, List.drop_eq_getElem_cons hl, List.filter_cons]
      by_cases h : p l[i] = true
      · rw [if_pos h, if_pos h, ih k (i + 1) _ (by omega) (by omega) (by rw [List.length_append, List.length_singleton]; omega), List.append_assoc, List.singleton_append]
      · rw [if_neg h, if_neg h, ih k (i + 1) _ (by omega) (by omega) (by omega)]
  intro k hk
  have := key l.length k 0 [] (by omega) (by omega) (by simp)
  simpa using this
theorem specAll_f (k : Nat) (l : List S34) (a1 : Int) (hk : 3 * l.length + 8 < k) (hl : l.length ≤ 1048576) :
    spec_LeaseExpire.f k l a1 = some (if lok l = true then l.filter (impl_LeaseExpire.so a1) else []) := by
  unfold spec_LeaseExpire.f
  cases hb : lok l with
  | false =>
    obtain ⟨k, rfl⟩ : ∃ m, k = m + 2 := ⟨k - 2, by omega⟩
    simp only [spec_LeaseExpire.l0]
    rw [specLeases_f (k + 1) l (by omega) hl]
    unfold lok at hb
    rw [hb]
    simp [spec_LeaseExpire.j1]
  | true =>
    rw [if_pos rfl]
    refine filt_loop z34 l (impl_LeaseExpire.so a1) (l.length + 1) (L := fun k out i => spec_LeaseExpire.l0 k l a1 out i) ?_ ?_ k (by omega)
    · intro k out i hk hi ho
      simp only [spec_LeaseExpire.l0]
      rw [specLeases_f (k + 1) l (by omega) hl]
      unfold lok at hb
      rw [hb]
      simp only [Option.bind_some, if_true, spec_LeaseExpire.j1]
      rw [if_pos (by simp; omega), if_pos (by omega), if_pos (by omega), w64s i (by omega), rdT_nat]
      rw [show l.getD i z34 = lget l i from rfl]
      by_cases h : (lget l i).f3 > a1
      · rw [if_pos h, if_pos (by omega), if_pos (show impl_LeaseExpire.so a1 (lget l i) = true by simpa [impl_LeaseExpire.so] using h)]
      · rw [if_neg h, if_neg (show ¬ impl_LeaseExpire.so a1 (lget l i) = true by simpa [impl_LeaseExpire.so] using h)]
    · intro k out hk
      simp only [spec_LeaseExpire.l0]
      rw [specLeases_f (k + 1) l (by omega) hl]
      unfold lok at hb
      rw [hb]
      simp [spec_LeaseExpire.j1]
theorem implAll_f (k : Nat) (l : List S34) (a1 : Int) (hk : l.length + 8 < k) (hl : l.length ≤ 1048576) :
    impl_LeaseExpire.f k l a1 = some (if lok l = true then l.filter (impl_LeaseExpire.so a1) else []) := by
  unfold impl_LeaseExpire.f
  rw [if_pos hl, implLeases_f k l (by omega) hl]
  simp only [Option.bind_some, lok]
  exact (apply_ite some _ _ _).symm
theorem FnExactLeaseExpire (l0 : List S31) (a1 : Int) (wl0 : (l0.length ≤ maxLen ∧ ∀ x ∈ l0, wf31 x)) (wa1 : (Lit.int .i64 a1).wf = true) : ∃ k, laws_FnExactLeaseExpire.f k l0 a1 = some true := by
  have ha := wl0.1
  unfold maxLen at ha
  refine ⟨3 * l0.length + 20, ?_⟩
  generalize hk : 3 * l0.length + 20 = k
  unfold laws_FnExactLeaseExpire.f
  rw [szLeaseS_f l0 (by omega)]
  simp only [Option.bind_some]
  by_cases c1 : (l0.length : Int) ≤ 1048576
  · rw [if_pos c1, if_neg (by omega)]
    have hm : (l0.map conv).length = l0.length := by simp
    obtain ⟨k, rfl⟩ : ∃ m, k = m + 1 := ⟨k - 1, by omega⟩
    have hg : (if lok (l0.map conv) = true then (l0.map conv).filter (impl_LeaseExpire.so a1) else []).length ≤ l0.length := by
      split
      · exact Nat.le_trans (List.length_filter_le _ _) (by omega)
      · simp
    simp only [toLeaseS_f (k + 1) l0 (by omega) (by omega), Option.bind_some, specAll_f (k + 1) (l0.map conv) a1 (by omega) (by omega), implAll_f (k + 1) (l0.map conv) a1 (by omega) (by omega)]
    generalize hgd : (if lok (l0.map conv) = true then (l0.map conv).filter (impl_LeaseExpire.so a1) else []) = g at hg ⊢
    simp only [eqLeaseS_self (k + 1) (l0.map conv) (by omega) (by omega), eqLeaseS_self (k + 1) g (by omega) (by omega), Option.bind_some, if_true, markLeaseS_f (k + 1) (l0.map conv) (by omega) (by omega)]
    rw [if_neg (by omega)]
    simp only [laws_FnExactLeaseExpire.j0, Bool.not_true, Bool.false_eq_true, if_false, markLeaseS_f k g (by omega) (by omega), Option.bind_some, heldLeaseS_f k g.length (by omega) (by omega), toLeaseS_f k l0 (by omega) (by omega), if_true]
    rw [if_neg (by omega)]
    rw [implAll_f k (l0.map conv) a1 (by omega) (by omega), hgd]
    simp only [Option.bind_some, eqLeaseS_self k g (by omega) (by omega), if_true]
    rw [if_neg (by omega)]
  · rw [if_neg c1, if_pos (by omega)]

end Go.Proofs.Ytoelccjfdiidpaa.Pure
