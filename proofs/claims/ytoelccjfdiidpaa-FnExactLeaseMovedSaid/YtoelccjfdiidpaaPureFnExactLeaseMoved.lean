/-
  The law FnExactLeaseMoved in plain words: what the program's function computes is what the reference's computes. No memory, no machine.
-/
import Derived.Test.YtoelccjfdiidpaaPFnExactLeaseMovedx
import Derived.Test.YtoelccjfdiidpaaGen
namespace Go.Proofs.Ytoelccjfdiidpaa.Pure
open Go.RowKit Go.Proofs.Ytoelccjfdiidpaa.PFnExactLeaseMoved Go.Proofs.YtoelccjfdiidpaaW.PrintWords Go.Proofs.YtoelccjfdiidpaaW.PrintLast Go.Proofs.YtoelccjfdiidpaaW.PrintMore Go.Proofs.Ytoelccjfdiidpaa.Gen
set_option linter.unusedVariables false
set_option linter.unusedSimpArgs false

def wf31 (x : S31) : Prop := (Lit.int .i64 x.f0).wf = true ∧ (Lit.int .i64 x.f1).wf = true ∧ (Lit.int .i64 x.f2).wf = true ∧ (Lit.int .i64 x.f3).wf = true
theorem wf_i64 {x : Int} (h : (Lit.int .i64 x).wf = true) : -9223372036854775808 ≤ x ∧ x ≤ 9223372036854775807 := by
  simp only [Lit.wf, Bool.and_eq_true, decide_eq_true_eq] at h
  exact ⟨h.1, h.2⟩
theorem wf_u8 {x : Int} (h : (Lit.int .u8 x).wf = true) : 0 ≤ x ∧ x ≤ 255 := by
  simp only [Lit.wf, Bool.and_eq_true, decide_eq_true_eq] at h
  exact ⟨h.1, h.2⟩
def right (x : S34) : Bool := decide (0 ≤ x.f0 ∧ x.f0 ≤ x.f1 ∧ x.f1 ≤ 400 ∧ 1 ≤ x.f2 ∧ x.f2 ≤ 8 ∧ 1 ≤ x.f3 ∧ x.f3 ≤ 1000)
def less (x y : S34) : Bool := decide (x.f0 < y.f0 ∨ (x.f0 = y.f0 ∧ (x.f1 < y.f1 ∨ (x.f1 = y.f1 ∧ x.f2 < y.f2))))
theorem specRight_f (x : S34) : spec_l07Right.f x.f0 x.f1 x.f2 x.f3 = some (right x) := by
  simp only [spec_l07Right.f, right]
  by_cases h1 : 0 ≤ x.f0 <;> by_cases h2 : x.f0 ≤ x.f1 <;> by_cases h3 : x.f1 ≤ 400 <;> by_cases h4 : 1 ≤ x.f2 <;> by_cases h5 : x.f2 ≤ 8 <;> by_cases h6 : 1 ≤ x.f3 <;> simp [h1, h2, h3, h4, h5, h6]
theorem implRight_f (x : S34) : impl_isLease.f x.f0 x.f1 x.f2 x.f3 = some (right x) := by
  simp only [impl_isLease.f, impl_isSession.f, impl_in.f, right]
  by_cases h1 : 0 ≤ x.f0 <;> by_cases h2 : x.f0 ≤ x.f1 <;> by_cases h3 : x.f1 ≤ 400 <;> by_cases h4 : 1 ≤ x.f2 <;> by_cases h5 : x.f2 ≤ 8 <;> by_cases h6 : 1 ≤ x.f3 <;> simp [h1, h2, h3, h4, h5, h6]
theorem specLess_f (x y : S34) : spec_l07Less.f x.f0 x.f1 x.f2 x.f3 y.f0 y.f1 y.f2 y.f3 = some (less x y) := by
  simp only [spec_l07Less.f, less]
  by_cases h1 : x.f0 = y.f0
  · by_cases h2 : x.f1 = y.f1 <;> simp [h1, h2]
  · simp [h1]
theorem compare_f (a b : Int) : cmp_Compare_int.f a b = some (if a < b then -1 else if b < a then 1 else 0) := by
  simp [cmp_Compare_int.f, cmp_isNaN_int.f]
  split
  · rfl
  · split <;> rfl
theorem implLess_f (k : Nat) (hk : 4 ≤ k) (x y : S34) : ∃ c, impl_compareLeases.f k x.f0 x.f1 x.f2 x.f3 y.f0 y.f1 y.f2 y.f3 = some c ∧ (c ≥ 0 ↔ less x y = false) := by
  obtain ⟨k, rfl⟩ : ∃ m, k = m + 4 := ⟨k - 4, by omega⟩
  simp only [impl_compareLeases.f, compare_f, Option.bind_some, cmp_Or_int.f, cmp_Or_int.l0, less]
  rcases Int.lt_trichotomy x.f0 y.f0 with h1 | h1 | h1
  · refine ⟨-1, ?_, ?_⟩
    · simp [h1, rd, wrap64]
    · simp [h1]
  · rcases Int.lt_trichotomy x.f1 y.f1 with h2 | h2 | h2
    · refine ⟨-1, ?_, ?_⟩
      · simp [h1, h2, rd, wrap64]
      · simp [h1, h2]
    · rcases Int.lt_trichotomy x.f2 y.f2 with h3 | h3 | h3
      · refine ⟨-1, ?_, ?_⟩
        · simp [h1, h2, h3, rd, wrap64]
        · simp [h1, h2, h3]
      · refine ⟨0, ?_, ?_⟩
        · simp [h1, h2, h3, rd, wrap64]
        · simp [h1, h2, h3]
      · refine ⟨1, ?_, ?_⟩
        · have h4 : ¬ x.f2 < y.f2 := by omega
          simp [h1, h2, h3, h4, rd, wrap64]
        · have h4 : ¬ x.f2 < y.f2 := by omega
          simp [h1, h2, h4]
    · refine ⟨1, ?_, ?_⟩
      · have h4 : ¬ x.f1 < y.f1 := by omega
        simp [h1, h2, h4, rd, wrap64]
      · have h4 : ¬ x.f1 < y.f1 := by omega
        have h5 : ¬ x.f1 = y.f1 := by omega
        simp [h1, h4, h5]
  · refine ⟨1, ?_, ?_⟩
    · have h4 : ¬ x.f0 < y.f0 := by omega
      simp [h1, h4, rd, wrap64]
    · have h4 : ¬ x.f0 < y.f0 := by omega
      have h5 : ¬ x.f0 = y.f0 := by omega
      simp [h4, h5]
def lget (l : List S34) (i : Nat) : S34 := l.getD i z34
theorem rdT_nat (l : List S34) (i : Nat) : rd_T34 l (i : Int) = lget l i := by simp [rd_T34, lget]
/-- The condition of place i. -/
def leaseAt (l : List S34) (i : Nat) : Bool := right (lget l i) && (i == 0 || less (lget l (i - 1)) (lget l i))
theorem specLeases_f (k : Nat) (l : List S34) (hk : l.length < k) (hl : l.length ≤ 1048576) :
    spec_LeasesOk.f k l = some (decide (l.length ≤ 12 ∧ ∀ i, i < l.length → leaseAt l i = true)) := by
  unfold spec_LeasesOk.f
  by_cases h : (l.length : Int) > 12
  · rw [if_pos h]
    congr 1
    symm
    exact decide_eq_false (fun H => by omega)
  · rw [if_neg h]
    obtain ⟨b, h1, h2⟩ := all_loop (L := fun k i => spec_LeasesOk.l0 k l i) l.length 0 (leaseAt l) (fun k i _ hi => by
      simp only [spec_LeasesOk.l0]
      rw [if_pos (by omega), if_pos (by omega), rdT_nat, specRight_f, w64s i (by omega)]
      simp only [Option.bind_some, leaseAt]
      by_cases hr : right (lget l i) = true
      · rw [if_pos hr]
        by_cases h0 : i = 0
        · subst h0; simp [hr]
        · rw [if_pos (show (i : Int) > 0 by omega), w64 (x := (i : Int) - 1) (by omega) (by omega), if_pos (by omega), if_pos (by omega), show (i : Int) - 1 = ((i - 1 : Nat) : Int) by omega, rdT_nat, specLess_f]
          simp [h0, hr]
      · rw [if_neg hr]
        simp [hr]) (fun k => by
      simp only [spec_LeasesOk.l0]
      rw [if_neg (by omega)]) k (by omega)
    refine h1.trans ?_
    congr 1
    rw [Bool.eq_iff_iff, h2, decide_eq_true_eq]
    exact ⟨fun H => ⟨by omega, H⟩, fun H => H.2⟩
theorem implLeases_f (k : Nat) (l : List S34) (hk : l.length + 4 < k) (hl : l.length ≤ 1048576) :
    impl_areLeases.f k l = some (decide (l.length ≤ 12 ∧ ∀ i, i < l.length → leaseAt l i = true)) := by
  unfold impl_areLeases.f
  have key : ∀ (d k i : Nat), i + d = l.length → d + 4 < k → ∃ b, impl_areLeases.l0 k l l (l.length : Int) (i : Int) = some b ∧ (b = true ↔ l.length ≤ 12 ∧ ∀ j, i ≤ j → j < l.length → leaseAt l j = true) := by
    intro d
    induction d with
    | zero =>
      intro k i hi hk
      obtain ⟨k, rfl, hk⟩ := pos_k hk
      simp only [impl_areLeases.l0]
      rw [if_neg (by omega)]
      refine ⟨_, rfl, ?_⟩
      rw [decide_eq_true_eq]
      exact ⟨fun H => ⟨by omega, fun j h1 h2 => by omega⟩, fun H => by omega⟩
    | succ d ih =>
      intro k i hi hk
      obtain ⟨k, rfl, hk⟩ := pos_k hk
      obtain ⟨b, h1, h2⟩ := ih k (i + 1) (by omega) (by omega)
      simp only [impl_areLeases.l0]
      rw [if_pos (by omega), if_pos (by omega), if_pos (by omega), rdT_nat, implRight_f, w64s i (by omega)]
      simp only [Option.bind_some]
      have split1 : (∀ j, i ≤ j → j < l.length → leaseAt l j = true) ↔ leaseAt l i = true ∧ ∀ j, i + 1 ≤ j → j < l.length → leaseAt l j = true := by
        constructor
        · exact fun H => ⟨H i (by omega) (by omega), fun j a b => H j (by omega) b⟩
        · intro H j a b
          by_cases e : j = i
          · subst e; exact H.1
          · exact H.2 j (by omega) b
      rw [split1]
      cases hr : right (lget l i) with
      | false =>
        refine ⟨false, by simp, ?_⟩
        simp [leaseAt, hr]
      | true =>
        rw [if_pos rfl]
        by_cases h0 : i = 0
        · subst h0
          refine ⟨b, by simpa using h1, ?_⟩
          rw [h2]
          simp [leaseAt, hr]
        · rw [if_pos (show (i : Int) > 0 by omega), w64 (x := (i : Int) - 1) (by omega) (by omega), if_pos (by omega), if_pos (by omega), show (i : Int) - 1 = ((i - 1 : Nat) : Int) by omega, rdT_nat]
          obtain ⟨c, hc, hc2⟩ := implLess_f k (by omega) (lget l (i - 1)) (lget l i)
          rw [hc]
          simp only [Option.bind_some]
          cases hs : less (lget l (i - 1)) (lget l i) with
          | false =>
            rw [if_pos (hc2.2 hs)]
            refine ⟨false, rfl, ?_⟩
            simp [leaseAt, hr, hs, h0]
          | true =>
            rw [if_neg (fun H => by rw [hc2.1 H] at hs; cases hs)]
            refine ⟨b, h1, ?_⟩
            rw [h2]
            simp [leaseAt, hr, hs]
  obtain ⟨b, h1, h2⟩ := key l.length k 0 (by omega) (by omega)
  refine h1.trans ?_
  congr 1
  rw [Bool.eq_iff_iff, h2, decide_eq_true_eq]
  exact ⟨fun H => ⟨H.1, fun i hi => H.2 i (by omega) hi⟩, fun H => ⟨H.1, fun i _ hi => H.2 i hi⟩⟩
def conv (x : S31) : S34 := ⟨x.f0, x.f1, x.f2, x.f3⟩
theorem toLeaseS_f (k : Nat) (l : List S31) (hk : l.length < k) (hl : l.length ≤ 1048576) : laws_toLeaseS.f k l = some (l.map conv) := by
  have h := map_loop (L := fun k out i => laws_toLeaseS.l0 k l out i) l conv z31 0 (fun k out i _ hi ho => by
      simp only [laws_toLeaseS.l0, laws_toLease.f, Option.bind_some]
      rw [if_pos (by omega), if_pos (by omega), if_pos (by omega), w64s i (by omega)]
      simp [rd_T31, conv]) (fun k out ho => by
      simp only [laws_toLeaseS.l0]
      rw [if_neg (by omega)]) k (List.replicate ((l.length : Int)).toNat z34) (by omega) (by simp)
  unfold laws_toLeaseS.f
  rw [if_pos (by omega), if_pos (by omega)]
  exact h
theorem eqLeaseS_self (k : Nat) (l : List S34) (hk : l.length < k) (hl : l.length ≤ 1048576) : laws_eqLeaseS.f k l l = some true := by
  unfold laws_eqLeaseS.f
  rw [if_pos rfl]
  obtain ⟨b, h, hb⟩ := all_loop (L := fun k i => laws_eqLeaseS.l0 k l l i) l.length 0 (fun _ => true) (fun k i _ hi => by
    simp only [laws_eqLeaseS.l0]
    rw [if_pos (by omega), if_pos (by omega), if_pos (by omega), w64s i (by omega)]
    simp [laws_eqLease.f]) (fun k => by
    simp only [laws_eqLeaseS.l0]
    rw [if_neg (by omega)]) k (by omega)
  rw [h, hb.2 (fun _ _ => rfl)]
/-- Are they leases? -/
def lok (l : List S34) : Bool := decide (l.length ≤ 12 ∧ ∀ i, i < l.length → leaseAt l i = true)
theorem szLeaseS_f (l : List S31) (hl : l.length ≤ 9223372036854775807) : laws_szLeaseS.f l 1048576 = some (if (l.length : Int) ≤ 1048576 then 1048576 - (l.length : Int) else -1) := by
  unfold laws_szLeaseS.f
  rw [w64 (x := 1048576 - (l.length : Int)) (by omega) (by omega)]
  by_cases h : (l.length : Int) ≤ 1048576
  · rw [if_neg (by omega), if_pos h]
  · rw [if_pos (by omega), if_neg h]
theorem rdset (l : List S34) (i : Nat) (a : S34) (h : i < l.length) : rd_T34 (l.set i a) (i : Int) = a := by
  unfold rd_T34
  rw [Int.toNat_natCast, List.getD_eq_getElem?_getD, List.getElem?_set_self h, Option.getD_some]
def lmarks (n : Nat) : List S34 := (List.range n).map fun j : Nat => ⟨1 + 4 * (j : Int), 1 + 4 * (j : Int) + 1, 1 + 4 * (j : Int) + 2, 1 + 4 * (j : Int) + 3⟩
theorem lmarks_length (n : Nat) : (lmarks n).length = n := by simp [lmarks]
theorem lmarks_get (n i : Nat) (h : i < n) : (lmarks n)[i]? = some ⟨1 + 4 * (i : Int), 1 + 4 * (i : Int) + 1, 1 + 4 * (i : Int) + 2, 1 + 4 * (i : Int) + 3⟩ := by
  rw [List.getElem?_eq_getElem (by simpa [lmarks] using h)]
  simp [lmarks]
theorem lmarks_rd (n i : Nat) (h : i < n) : rd_T34 (lmarks n) (i : Int) = ⟨1 + 4 * (i : Int), 1 + 4 * (i : Int) + 1, 1 + 4 * (i : Int) + 2, 1 + 4 * (i : Int) + 3⟩ := by
  unfold rd_T34
  rw [Int.toNat_natCast, List.getD_eq_getElem?_getD, lmarks_get n i h, Option.getD_some]
theorem markLeaseS_f (k : Nat) (l : List S34) (hk : l.length < k) (hl : l.length ≤ 1048576) : laws_markLeaseS.f k l 1 = some (1 + 4 * (l.length : Int), lmarks l.length) := by
  have key : ∀ (n d k i : Nat) (out : List S34), n ≤ 1048576 → i + d = n → d < k → out.length = n → (∀ j, j < i → out[j]? = (lmarks n)[j]?) → laws_markLeaseS.l0 k out (1 + 4 * (i : Int)) (i : Int) = some (1 + 4 * (n : Int), lmarks n) := by
    intro n d
    induction d with
    | zero =>
      intro k i out hn hi hk ho hj
      obtain ⟨k, rfl, hk⟩ := pos_k hk
      obtain rfl : i = n := by omega
      simp only [laws_markLeaseS.l0]
      rw [if_neg (by omega)]
      congr 2
      apply List.ext_getElem?
      intro j
      by_cases h : j < i
      · exact hj j h
      · rw [List.getElem?_eq_none (by omega), List.getElem?_eq_none (by rw [lmarks_length]; omega)]
    | succ d ih =>
      intro k i out hn hi hk ho hj
      obtain ⟨k, rfl, hk⟩ := pos_k hk
      simp only [laws_markLeaseS.l0]
      rw [if_pos (by omega), if_pos (by omega)]
      simp only [Option.bind_some, Int.toNat_natCast]
      rw [w64 (x := 1 + 4 * (i : Int) + 1) (by omega) (by omega), w64 (x := 1 + 4 * (i : Int) + 1 + 1) (by omega) (by omega), w64 (x := 1 + 4 * (i : Int) + 1 + 1 + 1) (by omega) (by omega), w64 (x := 1 + 4 * (i : Int) + 1 + 1 + 1 + 1) (by omega) (by omega), w64s i (by omega)]
      simp only [List.set_set, rdset, ho, show i < n by omega]
      rw [show 1 + 4 * (i : Int) + 1 + 1 + 1 + 1 = 1 + 4 * ((i + 1 : Nat) : Int) by omega, show 1 + 4 * (i : Int) + 1 + 1 + 1 = 1 + 4 * (i : Int) + 3 by omega, show 1 + 4 * (i : Int) + 1 + 1 = 1 + 4 * (i : Int) + 2 by omega]
      refine ih k (i + 1) _ hn (by omega) (by omega) (by simpa using ho) ?_
      intro j hj'
      by_cases e : j = i
      · subst e
        rw [List.getElem?_set_self (by omega), lmarks_get n j (by omega)]
      · rw [List.getElem?_set_ne (by omega)]
        exact hj j (by omega)
  have := key l.length l.length k 0 l hl (by omega) hk rfl (fun j hj => by omega)
  simpa [laws_markLeaseS.f] using this
theorem heldLeaseS_f (k n : Nat) (hk : n < k) (hl : n ≤ 1048576) : laws_heldLeaseS.f k (lmarks n) 1 = some (1 + 4 * (n : Int)) := by
  have key : ∀ (d k i : Nat), i + d = n → d < k → laws_heldLeaseS.l0 k (lmarks n) (1 + 4 * (i : Int)) (i : Int) = some (1 + 4 * (n : Int)) := by
    intro d
    induction d with
    | zero =>
      intro k i hi hk
      obtain ⟨k, rfl, hk⟩ := pos_k hk
      obtain rfl : i = n := by omega
      simp only [laws_heldLeaseS.l0, lmarks_length]
      rw [if_neg (by omega)]
    | succ d ih =>
      intro k i hi hk
      obtain ⟨k, rfl, hk⟩ := pos_k hk
      simp only [laws_heldLeaseS.l0, lmarks_length]
      rw [if_pos (by omega), if_pos (by omega), lmarks_rd n i (by omega)]
      rw [w64 (x := 1 + 4 * (i : Int) + 1) (by omega) (by omega), w64 (x := 1 + 4 * (i : Int) + 1 + 1) (by omega) (by omega), w64 (x := 1 + 4 * (i : Int) + 1 + 1 + 1) (by omega) (by omega), w64 (x := 1 + 4 * (i : Int) + 1 + 1 + 1 + 1) (by omega) (by omega), w64s i (by omega)]
      rw [if_pos rfl, if_pos rfl, if_pos (by simp only []; omega), if_pos (by simp only []; omega), show 1 + 4 * (i : Int) + 1 + 1 + 1 + 1 = 1 + 4 * ((i + 1 : Nat) : Int) by omega]
      exact ih k (i + 1) (by omega) (by omega)
  have := key n k 0 (by omega) hk
  simpa [laws_heldLeaseS.f] using this
/-- The same key. -/
def eqk (a x : S34) : Bool := decide (a.f0 = x.f0 ∧ a.f1 = x.f1 ∧ a.f2 = x.f2)
theorem c3_lt (a b : Int) : BS.c3 a b < 0 ↔ a < b := by
  unfold BS.c3
  by_cases h : a < b
  · simp [h]
  · rw [if_neg h]
    split <;> simp <;> omega
theorem c3_eq (a b : Int) : BS.c3 a b = 0 ↔ a = b := by
  unfold BS.c3
  by_cases h : a < b
  · rw [if_pos h]; constructor <;> intro h2 <;> omega
  · rw [if_neg h]
    by_cases h2 : b < a
    · rw [if_pos h2]; constructor <;> intro h2 <;> omega
    · rw [if_neg h2]; constructor <;> intro h2 <;> omega
theorem cmp_lt (x y : S34) : BS.cmp x y < 0 ↔ less x y = true := by
  unfold BS.cmp less
  rw [decide_eq_true_eq]
  by_cases h1 : x.f0 = y.f0
  · rw [if_pos ((c3_eq _ _).2 h1)]
    by_cases h2 : x.f1 = y.f1
    · rw [if_pos ((c3_eq _ _).2 h2), c3_lt]
      constructor
      · intro h; exact .inr ⟨h1, .inr ⟨h2, h⟩⟩
      · rintro (h | ⟨_, h | ⟨_, h⟩⟩) <;> omega
    · rw [if_neg (fun h => h2 ((c3_eq _ _).1 h)), c3_lt]
      constructor
      · intro h; exact .inr ⟨h1, .inl h⟩
      · rintro (h | ⟨_, h | ⟨_, h⟩⟩) <;> omega
  · rw [if_neg (fun h => h1 ((c3_eq _ _).1 h)), c3_lt]
    constructor
    · intro h; exact .inl h
    · rintro (h | ⟨_, h | ⟨_, h⟩⟩) <;> omega
theorem cmp_eq (x y : S34) : BS.cmp x y = 0 ↔ eqk x y = true := by
  unfold BS.cmp eqk
  rw [decide_eq_true_eq]
  by_cases h1 : x.f0 = y.f0
  · rw [if_pos ((c3_eq _ _).2 h1)]
    by_cases h2 : x.f1 = y.f1
    · rw [if_pos ((c3_eq _ _).2 h2), c3_eq]
      exact ⟨fun h => ⟨h1, h2, h⟩, fun h => h.2.2⟩
    · rw [if_neg (fun h => h2 ((c3_eq _ _).1 h)), c3_eq]
      exact ⟨fun h => absurd h h2, fun h => absurd h.2.1 h2⟩
  · rw [if_neg (fun h => h1 ((c3_eq _ _).1 h)), c3_eq]
    exact ⟨fun h => absurd h h1, fun h => absurd h.1 h1⟩
theorem less_trans {x y z : S34} (h1 : less x y = true) (h2 : less y z = true) : less x z = true := by
  unfold less at *
  rw [decide_eq_true_eq] at *
  omega
theorem less_eqk {x y z : S34} (h1 : less x y = true) (h2 : eqk y z = true) : less x z = true := by
  unfold less eqk at *
  rw [decide_eq_true_eq] at *
  omega
theorem less_irrefl {x y : S34} (h1 : less x y = true) (h2 : eqk x y = true) : False := by
  unfold less eqk at *
  rw [decide_eq_true_eq] at *
  omega
theorem less_total {x y : S34} (h1 : ¬ less x y = true) (h2 : ¬ eqk x y = true) : less y x = true := by
  unfold less eqk at *
  rw [decide_eq_true_eq] at *
  omega
/-- In order by the keys. -/
def ordered (l : List S34) : Prop := ∀ i j, i < j → j < l.length → less (lget l i) (lget l j) = true
theorem lok_ordered {l : List S34} (h : lok l = true) : ordered l := by
  unfold lok at h
  rw [decide_eq_true_eq] at h
  have step : ∀ j, 0 < j → j < l.length → less (lget l (j - 1)) (lget l j) = true := by
    intro j h0 hj
    have := h.2 j hj
    unfold leaseAt at this
    rw [Bool.and_eq_true, Bool.or_eq_true, beq_iff_eq] at this
    rcases this.2 with e | e
    · omega
    · exact e
  intro i j
  induction j with
  | zero => intro h1; omega
  | succ j ih =>
    intro h1 h2
    have hs := step (j + 1) (by omega) h2
    rw [Nat.add_sub_cancel] at hs
    by_cases e : i = j
    · subst e; exact hs
    · exact less_trans (ih (by omega) (by omega)) hs
/-- Where the halving ends. -/
theorem at_spec {l : List S34} (ho : ordered l) (x : S34) : ∀ (n i j : Nat), i ≤ j → j ≤ l.length → j - i ≤ n → (∀ t, t < i → less (lget l t) x = true) → (∀ t, j ≤ t → t < l.length → ¬ less (lget l t) x = true) →
    BS.at_ l x n i j ≤ l.length ∧ (∀ t, t < BS.at_ l x n i j → less (lget l t) x = true) ∧ (∀ t, BS.at_ l x n i j ≤ t → t < l.length → ¬ less (lget l t) x = true) := by
  intro n
  induction n with
  | zero =>
    intro i j h1 h2 h3 h4 h5
    obtain rfl : i = j := by omega
    exact ⟨h2, h4, h5⟩
  | succ n ih =>
    intro i j h1 h2 h3 h4 h5
    unfold BS.at_
    by_cases hij : i < j
    · rw [if_pos hij]
      have hb : i ≤ (i + j) / 2 ∧ (i + j) / 2 < j := by omega
      generalize (i + j) / 2 = m at hb
      rw [rdT_nat]
      by_cases hc : BS.cmp (lget l m) x < 0
      · rw [if_pos hc]
        have hl := (cmp_lt _ _).1 hc
        refine ih (m + 1) j (by omega) h2 (by omega) (fun t ht => ?_) h5
        by_cases e : t = m
        · subst e; exact hl
        · exact less_trans (ho t m (by omega) (by omega)) hl
      · rw [if_neg hc]
        refine ih i m (by omega) (by omega) (by omega) h4 (fun t h6 h7 h8 => ?_)
        have hl : ¬ less (lget l m) x = true := fun h => hc ((cmp_lt _ _).2 h)
        by_cases e : t = m
        · subst e; exact hl h8
        · exact hl (less_trans (ho m t (by omega) h7) h8)
    · rw [if_neg hij]
      obtain rfl : i = j := by omega
      exact ⟨h2, h4, h5⟩
theorem pos_spec {l : List S34} (ho : ordered l) (x : S34) :
    BS.pos l x ≤ l.length ∧ (∀ t, t < BS.pos l x → less (lget l t) x = true) ∧ (∀ t, BS.pos l x ≤ t → t < l.length → ¬ less (lget l t) x = true) :=
  at_spec ho x l.length 0 l.length (by omega) (by omega) (by omega) (fun t ht => by omega) (fun t h1 h2 => by omega)
theorem found_iff (l : List S34) (x : S34) : BS.found l x = true ↔ BS.pos l x < l.length ∧ eqk (lget l (BS.pos l x)) x = true := by
  unfold BS.found
  rw [Bool.and_eq_true, decide_eq_true_eq, beq_iff_eq, rdT_nat, cmp_eq]
/-- Which one has the key. -/
theorem found_at {l : List S34} (ho : ordered l) (x : S34) (i : Nat) (hi : i < l.length) : eqk (lget l i) x = true ↔ BS.found l x = true ∧ i = BS.pos l x := by
  obtain ⟨h1, h2, h3⟩ := pos_spec ho x
  rw [found_iff]
  constructor
  · intro h
    have hip : ¬ i < BS.pos l x := fun h4 => less_irrefl (h2 i h4) h
    have e : i = BS.pos l x := by
      apply Classical.byContradiction
      intro hne
      have hlt : BS.pos l x < i := by omega
      exact h3 _ (Nat.le_refl _) (by omega) (less_eqk (ho _ i hlt hi) h)
    subst e
    exact ⟨⟨hi, h⟩, rfl⟩
  · rintro ⟨⟨_, h⟩, e⟩
    rw [e]
    exact h
theorem specOne_f (a x : S34) : spec_l07One.f a.f0 a.f1 a.f2 a.f3 x.f0 x.f1 x.f2 x.f3 = some (eqk a x) := by
  unfold spec_l07One.f eqk
  by_cases h1 : a.f0 = x.f0
  · by_cases h2 : a.f1 = x.f1
    · rw [if_pos h1, if_pos h2]
      by_cases h3 : a.f2 = x.f2 <;> simp [h1, h2, h3]
    · simp [h1, h2]
  · simp [h1]
theorem lget_of (l : List S34) (i : Nat) : rd_T34 l (i : Int) = lget l i := rdT_nat l i
theorem lget_lt (l : List S34) (i : Nat) (h : i < l.length) : lget l i = l[i] := by
  unfold lget
  rw [List.getD_eq_getElem?_getD, List.getElem?_eq_getElem h, Option.getD_some]
theorem lget_mem (l : List S34) (i : Nat) (h : i < l.length) : lget l i ∈ l := by
  rw [lget_lt l i h]
  exact List.getElem_mem h
theorem take_lget (l : List S34) (i : Nat) (h : i < l.length) : l.take (i + 1) = l.take i ++ [lget l i] := by
  rw [lget_lt l i h, List.take_succ_eq_append_getElem h]
theorem drop_lget (l : List S34) (i : Nat) (h : i < l.length) : l.drop i = lget l i :: l.drop (i + 1) := by
  rw [lget_lt l i h, List.drop_eq_getElem_cons h]
theorem put_l1 (x : S34) (out : List S34) (k : Nat) (hk : out.length < k) (hl : out.length ≤ 4398046511104) :
    spec_l07Put.l1 k out 0 x.f0 x.f1 x.f2 x.f3 = some (out.map fun a => if a.f2 = 0 then x else a) := by
  have key : ∀ (d k i : Nat) (o : List S34), i + d = o.length → d < k → o.length ≤ 4398046511104 → spec_l07Put.l1 k o (i : Int) x.f0 x.f1 x.f2 x.f3 = some (o.take i ++ (o.drop i).map fun a => if a.f2 = 0 then x else a) := by
    intro d
    induction d with
    | zero =>
      intro k i o hi hk ho
      obtain ⟨k, rfl, hk⟩ := pos_k hk
      simp only [spec_l07Put.l1]
      rw [if_neg (by omega), List.drop_of_length_le (by omega), List.take_of_length_le (by omega), List.map_nil, List.append_nil]
    | succ d ih =>
      intro k i o hi hk ho
      obtain ⟨k, rfl, hk⟩ := pos_k hk
      have hlt : i < o.length := by omega
      simp only [spec_l07Put.l1]
      rw [if_pos (by omega), if_pos (by omega), rdT_nat, w64s i (by omega), drop_lget o i hlt, List.map_cons]
      by_cases h : (lget o i).f2 = 0
      · rw [if_pos h, if_pos h]
        have hs : (o.set (i : Int).toNat ⟨x.f0, x.f1, x.f2, x.f3⟩).length = o.length := List.length_set ..
        rw [ih k (i + 1) _ (by omega) (by omega) (by omega), Int.toNat_natCast, List.drop_set_of_lt (by omega), List.take_succ_eq_append_getElem (by rw [List.length_set]; exact hlt), List.getElem_set_self, List.take_set_of_le (Nat.le_refl _), List.append_assoc]
        rfl
      · rw [if_neg h, if_neg h, ih k (i + 1) o (by omega) (by omega) ho, take_lget o i hlt, List.append_assoc]
        rfl
  have := key out.length k 0 out (by omega) hk hl
  simpa using this
theorem specLess_rf (a b c d : Int) (y : S34) : spec_l07Less.f a b c d y.f0 y.f1 y.f2 y.f3 = some (less ⟨a, b, c, d⟩ y) := specLess_f ⟨a, b, c, d⟩ y
theorem specOne_rf (y : S34) (a b c d : Int) : spec_l07One.f y.f0 y.f1 y.f2 y.f3 a b c d = some (eqk y ⟨a, b, c, d⟩) := specOne_f y ⟨a, b, c, d⟩
theorem put_in (l : List S34) (x : S34) (hl : l.length ≤ 1048576) : ∀ (d k i : Nat) (out : List S34), i + d = l.length → (∀ j, i ≤ j → j < l.length → ¬ eqk (lget l j) x = true) → out.length + d < 4398046511104 →
    spec_l07Put.l0 (k + 1 + d) l out true (i : Int) x.f0 x.f1 x.f2 x.f3 = spec_l07Put.l1 k (out ++ l.drop i) 0 x.f0 x.f1 x.f2 x.f3 := by
  intro d
  induction d with
  | zero =>
    intro k i out hi hj ho
    rw [Nat.add_zero]
    simp only [spec_l07Put.l0]
    rw [if_neg (by omega), if_pos trivial, List.drop_of_length_le (by omega), List.append_nil]
  | succ d ih =>
    intro k i out hi hj ho
    have hlt : i < l.length := by omega
    rw [show k + 1 + (d + 1) = (k + 1 + d) + 1 by omega]
    simp only [spec_l07Put.l0]
    rw [if_pos (by omega), if_pos (by omega), rdT_nat, specOne_rf, w64s i (by omega)]
    simp only [Option.bind_some]
    rw [if_neg (hj i (Nat.le_refl _) hlt), if_pos trivial, if_pos (by omega)]
    refine (ih k (i + 1) _ (by omega) (fun j h1 h2 => hj j (by omega) h2) (by rw [List.length_append, List.length_singleton]; omega)).trans ?_
    rw [drop_lget l i hlt, List.append_assoc]
    rfl
/-- The list with a lease where it belongs. -/
def putl (l : List S34) (x : S34) : List S34 := if BS.found l x = true then l.set (BS.pos l x) ⟨x.f0, x.f1, x.f2, mx x.f3 (lget l (BS.pos l x)).f3⟩ else l.take (BS.pos l x) ++ x :: l.drop (BS.pos l x)
theorem map_id_of {l : List S34} (x : S34) (h : ∀ a ∈ l, a.f2 ≠ 0) : (l.map fun a => if a.f2 = 0 then x else a) = l := by
  conv => rhs; rw [← List.map_id l]
  apply List.map_congr_left
  intro a ha
  rw [if_neg (h a ha)]
  rfl
theorem put_f (k : Nat) (l : List S34) (x : S34) (ho : ordered l) (hs : ∀ a ∈ l, a.f2 ≠ 0) (hl : l.length ≤ 1048576) (hk : 2 * l.length + 8 < k) :
    spec_l07Put.f k l x.f0 x.f1 x.f2 x.f3 = some (putl l x) := by
  obtain ⟨hp1, hp2, hp3⟩ := pos_spec ho x
  have hfi := found_iff l x
  have hfa := fun i hi => found_at ho x i hi
  obtain ⟨p, hp⟩ : ∃ p, p = BS.pos l x := ⟨_, rfl⟩
  unfold spec_l07Put.f putl
  rw [← hp] at hp1 hp2 hp3 hfi ⊢
  simp only [← hp] at hfa
  -- the leases ahead
  have pre : ∀ (d k i : Nat), i + d = p → spec_l07Put.l0 (k + d) l (l.take i) false (i : Int) x.f0 x.f1 x.f2 x.f3 = spec_l07Put.l0 k l (l.take p) false (p : Int) x.f0 x.f1 x.f2 x.f3 := by
    intro d
    induction d with
    | zero =>
      intro k i hi
      have e : i = p := by omega
      rw [e, Nat.add_zero]
    | succ d ih =>
      intro k i hi
      have hlt : i < l.length := by omega
      have h1 := hp2 i (by omega)
      rw [show k + (d + 1) = (k + d) + 1 by omega]
      simp only [spec_l07Put.l0]
      rw [if_pos (by omega), if_pos (by omega), rdT_nat, specOne_rf, w64s i (by omega), specLess_rf]
      simp only [Option.bind_some]
      rw [if_neg (fun h => less_irrefl h1 h), if_neg (by decide), if_neg (fun h => less_irrefl (less_trans h1 h) (by unfold eqk; simp)), if_pos (by rw [List.length_take]; omega)]
      refine Eq.trans ?_ (ih k (i + 1) (by omega))
      rw [take_lget l i hlt]
  obtain ⟨k, rfl⟩ : ∃ q, k = q + p := ⟨k - p, by omega⟩
  refine (pre p k 0 (by omega)).trans ?_
  obtain ⟨k, rfl⟩ : ∃ q, k = q + 1 := ⟨k - 1, by omega⟩
  have zmap : ∀ (y : S34) (m : Nat), ((l.take p ++ (⟨0, 0, 0, 0⟩ : S34) :: l.drop m).map fun a => if a.f2 = 0 then y else a) = l.take p ++ y :: l.drop m := by
    intro y m
    rw [List.map_append, List.map_cons, if_pos rfl, map_id_of y (fun a ha => hs a (List.mem_of_mem_take ha)), map_id_of y (fun a ha => hs a (List.mem_of_mem_drop ha))]
  simp only [spec_l07Put.l0]
  by_cases hpl : p < l.length
  · rw [if_pos (by omega), if_pos (by omega), rdT_nat, specOne_rf, w64s p (by omega), specLess_rf]
    simp only [Option.bind_some]
    by_cases hf : BS.found l x = true
    · have he := (hfi.1 hf).2
      rw [if_pos he, if_pos hf]
      obtain ⟨k, rfl⟩ : ∃ q, k = q + 1 := ⟨k - 1, by omega⟩
      have hnext : ∀ j, p + 1 ≤ j → j < l.length → ¬ eqk (lget l j) x = true := fun j h1 h2 h3 => by have := ((hfa j h2).1 h3).2; omega
      generalize hy : (⟨x.f0, x.f1, x.f2, mx x.f3 (lget l p).f3⟩ : S34) = y
      have hy0 : y.f0 = x.f0 := by rw [← hy]
      have hy1 : y.f1 = x.f1 := by rw [← hy]
      have hy2 : y.f2 = x.f2 := by rw [← hy]
      have hy3 : mx x.f3 (lget l p).f3 = y.f3 := by rw [← hy]
      rw [hy3, ← hy0, ← hy1, ← hy2]
      have hset : l.set p y = l.take p ++ y :: l.drop (p + 1) := by
        rw [List.set_eq_take_append_cons_drop, if_pos hpl]
      have hnexty : ∀ j, p + 1 ≤ j → j < l.length → ¬ eqk (lget l j) y = true := fun j h1 h2 h3 => hnext j h1 h2 (by unfold eqk at *; rw [hy0, hy1, hy2] at h3; exact h3)
      simp only [spec_l07Put.l0]
      by_cases hq : p + 1 < l.length
      · have hlq : less y (lget l (p + 1)) = true := by
          have h1 := ho p (p + 1) (by omega) hq
          unfold less eqk at *
          rw [decide_eq_true_eq] at *
          rw [hy0, hy1, hy2]
          omega
        rw [if_pos (by omega), if_pos (by omega), rdT_nat, specOne_rf, w64s (p + 1) (by omega), specLess_rf]
        simp only [Option.bind_some]
        rw [if_neg (hnexty _ (Nat.le_refl _) hq), if_neg (by decide), if_pos hlq, if_pos (by rw [List.length_take]; omega), if_pos (by rw [List.length_append, List.length_take, List.length_singleton]; omega)]
        obtain ⟨q, hq2⟩ : ∃ q, k = q + 1 + (l.length - (p + 2)) := ⟨k - 1 - (l.length - (p + 2)), by omega⟩
        rw [hq2]
        have h := put_in l y hl (l.length - (p + 2)) q (p + 2) (l.take p ++ [⟨0, 0, 0, 0⟩] ++ [lget l (p + 1)]) (by omega) (fun j h1 h2 => hnexty j (by omega) h2) (by simp only [List.length_append, List.length_take, List.length_singleton]; omega)
        refine h.trans ?_
        rw [put_l1 _ _ _ (by simp only [List.length_append, List.length_take, List.length_drop, List.length_singleton]; omega) (by simp only [List.length_append, List.length_take, List.length_drop, List.length_singleton]; omega)]
        rw [List.append_assoc, List.append_assoc, List.singleton_append, List.singleton_append, ← drop_lget l (p + 1) hq, zmap, hset]
      · rw [if_neg (by omega), if_neg (by decide), if_pos (by rw [List.length_take]; omega), hset, List.drop_of_length_le (by omega)]
    · have hne : ¬ eqk (lget l p) x = true := fun h => hf ((hfa p hpl).1 h).1
      have hlp : less x (lget l p) = true := less_total (hp3 p (Nat.le_refl _) hpl) hne
      rw [if_neg hne, if_neg (by decide), if_pos hlp, if_pos (by rw [List.length_take]; omega), if_pos (by rw [List.length_append, List.length_take, List.length_singleton]; omega), if_neg hf]
      obtain ⟨q, hq2⟩ : ∃ q, k = q + 1 + (l.length - (p + 1)) := ⟨k - 1 - (l.length - (p + 1)), by omega⟩
      rw [hq2]
      have h := put_in l x hl (l.length - (p + 1)) q (p + 1) (l.take p ++ [⟨0, 0, 0, 0⟩] ++ [lget l p]) (by omega) (fun j h1 h2 h3 => hf ((hfa j h2).1 h3).1) (by simp only [List.length_append, List.length_take, List.length_singleton]; omega)
      refine h.trans ?_
      rw [put_l1 _ _ _ (by simp only [List.length_append, List.length_take, List.length_drop, List.length_singleton]; omega) (by simp only [List.length_append, List.length_take, List.length_drop, List.length_singleton]; omega)]
      rw [List.append_assoc, List.append_assoc, List.singleton_append, List.singleton_append, ← drop_lget l p hpl, zmap]
  · have hf : ¬ BS.found l x = true := fun h => hpl (hfi.1 h).1
    rw [if_neg (by omega), if_neg (by decide), if_pos (by rw [List.length_take]; omega), if_neg hf, List.drop_of_length_le (by omega)]
theorem szByteS_f (l : List Int) (a : Int) (h0 : 0 ≤ a) (h1 : a ≤ 1048576) (hl : l.length ≤ 9223372036854775807) :
    laws_szByteS.f l a = some (if (l.length : Int) ≤ a then a - (l.length : Int) else -1) := by
  unfold laws_szByteS.f
  rw [w64 (x := a - (l.length : Int)) (by omega) (by omega)]
  by_cases h : (l.length : Int) ≤ a
  · rw [if_neg (by omega), if_pos h]
  · rw [if_pos (by omega), if_neg h]
theorem szEdit_f (x y : Int) (l : List Int) (a : Int) (h0 : 0 ≤ a) (h1 : a ≤ 1048576) (hl : l.length ≤ 9223372036854775807) :
    laws_szEdit.f x y l a = some (if (l.length : Int) ≤ a then a - (l.length : Int) else -1) := by
  unfold laws_szEdit.f
  rw [szByteS_f l a h0 h1 hl]
  simp only [Option.bind_some]
  by_cases h : (l.length : Int) ≤ a
  · rw [if_pos h, if_neg (by omega)]
  · rw [if_neg h, if_pos (by omega)]
theorem toByteS_f (k : Nat) (l : List Int) (hk : l.length < k) (hl : l.length ≤ 1048576) : laws_toByteS.f k l = some l := by
  have h := map_loop (L := fun k out i => laws_toByteS.l0 k l out i) l id 0 0 (fun k out i _ hi ho => by
      simp only [laws_toByteS.l0]
      rw [if_pos (by omega), if_pos (by omega), if_pos (by omega), w64s i (by omega), rd_nat]
      rfl) (fun k out ho => by
      simp only [laws_toByteS.l0]
      rw [if_neg (by omega)]) k (List.replicate ((l.length : Int)).toNat 0) (by omega) (by simp)
  unfold laws_toByteS.f
  rw [if_pos (by omega), if_pos (by omega)]
  simpa using h
theorem toEdit_f (k : Nat) (x y : Int) (l : List Int) (hk : l.length < k) (hl : l.length ≤ 1048576) : laws_toEdit.f k x y l = some (x, y, l) := by
  unfold laws_toEdit.f
  rw [toByteS_f k l hk hl]
  rfl
theorem eqByteS_f (k : Nat) (l l' : List Int) (hk : l.length < k) (hl : l.length ≤ 1048576) : laws_eqByteS.f k l l' = some (decide (l = l')) := by
  unfold laws_eqByteS.f
  by_cases e : l.length = l'.length
  · rw [if_pos (by omega)]
    obtain ⟨b, h, hb⟩ := all_loop (L := fun k i => laws_eqByteS.l0 k l l' i) l.length 0 (fun i => decide (l.getD i 0 = l'.getD i 0)) (fun k i _ hi => by
      simp only [laws_eqByteS.l0]
      rw [if_pos (by omega), if_pos (by omega), if_pos (by omega), w64s i (by omega), rd_nat, rd_nat]
      simp only [decide_eq_true_eq]) (fun k => by
      simp only [laws_eqByteS.l0]
      rw [if_neg (by omega)]) k (by omega)
    refine h.trans ?_
    congr 1
    simp only [decide_eq_true_eq] at hb
    rw [Bool.eq_iff_iff, decide_eq_true_eq]
    exact hb.trans (eq_of_getD 0 e)
  · rw [if_neg (by omega)]
    congr 1
    symm
    exact decide_eq_false (fun h => e (by rw [h]))
theorem eqByteS_self (k : Nat) (l : List Int) (hk : l.length < k) (hl : l.length ≤ 1048576) : laws_eqByteS.f k l l = some true := by
  rw [eqByteS_f k l l hk hl]; simp
theorem eqEdit_self (k : Nat) (x y : Int) (l : List Int) (hk : l.length < k) (hl : l.length ≤ 1048576) : laws_eqEdit.f k x y l x y l = some true := by
  unfold laws_eqEdit.f
  rw [if_pos rfl, if_pos rfl, eqByteS_self k l hk hl]
  rfl
def small (x y : Int) (l : List Int) : Bool := decide (0 ≤ x ∧ x ≤ 400 ∧ 0 ≤ y ∧ y ≤ 400 ∧ (l.length : Int) ≤ 400)
theorem specSmall_f (x y : Int) (l : List Int) : spec_l05Small.f x y l = some (small x y l) := by
  simp only [spec_l05Small.f, spec_l02Small.f, small]
  by_cases h1 : 0 ≤ x <;> by_cases h2 : x ≤ 400 <;> by_cases h3 : 0 ≤ y <;> by_cases h4 : y ≤ 400 <;> simp [h1, h2, h3, h4]
theorem implSmall_f (x y : Int) (l : List Int) : impl_Edit_isSmall.f x y l = some (small x y l) := by
  simp only [impl_Edit_isSmall.f, impl_in.f, small]
  by_cases h1 : 0 ≤ x <;> by_cases h2 : x ≤ 400 <;> by_cases h3 : 0 ≤ y <;> by_cases h4 : y ≤ 400 <;> simp [h1, h2, h3, h4]
theorem specPlace_f (p : Int) : spec_l06Place.f p = some (decide (0 ≤ p ∧ p ≤ 800)) := by
  unfold spec_l06Place.f
  by_cases h : 0 ≤ p <;> simp [h]
/-- Where a position goes. -/
def posv (p : Int) (r : Bool) (x y n : Int) : Int := if p < x then p else if p = x ∨ p < x + y then (if r = true then x + n else x) else p - y + n
theorem small_of {x y : Int} {l : List Int} (h : small x y l = true) : 0 ≤ x ∧ x ≤ 400 ∧ 0 ≤ y ∧ y ≤ 400 ∧ (l.length : Int) ≤ 400 := of_decide_eq_true h
theorem implPosv_f (k : Nat) (hk : 1 ≤ k) (p : Int) (r : Bool) (x y : Int) (l : List Int) (hs : small x y l = true) (h0 : 0 ≤ p) (h1 : p ≤ 800) : impl_Edit_pos.f k x y l p r = some (posv p r x y l.length) := by
  obtain ⟨k, rfl⟩ : ∃ m, k = m + 1 := ⟨k - 1, by omega⟩
  obtain ⟨s1, s2, s3, s4, s5⟩ := small_of hs
  simp only [impl_Edit_pos.f, impl_Edit_pos.j0, posv]
  rw [w64 (x := x + y) (by omega) (by omega), w64 (x := x + (l.length : Int)) (by omega) (by omega), w64 (x := p - y) (by omega) (by omega), w64 (x := p - y + (l.length : Int)) (by omega) (by omega)]
  by_cases c1 : p < x
  · simp [c1]
  · by_cases c2 : p = x
    · cases r <;> simp [c2]
    · by_cases c3 : p < x + y <;> cases r <;> simp [c1, c2, c3]
theorem specPosv_f (k : Nat) (hk : 2 ≤ k) (p : Int) (r : Bool) (x y : Int) (l : List Int) :
    spec_PosMove.f k p r x y l = some (if (0 ≤ p ∧ p ≤ 800) ∧ small x y l = true then posv p r x y l.length else -1) := by
  obtain ⟨k, rfl⟩ : ∃ m, k = m + 2 := ⟨k - 2, by omega⟩
  simp only [spec_PosMove.f, specPlace_f, specSmall_f, Option.bind_some, spec_PosMove.j0, spec_PosMove.j1, posv]
  by_cases c0 : 0 ≤ p ∧ p ≤ 800
  · cases hs : small x y l with
    | false => simp [c0]
    | true =>
      obtain ⟨s1, s2, s3, s4, s5⟩ := small_of hs
      rw [w64 (x := x + y) (by omega) (by omega), w64 (x := x + (l.length : Int)) (by omega) (by omega), w64 (x := p - y) (by omega) (by omega), w64 (x := p - y + (l.length : Int)) (by omega) (by omega)]
      by_cases c1 : p < x
      · simp [c0, c1]
      · by_cases c2 : p = x
        · subst c2
          cases r <;> simp [c0]
        · by_cases c3 : p < x + y <;> cases r <;> simp [c0, c1, c2, c3]
  · simp [c0]
theorem posv_nonneg {p : Int} {r : Bool} {x y : Int} {l : List Int} (hs : small x y l = true) (h0 : 0 ≤ p) : 0 ≤ posv p r x y l.length := by
  obtain ⟨s1, s2, s3, s4, s5⟩ := small_of hs
  unfold posv
  split
  · omega
  · split
    · split <;> omega
    · omega
theorem markByteS_f (k : Nat) (l : List Int) (m : Int) (hk : l.length < k) (hl : l.length ≤ 1048576) (h0 : 0 ≤ m) (h1 : m ≤ 4611686018427387904) : laws_markByteS.f k l m = some (m + (l.length : Int), marks l.length m) := by
  unfold laws_markByteS.f
  exact mark_loop (L := fun k out x i => laws_markByteS.l0 k out x i) l.length m (fun k out i hi ho => by
    simp only [laws_markByteS.l0]
    rw [if_pos (by omega), if_pos (by omega), w64s i (by omega), w64 (x := m + (i : Int) + 1) (by omega) (by omega)]
    congr 1
    omega) (fun k out ho => by
    simp only [laws_markByteS.l0]
    rw [if_neg (by omega)]) k l (by omega) rfl
/-- Where a range goes. -/
def span (i j x y n : Int) : Int × Int := (posv i true x y n, if i = j ∨ posv j false x y n < posv i true x y n then posv i true x y n else posv j false x y n)
theorem span_le (i j x y n : Int) : (span i j x y n).1 ≤ (span i j x y n).2 := by
  unfold span
  simp only
  split <;> omega
theorem specSpan_f (k : Nat) (hk : 4 ≤ k) (i j x y : Int) (l : List Int) (hs : small x y l = true) (h0 : 0 ≤ i) (h1 : i ≤ j) (h2 : j ≤ 400) : spec_SpanMove.f k i j x y l = some (span i j x y l.length) := by
  obtain ⟨k, rfl⟩ : ∃ m, k = m + 3 := ⟨k - 3, by omega⟩
  have p0 := posv_nonneg (r := true) hs h0
  have p1 := posv_nonneg (r := false) hs (p := j) (by omega)
  have q1 := specPosv_f (k + 3) (by omega) i true x y l
  have q2 := specPosv_f (k + 3) (by omega) j false x y l
  rw [if_pos ⟨⟨h0, by omega⟩, hs⟩] at q1
  rw [if_pos ⟨⟨by omega, by omega⟩, hs⟩] at q2
  simp only [spec_SpanMove.f, q1, q2, spec_SpanMove.j0, Option.bind_some]
  rw [if_neg (by omega), if_neg (by omega)]
  have e : decide (j < i) = false := decide_eq_false (by omega)
  rw [e, if_neg (by decide)]
  unfold span mx
  by_cases h3 : i = j
  · rw [if_pos h3, if_pos (.inl h3)]
  · rw [if_neg h3]
    by_cases h4 : posv j false x y l.length < posv i true x y l.length
    · rw [if_neg (by omega), if_pos (.inr h4)]
    · rw [if_neg (show ¬ (i = j ∨ posv j false x y l.length < posv i true x y l.length) by omega)]
      congr 2
      split <;> omega
theorem implSpan_f (k : Nat) (hk : 4 ≤ k) (i j x y : Int) (l : List Int) (hs : small x y l = true) (h0 : 0 ≤ i) (h1 : i ≤ j) (h2 : j ≤ 400) : impl_Edit_span.f k x y l i j = some (span i j x y l.length) := by
  simp only [impl_Edit_span.f, implPosv_f k (by omega) i true x y l hs h0 (by omega), implPosv_f k (by omega) j false x y l hs (by omega) (by omega), Option.bind_some]
  unfold span
  by_cases h4 : posv j false x y l.length < posv i true x y l.length
  · rw [if_pos h4, if_pos (.inr h4)]
  · rw [if_neg h4]
    by_cases h3 : i = j
    · rw [if_pos h3, if_pos (.inl h3)]
    · rw [if_neg h3, if_neg (show ¬ (i = j ∨ posv j false x y l.length < posv i true x y l.length) by omega)]
theorem lget_set (l : List S34) (p : Nat) (y : S34) (i : Nat) (hi : i < l.length) : lget (l.set p y) i = if p = i then y else lget l i := by
  rw [lget_lt _ i (by rw [List.length_set]; exact hi), lget_lt l i hi, List.getElem_set]
theorem lget_ins (l : List S34) (p : Nat) (y : S34) (i : Nat) (hp : p ≤ l.length) (hi : i < l.length + 1) : lget (l.take p ++ y :: l.drop p) i = if i < p then lget l i else if i = p then y else lget l (i - 1) := by
  have htl : (l.take p).length = p := by rw [List.length_take]; omega
  have hlen : (l.take p ++ y :: l.drop p).length = l.length + 1 := by simp only [List.length_append, List.length_cons, List.length_drop, htl]; omega
  rw [lget_lt _ i (by omega)]
  by_cases h1 : i < p
  · rw [if_pos h1, List.getElem_append_left (by omega), List.getElem_take, lget_lt l i (by omega)]
  · rw [if_neg h1, List.getElem_append_right (by omega)]
    by_cases h2 : i = p
    · rw [if_pos h2]
      simp [htl, h2]
    · rw [if_neg h2, lget_lt l (i - 1) (by omega)]
      obtain ⟨d, hd⟩ : ∃ d, i = p + 1 + d := ⟨i - p - 1, by omega⟩
      subst hd
      simp only [htl]
      have e : p + 1 + d - p = d + 1 := by omega
      simp only [e, List.getElem_cons_succ, List.getElem_drop]
      congr 1
      omega
theorem less_keys {a b a' b' : S34} (h0 : a.f0 = a'.f0) (h1 : a.f1 = a'.f1) (h2 : a.f2 = a'.f2) (g0 : b.f0 = b'.f0) (g1 : b.f1 = b'.f1) (g2 : b.f2 = b'.f2) : less a b = less a' b' := by
  unfold less
  rw [h0, h1, h2, g0, g1, g2]
theorem putl_ordered {l : List S34} (ho : ordered l) (x : S34) : ordered (putl l x) := by
  obtain ⟨hp1, hp2, hp3⟩ := pos_spec ho x
  unfold putl
  by_cases hf : BS.found l x = true
  · rw [if_pos hf]
    obtain ⟨hpl, he⟩ := (found_iff l x).1 hf
    generalize BS.pos l x = p at hpl he
    unfold eqk at he
    rw [decide_eq_true_eq] at he
    intro i j hij hj
    rw [List.length_set] at hj
    rw [lget_set l p _ i (by omega), lget_set l p _ j hj]
    have h := ho i j hij hj
    by_cases e1 : p = i
    · subst e1
      rw [if_pos rfl, if_neg (by omega), ← h]
      exact less_keys he.1.symm he.2.1.symm he.2.2.symm rfl rfl rfl
    · rw [if_neg e1]
      by_cases e2 : p = j
      · subst e2
        rw [if_pos rfl, ← h]
        exact less_keys rfl rfl rfl he.1.symm he.2.1.symm he.2.2.symm
      · rw [if_neg e2]; exact h
  · rw [if_neg hf]
    have hnf := fun i hi => mt (found_at ho x i hi).1 (fun h => hf h.1)
    generalize BS.pos l x = p at hp1 hp2 hp3
    intro i j hij hj
    have hlen : (l.take p ++ x :: l.drop p).length = l.length + 1 := by simp only [List.length_append, List.length_cons, List.length_drop, List.length_take]; omega
    rw [hlen] at hj
    rw [lget_ins l p x i hp1 (by omega), lget_ins l p x j hp1 hj]
    by_cases h1 : i < p
    · rw [if_pos h1]
      by_cases h2 : j < p
      · rw [if_pos h2]; exact ho i j hij (by omega)
      · rw [if_neg h2]
        by_cases h3 : j = p
        · rw [if_pos h3]; exact hp2 i h1
        · rw [if_neg h3]; exact ho i (j - 1) (by omega) (by omega)
    · rw [if_neg h1, if_neg (show ¬ j < p by omega), if_neg (show ¬ j = p by omega)]
      by_cases h3 : i = p
      · rw [if_pos h3]; exact less_total (hp3 (j - 1) (by omega) (by omega)) (hnf (j - 1) (by omega))
      · rw [if_neg h3]; exact ho (i - 1) (j - 1) (by omega) (by omega)
theorem putl_session {l : List S34} (h : ∀ a ∈ l, a.f2 ≠ 0) (x : S34) (hx : x.f2 ≠ 0) : ∀ a ∈ putl l x, a.f2 ≠ 0 := by
  unfold putl
  intro a ha
  split at ha
  · rcases List.mem_or_eq_of_mem_set ha with h1 | h1
    · exact h a h1
    · rw [h1]; exact hx
  · rcases List.mem_append.1 ha with h1 | h1
    · exact h a (List.mem_of_mem_take h1)
    · rcases List.mem_cons.1 h1 with h2 | h2
      · rw [h2]; exact hx
      · exact h a (List.mem_of_mem_drop h2)
theorem putl_len (l : List S34) (x : S34) : (putl l x).length ≤ l.length + 1 := by
  unfold putl
  split
  · rw [List.length_set]; omega
  · simp only [List.length_append, List.length_cons, List.length_take, List.length_drop]; omega
theorem mx_comm (a b : Int) : mx a b = mx b a := by unfold mx; split <;> split <;> omega
theorem put_eq (l : List S34) (x : S34) : LM.put l x = putl l x := by
  unfold LM.put putl
  by_cases hf : BS.found l x = true
  · rw [if_pos hf, if_pos hf]
    have he := ((found_iff l x).1 hf).2
    unfold eqk at he
    rw [decide_eq_true_eq] at he
    rw [rdT_nat, he.1, he.2.1, he.2.2, mx_comm]
  · rw [if_neg hf, if_neg hf]
/-- The leases, one after the other. -/
def mv (x y n : Int) : List S34 → List S34 → List S34 × Bool
  | [], out => (out, true)
  | a :: zs, out => if (span a.f0 a.f1 x y n).2 > 400 then ([], false) else if (span a.f0 a.f1 x y n).1 = (span a.f0 a.f1 x y n).2 then mv x y n zs out else mv x y n zs (putl out ⟨(span a.f0 a.f1 x y n).1, (span a.f0 a.f1 x y n).2, a.f2, a.f3⟩)
theorem mv_len (x y n : Int) : ∀ (zs out : List S34), (mv x y n zs out).1.length ≤ zs.length + out.length := by
  intro zs
  induction zs with
  | nil => intro out; simp [mv]
  | cons a zs ih =>
    intro out
    unfold mv
    split
    · simp
    · split
      · exact Nat.le_trans (ih out) (by rw [List.length_cons]; omega)
      · refine Nat.le_trans (ih _) ?_
        have := putl_len out ⟨(span a.f0 a.f1 x y n).1, (span a.f0 a.f1 x y n).2, a.f2, a.f3⟩
        rw [List.length_cons]
        omega
theorem right_range {a : S34} (h : right a = true) : 0 ≤ a.f0 ∧ a.f0 ≤ a.f1 ∧ a.f1 ≤ 400 ∧ a.f2 ≠ 0 := by
  unfold right at h
  rw [decide_eq_true_eq] at h
  omega
theorem lok_right {l : List S34} (h : lok l = true) : ∀ i, i < l.length → right (lget l i) = true := by
  unfold lok at h
  rw [decide_eq_true_eq] at h
  intro i hi
  have := h.2 i hi
  unfold leaseAt at this
  rw [Bool.and_eq_true] at this
  exact this.1
theorem specGo_f (l : List S34) (x y : Int) (e : List Int) (hs : small x y e = true) (hr : ∀ i, i < l.length → right (lget l i) = true) (hl : l.length ≤ 1048576) :
    ∀ (d k i : Nat) (out : List S34), i + d = l.length → d + 2 * l.length + 20 < k → out.length ≤ i → ordered out → (∀ a ∈ out, a.f2 ≠ 0) → spec_LeaseMoved.l0 k l out (i : Int) x y e = some (mv x y e.length (l.drop i) out).1 := by
  intro d
  induction d with
  | zero =>
    intro k i out hi hk ho hod hse
    obtain ⟨k, rfl, hk⟩ := pos_k hk
    simp only [spec_LeaseMoved.l0]
    rw [if_neg (by omega), List.drop_of_length_le (by omega)]
    rfl
  | succ d ih =>
    intro k i out hi hk ho hod hse
    obtain ⟨k, rfl⟩ : ∃ q, k = q + 1 := ⟨k - 1, by omega⟩
    have hlt : i < l.length := by omega
    obtain ⟨r0, r1, r2, r3⟩ := right_range (hr i hlt)
    simp only [spec_LeaseMoved.l0]
    rw [if_pos (by omega), if_pos (by omega), rdT_nat, specSpan_f k (by omega) _ _ x y e hs r0 r1 r2, w64s i (by omega), drop_lget l i hlt]
    simp only [Option.bind_some, mv]
    have hle := span_le (lget l i).f0 (lget l i).f1 x y e.length
    by_cases h4 : (span (lget l i).f0 (lget l i).f1 x y e.length).2 > 400
    · rw [if_pos h4, if_pos h4]
    · rw [if_neg h4, if_neg h4]
      by_cases h5 : (span (lget l i).f0 (lget l i).f1 x y e.length).1 = (span (lget l i).f0 (lget l i).f1 x y e.length).2
      · rw [if_neg (by omega), if_pos h5]
        exact ih k (i + 1) out (by omega) (by omega) (by omega) hod hse
      · rw [if_pos (by omega), if_neg h5]
        have hp := put_f k out ⟨(span (lget l i).f0 (lget l i).f1 x y e.length).1, (span (lget l i).f0 (lget l i).f1 x y e.length).2, (lget l i).f2, (lget l i).f3⟩ hod hse (by omega) (by omega)
        simp only at hp
        rw [hp]
        simp only [Option.bind_some]
        exact ih k (i + 1) _ (by omega) (by omega) (Nat.le_trans (putl_len _ _) (by omega)) (putl_ordered hod _) (putl_session hse _ r3)
theorem implGo_f (k : Nat) (hk : 4 ≤ k) (x y : Int) (e : List Int) (hs : small x y e = true) : ∀ (zs out : List S34), (∀ a ∈ zs, right a = true) → LM.go k x y e zs out = some (mv x y e.length zs out) := by
  intro zs
  induction zs with
  | nil => intro out _; rfl
  | cons a zs ih =>
    intro out hr
    obtain ⟨r0, r1, r2, r3⟩ := right_range (hr a List.mem_cons_self)
    have hr2 := fun b hb => hr b (List.mem_cons_of_mem a hb)
    simp only [LM.go, mv]
    rw [implSpan_f k hk _ _ x y e hs r0 r1 r2]
    simp only [Option.bind_some, put_eq, ih _ hr2]
    by_cases h4 : (span a.f0 a.f1 x y e.length).2 > 400
    · rw [if_pos h4, if_pos h4]
    · rw [if_neg h4, if_neg h4]
      by_cases h5 : (span a.f0 a.f1 x y e.length).1 = (span a.f0 a.f1 x y e.length).2
      · rw [if_pos h5, if_pos h5]
      · rw [if_neg h5, if_neg h5]
/-- What LeaseMoved answers. -/
def moved (l : List S34) (x y : Int) (e : List Int) : List S34 := if lok l = true ∧ small x y e = true then (mv x y e.length l []).1 else []
theorem moved_len (l : List S34) (x y : Int) (e : List Int) : (moved l x y e).length ≤ l.length := by
  unfold moved
  split
  · have := mv_len x y e.length l []
    simpa using this
  · simp
theorem specMoved_f (k : Nat) (l : List S34) (x y : Int) (e : List Int) (hk : 4 * l.length + 40 < k) (hl : l.length ≤ 1048576) : spec_LeaseMoved.f k l x y e = some (moved l x y e) := by
  obtain ⟨k, rfl⟩ : ∃ m, k = m + 1 := ⟨k - 1, by omega⟩
  unfold spec_LeaseMoved.f moved
  rw [specLeases_f (k + 1) l (by omega) hl, specSmall_f]
  simp only [Option.bind_some]
  cases hb : lok l with
  | false =>
    unfold lok at hb
    rw [hb, if_neg (by simp), if_neg (by simp)]
    simp [spec_LeaseMoved.j0]
  | true =>
    have hr := lok_right hb
    unfold lok at hb
    rw [hb, if_pos rfl]
    cases hs : small x y e with
    | false => simp [spec_LeaseMoved.j0]
    | true =>
      rw [if_pos ⟨rfl, rfl⟩]
      simp only [spec_LeaseMoved.j0, Bool.not_true, Bool.false_eq_true, if_false]
      have h := specGo_f l x y e hs hr hl l.length k 0 [] (by omega) (by omega) (by simp) (fun i j h1 h2 => by simp at h2) (by simp)
      rw [List.drop_zero] at h
      exact h
theorem implMoved_f (k : Nat) (l : List S34) (x y : Int) (e : List Int) (hk : 4 * l.length + 40 < k) (hl : l.length ≤ 1048576) : impl_LeaseMoved.f k l x y e = some (moved l x y e) := by
  unfold impl_LeaseMoved.f moved impl_leaseMoved.f
  rw [implLeases_f k l (by omega) hl, implSmall_f]
  simp only [Option.bind_some]
  cases hb : lok l with
  | false =>
    unfold lok at hb
    rw [hb, if_neg (by simp), if_neg (by simp)]
  | true =>
    have hr := lok_right hb
    unfold lok at hb
    rw [hb, if_pos rfl]
    cases hs : small x y e with
    | false => simp
    | true =>
      rw [decide_eq_true_eq] at hb
      rw [if_pos rfl, if_pos (show true = true ∧ true = true from ⟨rfl, rfl⟩), if_pos (by omega), implGo_f k (by omega) x y e hs l [] (fun a ha => by
        obtain ⟨i, hi, rfl⟩ := List.mem_iff_getElem.1 ha
        rw [← lget_lt l i hi]
        exact hr i hi)]
      rfl
theorem FnExactLeaseMoved (l0 : List S31) (a1_0 : Int) (a1_1 : Int) (l1_2 : List Int) (wl0 : (l0.length ≤ maxLen ∧ ∀ x ∈ l0, wf31 x)) (wa1_0 : (Lit.int .i64 a1_0).wf = true) (wa1_1 : (Lit.int .i64 a1_1).wf = true) (wl1_2 : (l1_2.length ≤ maxLen ∧ ∀ x ∈ l1_2, (Lit.int .u8 x).wf = true)) : ∃ k, laws_FnExactLeaseMoved.f k l0 a1_0 a1_1 l1_2 = some true := by
  have ha := wl0.1
  have hb := wl1_2.1
  unfold maxLen at ha hb
  refine ⟨4 * l0.length + l1_2.length + 60, ?_⟩
  generalize hk : 4 * l0.length + l1_2.length + 60 = k
  unfold laws_FnExactLeaseMoved.f
  rw [szLeaseS_f l0 (by omega)]
  simp only [Option.bind_some]
  by_cases c1 : (l0.length : Int) ≤ 1048576
  · rw [if_pos c1, if_neg (by omega), szEdit_f _ _ _ _ (by omega) (by omega) hb]
    simp only [Option.bind_some]
    by_cases c2 : (l1_2.length : Int) ≤ 1048576 - (l0.length : Int)
    · rw [if_pos c2, if_neg (by omega)]
      have hm : (l0.map conv).length = l0.length := by simp
      obtain ⟨k, rfl⟩ : ∃ m, k = m + 1 := ⟨k - 1, by omega⟩
      have hg := moved_len (l0.map conv) a1_0 a1_1 l1_2
      have hs : ∀ q, 4 * l0.length + 40 < q → spec_LeaseMoved.f q (l0.map conv) a1_0 a1_1 l1_2 = some (moved (l0.map conv) a1_0 a1_1 l1_2) := fun q hq => specMoved_f q _ _ _ _ (by omega) (by omega)
      have hi : ∀ q, 4 * l0.length + 40 < q → impl_LeaseMoved.f q (l0.map conv) a1_0 a1_1 l1_2 = some (moved (l0.map conv) a1_0 a1_1 l1_2) := fun q hq => implMoved_f q _ _ _ _ (by omega) (by omega)
      generalize moved (l0.map conv) a1_0 a1_1 l1_2 = g at hg hs hi
      simp only [toLeaseS_f (k + 1) l0 (by omega) (by omega), toEdit_f (k + 1) _ _ l1_2 (by omega) (by omega), Option.bind_some, hs (k + 1) (by omega), hi (k + 1) (by omega), eqLeaseS_self (k + 1) g (by omega) (by omega), eqLeaseS_self (k + 1) (l0.map conv) (by omega) (by omega), eqEdit_self (k + 1) a1_0 a1_1 l1_2 (by omega) (by omega), if_true, markLeaseS_f (k + 1) (l0.map conv) (by omega) (by omega), laws_markEdit.f, markByteS_f (k + 1) l1_2 (1 + 4 * ((l0.map conv).length : Int)) (by omega) (by omega) (by omega) (by omega)]
      rw [if_neg (by omega)]
      simp only [laws_FnExactLeaseMoved.j0, Bool.not_true, Bool.false_eq_true, if_false, markLeaseS_f k g (by omega) (by omega), Option.bind_some, heldLeaseS_f k g.length (by omega) (by omega), if_true, toLeaseS_f k l0 (by omega) (by omega), toEdit_f k _ _ l1_2 (by omega) (by omega), hi k (by omega), eqLeaseS_self k g (by omega) (by omega)]
      rw [if_neg (by omega)]
      rw [if_neg (by omega)]
    · rw [if_neg c2, if_pos (by omega)]
  · rw [if_neg c1, if_pos (by omega)]

end Go.Proofs.Ytoelccjfdiidpaa.Pure
