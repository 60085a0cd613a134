/-
  Plain lemmas for the pure statements of this seat: loops over lists, wraparound, marks. No program in sight.
-/
import Derived.Test.YtgginlfbdhkepaaWMore
namespace Go.Proofs.Ytgginlfbdhkepaa.Gen
open Go.RowKit Go.Proofs.YtgginlfbdhkepaaW.PrintWords

theorem w64 {x : Int} (h0 : -9223372036854775808 ≤ x) (h1 : x ≤ 9223372036854775807) : wrap64 x = x := by unfold wrap64; omega
theorem w32 {x : Int} (h0 : -2147483648 ≤ x) (h1 : x ≤ 2147483647) : wrap32 x = x := by unfold wrap32; omega
theorem w64s (i : Nat) (h : i < 9223372036854775807) : wrap64 ((i : Int) + 1) = ((i + 1 : Nat) : Int) := by unfold wrap64; omega

theorem pos_k {d k : Nat} (h : d < k) : ∃ m, k = m + 1 ∧ d ≤ m := ⟨k - 1, by omega, by omega⟩

theorem rd_nat (l : List Int) (i : Nat) : rd l (i : Int) = l.getD i 0 := by simp [rd]

/-- A loop over i = 0 .. n-1 that threads a state: it comes to what the fold comes to. 'st i s': the round's outcome. -/
def run {σ ρ : Type} (st : Nat → σ → σ ⊕ ρ) (fin : σ → ρ) : Nat → Nat → σ → ρ
  | 0, _, s => fin s
  | d + 1, i, s => match st i s with
    | .inl s' => run st fin d (i + 1) s'
    | .inr r => r

theorem for_loop {σ ρ : Type} {L : Nat → σ → Int → Option ρ} (n N : Nat) (st : Nat → σ → σ ⊕ ρ) (fin : σ → ρ) (Inv : Nat → σ → Prop)
    (hstep : ∀ k s (i : Nat), N ≤ k → i < n → Inv i s → (∀ s', st i s = .inl s' → Inv (i + 1) s') ∧ L (k + 1) s (i : Int) = (match st i s with | .inl s' => L k s' ((i + 1 : Nat) : Int) | .inr r => some r))
    (hend : ∀ k s, N ≤ k → Inv n s → L (k + 1) s (n : Int) = some (fin s)) :
    ∀ (d k i : Nat) (s : σ), i + d = n → d + N < k → Inv i s → L k s (i : Int) = some (run st fin d i s) := by
  intro d
  induction d with
  | zero =>
    intro k i s hi hk hs
    obtain ⟨k, rfl, hk⟩ := pos_k hk
    obtain rfl : i = n := by omega
    rw [hend k s (by omega) hs]
    rfl
  | succ d ih =>
    intro k i s hi hk hs
    obtain ⟨k, rfl, hk⟩ := pos_k hk
    obtain ⟨h1, h2⟩ := hstep k s i (by omega) (by omega) hs
    rw [h2]
    unfold run
    cases h : st i s with
    | inl s' => exact ih k (i + 1) s' (by omega) (by omega) (h1 s' h)
    | inr r => rfl

/-- The loops of laws.toXS: 'out[i] = g(l[i])'. -/
theorem map_loop {α β : Type} {L : Nat → List β → Int → Option (List β)} (l : List α) (g : α → β) (da : α) (N : Nat)
    (hstep : ∀ k (out : List β) (i : Nat), N ≤ k → i < l.length → out.length = l.length → L (k + 1) out (i : Int) = L k (out.set i (g (l.getD i da))) ((i + 1 : Nat) : Int))
    (hend : ∀ k (out : List β), out.length = l.length → L (k + 1) out (l.length : Int) = some out) :
    ∀ (k : Nat) (out : List β), l.length + N < k → out.length = l.length → L k out 0 = some (l.map g) := by
  have key : ∀ (d k i : Nat) (out : List β), i + d = l.length → d + N < k → out.length = l.length → (∀ j, j < i → out[j]? = (l.map g)[j]?) → L k out (i : Int) = some (l.map g) := by
    intro d
    induction d with
    | zero =>
      intro k i out hi hk ho hj
      obtain ⟨k, rfl, hk⟩ := pos_k hk
      obtain rfl : i = l.length := by omega
      rw [hend k out ho]
      congr 1
      apply List.ext_getElem?
      intro j
      by_cases h : j < l.length
      · exact hj j h
      · rw [List.getElem?_eq_none (by omega), List.getElem?_eq_none (by simp; omega)]
    | succ d ih =>
      intro k i out hi hk ho hj
      obtain ⟨k, rfl, hk⟩ := pos_k hk
      rw [hstep k out i (by omega) (by omega) ho]
      refine ih k (i + 1) _ (by omega) (by omega) (by simpa using ho) ?_
      intro j hj'
      by_cases e : j = i
      · subst e
        have hl : j < l.length := by omega
        rw [List.getElem?_set_self (by omega), List.getElem?_map, List.getElem?_eq_getElem hl, List.getD_eq_getElem?_getD, List.getElem?_eq_getElem hl]
        rfl
      · rw [List.getElem?_set_ne (by omega)]
        exact hj j (by omega)
  intro k out hk ho
  exact key l.length k 0 out (by omega) (by omega) ho (fun j hj => by omega)

/-- The loops that ask something of each place. -/
theorem all_loop {L : Nat → Int → Option Bool} (n N : Nat) (p : Nat → Bool)
    (hstep : ∀ k (i : Nat), N ≤ k → i < n → L (k + 1) (i : Int) = if p i = true then L k ((i + 1 : Nat) : Int) else some false)
    (hend : ∀ k, L (k + 1) (n : Int) = some true) :
    ∀ (k : Nat), n + N < k → ∃ b, L k 0 = some b ∧ (b = true ↔ ∀ i, i < n → p i = true) := by
  have key : ∀ (d k i : Nat), i + d = n → d + N < k → ∃ b, L k (i : Int) = some b ∧ (b = true ↔ ∀ j, i ≤ j → j < n → p j = true) := by
    intro d
    induction d with
    | zero =>
      intro k i hi hk
      obtain ⟨k, rfl, hk⟩ := pos_k hk
      obtain rfl : i = n := by omega
      exact ⟨true, hend k, by simp only [true_iff]; intro j h1 h2; omega⟩
    | succ d ih =>
      intro k i hi hk
      obtain ⟨k, rfl, hk⟩ := pos_k hk
      rw [hstep k i (by omega) (by omega)]
      by_cases h : p i = true
      · rw [if_pos h]
        obtain ⟨b, h1, h2⟩ := ih k (i + 1) (by omega) (by omega)
        refine ⟨b, h1, h2.trans ⟨fun H j h1 h2 => ?_, fun H j h1 h2 => H j (by omega) h2⟩⟩
        by_cases e : j = i
        · subst e; exact h
        · exact H j (by omega) h2
      · rw [if_neg h]
        exact ⟨false, rfl, by simp only [Bool.false_eq_true, false_iff]; exact fun H => h (H i (by omega) (by omega))⟩
  intro k hk
  obtain ⟨b, h1, h2⟩ := key n k 0 (by omega) (by omega)
  exact ⟨b, h1, h2.trans ⟨fun H j h => H j (by omega) h, fun H j _ h => H j h⟩⟩

theorem eq_of_getD {α : Type} (d : α) {l l' : List α} (hl : l.length = l'.length) : (∀ i, i < l.length → l.getD i d = l'.getD i d) ↔ l = l' := by
  constructor
  · intro H
    apply List.ext_getElem hl
    intro i h1 h2
    have := H i h1
    rw [List.getD_eq_getElem?_getD, List.getD_eq_getElem?_getD, List.getElem?_eq_getElem h1, List.getElem?_eq_getElem h2] at this
    exact this
  · rintro rfl i _
    rfl

/-- What markByteS leaves: m, m + 1, .. as bytes. -/
def marks (n : Nat) (m : Int) : List Int := (List.range n).map fun j : Nat => (m + (j : Int)) % 256
theorem marks_length (n : Nat) (m : Int) : (marks n m).length = n := by simp [marks]
theorem marks_getD (n : Nat) (m : Int) (i : Nat) (h : i < n) : (marks n m).getD i 0 = (m + (i : Int)) % 256 := by
  rw [List.getD_eq_getElem?_getD, List.getElem?_eq_getElem (by simpa [marks] using h)]
  simp [marks]

theorem mark_loop {L : Nat → List Int → Int → Int → Option (Int × List Int)} (n : Nat) (m : Int)
    (hstep : ∀ k (out : List Int) (i : Nat), i < n → out.length = n → L (k + 1) out (m + (i : Int)) (i : Int) = L k (out.set i ((m + (i : Int)) % 256)) (m + ((i + 1 : Nat) : Int)) ((i + 1 : Nat) : Int))
    (hend : ∀ k (out : List Int), out.length = n → L (k + 1) out (m + (n : Int)) (n : Int) = some (m + (n : Int), out)) :
    ∀ (k : Nat) (out : List Int), n < k → out.length = n → L k out m 0 = some (m + (n : Int), marks n m) := by
  have key : ∀ (d k i : Nat) (out : List Int), i + d = n → d < k → out.length = n → (∀ j, j < i → out[j]? = (marks n m)[j]?) → L k out (m + (i : Int)) (i : Int) = some (m + (n : Int), marks n m) := by
    intro d
    induction d with
    | zero =>
      intro k i out hi hk ho hj
      obtain ⟨k, rfl, hk⟩ := pos_k hk
      obtain rfl : i = n := by omega
      rw [hend k out ho]
      congr 2
      apply List.ext_getElem?
      intro j
      by_cases h : j < i
      · exact hj j h
      · rw [List.getElem?_eq_none (by omega), List.getElem?_eq_none (by rw [marks_length]; omega)]
    | succ d ih =>
      intro k i out hi hk ho hj
      obtain ⟨k, rfl, hk⟩ := pos_k hk
      rw [hstep k out i (by omega) ho]
      refine ih k (i + 1) _ (by omega) (by omega) (by simpa using ho) ?_
      intro j hj'
      by_cases e : j = i
      · subst e
        rw [List.getElem?_set_self (by omega), List.getElem?_eq_getElem (by rw [marks_length]; omega)]
        simp [marks]
      · rw [List.getElem?_set_ne (by omega)]
        exact hj j (by omega)
  intro k out hk ho
  have := key n k 0 out (by omega) (by omega) ho (fun j hj => by omega)
  simpa using this

theorem held_loop {L : Nat → Int → Int → Option Int} (n : Nat) (m : Int)
    (hstep : ∀ k (i : Nat), i < n → L (k + 1) (m + (i : Int)) (i : Int) = L k (m + ((i + 1 : Nat) : Int)) ((i + 1 : Nat) : Int))
    (hend : ∀ k, L (k + 1) (m + (n : Int)) (n : Int) = some (m + (n : Int))) :
    ∀ (k : Nat), n < k → L k m 0 = some (m + (n : Int)) := by
  have key : ∀ (d k i : Nat), i + d = n → d < k → L k (m + (i : Int)) (i : Int) = some (m + (n : Int)) := by
    intro d
    induction d with
    | zero =>
      intro k i hi hk
      obtain ⟨k, rfl, hk⟩ := pos_k hk
      obtain rfl : i = n := by omega
      exact hend k
    | succ d ih =>
      intro k i hi hk
      obtain ⟨k, rfl, hk⟩ := pos_k hk
      rw [hstep k i (by omega)]
      exact ih k (i + 1) (by omega) (by omega)
  intro k hk
  have := key n k 0 (by omega) (by omega)
  simpa using this

end Go.Proofs.Ytgginlfbdhkepaa.Gen
