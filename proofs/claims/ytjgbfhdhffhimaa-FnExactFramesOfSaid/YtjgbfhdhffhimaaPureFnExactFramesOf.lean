/-
  The law FnExactFramesOf in plain words: what the program's function computes is what the reference's computes. No memory, no machine.
-/
import Derived.Test.YtjgbfhdhffhimaaPFnExactFramesOfx
import Derived.Test.YtjgbfhdhffhimaaGen
namespace Go.Proofs.Ytjgbfhdhffhimaa.Pure
open Go.RowKit Go.Proofs.Ytjgbfhdhffhimaa.PFnExactFramesOf Go.Proofs.YtjgbfhdhffhimaaW.PrintWords Go.Proofs.YtjgbfhdhffhimaaW.PrintLast Go.Proofs.YtjgbfhdhffhimaaW.PrintMore Go.Proofs.Ytjgbfhdhffhimaa.Gen
set_option linter.unusedVariables false
set_option linter.unusedSimpArgs false

def wf56 (x : S56) : Prop := (x.f0.length ≤ maxLen ∧ ∀ y ∈ x.f0, (Lit.int .u8 y).wf = true)
theorem toByteS_f (k : Nat) (l : List Int) (hk : l.length < k) (hl : l.length ≤ 1048576) : laws_toByteS.f k l = some l := by
  have h := map_loop (L := fun k out i => laws_toByteS.l0 k l out i) l id 0 0 (fun k out i _ hi ho => by
      simp only [laws_toByteS.l0]
      rw [if_pos (by omega), if_pos (by omega), if_pos (by omega), w64s i (by omega), rd_nat]
      rfl) (fun k out ho => by
      simp only [laws_toByteS.l0]
      rw [if_neg (by omega)]) k (List.replicate ((l.length : Int)).toNat 0) (by omega) (by simp)
  unfold laws_toByteS.f
  rw [if_pos (by omega), if_pos (by omega)]
  simpa using h
theorem eqByteS_f (k : Nat) (l l' : List Int) (hk : l.length < k) (hl : l.length ≤ 1048576) : laws_eqByteS.f k l l' = some (decide (l = l')) := by
  unfold laws_eqByteS.f
  by_cases e : l.length = l'.length
  · rw [if_pos (by omega)]
    obtain ⟨b, h, hb⟩ := all_loop (L := fun k i => laws_eqByteS.l0 k l l' i) l.length 0 (fun i => decide (l.getD i 0 = l'.getD i 0)) (fun k i _ hi => by
      simp only [laws_eqByteS.l0]
      rw [if_pos (by omega), if_pos (by omega), if_pos (by omega), w64s i (by omega), rd_nat, rd_nat]
      simp only [decide_eq_true_eq]) (fun k => by
      simp only [laws_eqByteS.l0]
      rw [if_neg (by omega)]) k (by omega)
    refine h.trans ?_
    congr 1
    simp only [decide_eq_true_eq] at hb
    rw [Bool.eq_iff_iff, decide_eq_true_eq]
    exact hb.trans (eq_of_getD 0 e)
  · rw [if_neg (by omega)]
    congr 1
    symm
    exact decide_eq_false (fun h => e (by rw [h]))
theorem eqByteS_self (k : Nat) (l : List Int) (hk : l.length < k) (hl : l.length ≤ 1048576) : laws_eqByteS.f k l l = some true := by
  rw [eqByteS_f k l l hk hl]; simp
theorem szByteS_f (l : List Int) (a : Int) (h0 : 0 ≤ a) (h1 : a ≤ 1048576) (hl : l.length ≤ 9223372036854775807) :
    laws_szByteS.f l a = some (if (l.length : Int) ≤ a then a - (l.length : Int) else -1) := by
  unfold laws_szByteS.f
  rw [w64 (x := a - (l.length : Int)) (by omega) (by omega)]
  by_cases h : (l.length : Int) ≤ a
  · rw [if_neg (by omega), if_pos h]
  · rw [if_pos (by omega), if_neg h]
theorem toPiece_f (k : Nat) (l : List Int) (hk : l.length < k) (hl : l.length ≤ 1048576) : laws_toPiece.f k l = some l := by
  unfold laws_toPiece.f
  rw [toByteS_f k l hk hl]
  rfl
theorem szPiece_f (l : List Int) (a : Int) (h0 : 0 ≤ a) (h1 : a ≤ 1048576) (hl : l.length ≤ 9223372036854775807) :
    laws_szPiece.f l a = some (if (l.length : Int) ≤ a then a - (l.length : Int) else -1) := by
  unfold laws_szPiece.f
  rw [szByteS_f l a h0 h1 hl]
  simp only [Option.bind_some]
  by_cases h : (l.length : Int) ≤ a
  · rw [if_pos h, if_neg (by omega)]
  · rw [if_neg h, if_pos (by omega)]
theorem wf_i64 {x : Int} (h : (Lit.int .i64 x).wf = true) : -9223372036854775808 ≤ x ∧ x ≤ 9223372036854775807 := by
  simp only [Lit.wf, Bool.and_eq_true, decide_eq_true_eq] at h
  exact ⟨h.1, h.2⟩
theorem wf_u8 {x : Int} (h : (Lit.int .u8 x).wf = true) : 0 ≤ x ∧ x ≤ 255 := by
  simp only [Lit.wf, Bool.and_eq_true, decide_eq_true_eq] at h
  exact ⟨h.1, h.2⟩
/-- All the bytes of pieces. -/
def sumP (l : List S49) : Nat := (l.map fun c => c.f0.length).sum
theorem sumP_cons (c : S49) (l : List S49) : sumP (c :: l) = c.f0.length + sumP l := by simp [sumP]
theorem rdP_drop (l : List S49) (i : Nat) (h : i < l.length) : l.drop i = rd_T49 l (i : Int) :: l.drop (i + 1) := by
  rw [List.drop_eq_getElem_cons h]
  unfold rd_T49
  rw [Int.toNat_natCast, List.getD_eq_getElem?_getD, List.getElem?_eq_getElem h]
  rfl
theorem rdP_mem (l : List S49) (i : Nat) (h : i < l.length) : rd_T49 l (i : Int) ∈ l := List.mem_of_mem_drop (i := i) (by rw [rdP_drop l i h]; exact List.mem_cons_self)
theorem eqPiece_self (k : Nat) (l : List Int) (hk : l.length < k) (hl : l.length ≤ 1048576) : laws_eqPiece.f k l l = some true := by
  unfold laws_eqPiece.f
  rw [eqByteS_self k l hk hl]
  rfl
theorem eqPieceS_self (k : Nat) (l : List S49) (hl : l.length ≤ 1048576) (hw : ∀ c ∈ l, c.f0.length ≤ 1048576) (hk : 2097154 < k) : laws_eqPieceS.f k l l = some true := by
  have key : ∀ (d i k : Nat), i + d = l.length → d + 1048577 < k → laws_eqPieceS.l0 k l l (i : Int) = some true := by
    intro d
    induction d with
    | zero =>
      intro i k hi hk
      obtain ⟨k, rfl⟩ : ∃ m, k = m + 1 := ⟨k - 1, by omega⟩
      simp only [laws_eqPieceS.l0]
      rw [if_neg (by omega)]
    | succ d ih =>
      intro i k hi hk
      obtain ⟨k, rfl⟩ : ∃ m, k = m + 1 := ⟨k - 1, by omega⟩
      simp only [laws_eqPieceS.l0]
      have := hw _ (rdP_mem l i (by omega))
      rw [if_pos (by omega), if_pos (by omega), if_pos (by omega), eqPiece_self k _ (by omega) (by omega)]
      simp only [Option.bind_some, if_true]
      rw [w64s i (by omega)]
      exact ih (i + 1) k (by omega) (by omega)
  unfold laws_eqPieceS.f
  rw [if_pos rfl]
  exact key l.length 0 k (by omega) (by omega)
/-- The bulk of a list of chunks, without the list's own length. -/
def sumL (l : List S56) : Nat := (l.map fun c => c.f0.length).sum
theorem sumL_cons (c : S56) (l : List S56) : sumL (c :: l) = c.f0.length + sumL l := by simp [sumL]
theorem drop_rd (l : List S56) (i : Nat) (h : i < l.length) : l.drop i = rd_T56 l (i : Int) :: l.drop (i + 1) := by
  rw [List.drop_eq_getElem_cons h]
  unfold rd_T56
  rw [Int.toNat_natCast, List.getD_eq_getElem?_getD, List.getElem?_eq_getElem h]
  rfl
theorem sumL_mem {l : List S56} {c : S56} (h : c ∈ l) : c.f0.length ≤ sumL l := by
  induction l with
  | nil => cases h
  | cons d l ih =>
    rw [sumL_cons]
    rcases List.mem_cons.1 h with rfl | h
    · omega
    · have := ih h; omega
theorem szPieceS_l0 (l : List S56) (hw : ∀ c ∈ l, c.f0.length ≤ 9223372036854775807) (hl : l.length ≤ 1048576) : ∀ (d i k : Nat) (x : Int), i + d = l.length → d < k → 0 ≤ x → x ≤ 1048576 →
    laws_szPieceS.l0 k l x (i : Int) = some (if (sumL (l.drop i) : Int) ≤ x then x - (sumL (l.drop i) : Int) else -1) := by
  intro d
  induction d with
  | zero =>
    intro i k x hi hk h0 h1
    obtain ⟨k, rfl⟩ : ∃ m, k = m + 1 := ⟨k - 1, by omega⟩
    simp only [laws_szPieceS.l0]
    rw [if_neg (by omega), List.drop_of_length_le (by omega), show sumL [] = 0 from rfl, if_pos (by omega)]
    congr 1
    omega
  | succ d ih =>
    intro i k x hi hk h0 h1
    obtain ⟨k, rfl⟩ : ∃ m, k = m + 1 := ⟨k - 1, by omega⟩
    simp only [laws_szPieceS.l0]
    have hd := drop_rd l i (by omega)
    have hmem : rd_T56 l (i : Int) ∈ l := List.mem_of_mem_drop (i := i) (by rw [hd]; exact List.mem_cons_self)
    rw [if_pos (by omega), if_pos (by omega), szPiece_f _ x h0 h1 (hw _ hmem), hd, sumL_cons]
    simp only [Option.bind_some]
    by_cases h : ((rd_T56 l (i : Int)).f0.length : Int) ≤ x
    · rw [if_pos h, if_neg (by omega), w64s i (by omega), ih (i + 1) k _ (by omega) (by omega) (by omega) (by omega)]
      by_cases h2 : (sumL (l.drop (i + 1)) : Int) ≤ x - ((rd_T56 l (i : Int)).f0.length : Int)
      · rw [if_pos h2, if_pos (by omega)]
        congr 1
        omega
      · rw [if_neg h2, if_neg (by omega)]
    · rw [if_neg h, if_pos (by omega), if_neg (by omega)]
theorem szPieceS_f (l : List S56) (k : Nat) (x : Int) (h0 : 0 ≤ x) (h1 : x ≤ 1048576) (hm : l.length ≤ 9223372036854775807) (hw : ∀ c ∈ l, c.f0.length ≤ 9223372036854775807) (hk : 1048577 < k) :
    laws_szPieceS.f k l x = some (if (l.length + sumL l : Int) ≤ x then x - (l.length + sumL l : Int) else -1) := by
  unfold laws_szPieceS.f
  rw [w64 (x := x - (l.length : Int)) (by omega) (by omega)]
  by_cases h : (l.length : Int) ≤ x
  · rw [if_neg (by omega)]
    refine (szPieceS_l0 l hw (by omega) l.length 0 k _ (by omega) (by omega) (by omega) (by omega)).trans ?_
    rw [List.drop_zero]
    by_cases h2 : (l.length + sumL l : Int) ≤ x
    · rw [if_pos h2, if_pos (by omega)]
      congr 1
      omega
    · rw [if_neg h2, if_neg (by omega)]
  · rw [if_pos (by omega), if_neg (by omega)]
/-- The same chunks as the program holds them. -/
def toC (l : List S56) : List S49 := l.map fun c => ⟨c.f0⟩
theorem rdC (l : List S56) (i : Nat) (h : i < l.length) : rd_T56 l (i : Int) ∈ l := List.mem_of_mem_drop (i := i) (by rw [drop_rd l i h]; exact List.mem_cons_self)
theorem toPieceS_f (k : Nat) (l : List S56) (hl : l.length + sumL l ≤ 1048576) (hk : 2097154 < k) : laws_toPieceS.f k l = some (toC l) := by
  have h := map_loop (L := fun k out i => laws_toPieceS.l0 k l out i) l (fun c => (⟨c.f0⟩ : S49)) z56 1048577 (fun k out i hk hi ho => by
      simp only [laws_toPieceS.l0]
      have hmem := rdC l i hi
      have := sumL_mem hmem
      rw [if_pos (by omega), if_pos (by omega), toPiece_f k _ (by omega) (by omega)]
      simp only [Option.bind_some]
      rw [if_pos (by omega), w64s i (by omega), Int.toNat_natCast]
      rfl) (fun k out ho => by
      simp only [laws_toPieceS.l0]
      rw [if_neg (by omega)]) k (List.replicate ((l.length : Int)).toNat z49) (by omega) (by simp)
  unfold laws_toPieceS.f
  rw [if_pos (by omega), if_pos (by omega)]
  exact h
theorem rd_toC (l : List S49) (i : Nat) (h : i < l.length) : l.drop i = rd_T49 l (i : Int) :: l.drop (i + 1) := by
  rw [List.drop_eq_getElem_cons h]
  unfold rd_T49
  rw [Int.toNat_natCast, List.getD_eq_getElem?_getD, List.getElem?_eq_getElem h]
  rfl
theorem rd_mem (l : List S49) (i : Nat) (h : i < l.length) : rd_T49 l (i : Int) ∈ l := List.mem_of_mem_drop (i := i) (by rw [rd_toC l i h]; exact List.mem_cons_self)
theorem toC_mem {l : List S56} {p : List Int → Prop} (h : ∀ c ∈ l, p c.f0) : ∀ c ∈ toC l, p c.f0 := by
  intro c hc
  obtain ⟨d, hd, rfl⟩ := List.mem_map.1 hc
  exact h d hd
theorem toC_length (l : List S56) : (toC l).length = l.length := by simp [toC]
theorem markByteS_f (k : Nat) (l : List Int) (m : Int) (hk : l.length < k) (hl : l.length ≤ 1048576) (h0 : 0 ≤ m) (h1 : m ≤ 4611686018427387904) : laws_markByteS.f k l m = some (m + (l.length : Int), marks l.length m) := by
  unfold laws_markByteS.f
  exact mark_loop (L := fun k out x i => laws_markByteS.l0 k out x i) l.length m (fun k out i hi ho => by
    simp only [laws_markByteS.l0]
    rw [if_pos (by omega), if_pos (by omega), w64s i (by omega), w64 (x := m + (i : Int) + 1) (by omega) (by omega)]
    congr 1
    omega) (fun k out ho => by
    simp only [laws_markByteS.l0]
    rw [if_neg (by omega)]) k l (by omega) rfl
theorem heldByteS_f (k : Nat) (n : Nat) (m : Int) (hk : n < k) (hl : n ≤ 1048576) (h0 : 0 ≤ m) (h1 : m ≤ 4611686018427387904) : laws_heldByteS.f k (marks n m) m = some (m + (n : Int)) := by
  unfold laws_heldByteS.f
  have hm := marks_length n m
  exact held_loop (L := fun k x i => laws_heldByteS.l0 k (marks n m) x i) n m (fun k i hi => by
    simp only [laws_heldByteS.l0]
    rw [if_pos (by omega), if_pos (by omega), rd_nat, if_pos (marks_getD n m i hi), w64s i (by omega), w64 (x := m + (i : Int) + 1) (by omega) (by omega)]
    congr 1
    omega) (fun k => by
    simp only [laws_heldByteS.l0]
    rw [if_neg (by omega)]) k (by omega)
/-- What markPieceS leaves. -/
def marksP : List S49 → Int → List S49
  | [], _ => []
  | c :: l, m => ⟨marks c.f0.length m⟩ :: marksP l (m + (c.f0.length : Int))
theorem marksP_length : ∀ (l : List S49) (m : Int), (marksP l m).length = l.length := by
  intro l
  induction l with
  | nil => intro m; rfl
  | cons c l ih => intro m; simp [marksP, ih]
theorem rd_mid (a b : List S49) (c : S49) : rd_T49 (a ++ c :: b) (a.length : Int) = c := by
  unfold rd_T49
  rw [Int.toNat_natCast, List.getD_eq_getElem?_getD, List.getElem?_append_right (by omega)]
  simp
theorem set_mid (a b : List S49) (c d : S49) : (a ++ c :: b).set ((a.length : Int)).toNat d = (a ++ [d]) ++ b := by
  rw [Int.toNat_natCast, List.set_append_right _ _ (by omega)]
  simp
theorem markPieceS_l0 : ∀ (l done : List S49) (k : Nat) (m : Int), (∀ c ∈ l, c.f0.length ≤ 1048576) → l.length + 1048577 < k → done.length + l.length ≤ 1048576 → 0 ≤ m → m + (sumP l : Int) ≤ 4611686018427387904 →
    laws_markPieceS.l0 k (done ++ l) m (done.length : Int) = some (m + (sumP l : Int), done ++ marksP l m) := by
  intro l
  induction l with
  | nil =>
    intro done k m _ hk hl h0 h1
    obtain ⟨k, rfl⟩ : ∃ q, k = q + 1 := ⟨k - 1, by omega⟩
    simp only [laws_markPieceS.l0]
    rw [if_neg (by simp)]
    have : sumP [] = 0 := rfl
    rw [this]
    simp [marksP]
  | cons c l ih =>
    intro done k m hw hk hl h0 h1
    obtain ⟨k, rfl⟩ : ∃ q, k = q + 1 := ⟨k - 1, by omega⟩
    rw [List.length_cons] at hk hl
    rw [sumP_cons] at h1
    have hc := hw c List.mem_cons_self
    simp only [laws_markPieceS.l0]
    rw [if_pos (by rw [List.length_append, List.length_cons]; omega), if_pos (by omega), rd_mid, markByteS_f k _ m (by omega) (by omega) (by omega) (by omega)]
    simp only [Option.bind_some]
    rw [set_mid, w64s _ (by omega)]
    have := ih (done ++ [⟨marks c.f0.length m⟩]) k (m + (c.f0.length : Int)) (fun x hx => hw x (List.mem_cons_of_mem _ hx)) (by omega) (by rw [List.length_append, List.length_singleton]; omega) (by omega) (by omega)
    rw [List.length_append, List.length_singleton] at this
    rw [this, sumP_cons]
    simp only [marksP, List.append_assoc, List.singleton_append]
    congr 2
    omega
theorem markPieceS_f (k : Nat) (l : List S49) (m : Int) (hw : ∀ c ∈ l, c.f0.length ≤ 1048576) (hk : l.length + 1048577 < k) (hl : l.length ≤ 1048576) (h0 : 0 ≤ m) (h1 : m + (sumP l : Int) ≤ 4611686018427387904) :
    laws_markPieceS.f k l m = some (m + (sumP l : Int), marksP l m) := markPieceS_l0 l [] k m hw hk (by simpa using hl) h0 h1
/-- A number in two bytes. -/
def two (n : Nat) : List Int := [((n : Int) / 256) % 256, (n : Int) % 256]
theorem specTwo_f (n : Nat) (h : n ≤ 1048576) : spec_l09Two.f (n : Int) = some (two n) := by
  unfold spec_l09Two.f two
  rw [Int.tdiv_eq_ediv_of_nonneg (by omega), Int.tmod_eq_emod_of_nonneg (by omega), w64 (x := (n : Int) / 256) (by omega) (by omega)]
  congr 2
  congr 1
  omega
theorem implTwo_f (n : Nat) : impl_word.f (n : Int) = some (two n) := rfl
theorem two_length (n : Nat) : (two n).length = 2 := rfl
theorem concat3 (a b c : List Int) (h : a.length + b.length + c.length ≤ 1048576) : slices_Concat_byte_byte.f [a, b, c] = some (a ++ b ++ c) := by
  unfold slices_Concat_byte_byte.f
  have e : ([a, b, c].map List.length).sum = a.length + b.length + c.length := by simp [Nat.add_assoc]
  rw [if_pos ⟨by simp, by rw [e]; omega⟩]
  congr 1
  simp
theorem both_of (l : List S49) (hl : l.length ≤ 100) : ∀ (d i k : Nat) (out : List Int), i + d = l.length → d < k → out.length ≤ i * 1002 →
    ∃ o : List Int, spec_FramesOf.l0 k l out (i : Int) = some o ∧ impl_FramesOf.l0 k out l (l.length : Int) (i : Int) = some o ∧ o.length ≤ 100200 := by
  intro d
  induction d with
  | zero =>
    intro i k out hi hk ho
    obtain ⟨k, rfl⟩ : ∃ m, k = m + 1 := ⟨k - 1, by omega⟩
    refine ⟨out, ?_, ?_, by omega⟩
    · rw [spec_FramesOf.l0, if_neg (by omega)]
    · rw [impl_FramesOf.l0, if_neg (by omega)]
  | succ d ih =>
    intro i k out hi hk ho
    obtain ⟨k, rfl⟩ : ∃ m, k = m + 1 := ⟨k - 1, by omega⟩
    rw [spec_FramesOf.l0, impl_FramesOf.l0, if_pos (show (i : Int) < (l.length : Int) by omega), if_pos (show (0 : Int) ≤ (i : Int) by omega), if_pos (show (i : Int) < (l.length : Int) by omega), if_pos (show (0 : Int) ≤ (i : Int) by omega), if_pos (show (i : Int) < (l.length : Int) by omega)]
    generalize (rd_T49 l (i : Int)).f0 = p
    by_cases h : (p.length : Int) > 1000
    · rw [if_pos h, if_pos h]
      exact ⟨[], rfl, rfl, by simp⟩
    · rw [if_neg h, if_neg h, specTwo_f _ (by omega), implTwo_f, Option.bind_some, Option.bind_some, if_pos (by rw [two_length]; omega), Option.bind_some, if_pos (by rw [List.length_append, two_length]; omega), concat3 _ _ _ (by rw [two_length]; omega), Option.bind_some, w64s i (by omega)]
      exact ih (i + 1) k _ (by omega) (by omega) (by rw [List.length_append, List.length_append, two_length]; omega)
theorem both_f (l : List S49) (k : Nat) (hk : 101 < k) : ∃ o : List Int, spec_FramesOf.f k l = some o ∧ impl_FramesOf.f k l = some o ∧ o.length ≤ 100200 := by
  unfold spec_FramesOf.f impl_FramesOf.f
  by_cases h : (l.length : Int) > 100
  · rw [if_pos h, if_pos h]
    exact ⟨[], rfl, rfl, by simp⟩
  · rw [if_neg h, if_neg h]
    exact both_of l (by omega) l.length 0 k [] (by omega) (by omega) (by simp)
theorem sumP_toC (l : List S56) : sumP (toC l) = sumL l := by
  unfold sumP sumL toC
  rw [List.map_map]
  rfl
theorem FnExactFramesOf (l0 : List S56) (wl0 : (l0.length ≤ maxLen ∧ ∀ x ∈ l0, wf56 x)) : ∃ k, laws_FnExactFramesOf.f k l0 = some true := by
  have hm : l0.length ≤ 9223372036854775807 := by have := wl0.1; unfold maxLen at this; omega
  have hw : ∀ c ∈ l0, c.f0.length ≤ 9223372036854775807 := fun c hc => by have := (wl0.2 c hc).1; unfold maxLen at this; omega
  refine ⟨3000000, ?_⟩
  generalize hk : (3000000 : Nat) = k
  unfold laws_FnExactFramesOf.f
  rw [szPieceS_f l0 k 1048576 (by omega) (by omega) hm hw (by omega)]
  simp only [Option.bind_some]
  by_cases hl : (l0.length + sumL l0 : Int) ≤ 1048576
  · have h1 : (toC l0).length ≤ 1048576 := by rw [toC_length]; omega
    have h2 : ∀ c ∈ toC l0, c.f0.length ≤ 1048576 := toC_mem (p := fun x => x.length ≤ 1048576) fun c hc => by have := sumL_mem hc; omega
    have hs := sumP_toC l0
    obtain ⟨o, e1, e2, ho⟩ := both_f (toC l0) k (by omega)
    rw [if_pos hl, if_neg (by omega), toPieceS_f k l0 (by omega) (by omega)]
    simp only [Option.bind_some]
    rw [e1, e2]
    simp only [Option.bind_some]
    rw [eqByteS_self k _ (by omega) (by omega)]
    simp only [Option.bind_some, if_true]
    rw [eqPieceS_self k _ h1 h2 (by omega)]
    simp only [Option.bind_some, if_true]
    rw [markPieceS_f k _ 1 h2 (by omega) (by omega) (by omega) (by omega)]
    simp only [Option.bind_some]
    rw [if_neg (by omega), markByteS_f k _ 1 (by omega) (by omega) (by omega) (by omega)]
    simp only [Option.bind_some]
    rw [heldByteS_f k _ 1 (by omega) (by omega) (by omega) (by omega)]
    simp only [Option.bind_some]
    rw [if_neg (by omega)]
    simp only [if_true]
    rw [if_neg (by omega)]
  · rw [if_neg hl, if_pos (by omega)]

end Go.Proofs.Ytjgbfhdhffhimaa.Pure
