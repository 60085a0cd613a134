/-
  The law FnExactFramesCut in plain words: what the program's function computes is what the reference's computes. No memory, no machine.
-/
import Derived.Test.YtjgbfhdhffhimaaPFnExactFramesCutx
import Derived.Test.YtjgbfhdhffhimaaGen
namespace Go.Proofs.Ytjgbfhdhffhimaa.Pure
open Go.RowKit Go.Proofs.Ytjgbfhdhffhimaa.PFnExactFramesCut Go.Proofs.YtjgbfhdhffhimaaW.PrintWords Go.Proofs.YtjgbfhdhffhimaaW.PrintLast Go.Proofs.YtjgbfhdhffhimaaW.PrintMore Go.Proofs.Ytjgbfhdhffhimaa.Gen
set_option linter.unusedVariables false
set_option linter.unusedSimpArgs false

theorem toByteS_f (k : Nat) (l : List Int) (hk : l.length < k) (hl : l.length ≤ 1048576) : laws_toByteS.f k l = some l := by
  have h := map_loop (L := fun k out i => laws_toByteS.l0 k l out i) l id 0 0 (fun k out i _ hi ho => by
      simp only [laws_toByteS.l0]
      rw [if_pos (by omega), if_pos (by omega), if_pos (by omega), w64s i (by omega), rd_nat]
      rfl) (fun k out ho => by
      simp only [laws_toByteS.l0]
      rw [if_neg (by omega)]) k (List.replicate ((l.length : Int)).toNat 0) (by omega) (by simp)
  unfold laws_toByteS.f
  rw [if_pos (by omega), if_pos (by omega)]
  simpa using h
theorem eqByteS_f (k : Nat) (l l' : List Int) (hk : l.length < k) (hl : l.length ≤ 1048576) : laws_eqByteS.f k l l' = some (decide (l = l')) := by
  unfold laws_eqByteS.f
  by_cases e : l.length = l'.length
  · rw [if_pos (by omega)]
    obtain ⟨b, h, hb⟩ := all_loop (L := fun k i => laws_eqByteS.l0 k l l' i) l.length 0 (fun i => decide (l.getD i 0 = l'.getD i 0)) (fun k i _ hi => by
      simp only [laws_eqByteS.l0]
      rw [if_pos (by omega), if_pos (by omega), if_pos (by omega), w64s i (by omega), rd_nat, rd_nat]
      simp only [decide_eq_true_eq]) (fun k => by
      simp only [laws_eqByteS.l0]
      rw [if_neg (by omega)]) k (by omega)
    refine h.trans ?_
    congr 1
    simp only [decide_eq_true_eq] at hb
    rw [Bool.eq_iff_iff, decide_eq_true_eq]
    exact hb.trans (eq_of_getD 0 e)
  · rw [if_neg (by omega)]
    congr 1
    symm
    exact decide_eq_false (fun h => e (by rw [h]))
theorem eqByteS_self (k : Nat) (l : List Int) (hk : l.length < k) (hl : l.length ≤ 1048576) : laws_eqByteS.f k l l = some true := by
  rw [eqByteS_f k l l hk hl]; simp
theorem wf_i64 {x : Int} (h : (Lit.int .i64 x).wf = true) : -9223372036854775808 ≤ x ∧ x ≤ 9223372036854775807 := by
  simp only [Lit.wf, Bool.and_eq_true, decide_eq_true_eq] at h
  exact ⟨h.1, h.2⟩
theorem wf_u8 {x : Int} (h : (Lit.int .u8 x).wf = true) : 0 ≤ x ∧ x ≤ 255 := by
  simp only [Lit.wf, Bool.and_eq_true, decide_eq_true_eq] at h
  exact ⟨h.1, h.2⟩
/-- All the bytes of pieces. -/
def sumP (l : List S49) : Nat := (l.map fun c => c.f0.length).sum
theorem sumP_cons (c : S49) (l : List S49) : sumP (c :: l) = c.f0.length + sumP l := by simp [sumP]
theorem rdP_drop (l : List S49) (i : Nat) (h : i < l.length) : l.drop i = rd_T49 l (i : Int) :: l.drop (i + 1) := by
  rw [List.drop_eq_getElem_cons h]
  unfold rd_T49
  rw [Int.toNat_natCast, List.getD_eq_getElem?_getD, List.getElem?_eq_getElem h]
  rfl
theorem rdP_mem (l : List S49) (i : Nat) (h : i < l.length) : rd_T49 l (i : Int) ∈ l := List.mem_of_mem_drop (i := i) (by rw [rdP_drop l i h]; exact List.mem_cons_self)
theorem eqPiece_self (k : Nat) (l : List Int) (hk : l.length < k) (hl : l.length ≤ 1048576) : laws_eqPiece.f k l l = some true := by
  unfold laws_eqPiece.f
  rw [eqByteS_self k l hk hl]
  rfl
theorem eqPieceS_self (k : Nat) (l : List S49) (hl : l.length ≤ 1048576) (hw : ∀ c ∈ l, c.f0.length ≤ 1048576) (hk : 2097154 < k) : laws_eqPieceS.f k l l = some true := by
  have key : ∀ (d i k : Nat), i + d = l.length → d + 1048577 < k → laws_eqPieceS.l0 k l l (i : Int) = some true := by
    intro d
    induction d with
    | zero =>
      intro i k hi hk
      obtain ⟨k, rfl⟩ : ∃ m, k = m + 1 := ⟨k - 1, by omega⟩
      simp only [laws_eqPieceS.l0]
      rw [if_neg (by omega)]
    | succ d ih =>
      intro i k hi hk
      obtain ⟨k, rfl⟩ : ∃ m, k = m + 1 := ⟨k - 1, by omega⟩
      simp only [laws_eqPieceS.l0]
      have := hw _ (rdP_mem l i (by omega))
      rw [if_pos (by omega), if_pos (by omega), if_pos (by omega), eqPiece_self k _ (by omega) (by omega)]
      simp only [Option.bind_some, if_true]
      rw [w64s i (by omega)]
      exact ih (i + 1) k (by omega) (by omega)
  unfold laws_eqPieceS.f
  rw [if_pos rfl]
  exact key l.length 0 k (by omega) (by omega)
theorem markByteS_f (k : Nat) (l : List Int) (m : Int) (hk : l.length < k) (hl : l.length ≤ 1048576) (h0 : 0 ≤ m) (h1 : m ≤ 4611686018427387904) : laws_markByteS.f k l m = some (m + (l.length : Int), marks l.length m) := by
  unfold laws_markByteS.f
  exact mark_loop (L := fun k out x i => laws_markByteS.l0 k out x i) l.length m (fun k out i hi ho => by
    simp only [laws_markByteS.l0]
    rw [if_pos (by omega), if_pos (by omega), w64s i (by omega), w64 (x := m + (i : Int) + 1) (by omega) (by omega)]
    congr 1
    omega) (fun k out ho => by
    simp only [laws_markByteS.l0]
    rw [if_neg (by omega)]) k l (by omega) rfl
theorem heldByteS_f (k : Nat) (n : Nat) (m : Int) (hk : n < k) (hl : n ≤ 1048576) (h0 : 0 ≤ m) (h1 : m ≤ 4611686018427387904) : laws_heldByteS.f k (marks n m) m = some (m + (n : Int)) := by
  unfold laws_heldByteS.f
  have hm := marks_length n m
  exact held_loop (L := fun k x i => laws_heldByteS.l0 k (marks n m) x i) n m (fun k i hi => by
    simp only [laws_heldByteS.l0]
    rw [if_pos (by omega), if_pos (by omega), rd_nat, if_pos (marks_getD n m i hi), w64s i (by omega), w64 (x := m + (i : Int) + 1) (by omega) (by omega)]
    congr 1
    omega) (fun k => by
    simp only [laws_heldByteS.l0]
    rw [if_neg (by omega)]) k (by omega)
/-- What markPieceS leaves. -/
def marksP : List S49 → Int → List S49
  | [], _ => []
  | c :: l, m => ⟨marks c.f0.length m⟩ :: marksP l (m + (c.f0.length : Int))
theorem marksP_length : ∀ (l : List S49) (m : Int), (marksP l m).length = l.length := by
  intro l
  induction l with
  | nil => intro m; rfl
  | cons c l ih => intro m; simp [marksP, ih]
theorem rd_mid (a b : List S49) (c : S49) : rd_T49 (a ++ c :: b) (a.length : Int) = c := by
  unfold rd_T49
  rw [Int.toNat_natCast, List.getD_eq_getElem?_getD, List.getElem?_append_right (by omega)]
  simp
theorem set_mid (a b : List S49) (c d : S49) : (a ++ c :: b).set ((a.length : Int)).toNat d = (a ++ [d]) ++ b := by
  rw [Int.toNat_natCast, List.set_append_right _ _ (by omega)]
  simp
theorem markPieceS_l0 : ∀ (l done : List S49) (k : Nat) (m : Int), (∀ c ∈ l, c.f0.length ≤ 1048576) → l.length + 1048577 < k → done.length + l.length ≤ 1048576 → 0 ≤ m → m + (sumP l : Int) ≤ 4611686018427387904 →
    laws_markPieceS.l0 k (done ++ l) m (done.length : Int) = some (m + (sumP l : Int), done ++ marksP l m) := by
  intro l
  induction l with
  | nil =>
    intro done k m _ hk hl h0 h1
    obtain ⟨k, rfl⟩ : ∃ q, k = q + 1 := ⟨k - 1, by omega⟩
    simp only [laws_markPieceS.l0]
    rw [if_neg (by simp)]
    have : sumP [] = 0 := rfl
    rw [this]
    simp [marksP]
  | cons c l ih =>
    intro done k m hw hk hl h0 h1
    obtain ⟨k, rfl⟩ : ∃ q, k = q + 1 := ⟨k - 1, by omega⟩
    rw [List.length_cons] at hk hl
    rw [sumP_cons] at h1
    have hc := hw c List.mem_cons_self
    simp only [laws_markPieceS.l0]
    rw [if_pos (by rw [List.length_append, List.length_cons]; omega), if_pos (by omega), rd_mid, markByteS_f k _ m (by omega) (by omega) (by omega) (by omega)]
    simp only [Option.bind_some]
    rw [set_mid, w64s _ (by omega)]
    have := ih (done ++ [⟨marks c.f0.length m⟩]) k (m + (c.f0.length : Int)) (fun x hx => hw x (List.mem_cons_of_mem _ hx)) (by omega) (by rw [List.length_append, List.length_singleton]; omega) (by omega) (by omega)
    rw [List.length_append, List.length_singleton] at this
    rw [this, sumP_cons]
    simp only [marksP, List.append_assoc, List.singleton_append]
    congr 2
    omega
theorem markPieceS_f (k : Nat) (l : List S49) (m : Int) (hw : ∀ c ∈ l, c.f0.length ≤ 1048576) (hk : l.length + 1048577 < k) (hl : l.length ≤ 1048576) (h0 : 0 ≤ m) (h1 : m + (sumP l : Int) ≤ 4611686018427387904) :
    laws_markPieceS.f k l m = some (m + (sumP l : Int), marksP l m) := markPieceS_l0 l [] k m hw hk (by simpa using hl) h0 h1
theorem heldPieceS_l0 (L : List S49) : ∀ (l done : List S49) (k : Nat) (m : Int), L = done ++ marksP l m → (∀ c ∈ l, c.f0.length ≤ 1048576) → l.length + 1048577 < k → done.length + l.length ≤ 1048576 → 0 ≤ m → m + (sumP l : Int) ≤ 4611686018427387904 →
    laws_heldPieceS.l0 k L m (done.length : Int) = some (m + (sumP l : Int)) := by
  intro l
  induction l with
  | nil =>
    intro done k m hL _ hk hl h0 h1
    obtain ⟨k, rfl⟩ : ∃ q, k = q + 1 := ⟨k - 1, by omega⟩
    subst hL
    simp only [laws_heldPieceS.l0]
    rw [if_neg (by simp [marksP])]
    have : sumP [] = 0 := rfl
    rw [this]
    simp
  | cons c l ih =>
    intro done k m hL hw hk hl h0 h1
    obtain ⟨k, rfl⟩ : ∃ q, k = q + 1 := ⟨k - 1, by omega⟩
    rw [List.length_cons] at hk hl
    rw [sumP_cons] at h1
    have hc := hw c List.mem_cons_self
    have hr : rd_T49 L (done.length : Int) = ⟨marks c.f0.length m⟩ := by rw [hL]; simp only [marksP]; exact rd_mid _ _ _
    have hlen : L.length = done.length + (l.length + 1) := by rw [hL]; simp [marksP_length]
    simp only [laws_heldPieceS.l0]
    rw [if_pos (by omega), if_pos (by omega), hr, heldByteS_f k _ m (by omega) (by omega) (by omega) (by omega)]
    simp only [Option.bind_some]
    rw [if_neg (by omega), w64s _ (by omega)]
    have := ih (done ++ [⟨marks c.f0.length m⟩]) k (m + (c.f0.length : Int)) (by rw [hL]; simp [marksP]) (fun x hx => hw x (List.mem_cons_of_mem _ hx)) (by omega) (by rw [List.length_append, List.length_singleton]; omega) (by omega) (by omega)
    rw [List.length_append, List.length_singleton] at this
    rw [this, sumP_cons]
    congr 1
    omega
theorem heldPieceS_f (k : Nat) (l : List S49) (m : Int) (hw : ∀ c ∈ l, c.f0.length ≤ 1048576) (hk : l.length + 1048577 < k) (hl : l.length ≤ 1048576) (h0 : 0 ≤ m) (h1 : m + (sumP l : Int) ≤ 4611686018427387904) :
    laws_heldPieceS.f k (marksP l m) m = some (m + (sumP l : Int)) := by
  unfold laws_heldPieceS.f
  exact heldPieceS_l0 (marksP l m) l [] k m (by simp) hw hk (by simpa using hl) h0 h1
theorem or_word (a b : Nat) (ha : a < 256) (hb : b < 256) : Go.bits .or .i64 ((a * 256 : Nat) : Int) (b : Int) = ((a * 256 + b : Nat) : Int) := by
  have h64 : ∀ x : Nat, x < 65536 → (BitVec.ofInt 64 (x : Int)).toNat = x := by
    intro x hx
    rw [BitVec.ofInt_natCast, BitVec.toNat_ofNat]
    exact Nat.mod_eq_of_lt (by omega)
  show IntKind.i64.wrap ((BitVec.ofInt 64 ((a * 256 : Nat) : Int) ||| BitVec.ofInt 64 (b : Int)).toNat : Int) = _
  have e : a * 256 ||| b = a * 256 + b := by
    have h := Nat.two_pow_add_eq_or_of_lt (i := 8) (b := b) (by omega) a
    rw [show (2 : Nat) ^ 8 = 256 from rfl, Nat.mul_comm 256 a] at h
    exact h.symm
  rw [BitVec.toNat_or, h64 _ (by omega), h64 _ (by omega), e]
  have hw : ∀ x : Int, IntKind.i64.wrap x = wrap64 x := fun x => by
    simp [IntKind.wrap, IntKind.bits, IntKind.signed, wrap64]
    split <;> omega
  rw [hw, w64 (by omega) (by omega)]
/-- The word at a place. -/
def wd (l : List Int) (p : Nat) : Int := l.getD p 0 * 256 + l.getD (p + 1) 0
theorem getD_dr (l : List Int) (p j : Nat) : (l.drop p).getD j 0 = l.getD (p + j) 0 := by
  rw [List.getD_eq_getElem?_getD, List.getElem?_drop, List.getD_eq_getElem?_getD]
theorem specAt_f (l : List Int) (p : Nat) (hb : ∀ j, 0 ≤ l.getD j 0 ∧ l.getD j 0 ≤ 255) (hp : p + 2 ≤ l.length) (hl : l.length ≤ 1048576) : spec_l09At.f l (p : Int) = some (wd l p) := by
  have b0 := hb p
  have b1 := hb (p + 1)
  unfold spec_l09At.f wd
  rw [if_pos (by omega), if_pos (by omega), w64s p (by omega), if_pos (by omega), if_pos (by omega), rd_nat, rd_nat, w64 (x := l.getD p 0) (by omega) (by omega), w64 (x := l.getD (p + 1) 0) (by omega) (by omega), w64 (x := 256 * l.getD p 0) (by omega) (by omega), w64 (by omega) (by omega)]
  congr 1
  omega
theorem implWord_f (l : List Int) (p : Nat) (hb : ∀ j, 0 ≤ l.getD j 0 ∧ l.getD j 0 ≤ 255) (hp : p + 2 ≤ l.length) : impl_readWord.f (l.drop p) = some (wd l p) := by
  have b0 := hb p
  have b1 := hb (p + 1)
  have e0 : rd (l.drop p) 0 = l.getD p 0 := by have h := rd_nat (l.drop p) 0; rw [getD_dr, Nat.add_zero] at h; exact h
  have e1 : rd (l.drop p) 1 = l.getD (p + 1) 0 := by have h := rd_nat (l.drop p) 1; rw [getD_dr] at h; exact h
  unfold impl_readWord.f wd
  rw [if_pos (by rw [List.length_drop]; omega), if_pos (by rw [List.length_drop]; omega), e0, e1, w64 (x := l.getD p 0) (by omega) (by omega), w64 (x := l.getD (p + 1) 0) (by omega) (by omega), w64 (x := l.getD p 0 * 256) (by omega) (by omega)]
  have h := or_word (l.getD p 0).toNat (l.getD (p + 1) 0).toNat (by omega) (by omega)
  rw [show (((l.getD p 0).toNat * 256 : Nat) : Int) = l.getD p 0 * 256 by omega, show (((l.getD (p + 1) 0).toNat : Nat) : Int) = l.getD (p + 1) 0 by omega] at h
  rw [h]
  congr 1
  omega
theorem sumP_snoc (l : List S49) (c : S49) : sumP (l ++ [c]) = sumP l + c.f0.length := by simp [sumP]
theorem w2_ (p : Nat) (hp : p ≤ 1048576) : wrap64 ((p : Int) + 2) = ((p + 2 : Nat) : Int) := by
  rw [show ((p : Int) + 2) = ((p + 2 : Nat) : Int) by omega]
  exact w64 (by omega) (by omega)
theorem w3_ (p n : Nat) (hp : p ≤ 1048576) (hn : n ≤ 65535) : wrap64 (((p + 2 : Nat) : Int) + (n : Int)) = ((p + 2 + n : Nat) : Int) := by
  rw [show (((p + 2 : Nat) : Int) + (n : Int)) = ((p + 2 + n : Nat) : Int) by omega]
  exact w64 (by omega) (by omega)
theorem w4_ (p n : Nat) (hp : p ≤ 1048576) (hn : n ≤ 65535) : wrap64 ((p : Int) + wrap64 (2 + (n : Int))) = ((p + 2 + n : Nat) : Int) := by
  have h1 : wrap64 (2 + (n : Int)) = ((2 + n : Nat) : Int) := by
    rw [show (2 + (n : Int)) = ((2 + n : Nat) : Int) by omega]
    exact w64 (by omega) (by omega)
  rw [h1, show ((p : Int) + ((2 + n : Nat) : Int)) = ((p + 2 + n : Nat) : Int) by omega]
  exact w64 (by omega) (by omega)
set_option maxHeartbeats 4000000 in
theorem both_cut (l : List Int) (hb : ∀ j, 0 ≤ l.getD j 0 ∧ l.getD j 0 ≤ 255) (hl : l.length ≤ 1048576) : ∀ (d p k : Nat) (out : List S49), l.length - p ≤ d → p ≤ l.length → 2 * d + 4 < k → out.length ≤ 100 → (∀ c ∈ out, c.f0.length ≤ 1048576) → sumP out ≤ p →
    ∃ (o : List S49) (q : Int), spec_FramesCut.l0 k l out (p : Int) = some (o, q) ∧ impl_framesCut.l0 k l out (p : Int) = some (o, q) ∧ o.length ≤ 100 ∧ (∀ c ∈ o, c.f0.length ≤ 1048576) ∧ sumP o ≤ 1048576 := by
  intro d
  induction d using Nat.strongRecOn with
  | _ d ih =>
  intro p k out hd hp hk ho hc hs
  obtain ⟨k, rfl⟩ : ∃ m, k = m + 2 := ⟨k - 2, by omega⟩
  have p0 : p ≤ 1048576 := by omega
  have stop : spec_FramesCut.j1 (k + 1) l out (p : Int) false = some (out, (p : Int)) ∧ impl_framesCut.j1 (k + 1) l out (p : Int) false = some (out, (p : Int)) := by
    rw [spec_FramesCut.j1, impl_framesCut.j1, if_neg (by decide), if_neg (by decide)]
    exact ⟨rfl, rfl⟩
  have done : ∃ (o : List S49) (q : Int), some (out, (p : Int)) = some (o, q) ∧ some (out, (p : Int)) = some (o, q) ∧ o.length ≤ 100 ∧ (∀ c ∈ o, c.f0.length ≤ 1048576) ∧ sumP o ≤ 1048576 := ⟨out, _, rfl, rfl, ho, hc, by omega⟩
  rw [spec_FramesCut.l0, impl_framesCut.l0]
  rw [w2_ p p0]
  by_cases h1 : p + 2 ≤ l.length
  · rw [if_pos (show ((p + 2 : Nat) : Int) ≤ (l.length : Int) by omega), decide_eq_true (show ((p + 2 : Nat) : Int) ≤ (l.length : Int) by omega)]
    by_cases h2 : out.length < 100
    · rw [decide_eq_true (show (out.length : Int) < 100 by omega), if_pos (show (out.length : Int) < 100 by omega)]
      rw [spec_FramesCut.j1, impl_framesCut.j1, if_pos rfl, if_pos rfl]
      rw [specAt_f l p hb h1 hl, if_pos (show (0 : Int) ≤ (p : Int) by omega), if_pos (show (p : Int) ≤ (l.length : Int) by omega), Int.toNat_natCast, implWord_f l p hb h1, w2_ p p0, Option.bind_some, Option.bind_some, Option.bind_some]
      have b0 := hb p
      have b1 := hb (p + 1)
      have hwd : 0 ≤ wd l p ∧ wd l p ≤ 65535 := by unfold wd; omega
      obtain ⟨n, hn⟩ : ∃ n : Nat, wd l p = (n : Int) := ⟨(wd l p).toNat, by omega⟩
      rw [hn] at hwd ⊢
      by_cases h3 : n > 1000
      · rw [if_pos (show (n : Int) > 1000 by omega), if_pos (show (n : Int) > 1000 by omega)]
        exact done
      · rw [if_neg (show ¬ (n : Int) > 1000 by omega), if_neg (show ¬ (n : Int) > 1000 by omega)]
        have n1 : n ≤ 65535 := Int.ofNat_le.1 hwd.2
        rw [w3_ p n p0 n1, w4_ p n p0 n1]
        clear hwd hn b0 b1 n1
        by_cases h4 : p + 2 + n > l.length
        · rw [if_pos (show ((p + 2 + n : Nat) : Int) > (l.length : Int) by omega), if_pos (show ((p + 2 + n : Nat) : Int) > (l.length : Int) by omega)]
          exact done
        · rw [if_neg (show ¬ ((p + 2 + n : Nat) : Int) > (l.length : Int) by omega), if_neg (show ¬ ((p + 2 + n : Nat) : Int) > (l.length : Int) by omega)]
          have c1 : (0 : Int) ≤ ((p + 2 : Nat) : Int) := by omega
          have c2 : ((p + 2 : Nat) : Int) ≤ ((p + 2 + n : Nat) : Int) := by omega
          have c3 : ((p + 2 + n : Nat) : Int) ≤ (l.length : Int) := by omega
          rw [if_pos c1, if_pos c2, if_pos c3, if_pos c1, if_pos c2, if_pos c3, Int.toNat_natCast, Int.toNat_natCast, List.nil_append]
          have hlen : ((l.take (p + 2 + n)).drop (p + 2)).length = n := by rw [List.length_drop, List.length_take]; omega
          generalize (l.take (p + 2 + n)).drop (p + 2) = piece at hlen
          have hcl : slices_Clone_byte_byte.f piece = some piece := by
            unfold slices_Clone_byte_byte.f
            rw [if_pos (by omega)]
          rw [hcl, Option.bind_some, if_pos (by rw [List.length_nil]; omega), if_pos (by omega), if_pos (by omega)]
          exact ih (l.length - (p + 2 + n)) (by omega) (p + 2 + n) k (out ++ [⟨piece⟩]) (by omega) (by omega) (by omega) (by rw [List.length_append, List.length_singleton]; omega) (fun c hcm => by
            rcases List.mem_append.1 hcm with h | h
            · exact hc c h
            · rw [List.mem_singleton.1 h]; show piece.length ≤ _; omega) (by rw [sumP_snoc]; show sumP out + piece.length ≤ _; omega)
    · rw [decide_eq_false (show ¬ (out.length : Int) < 100 by omega), if_neg (show ¬ (out.length : Int) < 100 by omega), stop.1, stop.2]
      exact done
  · rw [if_neg (show ¬ ((p + 2 : Nat) : Int) ≤ (l.length : Int) by omega), decide_eq_false (show ¬ ((p + 2 : Nat) : Int) ≤ (l.length : Int) by omega)]
    by_cases h2 : (out.length : Int) < 100
    · rw [if_pos h2, stop.1, stop.2]
      exact done
    · rw [if_neg h2, stop.1, stop.2]
      exact done
theorem FnExactFramesCut (l0 : List Int) (wl0 : (l0.length ≤ maxLen ∧ ∀ x ∈ l0, (Lit.int .u8 x).wf = true)) : ∃ k, laws_FnExactFramesCut.f k l0 = some true := by
  have hm : l0.length ≤ 9223372036854775807 := by have := wl0.1; unfold maxLen at this; omega
  have hb : ∀ j, 0 ≤ l0.getD j 0 ∧ l0.getD j 0 ≤ 255 := by
    intro j
    by_cases hj : j < l0.length
    · rw [List.getD_eq_getElem?_getD, List.getElem?_eq_getElem hj]
      have := wl0.2 _ (List.getElem_mem hj)
      exact wf_u8 this
    · rw [List.getD_eq_getElem?_getD, List.getElem?_eq_none (by omega)]
      simp
  refine ⟨3000000, ?_⟩
  generalize hk : (3000000 : Nat) = k
  unfold laws_FnExactFramesCut.f
  by_cases hl : (l0.length : Int) > 1048576
  · rw [if_pos hl]
  · rw [if_neg hl, toByteS_f k l0 (by omega) (by omega)]
    obtain ⟨o, q, e1, e2, h1, h2, h3⟩ := both_cut l0 hb (by omega) l0.length 0 k [] (by omega) (by omega) (by omega) (by simp) (by simp) (by simp [sumP])
    have es : spec_FramesCut.f k l0 = some (o, q) := e1
    have ei : impl_FramesCut.f k l0 = some (o, q) := by
      unfold impl_FramesCut.f impl_framesCut.f
      rw [show impl_framesCut.l0 k l0 [] 0 = some (o, q) from e2]
      rfl
    simp only [Option.bind_some]
    rw [es, ei]
    simp only [Option.bind_some]
    rw [eqPieceS_self k _ (by omega) h2 (by omega)]
    simp only [Option.bind_some, if_true]
    rw [eqByteS_self k l0 (by omega) (by omega)]
    simp only [Option.bind_some, if_true]
    rw [markByteS_f k l0 1 (by omega) (by omega) (by omega) (by omega)]
    simp only [Option.bind_some]
    rw [if_neg (by omega), markPieceS_f k _ 1 h2 (by omega) (by omega) (by omega) (by omega)]
    simp only [Option.bind_some]
    rw [heldPieceS_f k _ 1 h2 (by omega) (by omega) (by omega) (by omega)]
    simp only [Option.bind_some]
    rw [if_neg (by omega)]
    simp only [if_true]
    rw [if_neg (by omega)]

end Go.Proofs.Ytjgbfhdhffhimaa.Pure
