/-
  The law FnExactFingNew in plain words: what the program's function computes is what the reference's computes. No memory, no machine.
-/
import Derived.Test.YtgginlfbdhkepaaPFnExactFingNewx
import Derived.Test.YtgginlfbdhkepaaGen
namespace Go.Proofs.Ytgginlfbdhkepaa.Pure
open Go.RowKit Go.Proofs.Ytgginlfbdhkepaa.PFnExactFingNew Go.Proofs.YtgginlfbdhkepaaW.PrintWords Go.Proofs.YtgginlfbdhkepaaW.PrintLast Go.Proofs.YtgginlfbdhkepaaW.PrintMore Go.Proofs.Ytgginlfbdhkepaa.Gen
set_option linter.unusedVariables false
set_option linter.unusedSimpArgs false

theorem rd_mem (ks : List ByteArray) (i : Nat) (h : i < ks.length) : rdOf ByteArray.empty ks (i : Int) = ks[i] := by
  unfold rdOf
  rw [Int.toNat_natCast, List.getD_eq_getElem?_getD, List.getElem?_eq_getElem h, Option.getD_some]
def sumS (l : List ByteArray) : Nat := (l.map ByteArray.size).sum
theorem sumS_cons (c : ByteArray) (l : List ByteArray) : sumS (c :: l) = c.size + sumS l := by simp [sumS]
theorem dropS (l : List ByteArray) (i : Nat) (h : i < l.length) : l.drop i = rdOf ByteArray.empty l (i : Int) :: l.drop (i + 1) := by
  rw [List.drop_eq_getElem_cons h, rd_mem l i h]
theorem rdS_mem (l : List ByteArray) (i : Nat) (h : i < l.length) : rdOf ByteArray.empty l (i : Int) ∈ l := List.mem_of_mem_drop (i := i) (by rw [dropS l i h]; exact List.mem_cons_self)
theorem eqStringS_self (k : Nat) (l : List ByteArray) (hk : l.length < k) (hl : l.length ≤ 1048576) : laws_eqStringS.f k l l = some true := by
  have key : ∀ (d i k : Nat), i + d = l.length → d < k → laws_eqStringS.l0 k l l (i : Int) = some true := by
    intro d
    induction d with
    | zero =>
      intro i k hi hk
      obtain ⟨k, rfl⟩ : ∃ m, k = m + 1 := ⟨k - 1, by omega⟩
      simp only [laws_eqStringS.l0]
      rw [if_neg (by omega)]
    | succ d ih =>
      intro i k hi hk
      obtain ⟨k, rfl⟩ : ∃ m, k = m + 1 := ⟨k - 1, by omega⟩
      simp only [laws_eqStringS.l0]
      rw [if_pos (by omega), if_pos (by omega), if_pos (by omega), if_pos trivial, w64s i (by omega)]
      exact ih (i + 1) k (by omega) (by omega)
  unfold laws_eqStringS.f
  rw [if_pos rfl]
  exact key l.length 0 k (by omega) (by omega)
theorem dropI (l : List S37) (i : Nat) (h : i < l.length) : l.drop i = rd_T37 l (i : Int) :: l.drop (i + 1) := by
  rw [List.drop_eq_getElem_cons h]
  unfold rd_T37
  rw [Int.toNat_natCast, List.getD_eq_getElem?_getD, List.getElem?_eq_getElem h]
  rfl
theorem rdI_mem (l : List S37) (i : Nat) (h : i < l.length) : rd_T37 l (i : Int) ∈ l := List.mem_of_mem_drop (i := i) (by rw [dropI l i h]; exact List.mem_cons_self)
theorem eqFing_self (k : Nat) (l : List S37) (hl : l.length ≤ 1048576) (hw : ∀ c ∈ l, c.f0.length ≤ 1048576 ∧ c.f1.length ≤ 1048576) (hk : 2097154 < k) : laws_eqFing.f k l l = some true := by
  have key : ∀ (d i k : Nat), i + d = l.length → d + 1048577 < k → laws_eqLevelS.l0 k l l (i : Int) = some true := by
    intro d
    induction d with
    | zero =>
      intro i k hi hk
      obtain ⟨k, rfl⟩ : ∃ m, k = m + 1 := ⟨k - 1, by omega⟩
      simp only [laws_eqLevelS.l0]
      rw [if_neg (by omega)]
    | succ d ih =>
      intro i k hi hk
      obtain ⟨k, rfl⟩ : ∃ m, k = m + 1 := ⟨k - 1, by omega⟩
      simp only [laws_eqLevelS.l0]
      have h := hw _ (rdI_mem l i (by omega))
      have e : laws_eqLevel.f k (rd_T37 l (i : Int)).f0 (rd_T37 l (i : Int)).f1 (rd_T37 l (i : Int)).f0 (rd_T37 l (i : Int)).f1 = some true := by
        unfold laws_eqLevel.f
        rw [eqStringS_self k _ (by omega) (by omega), eqStringS_self k _ (by omega) (by omega)]
        rfl
      rw [if_pos (by omega), if_pos (by omega), if_pos (by omega), e]
      simp only [Option.bind_some, if_true]
      rw [w64s i (by omega)]
      exact ih (i + 1) k (by omega) (by omega)
  unfold laws_eqFing.f laws_eqLevelS.f
  rw [if_pos rfl, show laws_eqLevelS.l0 k l l 0 = some true from key l.length 0 k (by omega) (by omega)]
  rfl

theorem size_app (a b : ByteArray) : (a ++ b).size = a.size + b.size := by simp
def D (s : ByteArray) : List UInt8 := s.data.toList
theorem D_app (a b : ByteArray) : D (a ++ b) = D a ++ D b := by
  unfold D
  have h : (a ++ b).data = a.data ++ b.data := by simp
  rw [h, Array.toList_append]
theorem D_len (a : ByteArray) : (D a).length = a.size := by simp [D]
theorem rd_midS (a b : List ByteArray) (c : ByteArray) : rdOf ByteArray.empty (a ++ c :: b) (a.length : Int) = c := by
  unfold rdOf
  rw [Int.toNat_natCast, List.getD_eq_getElem?_getD, List.getElem?_append_right (by omega)]
  simp
theorem set_midS (a b : List ByteArray) (c d : ByteArray) : (a ++ c :: b).set ((a.length : Int)).toNat d = (a ++ [d]) ++ b := by
  rw [Int.toNat_natCast, List.set_append_right _ _ (by omega)]
  simp
theorem rd_midL (a b : List S37) (c : S37) : rd_T37 (a ++ c :: b) (a.length : Int) = c := by
  unfold rd_T37
  rw [Int.toNat_natCast, List.getD_eq_getElem?_getD, List.getElem?_append_right (by omega)]
  simp
theorem set_midL (a b : List S37) (c d : S37) : (a ++ c :: b).set ((a.length : Int)).toNat d = (a ++ [d]) ++ b := by
  rw [Int.toNat_natCast, List.set_append_right _ _ (by omega)]
  simp
theorem joinE_l0 (l : List ByteArray) (hl : l.length ≤ 1048576) : ∀ (d i k : Nat) (acc : ByteArray), 1 ≤ i → i + d = l.length → d < k → acc.size + sumS (l.drop i) ≤ 4611686018427387904 →
    ∃ t, spec_l03Join.l0 k l (⟨#[]⟩ : ByteArray) acc (i : Int) = some t ∧ D t = D acc ++ Lib.joinTail [] ((l.drop i).map D) ∧ t.size = acc.size + sumS (l.drop i) := by
  intro d
  induction d with
  | zero =>
    intro i k acc h1 hi hk hs
    obtain ⟨k, rfl⟩ : ∃ q, k = q + 1 := ⟨k - 1, by omega⟩
    rw [spec_l03Join.l0, if_neg (by omega)]
    refine ⟨acc, rfl, ?_, ?_⟩
    · rw [List.drop_of_length_le (by omega)]
      simp [Lib.joinTail]
    · rw [List.drop_of_length_le (by omega)]
      rfl
  | succ d ih =>
    intro i k acc h1 hi hk hs
    obtain ⟨k, rfl⟩ : ∃ q, k = q + 1 := ⟨k - 1, by omega⟩
    have hgap : (⟨#[]⟩ : ByteArray).size = 0 := rfl
    have hgd : D (⟨#[]⟩ : ByteArray) = [] := rfl
    rw [dropS l i (by omega), sumS_cons] at hs
    rw [dropS l i (by omega)]
    generalize hr : rdOf ByteArray.empty l (i : Int) = s at *
    rw [spec_l03Join.l0, if_pos (by omega), hr, if_pos (by omega), if_pos (by rw [hgap]; omega), if_pos (by omega), if_pos (by rw [size_app, hgap]; omega), w64s i (by omega)]
    obtain ⟨t, e, hd, hz⟩ := ih (i + 1) k (acc ++ (⟨#[]⟩ : ByteArray) ++ s) (by omega) (by omega) (by omega) (by rw [size_app, size_app, hgap]; omega)
    refine ⟨t, e, ?_, ?_⟩
    · rw [hd, D_app, D_app, hgd]
      simp [Lib.joinTail]
    · rw [hz, size_app, size_app, hgap, sumS_cons]
      omega
theorem joinE_f (k : Nat) (l : List ByteArray) (hl : l.length ≤ 1048576) (hs : sumS l ≤ 1099511627776) (hk : l.length < k) : ∃ t, spec_l03Join.f k l (⟨#[]⟩ : ByteArray) = some t ∧ strings_Join.f l (⟨#[]⟩ : ByteArray) = some t ∧ t.size = sumS l := by
  have h0 : (⟨#[]⟩ : ByteArray).size = 0 := rfl
  have hD0 : D (⟨#[]⟩ : ByteArray) = [] := rfl
  obtain ⟨t, e, hd, hz⟩ : ∃ t, spec_l03Join.f k l (⟨#[]⟩ : ByteArray) = some t ∧ D t = Lib.join (l.map D) [] ∧ t.size = sumS l := by
    obtain ⟨k, rfl⟩ : ∃ q, k = q + 1 := ⟨k - 1, by omega⟩
    cases l with
    | nil =>
      unfold spec_l03Join.f
      rw [spec_l03Join.l0, if_neg (by simp)]
      exact ⟨_, rfl, rfl, rfl⟩
    | cons x r =>
      rw [sumS_cons] at hs
      rw [List.length_cons] at hl hk
      have hx : rdOf ByteArray.empty (x :: r) 0 = x := rfl
      unfold spec_l03Join.f
      rw [spec_l03Join.l0, if_pos (by rw [List.length_cons]; omega), if_neg (by omega), if_pos (by omega), hx, if_pos (by rw [h0]; omega)]
      obtain ⟨t, e, hd, hz⟩ := joinE_l0 (x :: r) (by rw [List.length_cons]; omega) r.length 1 k ((⟨#[]⟩ : ByteArray) ++ x) (by omega) (by rw [List.length_cons]; omega) (by omega) (by rw [size_app, h0, List.drop_one, List.tail_cons]; omega)
      rw [show wrap64 ((0 : Int) + 1) = ((1 : Nat) : Int) from (by unfold wrap64; omega), e]
      refine ⟨t, rfl, ?_, ?_⟩
      · rw [hd, D_app, hD0, List.nil_append, List.drop_one, List.tail_cons, List.map_cons, Lib.join_cons]
      · rw [hz, size_app, h0, List.drop_one, List.tail_cons, sumS_cons]
        omega
  refine ⟨t, e, ?_, hz⟩
  have hlen : (Lib.join (l.map D) []).length ≤ 140737488355328 := by
    rw [← hd, D_len]
    omega
  unfold strings_Join.f
  rw [if_pos ⟨hl, hlen⟩]
  congr 1
  have : t = ⟨(D t).toArray⟩ := by unfold D; cases t; simp
  rw [this, hd]
  rfl
/-- The node of these. -/
def nd (l : List ByteArray) : ByteArray := (impl_nodeOf.f l).getD ByteArray.empty
theorem nd_f (k : Nat) (l : List ByteArray) (hl : l.length ≤ 1048576) (hs : sumS l ≤ 1099511627776) (hk : l.length < k) : spec_l03Node.f k l = some (nd l) ∧ impl_nodeOf.f l = some (nd l) ∧ (nd l).size = sumS l + 2 := by
  obtain ⟨t, e1, e2, hz⟩ := joinE_f k l hl hs hk
  have g1 : (⟨#[40]⟩ : ByteArray).size = 1 := rfl
  have g2 : (⟨#[41]⟩ : ByteArray).size = 1 := rfl
  have ei : impl_nodeOf.f l = some ((⟨#[40]⟩ : ByteArray) ++ t ++ (⟨#[41]⟩ : ByteArray)) := by
    unfold impl_nodeOf.f
    rw [e2, Option.bind_some, if_pos (by omega), if_pos (by rw [size_app, g1]; omega)]
  have es : spec_l03Node.f k l = some ((⟨#[40]⟩ : ByteArray) ++ t ++ (⟨#[41]⟩ : ByteArray)) := by
    unfold spec_l03Node.f
    rw [e1, Option.bind_some, if_pos (by omega), if_pos (by rw [size_app, g1]; omega)]
  have en : nd l = (⟨#[40]⟩ : ByteArray) ++ t ++ (⟨#[41]⟩ : ByteArray) := by
    unfold nd
    rw [ei]
    rfl
  refine ⟨by rw [es, en], by rw [ei, en], ?_⟩
  rw [en, size_app, size_app, g1, g2]
  omega
/-- Levels with a node put behind. -/
def bh : List S37 → ByteArray → List S37
  | [], s => [⟨[s], []⟩]
  | x :: t, s => if x.f1.length < 4 then ⟨x.f0, x.f1 ++ [s]⟩ :: t else ⟨x.f0, [rdOf ByteArray.empty x.f1 3, s]⟩ :: bh t (nd (x.f1.take 3))
/-- The bulk of levels. -/
def bulk : List S37 → Nat
  | [] => 0
  | x :: t => sumS x.f0 + sumS x.f1 + bulk t
theorem sumS_app (a b : List ByteArray) : sumS (a ++ b) = sumS a + sumS b := by simp [sumS]
theorem sumS_one (s : ByteArray) : sumS [s] = s.size := by simp [sumS]
theorem sumS_four (l : List ByteArray) (h : 3 < l.length) : sumS (l.take 3) + (rdOf ByteArray.empty l 3).size ≤ sumS l := by
  have h1 : sumS l = sumS (l.take 3) + sumS (l.drop 3) := by rw [← sumS_app, List.take_append_drop]
  have h2 := dropS l 3 h
  rw [h1, h2, sumS_cons]
  show _ + (rdOf ByteArray.empty l ((3 : Nat) : Int)).size ≤ _
  omega
/-- Rows as the levels hold them. -/
def okL (x : S37) : Prop := x.f0.length ≤ 1 ∧ x.f1.length ≤ 4
theorem bh_ok : ∀ (l : List S37) (s : ByteArray), (∀ x ∈ l, okL x) → bulk l + s.size + 2 * l.length ≤ 1099511627776 → (bh l s).length ≤ l.length + 1 ∧ bulk (bh l s) ≤ bulk l + s.size + 2 * l.length ∧ ∀ x ∈ bh l s, okL x := by
  intro l
  induction l with
  | nil =>
    intro s _ _
    refine ⟨by simp [bh], by simp [bh, bulk, sumS], ?_⟩
    intro x hx
    simp only [bh, List.mem_singleton] at hx
    subst hx
    exact ⟨by simp, by simp⟩
  | cons x t ih =>
    intro s hok hb
    have hx := hok x List.mem_cons_self
    have ht : ∀ y ∈ t, okL y := fun y hy => hok y (List.mem_cons_of_mem _ hy)
    simp only [bulk, List.length_cons] at hb
    unfold bh
    by_cases h4 : x.f1.length < 4
    · rw [if_pos h4]
      refine ⟨by simp, ?_, ?_⟩
      · simp only [bulk, sumS_app, sumS_one, List.length_cons]
        omega
      · intro y hy
        rcases List.mem_cons.1 hy with rfl | hy
        · exact ⟨hx.1, by simp only [List.length_append, List.length_singleton]; omega⟩
        · exact ht y hy
    · rw [if_neg h4]
      have h3 := sumS_four x.f1 (by omega)
      obtain ⟨_, _, hz⟩ := nd_f 5 (x.f1.take 3) (by rw [List.length_take]; omega) (by omega) (by rw [List.length_take]; omega)
      obtain ⟨i1, i2, i3⟩ := ih (nd (x.f1.take 3)) ht (by omega)
      refine ⟨by simp only [List.length_cons]; omega, ?_, ?_⟩
      · simp only [bulk, List.length_cons, sumS_cons, show sumS [] = 0 from rfl]
        omega
      · intro y hy
        rcases List.mem_cons.1 hy with rfl | hy
        · exact ⟨hx.1, by simp⟩
        · exact i3 y hy
theorem single_f (x : S37) : ∃ b, spec_l03Single.f x.f0 x.f1 = some b ∧ (b = true → x.f1 = []) := by
  unfold spec_l03Single.f
  by_cases h : (x.f0.length : Int) = 1
  · rw [if_pos h]
    refine ⟨_, rfl, fun hb => ?_⟩
    have := beq_iff_eq.1 hb
    exact List.length_eq_zero_iff.1 (by omega)
  · rw [if_neg h]
    exact ⟨_, rfl, fun hb => by cases hb⟩
theorem behind_f : ∀ (l : List S37) (s : ByteArray) (k : Nat), (∀ x ∈ l, okL x) → l.length ≤ 1000 → bulk l + s.size + 2 * l.length ≤ 1099511627776 → l.length + 6 ≤ k → spec_l03Behind.f k l s = some (bh l s) := by
  intro l
  induction l with
  | nil =>
    intro s k _ _ _ hk
    obtain ⟨k, rfl⟩ : ∃ q, k = q + 1 := ⟨k - 1, by omega⟩
    rw [spec_l03Behind.f, if_pos (by simp), if_pos (by simp)]
    rfl
  | cons x t ih =>
    intro s k hok hl hb hk
    rw [List.length_cons] at hl hk
    obtain ⟨k, rfl⟩ : ∃ q, k = q + 1 := ⟨k - 1, by omega⟩
    have hx := hok x List.mem_cons_self
    have ht : ∀ y ∈ t, okL y := fun y hy => hok y (List.mem_cons_of_mem _ hy)
    simp only [bulk, List.length_cons] at hb
    have hr : rd_T37 (x :: t) 0 = x := rfl
    have hd : (x :: t).drop 1 = t := rfl
    obtain ⟨b, eb, hbt⟩ := single_f x
    rw [spec_l03Behind.f, if_pos (by rw [List.length_cons]; omega), if_neg (by rw [List.length_cons]; omega), hr, hd, eb, Option.bind_some]
    unfold bh
    cases b with
    | true =>
      rw [if_pos rfl, hbt rfl, if_pos (by decide)]
      rfl
    | false =>
      rw [if_neg (by decide)]
      by_cases h4 : x.f1.length < 4
      · rw [if_pos h4, if_pos h4]
      · rw [if_neg h4, if_neg h4]
        have h3 := sumS_four x.f1 (by omega)
        obtain ⟨e1, _, hz⟩ := nd_f k (x.f1.take 3) (by rw [List.length_take]; omega) (by omega) (by rw [List.length_take]; omega)
        have e2 := ih (nd (x.f1.take 3)) k ht (by omega) (by omega) (by omega)
        have := (bh_ok t (nd (x.f1.take 3)) ht (by omega)).1
        rw [e1, Option.bind_some, e2, Option.bind_some, if_pos (by omega)]
theorem pushBack_f : ∀ (l done : List S37) (s : ByteArray) (k : Nat), (∀ x ∈ l, okL x) → done.length + l.length ≤ 1000 → bulk l + s.size + 2 * l.length ≤ 1099511627776 → l.length + 1 ≤ k → impl_Fing_pushBack.f k (done ++ l) (done.length : Int) s = some (done ++ bh l s) := by
  intro l
  induction l with
  | nil =>
    intro done s k _ hl _ hk
    obtain ⟨k, rfl⟩ : ∃ q, k = q + 1 := ⟨k - 1, by omega⟩
    rw [List.length_nil] at hl
    rw [List.append_nil, impl_Fing_pushBack.f, if_pos rfl, if_pos (by omega)]
    rfl
  | cons x t ih =>
    intro done s k hok hl hb hk
    rw [List.length_cons] at hl hk
    obtain ⟨k, rfl⟩ : ∃ q, k = q + 1 := ⟨k - 1, by omega⟩
    have hx := hok x List.mem_cons_self
    have ht : ∀ y ∈ t, okL y := fun y hy => hok y (List.mem_cons_of_mem _ hy)
    simp only [bulk, List.length_cons] at hb
    have hlen : (done ++ x :: t).length = done.length + (t.length + 1) := by rw [List.length_append, List.length_cons]
    rw [impl_Fing_pushBack.f, if_neg (by rw [hlen]; omega), if_pos (by omega), if_pos (by rw [hlen]; omega), rd_midL, set_midL, set_midL]
    unfold bh
    by_cases h4 : x.f1.length < 4
    · rw [if_pos h4, if_pos h4]
      simp
    · rw [if_neg h4, if_neg h4]
      have h3 := sumS_four x.f1 (by omega)
      obtain ⟨_, e1, hz⟩ := nd_f 5 (x.f1.take 3) (by rw [List.length_take]; omega) (by omega) (by rw [List.length_take]; omega)
      have e2 := ih (done ++ [⟨x.f0, [rdOf ByteArray.empty x.f1 3, s]⟩]) (nd (x.f1.take 3)) k ht (by rw [List.length_append, List.length_singleton]; omega) (by omega) (by omega)
      rw [List.length_append, List.length_singleton] at e2
      rw [e1, Option.bind_some, w64s _ (by omega), e2, List.append_assoc]
      rfl
/-- Levels after i leaves. -/
def okN (l : List S37) (i : Nat) : Prop := l.length ≤ i ∧ bulk l ≤ 401 * i ∧ ∀ x ∈ l, okL x
theorem new_l0 (n : Nat) (hn : n ≤ 200) : ∀ (d i k : Nat) (l : List S37), i + d = n → d + 1000 ≤ k → okN l i → ∃ r, spec_FingNew.l0 k (n : Int) (i : Int) l = some r ∧ impl_FingNew.l0 k (n : Int) (i : Int) l = some r ∧ okN r n := by
  intro d
  induction d with
  | zero =>
    intro i k l hi hk hok
    obtain ⟨k, rfl⟩ : ∃ q, k = q + 1 := ⟨k - 1, by omega⟩
    rw [spec_FingNew.l0, if_neg (by omega), impl_FingNew.l0, if_neg (by omega)]
    obtain rfl : i = n := by omega
    exact ⟨l, rfl, rfl, hok⟩
  | succ d ih =>
    intro i k l hi hk hok
    obtain ⟨k, rfl⟩ : ∃ q, k = q + 1 := ⟨k - 1, by omega⟩
    have g : (⟨#[120]⟩ : ByteArray).size = 1 := rfl
    obtain ⟨o1, o2, o3⟩ := hok
    have e1 := behind_f l (⟨#[120]⟩ : ByteArray) k o3 (by omega) (by omega) (by omega)
    have e2 : impl_Fing_pushBack.f k l 0 (⟨#[120]⟩ : ByteArray) = some (bh l (⟨#[120]⟩ : ByteArray)) := pushBack_f l [] (⟨#[120]⟩ : ByteArray) k o3 (by rw [List.length_nil]; omega) (by omega) (by omega)
    obtain ⟨p1, p2, p3⟩ := bh_ok l (⟨#[120]⟩ : ByteArray) o3 (by omega)
    rw [spec_FingNew.l0, if_pos (by omega), if_pos (by omega), e1, Option.bind_some, impl_FingNew.l0, if_pos (by omega), e2, Option.bind_some, w64s i (by omega)]
    exact ih (i + 1) k _ (by omega) (by omega) ⟨by omega, by omega, p3⟩
theorem copy_l0 : ∀ (l done : List S37) (k : Nat), (∀ x ∈ l, okL x) → done.length + l.length ≤ 1000 → l.length + 1 ≤ k → spec_l03Copy.l0 k (done ++ l) done (done.length : Int) = some (done ++ l) := by
  intro l
  induction l with
  | nil =>
    intro done k _ hl hk
    obtain ⟨k, rfl⟩ : ∃ q, k = q + 1 := ⟨k - 1, by omega⟩
    rw [List.append_nil, spec_l03Copy.l0, if_neg (by omega)]
  | cons x t ih =>
    intro done k hok hl hk
    rw [List.length_cons] at hl hk
    obtain ⟨k, rfl⟩ : ∃ q, k = q + 1 := ⟨k - 1, by omega⟩
    have hx := hok x List.mem_cons_self
    obtain ⟨hx0, hx1⟩ := hx
    have e := ih (done ++ [x]) k (fun y hy => hok y (List.mem_cons_of_mem _ hy)) (by rw [List.length_append, List.length_singleton]; omega) (by omega)
    rw [List.length_append, List.length_singleton, List.append_assoc, List.singleton_append] at e
    rw [spec_l03Copy.l0, if_pos (by rw [List.length_append, List.length_cons]; omega), rd_midL]
    simp only [Option.bind_some]
    rw [if_pos (by omega), if_pos (by simp only [List.length_nil]; omega), if_pos (by simp only [List.length_nil]; omega), if_pos (by omega), w64s _ (by omega)]
    exact e
/-- The tree of n leaves, by both. -/
theorem new_f (k : Nat) (a0 : Int) (hk : 2000 ≤ k) : ∃ r, spec_FingNew.f k a0 = some r ∧ impl_FingNew.f k a0 = some r ∧ r.length ≤ 200 ∧ ∀ x ∈ r, okL x := by
  have hin : impl_in.f a0 0 200 = some (decide (0 ≤ a0 ∧ a0 ≤ 200)) := by
    unfold impl_in.f
    by_cases h : 0 ≤ a0
    · rw [if_pos h]
      congr 1
      simp [h]
    · rw [if_neg h]
      congr 1
      simp [h]
  have hrow : ∀ r : List S37, r.length ≤ 200 → (∀ x ∈ r, okL x) → spec_l03Row.f k r = some r := by
    intro r h1 h2
    unfold spec_l03Row.f spec_l03Copy.f
    rw [show spec_l03Copy.l0 k r [] 0 = some r from copy_l0 r [] k h2 (by rw [List.length_nil]; omega) (by omega)]
    rfl
  unfold spec_FingNew.f impl_FingNew.f
  rw [hin, Option.bind_some]
  by_cases h : 0 ≤ a0 ∧ a0 ≤ 200
  · obtain ⟨n, rfl⟩ : ∃ n : Nat, a0 = (n : Int) := ⟨a0.toNat, by omega⟩
    obtain ⟨r, e1, e2, o1, _, o3⟩ := new_l0 n (by omega) n 0 k [] (by omega) (by omega) ⟨by simp, by simp [bulk], by simp⟩
    rw [decide_eq_true h, if_pos rfl]
    have e1' : spec_FingNew.l0 k (n : Int) 0 [] = some r := e1
    have e2' : impl_FingNew.l0 k (n : Int) 0 [] = some r := e2
    rw [e1', e2', Option.bind_some, hrow r (by omega) o3]
    exact ⟨r, rfl, rfl, by omega, o3⟩
  · rw [decide_eq_false h, if_neg (by decide)]
    have e1 : spec_FingNew.l0 k a0 0 [] = some [] := by
      obtain ⟨k, rfl⟩ : ∃ q, k = q + 1 := ⟨k - 1, by omega⟩
      rw [spec_FingNew.l0]
      by_cases h1 : 0 < a0
      · rw [if_pos h1, if_neg (by omega)]
      · rw [if_neg h1]
    rw [e1, Option.bind_some, hrow [] (by simp) (by simp)]
    exact ⟨[], rfl, rfl, by simp, by simp⟩
theorem markText_l0 : ∀ (d : Nat) (x : Int) (acc : ByteArray), 0 ≤ x → x ≤ 1000000000 → x < 10 ^ d → acc.size + d ≤ 100 → ∃ t, ∀ k, d < k → laws_markText.l0 k x acc = some t := by
  intro d
  induction d with
  | zero =>
    intro x acc h0 h9 h1 hs
    refine ⟨(⟨#[109]⟩ : ByteArray) ++ acc, fun k hk => ?_⟩
    obtain ⟨k, rfl⟩ : ∃ q, k = q + 1 := ⟨k - 1, by omega⟩
    rw [laws_markText.l0, if_neg (by simp at h1; omega), if_pos (by omega)]
  | succ d ih =>
    intro x acc h0 h9 h1 hs
    by_cases hx : x > 0
    · have hq : Int.tdiv x 10 = x / 10 := by rw [Int.tdiv_eq_ediv_of_nonneg h0]
      have hp : (10 : Int) ^ (d + 1) = 10 * 10 ^ d := by rw [Int.pow_succ, Int.mul_comm]
      have hlt : x / 10 < 10 ^ d := by rw [hp] at h1; omega
      have hd : d ≤ 100 := by omega
      obtain ⟨t, ht⟩ := ih (wrap64 (Int.tdiv x 10)) (strOfNums [(wrap64 (48 + (Int.tmod x 10))) % 256] ++ acc) (by rw [hq, w64 (by omega) (by omega)]; omega) (by rw [hq, w64 (by omega) (by omega)]; omega) (by rw [hq, w64 (by omega) (by omega)]; exact hlt) (by rw [size_app, strOfNums_size, List.length_singleton]; omega)
      refine ⟨t, fun k hk => ?_⟩
      obtain ⟨k, rfl⟩ : ∃ q, k = q + 1 := ⟨k - 1, by omega⟩
      rw [laws_markText.l0, if_pos hx]
      simp only [Option.bind_some]
      rw [if_pos (by rw [strOfNums_size, List.length_singleton]; omega)]
      exact ht k (by omega)
    · refine ⟨(⟨#[109]⟩ : ByteArray) ++ acc, fun k hk => ?_⟩
      obtain ⟨k, rfl⟩ : ∃ q, k = q + 1 := ⟨k - 1, by omega⟩
      rw [laws_markText.l0, if_neg hx, if_pos (by omega)]
/-- The text that marks place m. -/
def mt (m : Int) : ByteArray := (laws_markText.f 20 m).getD ByteArray.empty
theorem mt_f (k : Nat) (m : Int) (hk : 20 ≤ k) (h1 : m < 1000000000) : laws_markText.f k m = some (mt m) := by
  unfold mt laws_markText.f
  by_cases h0 : m ≤ 0
  · rw [if_pos h0, if_pos h0]
    rfl
  · rw [if_neg h0, if_neg h0]
    obtain ⟨t, ht⟩ := markText_l0 9 m (⟨#[]⟩ : ByteArray) (by omega) (by omega) (by omega) (by rw [show (⟨#[]⟩ : ByteArray).size = 0 from rfl]; omega)
    rw [ht k (by omega), ht 20 (by omega)]
    rfl
/-- The marks of n places. -/
def ms : Nat → Int → List ByteArray
  | 0, _ => []
  | n + 1, m => mt m :: ms n (m + 1)
theorem ms_length : ∀ (n : Nat) (m : Int), (ms n m).length = n := by
  intro n
  induction n with
  | zero => intro m; rfl
  | succ n ih => intro m; simp [ms, ih]
theorem markStringS_l0 : ∀ (l done : List ByteArray) (k : Nat) (m : Int), l.length + 21 ≤ k → done.length + l.length ≤ 1000 → 0 ≤ m → m + (l.length : Int) ≤ 1000000 →
    laws_markStringS.l0 k (done ++ l) m (done.length : Int) = some (m + (l.length : Int), done ++ ms l.length m) := by
  intro l
  induction l with
  | nil =>
    intro done k m hk hl h0 h1
    obtain ⟨k, rfl⟩ : ∃ q, k = q + 1 := ⟨k - 1, by omega⟩
    rw [laws_markStringS.l0, if_neg (by simp)]
    simp [ms]
  | cons x t ih =>
    intro done k m hk hl h0 h1
    rw [List.length_cons] at hk hl h1
    obtain ⟨k, rfl⟩ : ∃ q, k = q + 1 := ⟨k - 1, by omega⟩
    have e := ih (done ++ [mt m]) k (m + 1) (by omega) (by rw [List.length_append, List.length_singleton]; omega) (by omega) (by omega)
    rw [List.length_append, List.length_singleton] at e
    rw [laws_markStringS.l0, if_pos (by rw [List.length_append, List.length_cons]; omega), mt_f k m (by omega) (by omega), Option.bind_some, if_pos (by omega), set_midS, w64s _ (by omega), w64 (x := m + 1) (by omega) (by omega), e]
    simp only [List.length_cons, ms, List.append_assoc, List.singleton_append]
    congr 2
    omega
theorem heldStringS_l0 (L : List ByteArray) : ∀ (n : Nat) (done : List ByteArray) (k : Nat) (m : Int), L = done ++ ms n m → n + 21 ≤ k → done.length + n ≤ 1000 → 0 ≤ m → m + (n : Int) ≤ 1000000 →
    laws_heldStringS.l0 k L m (done.length : Int) = some (m + (n : Int)) := by
  intro n
  induction n with
  | zero =>
    intro done k m hL hk hl h0 h1
    obtain ⟨k, rfl⟩ : ∃ q, k = q + 1 := ⟨k - 1, by omega⟩
    subst hL
    rw [laws_heldStringS.l0, if_neg (by simp [ms])]
    simp
  | succ n ih =>
    intro done k m hL hk hl h0 h1
    obtain ⟨k, rfl⟩ : ∃ q, k = q + 1 := ⟨k - 1, by omega⟩
    have hlen : L.length = done.length + (n + 1) := by rw [hL, List.length_append, ms_length]
    have hr : rdOf ByteArray.empty L (done.length : Int) = mt m := by rw [hL]; exact rd_midS _ _ _
    have e := ih (done ++ [mt m]) k (m + 1) (by rw [hL]; simp [ms]) (by omega) (by rw [List.length_append, List.length_singleton]; omega) (by omega) (by omega)
    rw [List.length_append, List.length_singleton] at e
    rw [laws_heldStringS.l0, if_pos (by omega), if_pos (by omega), mt_f k m (by omega) (by omega), Option.bind_some, hr, if_pos rfl, w64s _ (by omega), w64 (x := m + 1) (by omega) (by omega), e]
    congr 1
    omega
/-- How many strings. -/
def cnt : List S37 → Nat
  | [] => 0
  | x :: t => x.f0.length + x.f1.length + cnt t
theorem cnt_le : ∀ (l : List S37), (∀ x ∈ l, okL x) → cnt l ≤ 5 * l.length := by
  intro l
  induction l with
  | nil => intro _; simp [cnt]
  | cons x t ih =>
    intro h
    have h1 := ih (fun y hy => h y (List.mem_cons_of_mem _ hy))
    obtain ⟨h2, h3⟩ := h x List.mem_cons_self
    simp only [cnt, List.length_cons]
    omega
/-- The marked levels. -/
def mL : List S37 → Int → List S37
  | [], _ => []
  | x :: t, m => ⟨ms x.f0.length m, ms x.f1.length (m + (x.f0.length : Int))⟩ :: mL t (m + (x.f0.length : Int) + (x.f1.length : Int))
theorem mL_length : ∀ (l : List S37) (m : Int), (mL l m).length = l.length := by
  intro l
  induction l with
  | nil => intro m; rfl
  | cons x t ih => intro m; simp [mL, ih]
theorem markLevelS_l0 : ∀ (l done : List S37) (k : Nat) (m : Int), (∀ x ∈ l, okL x) → l.length + 100 ≤ k → done.length + l.length ≤ 1000 → 0 ≤ m → m + (cnt l : Int) ≤ 1000000 →
    laws_markLevelS.l0 k (done ++ l) m (done.length : Int) = some (m + (cnt l : Int), done ++ mL l m) := by
  intro l
  induction l with
  | nil =>
    intro done k m _ hk hl h0 h1
    obtain ⟨k, rfl⟩ : ∃ q, k = q + 1 := ⟨k - 1, by omega⟩
    rw [laws_markLevelS.l0, if_neg (by simp)]
    simp [mL, cnt]
  | cons x t ih =>
    intro done k m hok hk hl h0 h1
    rw [List.length_cons] at hk hl
    simp only [cnt] at h1
    obtain ⟨k, rfl⟩ : ∃ q, k = q + 1 := ⟨k - 1, by omega⟩
    obtain ⟨x0, x1⟩ := hok x List.mem_cons_self
    have e := ih (done ++ [⟨ms x.f0.length m, ms x.f1.length (m + (x.f0.length : Int))⟩]) k (m + (x.f0.length : Int) + (x.f1.length : Int)) (fun y hy => hok y (List.mem_cons_of_mem _ hy)) (by omega) (by rw [List.length_append, List.length_singleton]; omega) (by omega) (by omega)
    rw [List.length_append, List.length_singleton] at e
    have e0 : laws_markStringS.f k x.f0 m = some (m + (x.f0.length : Int), ms x.f0.length m) := markStringS_l0 x.f0 [] k m (by omega) (by rw [List.length_nil]; omega) (by omega) (by omega)
    have e1 : laws_markStringS.f k x.f1 (m + (x.f0.length : Int)) = some (m + (x.f0.length : Int) + (x.f1.length : Int), ms x.f1.length (m + (x.f0.length : Int))) := markStringS_l0 x.f1 [] k _ (by omega) (by rw [List.length_nil]; omega) (by omega) (by omega)
    rw [laws_markLevelS.l0, if_pos (by rw [List.length_append, List.length_cons]; omega), if_pos (by omega), rd_midL, e0, Option.bind_some, e1, Option.bind_some, set_midL, w64s _ (by omega), e]
    simp only [cnt, mL, List.append_assoc, List.singleton_append]
    congr 2
    omega
theorem heldLevelS_l0 (L : List S37) : ∀ (l done : List S37) (k : Nat) (m : Int), L = done ++ mL l m → (∀ x ∈ l, okL x) → l.length + 100 ≤ k → done.length + l.length ≤ 1000 → 0 ≤ m → m + (cnt l : Int) ≤ 1000000 →
    laws_heldLevelS.l0 k L m (done.length : Int) = some (m + (cnt l : Int)) := by
  intro l
  induction l with
  | nil =>
    intro done k m hL _ hk hl h0 h1
    obtain ⟨k, rfl⟩ : ∃ q, k = q + 1 := ⟨k - 1, by omega⟩
    subst hL
    rw [laws_heldLevelS.l0, if_neg (by simp [mL])]
    simp [cnt]
  | cons x t ih =>
    intro done k m hL hok hk hl h0 h1
    rw [List.length_cons] at hk hl
    simp only [cnt] at h1
    obtain ⟨k, rfl⟩ : ∃ q, k = q + 1 := ⟨k - 1, by omega⟩
    obtain ⟨x0, x1⟩ := hok x List.mem_cons_self
    have hlen : L.length = done.length + (t.length + 1) := by rw [hL, List.length_append, mL_length, List.length_cons]
    have hr : rd_T37 L (done.length : Int) = ⟨ms x.f0.length m, ms x.f1.length (m + (x.f0.length : Int))⟩ := by rw [hL]; exact rd_midL _ _ _
    have e := ih (done ++ [⟨ms x.f0.length m, ms x.f1.length (m + (x.f0.length : Int))⟩]) k (m + (x.f0.length : Int) + (x.f1.length : Int)) (by rw [hL]; simp [mL]) (fun y hy => hok y (List.mem_cons_of_mem _ hy)) (by omega) (by rw [List.length_append, List.length_singleton]; omega) (by omega) (by omega)
    rw [List.length_append, List.length_singleton] at e
    have e0 : laws_heldStringS.f k (ms x.f0.length m) m = some (m + (x.f0.length : Int)) := heldStringS_l0 _ x.f0.length [] k m rfl (by omega) (by rw [List.length_nil]; omega) (by omega) (by omega)
    have e1 : laws_heldStringS.f k (ms x.f1.length (m + (x.f0.length : Int))) (m + (x.f0.length : Int)) = some (m + (x.f0.length : Int) + (x.f1.length : Int)) := heldStringS_l0 _ x.f1.length [] k _ rfl (by omega) (by rw [List.length_nil]; omega) (by omega) (by omega)
    rw [laws_heldLevelS.l0, if_pos (by omega), if_pos (by omega), hr]
    simp only []
    rw [e0, Option.bind_some, if_neg (by omega), e1, Option.bind_some, if_neg (by omega), w64s _ (by omega), e]
    simp only [cnt]
    congr 1
    omega
theorem FnExactFingNew (a0 : Int) (wa0 : (Lit.int .i64 a0).wf = true) : ∃ k, laws_FnExactFingNew.f k a0 = some true := by
  refine ⟨3000000, ?_⟩
  generalize hk : (3000000 : Nat) = k
  obtain ⟨r, es, ei, h1, h2⟩ := new_f k a0 (by omega)
  have h3 := cnt_le r h2
  have eq := eqFing_self k r (by omega) (fun c hc => by have := h2 c hc; unfold okL at this; omega) (by omega)
  have em : laws_markFing.f k r 1 = some (1 + (cnt r : Int), mL r 1) := markLevelS_l0 r [] k 1 h2 (by omega) (by rw [List.length_nil]; omega) (by omega) (by omega)
  have eh : laws_heldFing.f k (mL r 1) 1 = some (1 + (cnt r : Int)) := by
    unfold laws_heldFing.f laws_heldLevelS.f
    rw [show laws_heldLevelS.l0 k (mL r 1) 1 0 = some (1 + (cnt r : Int)) from heldLevelS_l0 (mL r 1) r [] k 1 rfl h2 (by omega) (by rw [List.length_nil]; omega) (by omega) (by omega), Option.bind_some, if_neg (by omega)]
  unfold laws_FnExactFingNew.f
  rw [es, ei, Option.bind_some, Option.bind_some, eq, Option.bind_some, if_pos rfl, em, Option.bind_some, eh, Option.bind_some, if_neg (by omega), if_pos rfl, Option.bind_some, eq, Option.bind_some, if_pos rfl, Option.bind_some, if_neg (by omega), if_pos rfl]

end Go.Proofs.Ytgginlfbdhkepaa.Pure
