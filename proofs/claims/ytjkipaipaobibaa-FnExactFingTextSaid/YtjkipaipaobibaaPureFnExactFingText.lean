/-
  The law FnExactFingText in plain words: what the program's function computes is what the reference's computes. No memory, no machine.
-/
import Derived.Test.YtjkipaipaobibaaPFnExactFingTextx
import Derived.Test.YtjkipaipaobibaaGen
namespace Go.Proofs.Ytjkipaipaobibaa.Pure
open Go.RowKit Go.Proofs.Ytjkipaipaobibaa.PFnExactFingText Go.Proofs.YtjkipaipaobibaaW.PrintWords Go.Proofs.YtjkipaipaobibaaW.PrintLast Go.Proofs.YtjkipaipaobibaaW.PrintMore Go.Proofs.Ytjkipaipaobibaa.Gen
set_option linter.unusedVariables false
set_option linter.unusedSimpArgs false

def wf56 (x : S56) : Prop := (x.f0.length ≤ maxLen ∧ ∀ y ∈ x.f0, y.size ≤ maxLen) ∧ (x.f1.length ≤ maxLen ∧ ∀ y ∈ x.f1, y.size ≤ maxLen)
namespace FT
/-- A node of a depth, as bytes. -/
def T : Nat → List Int → Prop
  | 0, l => l = [120]
  | d + 1, l => ∃ ks : List (List Int), (ks.length = 2 ∨ ks.length = 3) ∧ (∀ k ∈ ks, T d k) ∧ l = 40 :: (ks.flatten ++ [41])
/-- How many leaves. -/
def xs (l : List Int) : Nat := l.count 120
theorem xs_app (a b : List Int) : xs (a ++ b) = xs a + xs b := List.count_append
theorem flat_len : ∀ ks : List (List Int), (∀ k ∈ ks, k.length + 2 ≤ 3 * xs k) → ks.flatten.length + 2 * ks.length ≤ 3 * xs ks.flatten := by
  intro ks
  induction ks with
  | nil => intro _; simp
  | cons k ks ih =>
    intro h
    have h1 := h k List.mem_cons_self
    have h2 := ih fun x hx => h x (List.mem_cons_of_mem _ hx)
    rw [List.flatten_cons, List.length_append, xs_app, List.length_cons]
    omega
theorem T_len : ∀ (d : Nat) (l : List Int), T d l → l.length + 2 ≤ 3 * xs l := by
  intro d
  induction d with
  | zero => rintro l rfl; decide
  | succ d ih =>
    rintro l ⟨ks, hn, hk, rfl⟩
    have h := flat_len ks fun k hk' => ih k (hk k hk')
    have e : xs (40 :: (ks.flatten ++ [41])) = xs ks.flatten := by
      unfold xs
      rw [List.count_cons, List.count_append]
      simp
    rw [e]
    simp only [List.length_cons, List.length_append, List.length_nil]
    omega
theorem flat_xs {n : Nat} : ∀ ks : List (List Int), (∀ k ∈ ks, n ≤ xs k) → ks.length * n ≤ xs ks.flatten := by
  intro ks
  induction ks with
  | nil => intro _; simp
  | cons k ks ih =>
    intro h
    have h1 := h k List.mem_cons_self
    have h2 := ih fun x hx => h x (List.mem_cons_of_mem _ hx)
    rw [List.flatten_cons, xs_app, List.length_cons, Nat.succ_mul]
    omega
theorem T_pow : ∀ (d : Nat) (l : List Int), T d l → 2 ^ d ≤ xs l := by
  intro d
  induction d with
  | zero => rintro l rfl; decide
  | succ d ih =>
    rintro l ⟨ks, hn, hk, rfl⟩
    have h := flat_xs (n := 2 ^ d) ks fun k hk' => ih k (hk k hk')
    have e : xs (40 :: (ks.flatten ++ [41])) = xs ks.flatten := by
      unfold xs
      rw [List.count_cons, List.count_append]
      simp
    rw [e, Nat.pow_succ]
    have : 2 * 2 ^ d ≤ ks.length * 2 ^ d := Nat.mul_le_mul_right _ (by omega)
    omega
theorem T_head : ∀ (d : Nat) (l : List Int), T d l → ∃ c r, l = c :: r ∧ c ≠ 41 := by
  intro d
  cases d with
  | zero => rintro l rfl; exact ⟨120, [], rfl, by decide⟩
  | succ d => rintro l ⟨ks, _, _, rfl⟩; exact ⟨40, _, rfl, by decide⟩
/-! The parser that goes ahead. -/
def prs (p : List Int → Option (List Int)) : Nat → List Int → Nat → Option (List Int)
  | _, [], _ => none
  | n, c :: r, m => if c = 41 then (if m = 2 ∨ m = 3 then some r else none) else
    match n with
    | 0 => none
    | n + 1 => match p (c :: r) with
      | none => none
      | some q => prs p n q (m + 1)
def pr : Nat → List Int → Option (List Int)
  | 0, l => match l with
    | [] => none
    | c :: r => if c = 120 then some r else none
  | d + 1, l => match l with
    | [] => none
    | c :: r => if c = 40 then prs (pr d) r.length r 0 else none
theorem prs_sound {p : List Int → Option (List Int)} {P : List Int → Prop} (hp : ∀ l r, p l = some r → ∃ k, P k ∧ l = k ++ r) : ∀ (n : Nat) (l : List Int) (m : Nat) (r : List Int), prs p n l m = some r →
    ∃ ks : List (List Int), (m + ks.length = 2 ∨ m + ks.length = 3) ∧ (∀ k ∈ ks, P k) ∧ l = ks.flatten ++ 41 :: r := by
  intro n
  induction n with
  | zero =>
    intro l m r h
    cases l with
    | nil => simp [prs] at h
    | cons c l =>
      simp only [prs] at h
      by_cases hc : c = 41
      · rw [if_pos hc] at h
        by_cases hm : m = 2 ∨ m = 3
        · rw [if_pos hm] at h
          exact ⟨[], by simpa using hm, by simp, by simp [hc, Option.some.inj h]⟩
        · rw [if_neg hm] at h; cases h
      · rw [if_neg hc] at h; cases h
  | succ n ih =>
    intro l m r h
    cases l with
    | nil => simp [prs] at h
    | cons c l =>
      simp only [prs] at h
      by_cases hc : c = 41
      · rw [if_pos hc] at h
        by_cases hm : m = 2 ∨ m = 3
        · rw [if_pos hm] at h
          exact ⟨[], by simpa using hm, by simp, by simp [hc, Option.some.inj h]⟩
        · rw [if_neg hm] at h; cases h
      · rw [if_neg hc] at h
        cases hq : p (c :: l) with
        | none => rw [hq] at h; cases h
        | some q =>
          rw [hq] at h
          obtain ⟨k, hk, e⟩ := hp _ _ hq
          obtain ⟨ks, h1, h2, h3⟩ := ih q (m + 1) r h
          refine ⟨k :: ks, by rw [List.length_cons]; omega, ?_, by rw [e, h3]; simp⟩
          intro x hx
          rcases List.mem_cons.1 hx with rfl | hx
          · exact hk
          · exact h2 x hx
theorem pr_sound : ∀ (d : Nat) (l r : List Int), pr d l = some r → ∃ k, T d k ∧ l = k ++ r := by
  intro d
  induction d with
  | zero =>
    intro l r h
    cases l with
    | nil => simp [pr] at h
    | cons c l =>
      simp only [pr] at h
      by_cases hc : c = 120
      · rw [if_pos hc] at h
        exact ⟨[120], rfl, by simp [hc, Option.some.inj h]⟩
      · rw [if_neg hc] at h; cases h
  | succ d ih =>
    intro l r h
    cases l with
    | nil => simp [pr] at h
    | cons c l =>
      simp only [pr] at h
      by_cases hc : c = 40
      · rw [if_pos hc] at h
        obtain ⟨ks, h1, h2, h3⟩ := prs_sound ih _ _ _ _ h
        exact ⟨40 :: (ks.flatten ++ [41]), ⟨ks, by omega, h2, rfl⟩, by rw [h3, hc]; simp⟩
      · rw [if_neg hc] at h; cases h
theorem prs_full {p : List Int → Option (List Int)} {P : List Int → Prop} (hp : ∀ k r, P k → p (k ++ r) = some r) (hh : ∀ k, P k → ∃ c t, k = c :: t ∧ c ≠ 41) : ∀ (ks : List (List Int)) (n m : Nat) (r : List Int), (∀ k ∈ ks, P k) → ks.length ≤ n →
    (m + ks.length = 2 ∨ m + ks.length = 3) → prs p n (ks.flatten ++ 41 :: r) m = some r := by
  intro ks
  induction ks with
  | nil =>
    intro n m r _ _ h
    have : m = 2 ∨ m = 3 := by simpa using h
    rw [List.flatten_nil, List.nil_append]
    unfold prs
    rw [if_pos rfl, if_pos this]
  | cons k ks ih =>
    intro n m r hP hn h
    obtain ⟨c, t, e, hc⟩ := hh k (hP k List.mem_cons_self)
    rw [List.length_cons] at hn h
    obtain ⟨n, rfl⟩ : ∃ q, n = q + 1 := ⟨n - 1, by omega⟩
    rw [List.flatten_cons, List.append_assoc]
    have h1 := hp k (ks.flatten ++ 41 :: r) (hP k List.mem_cons_self)
    have e2 : k ++ (ks.flatten ++ 41 :: r) = c :: (t ++ (ks.flatten ++ 41 :: r)) := by rw [e]; rfl
    rw [e2] at h1 ⊢
    unfold prs
    rw [if_neg hc]
    simp only
    rw [h1]
    exact ih n (m + 1) r (fun x hx => hP x (List.mem_cons_of_mem _ hx)) (by omega) (by omega)
theorem flat_ge : ∀ ks : List (List Int), (∀ k ∈ ks, ∃ c t, k = c :: t ∧ c ≠ (41 : Int)) → ks.length ≤ ks.flatten.length := by
  intro ks
  induction ks with
  | nil => intro _; simp
  | cons k ks ih =>
    intro h
    obtain ⟨c, t, e, _⟩ := h k List.mem_cons_self
    have := ih fun x hx => h x (List.mem_cons_of_mem _ hx)
    rw [List.flatten_cons, List.length_append, e, List.length_cons, List.length_cons]
    omega
theorem pr_full : ∀ (d : Nat) (k r : List Int), T d k → pr d (k ++ r) = some r := by
  intro d
  induction d with
  | zero => rintro k r rfl; simp [pr]
  | succ d ih =>
    rintro k r ⟨ks, hn, hk, rfl⟩
    have hh : ∀ k ∈ ks, ∃ c t, k = c :: t ∧ c ≠ (41 : Int) := fun k hk' => T_head d k (hk k hk')
    rw [List.cons_append, List.append_assoc]
    unfold pr
    simp only [if_true]
    refine prs_full (P := T d) (fun k r h => ih k r h) (fun k h => T_head d k h) ks _ 0 r hk ?_ (by omega)
    have := flat_ge ks hh
    rw [List.length_append]
    omega
/-! The scan of the reference. -/
def sc : List Int → Nat → List Int → Option (List (List Int))
  | [], o, _ => if o = 0 then some [] else none
  | c :: l, o, cur =>
    if c = 40 then sc l (o + 1) (cur ++ [c])
    else if c = 41 then (if o = 0 then none else if o = 1 then (sc l 0 []).map ((cur ++ [c]) :: ·) else sc l (o - 1) (cur ++ [c]))
    else if c = 120 then (if o = 0 then (sc l 0 []).map ((cur ++ [c]) :: ·) else sc l o (cur ++ [c]))
    else none
theorem sc_flat : ∀ (l : List Int) (o : Nat) (cur : List Int) (ks : List (List Int)), (o = 0 → cur = []) → sc l o cur = some ks → ks.flatten = cur ++ l := by
  intro l
  induction l with
  | nil =>
    intro o cur ks ho h
    unfold sc at h
    by_cases h0 : o = 0
    · rw [if_pos h0] at h
      rw [← Option.some.inj h, ho h0]; rfl
    · rw [if_neg h0] at h; cases h
  | cons c l ih =>
    intro o cur ks ho h
    unfold sc at h
    by_cases h1 : c = 40
    · rw [if_pos h1] at h
      rw [ih _ _ _ (by omega) h]; simp
    · rw [if_neg h1] at h
      by_cases h2 : c = 41
      · rw [if_pos h2] at h
        by_cases h0 : o = 0
        · rw [if_pos h0] at h; cases h
        · rw [if_neg h0] at h
          by_cases h3 : o = 1
          · rw [if_pos h3] at h
            obtain ⟨q, hq, rfl⟩ := Option.map_eq_some_iff.1 h
            rw [List.flatten_cons, ih 0 [] q (fun _ => rfl) hq]; simp
          · rw [if_neg h3] at h
            rw [ih _ _ _ (by omega) h]; simp
      · rw [if_neg h2] at h
        by_cases h4 : c = 120
        · rw [if_pos h4] at h
          by_cases h0 : o = 0
          · rw [if_pos h0] at h
            obtain ⟨q, hq, rfl⟩ := Option.map_eq_some_iff.1 h
            rw [List.flatten_cons, ih 0 [] q (fun _ => rfl) hq]; simp
          · rw [if_neg h0] at h
            rw [ih _ _ _ (fun e => absurd e h0) h]; simp
        · rw [if_neg h4] at h; cases h
theorem sc_kids {P : List Int → Prop} (o : Nat) (hP : ∀ k l cur, P k → sc (k ++ l) o cur = sc l o (cur ++ k)) : ∀ (ks : List (List Int)) (l cur : List Int), (∀ k ∈ ks, P k) → sc (ks.flatten ++ l) o cur = sc l o (cur ++ ks.flatten) := by
  intro ks
  induction ks with
  | nil => intro l cur _; simp
  | cons k ks ih =>
    intro l cur h
    rw [List.flatten_cons, List.append_assoc, hP k _ _ (h k List.mem_cons_self), ih _ _ fun x hx => h x (List.mem_cons_of_mem _ hx)]
    simp
theorem sc_T : ∀ (d : Nat) (k l : List Int) (o : Nat) (cur : List Int), T d k → sc (k ++ l) o cur = if o = 0 then (sc l 0 []).map ((cur ++ k) :: ·) else sc l o (cur ++ k) := by
  intro d
  induction d with
  | zero =>
    rintro k l o cur rfl
    rw [List.singleton_append]
    conv => lhs; unfold sc
    simp
  | succ d ih =>
    rintro k l o cur ⟨ks, hn, hk, rfl⟩
    rw [List.cons_append, List.append_assoc]
    conv => lhs; unfold sc
    simp only [if_true]
    rw [sc_kids (P := T d) (o + 1) (fun k l cur h => by rw [ih k l (o + 1) cur h, if_neg (by omega)]) ks _ _ hk, List.singleton_append]
    conv => lhs; unfold sc
    rw [if_neg (by decide), if_pos rfl, if_neg (by omega)]
    by_cases h0 : o = 0
    · subst h0
      rw [if_pos rfl, if_pos rfl]
      congr 1
      funext x
      simp
    · rw [if_neg (by omega), if_neg h0]
      rw [show o + 1 - 1 = o by omega]
      simp
theorem sc_ks (d : Nat) : ∀ ks : List (List Int), (∀ k ∈ ks, T d k) → sc ks.flatten 0 [] = some ks := by
  intro ks
  induction ks with
  | nil => intro _; rfl
  | cons k ks ih =>
    intro h
    rw [List.flatten_cons, sc_T d k _ 0 [] (h k List.mem_cons_self), if_pos rfl, ih fun x hx => h x (List.mem_cons_of_mem _ hx)]
    simp
/-- The kids of a text. -/
def kids (l : List Int) : List (List Int) :=
  if 2 ≤ l.length ∧ l.getD 0 0 = 40 ∧ l.getD (l.length - 1) 0 = 41 then (sc ((l.drop 1).take (l.length - 2)) 0 []).getD [] else []
theorem split_ends {l : List Int} (h : 2 ≤ l.length ∧ l.getD 0 0 = 40 ∧ l.getD (l.length - 1) 0 = 41) : l = 40 :: ((l.drop 1).take (l.length - 2) ++ [41]) := by
  obtain ⟨h1, h2, h3⟩ := h
  cases l with
  | nil => simp at h1
  | cons a t =>
    have e2 : a = 40 := by simpa using h2
    rw [List.length_cons] at h1 h3 ⊢
    subst e2
    rw [List.drop_one, List.tail_cons]
    congr 1
    apply List.ext_getElem (by simp; omega)
    intro i h4 h5
    by_cases hi : i < t.length - 1
    · rw [List.getElem_append_left (by simp; omega), List.getElem_take]
    · rw [List.getElem_append_right (by simp; omega)]
      have hi' : i = t.length - 1 := by omega
      subst hi'
      rw [List.getElem_singleton]
      rw [List.getD_eq_getElem?_getD, show t.length + 1 - 1 = (t.length - 1) + 1 by omega, List.getElem?_cons_succ, List.getElem?_eq_getElem h4] at h3
      exact h3
/-- The reference's test of a shape: the same nodes. -/
theorem T_kids (d : Nat) (l : List Int) : T (d + 1) l ↔ (2 ≤ (kids l).length ∧ (kids l).length ≤ 3 ∧ ∀ k ∈ kids l, T d k) := by
  constructor
  · rintro ⟨ks, hn, hk, rfl⟩
    have e : kids (40 :: (ks.flatten ++ [41])) = ks := by
      unfold kids
      rw [if_pos ⟨by simp, by simp, by simp [List.getD_eq_getElem?_getD]⟩]
      simp only [List.length_cons, List.length_append, List.length_nil, List.drop_one, List.tail_cons]
      rw [show ks.flatten.length + (0 + 1) + 1 - 2 = ks.flatten.length by omega, List.take_left, sc_ks d ks hk]
      rfl
    rw [e]
    exact ⟨by omega, by omega, hk⟩
  · rintro ⟨h1, h2, h3⟩
    unfold kids at h1 h2 h3
    by_cases hc : 2 ≤ l.length ∧ l.getD 0 0 = 40 ∧ l.getD (l.length - 1) 0 = 41
    · rw [if_pos hc] at h1 h2 h3
      cases hs : sc ((l.drop 1).take (l.length - 2)) 0 [] with
      | none => rw [hs] at h1; simp at h1
      | some ks =>
        rw [hs] at h1 h2 h3
        simp only [Option.getD_some] at h1 h2 h3
        refine ⟨ks, by omega, h3, ?_⟩
        rw [sc_flat _ _ _ _ (fun _ => rfl) hs, List.nil_append]
        exact split_ends hc
    · rw [if_neg hc] at h1; simp at h1
end FT
/-- A text's bytes, as whole numbers. -/
def B (s : ByteArray) : List Int := s.data.toList.map fun b : UInt8 => (b.toNat : Int)
theorem B_len (s : ByteArray) : (B s).length = s.size := by simp [B]
theorem B_inj {s t : ByteArray} (h : B s = B t) : s = t := by
  unfold B at h
  have h2 := List.map_inj_right (f := fun b : UInt8 => (b.toNat : Int)) (fun a b e => UInt8.toNat_inj.1 (by exact_mod_cast e)) |>.1 h
  cases s; cases t
  congr 1
  exact Array.toList_inj.1 h2
theorem bt_B (s : ByteArray) (i : Nat) (h : i < s.size) : bt s (i : Int) = (B s).getD i 0 := by
  unfold bt B
  rw [Int.toNat_natCast, dif_pos h, List.getD_eq_getElem?_getD, List.getElem?_map, List.getElem?_eq_getElem (by simpa using h)]
  rfl
theorem B_extract (s : ByteArray) (a b : Nat) (h : b ≤ s.size) : B (s.extract a b) = ((B s).drop a).take (b - a) := by
  unfold B
  rw [ByteArray.data_extract, Array.toList_extract, List.extract_eq_take_drop, List.map_take, List.map_drop]
theorem B_tail (s : ByteArray) (a : Nat) : B (s.extract a s.size) = (B s).drop a := by
  rw [B_extract s a s.size (Nat.le_refl _), List.take_of_length_le (by rw [List.length_drop, B_len]; omega)]
theorem B_beq (s t : ByteArray) : (s.toList == t.toList) = decide (B s = B t) := by
  rw [Bool.eq_iff_iff, beq_iff_eq, decide_eq_true_eq, ByteArray.toList_eq, ByteArray.toList_eq]
  constructor
  · intro h
    unfold B
    rw [h]
  · intro h
    rw [B_inj h]
theorem B_one (c : UInt8) : B ⟨#[c]⟩ = [(c.toNat : Int)] := rfl
theorem drop_getD (l : List Int) (i : Nat) (h : i < l.length) : l.drop i = l.getD i 0 :: l.drop (i + 1) := by
  rw [List.getD_eq_getElem?_getD, List.getElem?_eq_getElem h, Option.getD_some, List.drop_eq_getElem_cons h]
theorem prefix_f (s : ByteArray) (c : UInt8) : strings_HasPrefix.f s ⟨#[c]⟩ = some (decide ((B s).head? = some (c.toNat : Int))) := by
  unfold strings_HasPrefix.f stringslite_HasPrefix.f
  have e : (⟨#[c]⟩ : ByteArray).size = 1 := rfl
  rw [e]
  by_cases h : (s.size : Int) ≥ ((1 : Nat) : Int)
  · rw [if_pos h, if_pos (by omega), if_pos h]
    simp only [Option.bind_some]
    congr 1
    have e2 : ((⟨#[c]⟩ : ByteArray).toList) = (⟨#[c]⟩ : ByteArray).toList := rfl
    rw [B_beq, show (((1 : Nat) : Int)).toNat = 1 from rfl, B_extract s 0 1 (by omega), List.drop_zero, B_one]
    cases hb : B s with
    | nil =>
      have := B_len s
      rw [hb] at this
      simp at this
      omega
    | cons a l => simp
  · rw [if_neg h]
    have : B s = [] := List.eq_nil_of_length_eq_zero (by rw [B_len]; omega)
    rw [this]
    rfl
theorem leaves_eq (s : ByteArray) : (Lib.countByte s.data.toList 120 : Int) = (FT.xs (B s) : Int) := by
  unfold Lib.countByte FT.xs B
  congr 1
  rw [List.count_eq_countP, List.count_eq_countP, List.countP_map]
  apply List.countP_congr
  intro b _
  simp only [Function.comp, beq_iff_eq]
  constructor
  · rintro rfl; rfl
  · intro h
    exact UInt8.toNat_inj.1 (by have : (b.toNat : Int) = 120 := h; show b.toNat = 120; omega)
theorem leavesOf_f (s : ByteArray) : impl_leavesOf.f s = some (FT.xs (B s) : Int) := by
  unfold impl_leavesOf.f strings_Count.f
  have e : (⟨#[120]⟩ : ByteArray).size = 1 := rfl
  rw [if_pos e]
  simp only [Option.bind_some]
  rw [← leaves_eq]
  rfl
theorem in_f (a b c : Int) : impl_in.f a b c = some (decide (b ≤ a ∧ a ≤ c)) := by
  unfold impl_in.f
  by_cases h : b ≤ a <;> simp [h]
/-- The answer of the program's scan. -/
def nend (n : Nat) : Option (List Int) → Int
  | some r => (n : Int) - (r.length : Int)
  | none => -1
theorem prs_cons (p : List Int → Option (List Int)) (n m : Nat) (c : Int) (r : List Int) : FT.prs p n (c :: r) m = if c = 41 then (if m = 2 ∨ m = 3 then some r else none) else match n with
    | 0 => none
    | n + 1 => match p (c :: r) with
      | none => none
      | some q => FT.prs p n q (m + 1) := by
  cases n <;> rfl
theorem nodeEnd_f (s : ByteArray) (hs : s.size ≤ 1048576) : ∀ (d k at_ : Nat), d ≤ 8 → at_ ≤ s.size → (d + 1) * (2 * s.size + 8) ≤ k → impl_nodeEnd.f k s (at_ : Int) (d : Int) = some (nend s.size (FT.pr d ((B s).drop at_))) := by
  intro d
  have hB := B_len s
  induction d with
  | zero =>
    intro k at_ hd8 ha hk
    obtain ⟨k, rfl⟩ : ∃ q, k = q + 1 := ⟨k - 1, by omega⟩
    simp only [impl_nodeEnd.f]
    rw [if_pos (by rfl), if_pos (by omega), if_pos (by omega), Int.toNat_natCast, prefix_f, B_tail]
    simp only [Option.bind_some]
    by_cases hl : at_ < s.size
    · rw [drop_getD (B s) at_ (by omega)]
      simp only [List.head?_cons, FT.pr, Option.some.injEq]
      by_cases hc : (B s).getD at_ 0 = 120
      · have e : decide ((B s).getD at_ 0 = ((120 : UInt8).toNat : Int)) = true := decide_eq_true hc
        rw [e, if_pos rfl, if_pos hc, w64s at_ (by omega)]
        simp only [nend, List.length_drop]
        congr 1
        omega
      · have e : decide ((B s).getD at_ 0 = ((120 : UInt8).toNat : Int)) = false := decide_eq_false hc
        rw [e, if_neg (by decide), if_neg hc]
        rfl
    · rw [List.drop_of_length_le (by omega)]
      rfl
  | succ d ih =>
    intro k at_ hd8 ha hk
    rw [Nat.succ_mul] at hk
    generalize hF : (d + 1) * (2 * s.size + 8) = F at ih hk
    have loop : ∀ (n k p m : Nat), p ≤ s.size → s.size - p ≤ n → 2 * (s.size - p) + 4 + F ≤ k → m ≤ p → impl_nodeEnd.l0 k s (p : Int) ((d + 1 : Nat) : Int) (m : Int) = some (nend s.size (FT.prs (FT.pr d) n ((B s).drop p) m)) := by
      intro n
      induction n with
      | zero =>
        intro k p m hp hn hk hm
        obtain ⟨k, rfl⟩ : ∃ q, k = q + 2 := ⟨k - 2, by omega⟩
        have e : p = s.size := by omega
        simp only [impl_nodeEnd.l0]
        rw [if_neg (by omega)]
        simp only [impl_nodeEnd.j1]
        rw [if_neg (by decide), if_pos (by omega), List.drop_of_length_le (by omega)]
        rfl
      | succ n ihn =>
        intro k p m hp hn hk hm
        obtain ⟨k, rfl⟩ : ∃ q, k = q + 2 := ⟨k - 2, by omega⟩
        simp only [impl_nodeEnd.l0]
        by_cases hl : p < s.size
        · rw [if_pos (by omega), if_pos (by omega), bt_B s p hl, drop_getD (B s) p (by omega), prs_cons]
          simp only [impl_nodeEnd.j1]
          by_cases hc : (B s).getD p 0 = 41
          · have e : ((B s).getD p 0 != 41) = false := by rw [hc]; rfl
            rw [e, if_neg (by decide), if_neg (by omega), in_f, if_pos hc]
            simp only [Option.bind_some]
            by_cases hm2 : m = 2 ∨ m = 3
            · rw [decide_eq_true (show (2 : Int) ≤ (m : Int) ∧ (m : Int) ≤ 3 by omega), if_pos rfl, if_pos hm2, w64s p (by omega)]
              simp only [nend, List.length_drop]
              congr 1
              omega
            · rw [decide_eq_false (show ¬ ((2 : Int) ≤ (m : Int) ∧ (m : Int) ≤ 3) by omega), if_neg (by decide), if_neg hm2]
              rfl
          · have e : ((B s).getD p 0 != 41) = true := by simpa using hc
            rw [e, if_pos rfl, if_neg hc, w64 (x := ((d + 1 : Nat) : Int) - 1) (by omega) (by omega), show ((d + 1 : Nat) : Int) - 1 = (d : Int) by omega, ih k p (by omega) (by omega) (by omega), ← drop_getD (B s) p (by omega)]
            simp only [Option.bind_some]
            cases hq : FT.pr d ((B s).drop p) with
            | none => rfl
            | some r =>
              obtain ⟨x, hx, hxe⟩ := FT.pr_sound d _ _ hq
              obtain ⟨c, t, hct, _⟩ := FT.T_head d x hx
              have hlen := congrArg List.length hxe
              rw [List.length_append, hct, List.length_cons, List.length_drop, hB] at hlen
              have e2 : nend s.size (some r) = ((s.size - r.length : Nat) : Int) := by show (s.size : Int) - (r.length : Int) = _; omega
              simp only [e2]
              rw [if_neg (by omega), w64s m (by omega)]
              have hr : r = (B s).drop (s.size - r.length) := by
                have h3 : (B s).drop p = x ++ r := hxe
                have h4 : r = ((B s).drop p).drop x.length := by rw [h3, List.drop_left]
                rw [List.drop_drop] at h4
                have h5 : p + x.length = s.size - r.length := by rw [hct, List.length_cons]; omega
                rw [h5] at h4
                exact h4
              refine (ihn k (s.size - r.length) (m + 1) (by omega) (by omega) (by omega) (by omega)).trans ?_
              rw [← hr]
        · have e : p = s.size := by omega
          rw [if_neg (by omega)]
          simp only [impl_nodeEnd.j1]
          rw [if_neg (by decide), if_pos (by omega), List.drop_of_length_le (by omega)]
          rfl
    obtain ⟨k, rfl⟩ : ∃ q, k = q + 1 := ⟨k - 1, by omega⟩
    simp only [impl_nodeEnd.f]
    rw [if_neg (by omega), if_pos (by omega), if_pos (by omega), Int.toNat_natCast, prefix_f, B_tail]
    simp only [Option.bind_some]
    by_cases hl : at_ < s.size
    · rw [drop_getD (B s) at_ (by omega)]
      simp only [List.head?_cons, FT.pr, Option.some.injEq]
      by_cases hc : (B s).getD at_ 0 = 40
      · have e : decide ((B s).getD at_ 0 = ((40 : UInt8).toNat : Int)) = true := decide_eq_true hc
        rw [e, if_pos rfl, if_pos hc, w64s at_ (by omega)]
        refine (loop (s.size - (at_ + 1)) k (at_ + 1) 0 (by omega) (by omega) (by omega) (by omega)).trans ?_
        rw [List.length_drop, hB]
      · have e : decide ((B s).getD at_ 0 = ((40 : UInt8).toNat : Int)) = false := decide_eq_false hc
        rw [e, if_neg (by decide), if_neg hc]
        rfl
    · rw [List.drop_of_length_le (by omega)]
      rfl
theorem T_iff (d : Nat) (l : List Int) : FT.T d l ↔ FT.pr d l = some [] := by
  constructor
  · intro h
    have := FT.pr_full d l [] h
    rwa [List.append_nil] at this
  · intro h
    obtain ⟨x, hx, he⟩ := FT.pr_sound d l [] h
    rw [he, List.append_nil]
    exact hx
theorem nend_size (n : Nat) (o : Option (List Int)) : nend n o = (n : Int) ↔ o = some [] := by
  cases o with
  | none => unfold nend; constructor <;> intro h <;> first | omega | cases h
  | some r =>
    unfold nend
    constructor
    · intro h
      congr 1
      exact List.eq_nil_of_length_eq_zero (by simp only at h; omega)
    · intro h
      rw [Option.some.inj h]
      simp
/-- A node of a depth, few enough. -/
def isN (s : ByteArray) (d : Int) : Prop := 0 ≤ d ∧ d ≤ 8 ∧ FT.T d.toNat (B s) ∧ FT.xs (B s) ≤ 200
theorem isNode_f (k : Nat) (s : ByteArray) (d : Int) (hs : s.size ≤ 1048576) (hk : 9 * (2 * s.size + 8) ≤ k) : ∃ b, impl_isNode.f k s d = some b ∧ (b = true ↔ isN s d) := by
  unfold impl_isNode.f isN
  rw [in_f]
  simp only [Option.bind_some]
  by_cases hd : 0 ≤ d ∧ d ≤ 8
  · rw [decide_eq_true hd, if_pos rfl]
    obtain ⟨n, rfl⟩ := Int.eq_ofNat_of_zero_le hd.1
    have h := nodeEnd_f s hs n k 0 (by omega) (by omega) (Nat.le_trans (Nat.mul_le_mul_right _ (show n + 1 ≤ 9 by omega)) hk)
    rw [List.drop_zero] at h
    have h' : impl_nodeEnd.f k s 0 (n : Int) = _ := h
    rw [h', leavesOf_f]
    simp only [Option.bind_some, Int.toNat_natCast]
    by_cases ht : nend s.size (FT.pr n (B s)) = (s.size : Int)
    · rw [if_pos ht]
      have hT := (T_iff n (B s)).2 ((nend_size _ _).1 ht)
      refine ⟨_, rfl, ?_⟩
      rw [decide_eq_true_eq]
      exact ⟨fun h => ⟨hd.1, hd.2, hT, by omega⟩, fun h => by have := h.2.2.2; omega⟩
    · rw [if_neg ht]
      refine ⟨false, rfl, ?_⟩
      exact ⟨(fun h => by cases h), fun h => absurd ((nend_size _ _).2 ((T_iff n (B s)).1 h.2.2.1)) ht⟩
  · rw [decide_eq_false hd, if_neg (by decide)]
    exact ⟨false, rfl, ⟨(fun h => by cases h), fun h => absurd ⟨h.1, h.2.1⟩ hd⟩⟩
theorem specLeaves_f (k : Nat) (s : ByteArray) (hs : s.size ≤ 1048576) (hk : s.size < k) : spec_l03Leaves.f k s = some (FT.xs (B s) : Int) := by
  have hB := B_len s
  have key : ∀ (d k i : Nat) (n : Nat), i + d = s.size → d < k → n ≤ i → spec_l03Leaves.l0 k s (n : Int) (i : Int) = some (((n + FT.xs ((B s).drop i) : Nat)) : Int) := by
    intro d
    induction d with
    | zero =>
      intro k i n hi hk hn
      obtain ⟨k, rfl, hk⟩ := pos_k hk
      simp only [spec_l03Leaves.l0]
      rw [if_neg (by omega), List.drop_of_length_le (by omega)]
      rfl
    | succ d ih =>
      intro k i n hi hk hn
      obtain ⟨k, rfl, hk⟩ := pos_k hk
      simp only [spec_l03Leaves.l0]
      rw [if_pos (by omega), if_pos (by omega), bt_B s i (by omega), w64s i (by omega), w64s n (by omega), drop_getD (B s) i (by omega)]
      have e : FT.xs ((B s).getD i 0 :: (B s).drop (i + 1)) = FT.xs ((B s).drop (i + 1)) + if (B s).getD i 0 = 120 then 1 else 0 := by
        unfold FT.xs
        rw [List.count_cons]
        congr 1
        by_cases h : (B s).getD i 0 = 120 <;> simp [h]
      rw [e]
      by_cases h : (B s).getD i 0 = 120
      · rw [if_pos h, if_pos h, ih k (i + 1) (n + 1) (by omega) (by omega) (by omega)]
        congr 2
        omega
      · rw [if_neg h, if_neg h, ih k (i + 1) n (by omega) (by omega) (by omega)]
        rfl
  have := key s.size k 0 0 (by omega) hk (by omega)
  simpa [spec_l03Leaves.f] using this
/-- What the reference's scan leaves. -/
def kmap (out : List ByteArray) : Option (List (List Int)) → List (List Int)
  | some ks => out.map B ++ ks
  | none => []
theorem sc_cons (c : Int) (l : List Int) (o : Nat) (cur : List Int) : FT.sc (c :: l) o cur =
    if c = 40 then FT.sc l (o + 1) (cur ++ [c])
    else if c = 41 then (if o = 0 then none else if o = 1 then (FT.sc l 0 []).map ((cur ++ [c]) :: ·) else FT.sc l (o - 1) (cur ++ [c]))
    else if c = 120 then (if o = 0 then (FT.sc l 0 []).map ((cur ++ [c]) :: ·) else FT.sc l o (cur ++ [c]))
    else none := rfl
theorem scan_f (s : ByteArray) (hs : s.size ≤ 1048576) : ∀ (d k i o f : Nat) (out : List ByteArray), i + 1 + d = s.size → 1 ≤ i → 2 * d + 2 ≤ k → o ≤ i → f ≤ i → (o = 0 → f = i) → out.length ≤ i →
    ∃ res, spec_l03Kids.l0 k s out (o : Int) (f : Int) (i : Int) = some res ∧ res.map B = kmap out (FT.sc (((B s).drop i).take d) o (((B s).drop f).take (i - f))) := by
  have hB := B_len s
  intro d
  induction d with
  | zero =>
    intro k i o f out hi h1 hk ho hf hof hol
    obtain ⟨k, rfl⟩ : ∃ q, k = q + 1 := ⟨k - 1, by omega⟩
    simp only [spec_l03Kids.l0]
    rw [w64 (x := (s.size : Int) - 1) (by omega) (by omega), if_neg (by omega), List.take_zero]
    by_cases h : o = 0
    · rw [if_pos (by omega)]
      exact ⟨out, rfl, by simp [FT.sc, h, kmap]⟩
    · rw [if_neg (by omega)]
      exact ⟨[], rfl, by simp [FT.sc, h, kmap]⟩
  | succ d ih =>
    intro k i o f out hi h1 hk ho hf hof hol
    obtain ⟨k, rfl⟩ : ∃ q, k = q + 2 := ⟨k - 2, by omega⟩
    have hlt : i < s.size := by omega
    have hrem : ((B s).drop i).take (d + 1) = (B s).getD i 0 :: ((B s).drop (i + 1)).take d := by rw [drop_getD (B s) i (by omega), List.take_succ_cons]
    have hcur : ((B s).drop f).take (i + 1 - f) = ((B s).drop f).take (i - f) ++ [(B s).getD i 0] := by
      rw [show i + 1 - f = (i - f) + 1 by omega, List.take_add_one, List.getElem?_drop, show f + (i - f) = i by omega, List.getElem?_eq_getElem (by omega), List.getD_eq_getElem?_getD, List.getElem?_eq_getElem (by omega)]
      rfl
    simp only [spec_l03Kids.l0]
    rw [w64 (x := (s.size : Int) - 1) (by omega) (by omega), if_pos (by omega), if_pos (by omega), if_pos (by omega), bt_B s i hlt, hrem, sc_cons]
    have push : ∀ (hof2 : f ≤ i), ∃ res, spec_l03Kids.l0 k s (out ++ [s.extract f (i + 1)]) 0 ((i + 1 : Nat) : Int) ((i + 1 : Nat) : Int) = some res ∧ res.map B = kmap out ((FT.sc (((B s).drop (i + 1)).take d) 0 []).map ((((B s).drop f).take (i - f) ++ [(B s).getD i 0]) :: ·)) := by
      intro _
      obtain ⟨res, e1, e2⟩ := ih k (i + 1) 0 (i + 1) (out ++ [s.extract f (i + 1)]) (by omega) (by omega) (by omega) (by omega) (by omega) (fun _ => rfl) (by rw [List.length_append, List.length_singleton]; omega)
      refine ⟨res, e1, ?_⟩
      rw [e2, Nat.sub_self, List.take_zero]
      cases FT.sc (((B s).drop (i + 1)).take d) 0 [] with
      | none => rfl
      | some ks =>
        simp only [kmap, Option.map_some, List.map_append, List.map_cons, List.map_nil, List.append_assoc, List.singleton_append]
        rw [B_extract s f (i + 1) (by omega), hcur]
    by_cases c1 : (B s).getD i 0 = 40
    · rw [if_pos c1, if_pos c1, w64s o (by omega)]
      simp only [spec_l03Kids.j2]
      rw [if_neg (by omega), if_neg (by omega), w64s i (by omega)]
      obtain ⟨res, e1, e2⟩ := ih k (i + 1) (o + 1) f out (by omega) (by omega) (by omega) (by omega) (by omega) (fun h => by omega) (by omega)
      exact ⟨res, e1, by rw [e2, hcur]⟩
    · rw [if_neg c1, if_neg c1]
      by_cases c2 : (B s).getD i 0 = 41
      · rw [if_pos c2, if_pos c2, w64 (x := (o : Int) - 1) (by omega) (by omega)]
        simp only [spec_l03Kids.j2]
        by_cases h0 : o = 0
        · rw [if_pos (by omega), if_pos h0]
          exact ⟨[], rfl, rfl⟩
        · rw [if_neg (by omega), if_neg h0, w64s i (by omega)]
          by_cases h2 : o = 1
          · rw [if_pos (by omega), if_pos (by omega), if_pos (by omega), if_pos (by omega), if_pos (by omega), if_pos h2]
            have e3 : (o : Int) - 1 = 0 := by omega
            rw [e3, Int.toNat_natCast, Int.toNat_natCast]
            exact push hf
          · rw [if_neg (by omega), if_neg h2]
            obtain ⟨res, e1, e2⟩ := ih k (i + 1) (o - 1) f out (by omega) (by omega) (by omega) (by omega) (by omega) (fun h => by omega) (by omega)
            have e3 : (o : Int) - 1 = ((o - 1 : Nat) : Int) := by omega
            rw [e3]
            exact ⟨res, e1, by rw [e2, hcur]⟩
      · rw [if_neg c2, if_neg c2]
        by_cases c3 : (B s).getD i 0 = 120
        · rw [if_pos c3, if_pos c3]
          simp only [spec_l03Kids.j2]
          rw [if_neg (by omega), w64s i (by omega)]
          by_cases h0 : o = 0
          · rw [if_pos (by omega), if_pos (by omega), if_pos (by omega), if_pos (by omega), if_pos (by omega), if_pos h0, Int.toNat_natCast, Int.toNat_natCast]
            have e3 : (o : Int) = 0 := by omega
            rw [e3]
            exact push hf
          · rw [if_neg (by omega), if_neg h0]
            obtain ⟨res, e1, e2⟩ := ih k (i + 1) o f out (by omega) (by omega) (by omega) (by omega) (by omega) (fun h => by omega) (by omega)
            exact ⟨res, e1, by rw [e2, hcur]⟩
        · rw [if_neg c3, if_neg c3]
          exact ⟨[], rfl, rfl⟩
theorem specKids_f (k : Nat) (s : ByteArray) (hs : s.size ≤ 1048576) (hk : 2 * s.size + 4 ≤ k) : ∃ res, spec_l03Kids.f k s = some res ∧ res.map B = FT.kids (B s) := by
  have hB := B_len s
  obtain ⟨k, rfl⟩ : ∃ q, k = q + 1 := ⟨k - 1, by omega⟩
  unfold spec_l03Kids.f FT.kids
  by_cases h1 : (s.size : Int) < 2
  · rw [if_pos h1, if_neg (by omega)]
    simp only [spec_l03Kids.j0]
    exact ⟨[], rfl, rfl⟩
  · have e0 : bt s 0 = (B s).getD 0 0 := bt_B s 0 (by omega)
    rw [if_neg h1, if_pos (by omega), e0]
    by_cases h2 : (B s).getD 0 0 = 40
    · rw [if_pos h2, w64 (x := (s.size : Int) - 1) (by omega) (by omega), if_pos (by omega), if_pos (by omega)]
      have e1 : (s.size : Int) - 1 = ((s.size - 1 : Nat) : Int) := by omega
      rw [e1, bt_B s (s.size - 1) (by omega), hB]
      simp only [spec_l03Kids.j0]
      by_cases h3 : (B s).getD (s.size - 1) 0 = 41
      · have e2 : ((B s).getD (s.size - 1) 0 != 41) = false := by rw [h3]; rfl
        rw [e2, if_neg (by decide), if_pos ⟨by omega, h2, h3⟩]
        obtain ⟨res, e3, e4⟩ := scan_f s hs (s.size - 2) k 1 0 1 [] (by omega) (by omega) (by omega) (by omega) (by omega) (fun _ => rfl) (by simp)
        refine ⟨res, e3, ?_⟩
        rw [e4, Nat.sub_self, List.take_zero]
        cases FT.sc (((B s).drop 1).take (s.size - 2)) 0 [] with
        | none => rfl
        | some ks => rfl
      · have e2 : ((B s).getD (s.size - 1) 0 != 41) = true := by simpa using h3
        rw [e2, if_pos rfl, if_neg (fun h => h3 h.2.2)]
        exact ⟨[], rfl, rfl⟩
    · rw [if_neg h2, if_neg (fun h => h2 h.2.1)]
      simp only [spec_l03Kids.j0]
      exact ⟨[], rfl, rfl⟩
theorem mem_flat_len : ∀ (ks : List (List Int)) (x : List Int), x ∈ ks → x.length ≤ ks.flatten.length := by
  intro ks
  induction ks with
  | nil => intro x hx; cases hx
  | cons a ks ih =>
    intro x hx
    rw [List.flatten_cons, List.length_append]
    rcases List.mem_cons.1 hx with rfl | h
    · omega
    · have := ih x h
      omega
theorem kids_len (l x : List Int) (h : x ∈ FT.kids l) : x.length ≤ l.length := by
  unfold FT.kids at h
  split at h
  · cases hs : FT.sc ((l.drop 1).take (l.length - 2)) 0 [] with
    | none => rw [hs] at h; cases h
    | some ks =>
      rw [hs] at h
      have h2 := mem_flat_len ks x h
      rw [FT.sc_flat _ _ _ _ (fun _ => rfl) hs, List.nil_append, List.length_take, List.length_drop] at h2
      omega
  · cases h
theorem rd_mem (ks : List ByteArray) (i : Nat) (h : i < ks.length) : rdOf ByteArray.empty ks (i : Int) = ks[i] := by
  unfold rdOf
  rw [Int.toNat_natCast, List.getD_eq_getElem?_getD, List.getElem?_eq_getElem h, Option.getD_some]
theorem specShape_f (N : Nat) (hN : N ≤ 1048576) : ∀ (d k : Nat) (s : ByteArray), d ≤ 10 → s.size ≤ N → (d + 1) * (2 * N + 24) ≤ k → ∃ b, spec_l03Shape.f k s (d : Int) = some b ∧ (b = true ↔ FT.T d (B s)) := by
  intro d
  induction d with
  | zero =>
    intro k s _ hs hk
    obtain ⟨k, rfl⟩ : ∃ q, k = q + 1 := ⟨k - 1, by omega⟩
    simp only [spec_l03Shape.f]
    rw [if_pos (by rfl)]
    refine ⟨_, rfl, ?_⟩
    rw [beq_iff_eq, ByteArray.toList_eq]
    unfold FT.T B
    constructor
    · intro h; rw [h]; rfl
    · intro h
      have h2 : s.data.toList.map (fun b : UInt8 => (b.toNat : Int)) = ([120] : List UInt8).map (fun b : UInt8 => (b.toNat : Int)) := h
      exact List.map_inj_right (f := fun b : UInt8 => (b.toNat : Int)) (fun a b e => UInt8.toNat_inj.1 (by exact_mod_cast e)) |>.1 h2
  | succ d ih =>
    intro k s hd hs hk
    rw [Nat.succ_mul] at hk
    generalize hF : (d + 1) * (2 * N + 24) = F at ih hk
    obtain ⟨k, rfl⟩ : ∃ q, k = q + 1 := ⟨k - 1, by omega⟩
    simp only [spec_l03Shape.f]
    rw [if_neg (by omega)]
    obtain ⟨ks, e1, e2⟩ := specKids_f k s (by omega) (by omega)
    rw [e1]
    simp only [Option.bind_some]
    rw [if_neg (by omega), if_neg (by omega)]
    have hlen : ks.length = (FT.kids (B s)).length := by rw [← e2, List.length_map]
    have hT := FT.T_kids d (B s)
    obtain ⟨k, rfl⟩ : ∃ q, k = q + 1 := ⟨k - 1, by omega⟩
    by_cases h1 : (ks.length : Int) < 2
    · rw [if_pos h1]
      simp only [spec_l03Shape.j0]
      refine ⟨false, rfl, ?_⟩
      rw [hT]
      exact ⟨(fun h => by cases h), fun h => by have := h.1; omega⟩
    · rw [if_neg h1]
      simp only [spec_l03Shape.j0]
      by_cases h3 : (ks.length : Int) > 3
      · rw [decide_eq_true h3, if_pos rfl]
        refine ⟨false, rfl, ?_⟩
        rw [hT]
        exact ⟨(fun h => by cases h), fun h => by have := h.2.1; omega⟩
      · rw [decide_eq_false h3, if_neg (by decide)]
        have hsz : ∀ j (hj : j < ks.length), ks[j].size ≤ N := by
          intro j hj
          have hm : B ks[j] ∈ FT.kids (B s) := by rw [← e2]; exact List.mem_map_of_mem (List.getElem_mem hj)
          have := kids_len _ _ hm
          rw [B_len, B_len] at this
          omega
        have loop : ∀ (n k i : Nat), i + n = ks.length → n + 1 + F ≤ k → ∃ b, spec_l03Shape.l0 k ((d + 1 : Nat) : Int) ks (i : Int) = some b ∧ (b = true ↔ ∀ j (hj : j < ks.length), i ≤ j → FT.T d (B ks[j])) := by
          intro n
          induction n with
          | zero =>
            intro k i hi hk
            obtain ⟨k, rfl⟩ : ∃ q, k = q + 1 := ⟨k - 1, by omega⟩
            simp only [spec_l03Shape.l0]
            rw [if_neg (by omega)]
            exact ⟨true, rfl, ⟨fun _ j hj h => by omega, fun _ => rfl⟩⟩
          | succ n ihn =>
            intro k i hi hk
            obtain ⟨k, rfl⟩ : ∃ q, k = q + 1 := ⟨k - 1, by omega⟩
            have hlt : i < ks.length := by omega
            simp only [spec_l03Shape.l0]
            obtain ⟨b, g1, g2⟩ := ih k ks[i] (by omega) (hsz i hlt) (by omega)
            rw [if_pos (by omega), if_pos (by omega), rd_mem ks i hlt, w64 (x := ((d + 1 : Nat) : Int) - 1) (by omega) (by omega), show ((d + 1 : Nat) : Int) - 1 = (d : Int) by omega, g1, w64s i (by omega)]
            simp only [Option.bind_some]
            cases b with
            | false =>
              rw [if_neg (by decide)]
              refine ⟨false, rfl, ⟨(fun h => by cases h), fun h => ?_⟩⟩
              exact g2.2 (h i hlt (Nat.le_refl _))
            | true =>
              rw [if_pos rfl]
              obtain ⟨b2, g3, g4⟩ := ihn k (i + 1) (by omega) (by omega)
              refine ⟨b2, g3, ?_⟩
              rw [g4]
              constructor
              · intro h j hj hij
                by_cases e : j = i
                · subst e; exact g2.1 rfl
                · exact h j hj (by omega)
              · intro h j hj hij
                exact h j hj (by omega)
        obtain ⟨b, g1, g2⟩ := loop ks.length k 0 (by omega) (by omega)
        refine ⟨b, g1, ?_⟩
        rw [g2, hT, ← hlen]
        constructor
        · intro h
          refine ⟨by omega, by omega, fun x hx => ?_⟩
          rw [← e2] at hx
          obtain ⟨y, hy, rfl⟩ := List.mem_map.1 hx
          obtain ⟨j, hj, rfl⟩ := List.mem_iff_getElem.1 hy
          exact h j hj (by omega)
        · rintro ⟨_, _, h⟩ j hj _
          exact h _ (by rw [← e2]; exact List.mem_map_of_mem (List.getElem_mem hj))
theorem specShapeOut_f (k : Nat) (s : ByteArray) (d : Int) (hd : ¬ (0 ≤ d ∧ d ≤ 10)) (hs : s.size ≤ 1048576) (hk : 2 * s.size + 8 ≤ k) : spec_l03Shape.f k s d = some false := by
  obtain ⟨k, rfl⟩ : ∃ q, k = q + 2 := ⟨k - 2, by omega⟩
  simp only [spec_l03Shape.f]
  obtain ⟨ks, e1, _⟩ := specKids_f (k + 1) s hs (by omega)
  rw [if_neg (by omega), e1]
  simp only [Option.bind_some, spec_l03Shape.j0, if_true]
  by_cases h : d < 0
  · rw [if_pos h]
  · rw [if_neg h, if_pos (by omega)]
theorem specShapeOk_f (k : Nat) (s : ByteArray) (d : Int) (hk : 11 * (2 * 1000 + 24) + s.size + 10 ≤ k) (hs : s.size ≤ 1048576) : ∃ b, spec_ShapeOk.f k s d = some b ∧ (b = true ↔ isN s d) := by
  unfold spec_ShapeOk.f
  have hB := B_len s
  by_cases h1 : (s.size : Int) ≤ 1000
  · rw [if_pos h1, specLeaves_f k s hs (by omega)]
    simp only [Option.bind_some]
    by_cases h2 : (FT.xs (B s) : Int) ≤ 200
    · rw [if_pos h2]
      by_cases hd : 0 ≤ d ∧ d ≤ 10
      · obtain ⟨n, rfl⟩ := Int.eq_ofNat_of_zero_le hd.1
        obtain ⟨b, g1, g2⟩ := specShape_f 1000 (by omega) n k s (by omega) (by omega) (Nat.le_trans (Nat.mul_le_mul_right _ (show n + 1 ≤ 11 by omega)) (by omega))
        have g1' : spec_l03Shape.f k s (n : Int) = some b := g1
        rw [g1']
        simp only [Option.bind_some]
        refine ⟨b, rfl, ?_⟩
        rw [g2]
        unfold isN
        rw [Int.toNat_natCast]
        constructor
        · intro h
          have hp := FT.T_pow n _ h
          have : n ≤ 8 := by
            apply Classical.byContradiction
            intro hn
            have h9 : 2 ^ 9 ≤ 2 ^ n := Nat.pow_le_pow_right (by omega) (by omega)
            have h10 : (2 : Nat) ^ 9 = 512 := rfl
            omega
          exact ⟨by omega, by omega, h, by omega⟩
        · exact fun h => h.2.2.1
      · rw [specShapeOut_f k s d hd hs (by omega)]
        simp only [Option.bind_some]
        refine ⟨false, rfl, ⟨(fun h => by cases h), fun h => ?_⟩⟩
        unfold isN at h
        exact absurd ⟨h.1, by omega⟩ hd
    · rw [if_neg h2]
      refine ⟨false, rfl, ⟨(fun h => by cases h), fun h => ?_⟩⟩
      unfold isN at h
      omega
  · rw [if_neg h1]
    refine ⟨false, rfl, ⟨(fun h => by cases h), fun h => ?_⟩⟩
    unfold isN at h
    have := FT.T_len _ _ h.2.2.1
    omega
/-- The bulk of strings. -/
def sumS (l : List ByteArray) : Nat := (l.map ByteArray.size).sum
def lenS (l : List ByteArray) : Nat := l.length + sumS l
theorem sumS_cons (c : ByteArray) (l : List ByteArray) : sumS (c :: l) = c.size + sumS l := by simp [sumS]
theorem dropS (l : List ByteArray) (i : Nat) (h : i < l.length) : l.drop i = rdOf ByteArray.empty l (i : Int) :: l.drop (i + 1) := by
  rw [List.drop_eq_getElem_cons h, rd_mem l i h]
theorem rdS_mem (l : List ByteArray) (i : Nat) (h : i < l.length) : rdOf ByteArray.empty l (i : Int) ∈ l := List.mem_of_mem_drop (i := i) (by rw [dropS l i h]; exact List.mem_cons_self)
theorem sumS_mem {l : List ByteArray} {c : ByteArray} (h : c ∈ l) : c.size ≤ sumS l := by
  induction l with
  | nil => cases h
  | cons d l ih =>
    rw [sumS_cons]
    rcases List.mem_cons.1 h with rfl | h
    · omega
    · have := ih h; omega
theorem szStringS_l0 (l : List ByteArray) (hw : ∀ c ∈ l, c.size ≤ 9223372036854775807) (hl : l.length ≤ 1048576) : ∀ (d i k : Nat) (x : Int), i + d = l.length → d < k → 0 ≤ x → x ≤ 1048576 →
    laws_szStringS.l0 k l x (i : Int) = some (if (sumS (l.drop i) : Int) ≤ x then x - (sumS (l.drop i) : Int) else -1) := by
  intro d
  induction d with
  | zero =>
    intro i k x hi hk h0 h1
    obtain ⟨k, rfl⟩ : ∃ m, k = m + 1 := ⟨k - 1, by omega⟩
    simp only [laws_szStringS.l0]
    rw [if_neg (by omega), List.drop_of_length_le (by omega), show sumS [] = 0 from rfl, if_pos (by omega)]
    congr 1
    omega
  | succ d ih =>
    intro i k x hi hk h0 h1
    obtain ⟨k, rfl⟩ : ∃ m, k = m + 1 := ⟨k - 1, by omega⟩
    simp only [laws_szStringS.l0]
    have hd := dropS l i (by omega)
    have hm := hw _ (rdS_mem l i (by omega))
    rw [if_pos (by omega), if_pos (by omega), hd, sumS_cons, w64 (x := x - ((rdOf ByteArray.empty l (i : Int)).size : Int)) (by omega) (by omega)]
    by_cases h : ((rdOf ByteArray.empty l (i : Int)).size : Int) ≤ x
    · rw [if_neg (by omega), w64s i (by omega), ih (i + 1) k _ (by omega) (by omega) (by omega) (by omega)]
      by_cases h2 : (sumS (l.drop (i + 1)) : Int) ≤ x - ((rdOf ByteArray.empty l (i : Int)).size : Int)
      · rw [if_pos h2, if_pos (by omega)]
        congr 1
        omega
      · rw [if_neg h2, if_neg (by omega)]
    · rw [if_pos (by omega), if_neg (by omega)]
theorem szStringS_f (l : List ByteArray) (k : Nat) (x : Int) (h0 : 0 ≤ x) (h1 : x ≤ 1048576) (hm : l.length ≤ 9223372036854775807) (hw : ∀ c ∈ l, c.size ≤ 9223372036854775807) (hk : 1048577 < k) :
    laws_szStringS.f k l x = some (if (lenS l : Int) ≤ x then x - (lenS l : Int) else -1) := by
  unfold laws_szStringS.f lenS
  rw [w64 (x := x - (l.length : Int)) (by omega) (by omega)]
  by_cases h : (l.length : Int) ≤ x
  · rw [if_neg (by omega)]
    refine (szStringS_l0 l hw (by omega) l.length 0 k _ (by omega) (by omega) (by omega) (by omega)).trans ?_
    rw [List.drop_zero]
    by_cases h2 : ((l.length + sumS l : Nat) : Int) ≤ x
    · rw [if_pos h2, if_pos (by omega)]
      congr 1
      omega
    · rw [if_neg h2, if_neg (by omega)]
  · rw [if_pos (by omega), if_neg (by omega)]
/-- The bulk of levels. -/
def sumF (l : List S56) : Nat := (l.map fun c => lenS c.f0 + lenS c.f1).sum
theorem sumF_cons (c : S56) (l : List S56) : sumF (c :: l) = lenS c.f0 + lenS c.f1 + sumF l := by simp [sumF]
theorem dropF (l : List S56) (i : Nat) (h : i < l.length) : l.drop i = rd_T56 l (i : Int) :: l.drop (i + 1) := by
  rw [List.drop_eq_getElem_cons h]
  unfold rd_T56
  rw [Int.toNat_natCast, List.getD_eq_getElem?_getD, List.getElem?_eq_getElem h]
  rfl
theorem rdF_mem (l : List S56) (i : Nat) (h : i < l.length) : rd_T56 l (i : Int) ∈ l := List.mem_of_mem_drop (i := i) (by rw [dropF l i h]; exact List.mem_cons_self)
theorem sumF_mem {l : List S56} {c : S56} (h : c ∈ l) : lenS c.f0 + lenS c.f1 ≤ sumF l := by
  induction l with
  | nil => cases h
  | cons d l ih =>
    rw [sumF_cons]
    rcases List.mem_cons.1 h with rfl | h
    · omega
    · have := ih h; omega
/-- What the arguments' form says of a level. -/
def okF (c : S56) : Prop := (c.f0.length ≤ 9223372036854775807 ∧ ∀ y ∈ c.f0, y.size ≤ 9223372036854775807) ∧ (c.f1.length ≤ 9223372036854775807 ∧ ∀ y ∈ c.f1, y.size ≤ 9223372036854775807)
theorem szLevel_f (c : S56) (k : Nat) (x : Int) (h0 : 0 ≤ x) (h1 : x ≤ 1048576) (hw : okF c) (hk : 1048577 < k) :
    laws_szLevel.f k c.f0 c.f1 x = some (if (lenS c.f0 + lenS c.f1 : Int) ≤ x then x - (lenS c.f0 + lenS c.f1 : Int) else -1) := by
  unfold laws_szLevel.f
  rw [szStringS_f c.f0 k x h0 h1 hw.1.1 hw.1.2 hk]
  simp only [Option.bind_some]
  by_cases h : (lenS c.f0 : Int) ≤ x
  · rw [if_pos h, if_neg (by omega), szStringS_f c.f1 k _ (by omega) (by omega) hw.2.1 hw.2.2 hk]
    simp only [Option.bind_some]
    by_cases h2 : (lenS c.f1 : Int) ≤ x - (lenS c.f0 : Int)
    · rw [if_pos h2, if_neg (by omega), if_pos (by omega)]
      congr 1
      omega
    · rw [if_neg h2, if_pos (by omega), if_neg (by omega)]
  · rw [if_neg h, if_pos (by omega), if_neg (by omega)]
theorem szLevelS_l0 (l : List S56) (hw : ∀ c ∈ l, okF c) (hl : l.length ≤ 1048576) : ∀ (d i k : Nat) (x : Int), i + d = l.length → d + 1048577 < k → 0 ≤ x → x ≤ 1048576 →
    laws_szLevelS.l0 k l x (i : Int) = some (if (sumF (l.drop i) : Int) ≤ x then x - (sumF (l.drop i) : Int) else -1) := by
  intro d
  induction d with
  | zero =>
    intro i k x hi hk h0 h1
    obtain ⟨k, rfl⟩ : ∃ m, k = m + 1 := ⟨k - 1, by omega⟩
    simp only [laws_szLevelS.l0]
    rw [if_neg (by omega), List.drop_of_length_le (by omega), show sumF [] = 0 from rfl, if_pos (by omega)]
    congr 1
    omega
  | succ d ih =>
    intro i k x hi hk h0 h1
    obtain ⟨k, rfl⟩ : ∃ m, k = m + 1 := ⟨k - 1, by omega⟩
    simp only [laws_szLevelS.l0]
    have hd := dropF l i (by omega)
    have hm := hw _ (rdF_mem l i (by omega))
    rw [if_pos (by omega), if_pos (by omega), szLevel_f _ k x h0 h1 hm (by omega), hd, sumF_cons]
    simp only [Option.bind_some]
    generalize rd_T56 l (i : Int) = c
    by_cases h : (lenS c.f0 + lenS c.f1 : Int) ≤ x
    · rw [if_pos h, if_neg (by omega), w64s i (by omega), ih (i + 1) k _ (by omega) (by omega) (by omega) (by omega)]
      by_cases h2 : (sumF (l.drop (i + 1)) : Int) ≤ x - (lenS c.f0 + lenS c.f1 : Int)
      · rw [if_pos h2, if_pos (by omega)]
        congr 1
        omega
      · rw [if_neg h2, if_neg (by omega)]
    · rw [if_neg h, if_pos (by omega), if_neg (by omega)]
theorem szFing_f (l : List S56) (k : Nat) (x : Int) (h0 : 0 ≤ x) (h1 : x ≤ 1048576) (hm : l.length ≤ 9223372036854775807) (hw : ∀ c ∈ l, okF c) (hk : 2097154 < k) :
    laws_szFing.f k l x = some (if (l.length + sumF l : Int) ≤ x then x - (l.length + sumF l : Int) else -1) := by
  have e : laws_szLevelS.f k l x = some (if (l.length + sumF l : Int) ≤ x then x - (l.length + sumF l : Int) else -1) := by
    unfold laws_szLevelS.f
    rw [w64 (x := x - (l.length : Int)) (by omega) (by omega)]
    by_cases h : (l.length : Int) ≤ x
    · rw [if_neg (by omega)]
      refine (szLevelS_l0 l hw (by omega) l.length 0 k _ (by omega) (by omega) (by omega) (by omega)).trans ?_
      rw [List.drop_zero]
      by_cases h2 : (l.length + sumF l : Int) ≤ x
      · rw [if_pos h2, if_pos (by omega)]
        congr 1
        omega
      · rw [if_neg h2, if_neg (by omega)]
    · rw [if_pos (by omega), if_neg (by omega)]
  unfold laws_szFing.f
  rw [e]
  simp only [Option.bind_some]
  by_cases h : (l.length + sumF l : Int) ≤ x
  · rw [if_pos h, if_neg (by omega)]
  · rw [if_neg h, if_pos (by omega)]
theorem toStringS_f (k : Nat) (l : List ByteArray) (hk : l.length < k) (hl : l.length ≤ 1048576) : laws_toStringS.f k l = some l := by
  have h := map_loop (L := fun k out i => laws_toStringS.l0 k l out i) l id ByteArray.empty 0 (fun k out i _ hi ho => by
      simp only [laws_toStringS.l0]
      rw [if_pos (by omega), if_pos (by omega), if_pos (by omega), w64s i (by omega), Int.toNat_natCast]
      unfold rdOf
      rw [Int.toNat_natCast]
      rfl) (fun k out ho => by
      simp only [laws_toStringS.l0]
      rw [if_neg (by omega)]) k (List.replicate ((l.length : Int)).toNat (⟨#[]⟩ : ByteArray)) (by omega) (by simp)
  unfold laws_toStringS.f
  rw [if_pos (by omega), if_pos (by omega)]
  simpa using h
/-- The same levels as the program holds them. -/
def toF (l : List S56) : List S43 := l.map fun c => ⟨c.f0, c.f1⟩
theorem toF_length (l : List S56) : (toF l).length = l.length := by simp [toF]
theorem toFing_f (k : Nat) (l : List S56) (hl : l.length + sumF l ≤ 1048576) (hk : 2097154 < k) : laws_toFing.f k l = some (toF l) := by
  have h := map_loop (L := fun k out i => laws_toLevelS.l0 k l out i) l (fun c => (⟨c.f0, c.f1⟩ : S43)) z56 1048577 (fun k out i hk hi ho => by
      simp only [laws_toLevelS.l0]
      have hmem := rdF_mem l i hi
      have := sumF_mem hmem
      unfold lenS at this
      have e : laws_toLevel.f k (rd_T56 l (i : Int)).f0 (rd_T56 l (i : Int)).f1 = some ((rd_T56 l (i : Int)).f0, (rd_T56 l (i : Int)).f1) := by
        unfold laws_toLevel.f
        rw [toStringS_f k _ (by omega) (by omega), toStringS_f k _ (by omega) (by omega)]
        rfl
      rw [if_pos (by omega), if_pos (by omega), e]
      simp only [Option.bind_some]
      rw [if_pos (by omega), w64s i (by omega), Int.toNat_natCast]
      rfl) (fun k out ho => by
      simp only [laws_toLevelS.l0]
      rw [if_neg (by omega)]) k (List.replicate ((l.length : Int)).toNat z43) (by omega) (by simp)
  unfold laws_toFing.f laws_toLevelS.f
  rw [if_pos (by omega), if_pos (by omega), h]
  rfl
theorem eqStringS_self (k : Nat) (l : List ByteArray) (hk : l.length < k) (hl : l.length ≤ 1048576) : laws_eqStringS.f k l l = some true := by
  have key : ∀ (d i k : Nat), i + d = l.length → d < k → laws_eqStringS.l0 k l l (i : Int) = some true := by
    intro d
    induction d with
    | zero =>
      intro i k hi hk
      obtain ⟨k, rfl⟩ : ∃ m, k = m + 1 := ⟨k - 1, by omega⟩
      simp only [laws_eqStringS.l0]
      rw [if_neg (by omega)]
    | succ d ih =>
      intro i k hi hk
      obtain ⟨k, rfl⟩ : ∃ m, k = m + 1 := ⟨k - 1, by omega⟩
      simp only [laws_eqStringS.l0]
      rw [if_pos (by omega), if_pos (by omega), if_pos (by omega), if_pos trivial, w64s i (by omega)]
      exact ih (i + 1) k (by omega) (by omega)
  unfold laws_eqStringS.f
  rw [if_pos rfl]
  exact key l.length 0 k (by omega) (by omega)
theorem dropI (l : List S43) (i : Nat) (h : i < l.length) : l.drop i = rd_T43 l (i : Int) :: l.drop (i + 1) := by
  rw [List.drop_eq_getElem_cons h]
  unfold rd_T43
  rw [Int.toNat_natCast, List.getD_eq_getElem?_getD, List.getElem?_eq_getElem h]
  rfl
theorem rdI_mem (l : List S43) (i : Nat) (h : i < l.length) : rd_T43 l (i : Int) ∈ l := List.mem_of_mem_drop (i := i) (by rw [dropI l i h]; exact List.mem_cons_self)
theorem eqFing_self (k : Nat) (l : List S43) (hl : l.length ≤ 1048576) (hw : ∀ c ∈ l, c.f0.length ≤ 1048576 ∧ c.f1.length ≤ 1048576) (hk : 2097154 < k) : laws_eqFing.f k l l = some true := by
  have key : ∀ (d i k : Nat), i + d = l.length → d + 1048577 < k → laws_eqLevelS.l0 k l l (i : Int) = some true := by
    intro d
    induction d with
    | zero =>
      intro i k hi hk
      obtain ⟨k, rfl⟩ : ∃ m, k = m + 1 := ⟨k - 1, by omega⟩
      simp only [laws_eqLevelS.l0]
      rw [if_neg (by omega)]
    | succ d ih =>
      intro i k hi hk
      obtain ⟨k, rfl⟩ : ∃ m, k = m + 1 := ⟨k - 1, by omega⟩
      simp only [laws_eqLevelS.l0]
      have h := hw _ (rdI_mem l i (by omega))
      have e : laws_eqLevel.f k (rd_T43 l (i : Int)).f0 (rd_T43 l (i : Int)).f1 (rd_T43 l (i : Int)).f0 (rd_T43 l (i : Int)).f1 = some true := by
        unfold laws_eqLevel.f
        rw [eqStringS_self k _ (by omega) (by omega), eqStringS_self k _ (by omega) (by omega)]
        rfl
      rw [if_pos (by omega), if_pos (by omega), if_pos (by omega), e]
      simp only [Option.bind_some, if_true]
      rw [w64s i (by omega)]
      exact ih (i + 1) k (by omega) (by omega)
  unfold laws_eqFing.f laws_eqLevelS.f
  rw [if_pos rfl, show laws_eqLevelS.l0 k l l 0 = some true from key l.length 0 k (by omega) (by omega)]
  rfl
/-- The levels from one on are as they should be. -/
def GLs (n : Nat) : List S43 → Nat → Prop
  | [], _ => True
  | x :: t, d => (IF.bad n x d = false ∧ ∀ s ∈ x.f0 ++ x.f1, isN s (d : Int)) ∧ GLs n t (d + 1)
theorem ns_f (k : Nat) (d : Int) (hk : 18874500 ≤ k) : ∀ ss : List ByteArray, (∀ s ∈ ss, s.size ≤ 1048576) → ∃ b, IF.ns k d ss = some b ∧ (b = true ↔ ∀ s ∈ ss, isN s d) := by
  intro ss
  induction ss with
  | nil => intro _; exact ⟨true, rfl, by simp⟩
  | cons s t ih =>
    intro h
    have hs := h s List.mem_cons_self
    obtain ⟨b, e, hb⟩ := isNode_f k s d hs (by omega)
    obtain ⟨c, e2, hc⟩ := ih (fun x hx => h x (List.mem_cons_of_mem _ hx))
    unfold IF.ns
    rw [e, Option.bind_some]
    cases b with
    | true =>
      rw [if_pos rfl]
      refine ⟨c, e2, hc.trans ?_⟩
      rw [List.forall_mem_cons]
      exact ⟨fun x => ⟨hb.1 rfl, x⟩, fun x => x.2⟩
    | false =>
      rw [if_neg (by decide)]
      refine ⟨false, rfl, ⟨fun e => (by cases e), fun x => ?_⟩⟩
      exact hb.2 (x s List.mem_cons_self)
theorem lv_f (k n : Nat) (hk : 18874500 ≤ k) : ∀ (l : List S43) (d : Nat), (∀ x ∈ l, ∀ s ∈ x.f0 ++ x.f1, s.size ≤ 1048576) → ∃ b, IF.lv k n l d = some b ∧ (b = true ↔ GLs n l d) := by
  intro l
  induction l with
  | nil => intro d _; exact ⟨true, rfl, by simp [GLs]⟩
  | cons x t ih =>
    intro d h
    obtain ⟨b, e, hb⟩ := ns_f k (d : Int) hk (x.f0 ++ x.f1) (h x List.mem_cons_self)
    obtain ⟨c, e2, hc⟩ := ih (d + 1) (fun y hy => h y (List.mem_cons_of_mem _ hy))
    unfold IF.lv GLs
    cases hbad : IF.bad n x d with
    | true =>
      rw [if_pos rfl]
      exact ⟨false, rfl, ⟨fun e => (by cases e), fun y => (by cases y.1.1)⟩⟩
    | false =>
      rw [if_neg (by decide), e, Option.bind_some]
      cases b with
      | true =>
        rw [if_pos rfl]
        exact ⟨c, e2, hc.trans ⟨fun y => ⟨⟨rfl, hb.1 rfl⟩, y⟩, fun y => y.2⟩⟩
      | false =>
        rw [if_neg (by decide)]
        exact ⟨false, rfl, ⟨fun e => (by cases e), fun y => hb.2 y.1.2⟩⟩
theorem GLs_some (n d : Nat) (x : S43) (h : IF.bad n x d = false) : ∃ s, s ∈ x.f0 ++ x.f1 := by
  have h1 : 1 ≤ x.f0.length := by
    unfold IF.bad at h
    cases hs : IF.sg x with
    | true => unfold IF.sg at hs; have := of_decide_eq_true hs; omega
    | false =>
      rw [hs, if_neg (by decide)] at h
      cases hr : IF.rg x.f0.length with
      | true => unfold IF.rg at hr; exact (of_decide_eq_true hr).1
      | false => rw [hr] at h; simp at h
  exact ⟨x.f0[0], List.mem_append_left _ (List.getElem_mem _)⟩
theorem GLs_len (n : Nat) : ∀ (l : List S43) (d : Nat), GLs n l d → l = [] ∨ l.length + d ≤ 9 := by
  intro l
  induction l with
  | nil => intro d _; exact .inl rfl
  | cons x t ih =>
    intro d h
    obtain ⟨⟨h1, h2⟩, h3⟩ := h
    obtain ⟨s, hs⟩ := GLs_some n d x h1
    have h8 := (h2 s hs).2.1
    rcases ih (d + 1) h3 with rfl | h4
    · right; simp only [List.length_cons, List.length_nil]; omega
    · right; rw [List.length_cons]; omega
theorem all_f (l : List ByteArray) (x : Int) (hw : ∀ s ∈ l, s.size ≤ 1048576) : ∀ (d i k : Nat), i + d = l.length → d + 1100000 < k → l.length ≤ 1048576 → ∃ b, spec_l03All.l0 k l x (i : Int) = some b ∧ (b = true ↔ ∀ s ∈ l.drop i, isN s x) := by
  intro d
  induction d with
  | zero =>
    intro i k hi hk hl
    obtain ⟨k, rfl⟩ : ∃ m, k = m + 1 := ⟨k - 1, by omega⟩
    rw [spec_l03All.l0, if_neg (by omega), List.drop_of_length_le (by omega)]
    exact ⟨true, rfl, by simp⟩
  | succ d ih =>
    intro i k hi hk hl
    obtain ⟨k, rfl⟩ : ∃ m, k = m + 1 := ⟨k - 1, by omega⟩
    have hm := hw _ (rdS_mem l i (by omega))
    obtain ⟨b, e, hb⟩ := specShapeOk_f k (rdOf ByteArray.empty l (i : Int)) x (by omega) hm
    obtain ⟨c, e2, hc⟩ := ih (i + 1) k (by omega) (by omega) hl
    rw [spec_l03All.l0, if_pos (by omega), if_pos (by omega), e, Option.bind_some, w64s i (by omega), dropS l i (by omega)]
    cases b with
    | true =>
      rw [if_pos rfl]
      refine ⟨c, e2, hc.trans ?_⟩
      rw [List.forall_mem_cons]
      exact ⟨fun y => ⟨hb.1 rfl, y⟩, fun y => y.2⟩
    | false =>
      rw [if_neg (by decide)]
      exact ⟨false, rfl, ⟨fun e => (by cases e), fun y => hb.2 (y _ List.mem_cons_self)⟩⟩
theorem allf_f (l : List ByteArray) (x : Int) (k : Nat) (hw : ∀ s ∈ l, s.size ≤ 1048576) (hl : l.length ≤ 1048576) (hk : 2148577 ≤ k) : ∃ b, spec_l03All.f k l x = some b ∧ (b = true ↔ ∀ s ∈ l, isN s x) := by
  obtain ⟨b, e, hb⟩ := all_f l x hw l.length 0 k (by omega) (by omega) hl
  exact ⟨b, e, by rw [List.drop_zero] at hb; exact hb⟩
theorem single_f (x : S43) : spec_l03Single.f x.f0 x.f1 = some (IF.sg x) := by
  unfold spec_l03Single.f IF.sg
  by_cases h : (x.f0.length : Int) = 1
  · rw [if_pos h]
    congr 1
    by_cases h2 : x.f1.length = 0
    · rw [decide_eq_true (⟨by omega, h2⟩ : x.f0.length = 1 ∧ x.f1.length = 0), h2]; rfl
    · rw [decide_eq_false (fun e : x.f0.length = 1 ∧ x.f1.length = 0 => h2 e.2)]
      exact beq_eq_false_iff_ne.2 (by omega)
  · rw [if_neg h, decide_eq_false (fun e : x.f0.length = 1 ∧ x.f1.length = 0 => h (by omega))]
theorem mem_both {p : ByteArray → Prop} (a b : List ByteArray) : (∀ s ∈ a ++ b, p s) ↔ (∀ s ∈ a, p s) ∧ (∀ s ∈ b, p s) := List.forall_mem_append
/-- One level of the law's own test. -/
theorem level_f (L : List S43) (k i : Nat) (m : Int) (hi : i < L.length) (hl : L.length ≤ 1048576) (hk : 2148577 ≤ k) (x : S43) (hx : rd_T43 L (i : Int) = x) (h0 : x.f0.length ≤ 1048576) (h1 : x.f1.length ≤ 1048576) (hw : ∀ s ∈ x.f0 ++ x.f1, s.size ≤ 1048576) :
    ∃ g : Bool, spec_FingOk.l0 (k + 3) m (i : Int) L = (if g = true then spec_FingOk.l1 k m (i : Int) 0 L x.f0 x.f1 else some false) ∧ (g = true ↔ (IF.bad L.length x i = false ∧ ∀ s ∈ x.f0 ++ x.f1, isN s (i : Int))) := by
  have hw0 : ∀ s ∈ x.f0, s.size ≤ 1048576 := fun s hs => hw s (List.mem_append_left _ hs)
  have hw1 : ∀ s ∈ x.f1, s.size ≤ 1048576 := fun s hs => hw s (List.mem_append_right _ hs)
  have ej : spec_FingOk.l0 (k + 3) m (i : Int) L = spec_FingOk.j1 (k + 2) m (i : Int) (IF.rg x.f0.length && IF.rg x.f1.length) L x.f0 x.f1 := by
    rw [spec_FingOk.l0, if_pos (by omega), if_pos (by omega), hx]
    unfold IF.rg
    by_cases a1 : (x.f0.length : Int) ≥ 1
    · rw [if_pos a1]
      by_cases a2 : (x.f0.length : Int) ≤ 4
      · rw [if_pos a2, decide_eq_true (show 1 ≤ x.f0.length ∧ x.f0.length ≤ 4 by omega), Bool.true_and]
        by_cases a3 : (x.f1.length : Int) ≥ 1
        · rw [if_pos a3]
          by_cases a4 : (x.f1.length : Int) ≤ 4
          · rw [decide_eq_true a4, decide_eq_true (show 1 ≤ x.f1.length ∧ x.f1.length ≤ 4 by omega)]
          · rw [decide_eq_false a4, decide_eq_false (show ¬ (1 ≤ x.f1.length ∧ x.f1.length ≤ 4) by omega)]
        · rw [if_neg a3, decide_eq_false (show ¬ (1 ≤ x.f1.length ∧ x.f1.length ≤ 4) by omega)]
      · rw [if_neg a2, decide_eq_false (show ¬ (1 ≤ x.f0.length ∧ x.f0.length ≤ 4) by omega), Bool.false_and]
    · rw [if_neg a1, decide_eq_false (show ¬ (1 ≤ x.f0.length ∧ x.f0.length ≤ 4) by omega), Bool.false_and]
  have e2 : ∀ b : Bool, spec_FingOk.j2 (k + 1) m (i : Int) b L x.f0 x.f1 = (if (!b) = true then spec_FingOk.l1 k m (i : Int) 0 L x.f0 x.f1 else some false) := by
    intro b
    rw [spec_FingOk.j2]
    cases b with
    | true => rfl
    | false => rfl
  obtain ⟨b0, f0, hb0⟩ := allf_f x.f0 (i : Int) (k + 1) hw0 h0 (by omega)
  obtain ⟨b1, f1, hb1⟩ := allf_f x.f1 (i : Int) (k + 1) hw1 h1 (by omega)
  have eall : ((spec_l03All.f (k + 1) x.f0 (i : Int)).bind fun t171 => (if t171 = true then ((spec_l03All.f (k + 1) x.f1 (i : Int)).bind fun t172 => (spec_FingOk.j2 (k + 1) m (i : Int) (!t172) L x.f0 x.f1)) else (spec_FingOk.j2 (k + 1) m (i : Int) true L x.f0 x.f1))) = (if (b0 && b1) = true then spec_FingOk.l1 k m (i : Int) 0 L x.f0 x.f1 else some false) := by
    rw [f0, f1, Option.bind_some, Option.bind_some, e2, e2]
    cases b0 <;> cases b1 <;> rfl
  have hall : (b0 && b1) = true ↔ ∀ s ∈ x.f0 ++ x.f1, isN s (i : Int) := by
    rw [mem_both, ← hb0, ← hb1, Bool.and_eq_true]
  rw [ej, spec_FingOk.j1]
  cases hd : (IF.rg x.f0.length && IF.rg x.f1.length) with
  | true =>
    rw [if_pos rfl, eall]
    refine ⟨b0 && b1, rfl, hall.trans ⟨fun y => ⟨?_, y⟩, fun y => y.2⟩⟩
    rw [Bool.and_eq_true] at hd
    have hs : IF.sg x = false := by
      unfold IF.sg
      have := hd.2
      unfold IF.rg at this
      have := of_decide_eq_true this
      exact decide_eq_false (by omega)
    unfold IF.bad
    rw [hs, if_neg (by decide), hd.1, hd.2]
    rfl
  | false =>
    rw [if_neg (by decide), single_f, Option.bind_some]
    cases hs : IF.sg x with
    | true =>
      rw [if_pos rfl]
      have hbad : IF.bad L.length x i = decide (i + 1 < L.length) := by unfold IF.bad; rw [hs, if_pos rfl]
      have hwl : wrap64 ((L.length : Int) - 1) = (L.length : Int) - 1 := w64 (by omega) (by omega)
      rw [hbad, hwl]
      by_cases hl2 : (i : Int) = (L.length : Int) - 1
      · rw [if_pos hl2, eall]
        exact ⟨b0 && b1, rfl, hall.trans ⟨fun y => ⟨decide_eq_false (by omega), y⟩, fun y => y.2⟩⟩
      · rw [if_neg hl2, e2]
        exact ⟨false, rfl, ⟨fun e => (by cases e), fun y => by have := of_decide_eq_false y.1; omega⟩⟩
    | false =>
      rw [if_neg (by decide), e2]
      refine ⟨false, rfl, ⟨fun e => (by cases e), fun y => ?_⟩⟩
      have h := y.1
      unfold IF.bad at h
      rw [hs, if_neg (by decide)] at h
      cases hr0 : IF.rg x.f0.length <;> cases hr1 : IF.rg x.f1.length <;> rw [hr0, hr1] at h hd <;> simp at h hd
theorem cnt_f (k : Nat) (s : ByteArray) (hs : s.size ≤ 1048576) (hk : 1048577 ≤ k) : spec_l03Leaves.f k s = some (FL.cnt s : Int) := by
  rw [specLeaves_f k s hs (by omega), ← leaves_eq]
  rfl
theorem cnt_le (s : ByteArray) : FL.cnt s ≤ s.size := by
  unfold FL.cnt Lib.countByte
  have := List.count_le_length (a := (120 : UInt8)) (l := s.data.toList)
  simpa using this
theorem fsum_cons (s : ByteArray) (l : List ByteArray) : FL.sum (s :: l) = FL.cnt s + FL.sum l := by simp [FL.sum]
theorem fsum_app (a b : List ByteArray) : FL.sum (a ++ b) = FL.sum a + FL.sum b := by simp [FL.sum]
theorem ftot_cons (x : S43) (l : List S43) : FL.tot (x :: l) = FL.sum x.f0 + FL.sum x.f1 + FL.tot l := by
  have : FL.tot (x :: l) = FL.sum (x.f0 ++ x.f1) + FL.tot l := by simp [FL.tot]
  rw [this, fsum_app]
theorem fsum_le (l : List ByteArray) : FL.sum l ≤ sumS l := by
  induction l with
  | nil => exact Nat.le_refl _
  | cons s t ih => rw [fsum_cons, sumS_cons]; have := cnt_le s; omega
theorem ftot_le (l : List S56) : FL.tot (toF l) ≤ sumF l := by
  induction l with
  | nil => exact Nat.le_refl _
  | cons x t ih =>
    have e : toF (x :: t) = (⟨x.f0, x.f1⟩ : S43) :: toF t := rfl
    rw [e, ftot_cons, sumF_cons]
    have h0 := fsum_le x.f0
    have h1 := fsum_le x.f1
    unfold lenS
    show FL.sum x.f0 + FL.sum x.f1 + FL.tot (toF t) ≤ _
    omega
theorem l1_f (L : List S43) (x4 : Int) (a b : List ByteArray) (hw : ∀ s ∈ a, s.size ≤ 1048576) (hl : a.length ≤ 1048576) : ∀ (d j k m : Nat), j + d = a.length → 1048577 ≤ k → m + FL.sum (a.drop j) ≤ 4611686018427387904 →
    spec_FingOk.l1 (k + d + 1) (m : Int) x4 (j : Int) L a b = spec_FingOk.l2 k ((m + FL.sum (a.drop j) : Nat) : Int) x4 0 L a b := by
  intro d
  induction d with
  | zero =>
    intro j k m hj hk hm
    rw [spec_FingOk.l1, if_neg (by omega), List.drop_of_length_le (by omega)]
    rfl
  | succ d ih =>
    intro j k m hj hk hm
    rw [dropS a j (by omega), fsum_cons] at hm ⊢
    rw [spec_FingOk.l1, if_pos (by omega), if_pos (by omega), cnt_f _ _ (hw _ (rdS_mem a j (by omega))) (by omega), Option.bind_some, w64s j (by omega), w64 (by omega) (by omega), show ((m : Int) + (FL.cnt (rdOf ByteArray.empty a (j : Int)) : Int)) = ((m + FL.cnt (rdOf ByteArray.empty a (j : Int)) : Nat) : Int) by omega]
    have h := ih (j + 1) k (m + FL.cnt (rdOf ByteArray.empty a (j : Int))) (by omega) hk (by omega)
    rw [show k + (d + 1) = k + d + 1 by omega, h, show m + FL.cnt (rdOf ByteArray.empty a (j : Int)) + FL.sum (a.drop (j + 1)) = m + (FL.cnt (rdOf ByteArray.empty a (j : Int)) + FL.sum (a.drop (j + 1))) by omega]
theorem l2_f (L : List S43) (x4 : Int) (a b : List ByteArray) (hw : ∀ s ∈ b, s.size ≤ 1048576) (hl : b.length ≤ 1048576) : ∀ (d j k m : Nat), j + d = b.length → 1048577 ≤ k → m + FL.sum (b.drop j) ≤ 4611686018427387904 →
    spec_FingOk.l2 (k + d + 1) (m : Int) x4 (j : Int) L a b = spec_FingOk.l0 k ((m + FL.sum (b.drop j) : Nat) : Int) (wrap64 (x4 + 1)) L := by
  intro d
  induction d with
  | zero =>
    intro j k m hj hk hm
    rw [spec_FingOk.l2, if_neg (by omega), List.drop_of_length_le (by omega)]
    rfl
  | succ d ih =>
    intro j k m hj hk hm
    rw [dropS b j (by omega), fsum_cons] at hm ⊢
    rw [spec_FingOk.l2, if_pos (by omega), if_pos (by omega), cnt_f _ _ (hw _ (rdS_mem b j (by omega))) (by omega), Option.bind_some, w64s j (by omega), w64 (by omega) (by omega), show ((m : Int) + (FL.cnt (rdOf ByteArray.empty b (j : Int)) : Int)) = ((m + FL.cnt (rdOf ByteArray.empty b (j : Int)) : Nat) : Int) by omega]
    have h := ih (j + 1) k (m + FL.cnt (rdOf ByteArray.empty b (j : Int))) (by omega) hk (by omega)
    rw [show k + (d + 1) = k + d + 1 by omega, h, show m + FL.cnt (rdOf ByteArray.empty b (j : Int)) + FL.sum (b.drop (j + 1)) = m + (FL.cnt (rdOf ByteArray.empty b (j : Int)) + FL.sum (b.drop (j + 1))) by omega]
def fuelF (l : List S43) : Nat := (l.map fun x => x.f0.length + x.f1.length + 5).sum
theorem fuelF_cons (x : S43) (l : List S43) : fuelF (x :: l) = x.f0.length + x.f1.length + 5 + fuelF l := by simp [fuelF]
theorem specFing_l0 (L : List S43) (hl : L.length ≤ 1048576) (hw : ∀ x ∈ L, x.f0.length ≤ 1048576 ∧ x.f1.length ≤ 1048576 ∧ ∀ s ∈ x.f0 ++ x.f1, s.size ≤ 1048576) : ∀ (d i k m : Nat), i + d = L.length → fuelF (L.drop i) + 2148600 ≤ k → m + FL.tot (L.drop i) ≤ 4611686018427387904 →
    ∃ b, spec_FingOk.l0 k (m : Int) (i : Int) L = some b ∧ (b = true ↔ (GLs L.length (L.drop i) i ∧ m + FL.tot (L.drop i) ≤ 200)) := by
  intro d
  induction d with
  | zero =>
    intro i k m hi hk hm
    obtain ⟨k, rfl⟩ : ∃ q, k = q + 1 := ⟨k - 1, by omega⟩
    rw [spec_FingOk.l0, if_neg (by omega), List.drop_of_length_le (by omega)]
    refine ⟨_, rfl, ?_⟩
    rw [decide_eq_true_eq]
    have : FL.tot [] = 0 := rfl
    rw [this]
    exact ⟨fun h => ⟨trivial, by omega⟩, fun h => by omega⟩
  | succ d ih =>
    intro i k m hi hk hm
    have hx := rdI_mem L i (by omega)
    obtain ⟨h0, h1, h2⟩ := hw _ hx
    rw [dropI L i (by omega), fuelF_cons] at hk
    rw [dropI L i (by omega), ftot_cons] at hm
    rw [dropI L i (by omega), ftot_cons]
    generalize hrd : rd_T43 L (i : Int) = x at *
    obtain ⟨q, rfl⟩ : ∃ q, k = q + x.f1.length + 1 + x.f0.length + 1 + 3 := ⟨k - (x.f1.length + 1 + x.f0.length + 1 + 3), by omega⟩
    obtain ⟨g, eg, hg⟩ := level_f L (q + x.f1.length + 1 + x.f0.length + 1) i (m : Int) (by omega) hl (by omega) x hrd h0 h1 h2
    rw [eg]
    cases g with
    | false =>
      rw [if_neg (by decide)]
      refine ⟨false, rfl, ⟨fun e => (by cases e), fun y => ?_⟩⟩
      exact hg.2 y.1.1
    | true =>
      rw [if_pos rfl]
      have e1 := l1_f L (i : Int) x.f0 x.f1 (fun s hs => h2 s (List.mem_append_left _ hs)) h0 x.f0.length 0 (q + x.f1.length + 1) m (by omega) (by omega) (by rw [List.drop_zero]; omega)
      rw [List.drop_zero] at e1
      have e2 := l2_f L (i : Int) x.f0 x.f1 (fun s hs => h2 s (List.mem_append_right _ hs)) h1 x.f1.length 0 q (m + FL.sum x.f0) (by omega) (by omega) (by rw [List.drop_zero]; omega)
      rw [List.drop_zero] at e2
      rw [show ((0 : Nat) : Int) = 0 from rfl] at e1 e2
      rw [e1, e2, w64s i (by omega)]
      obtain ⟨b, e3, hb⟩ := ih (i + 1) q (m + FL.sum x.f0 + FL.sum x.f1) (by omega) (by omega) (by omega)
      refine ⟨b, e3, hb.trans ?_⟩
      have hgg := hg.1 rfl
      exact ⟨fun y => ⟨⟨hgg, y.1⟩, by have := y.2; omega⟩, fun y => ⟨y.1.2, by have := y.2; omega⟩⟩
/-- The law's test and the program's say the same. -/
theorem bothFing (k : Nat) (l : List S56) (hl : l.length + sumF l ≤ 1048576) (hk : 30000000 ≤ k) : ∃ b, spec_FingOk.f k (toF l) = some b ∧ impl_isFing.f k (toF l) = some b ∧ (b = true ↔ (GLs (toF l).length (toF l) 0 ∧ FL.tot (toF l) ≤ 200)) := by
  have hw : ∀ x ∈ toF l, x.f0.length ≤ 1048576 ∧ x.f1.length ≤ 1048576 ∧ ∀ s ∈ x.f0 ++ x.f1, s.size ≤ 1048576 := by
    intro x hx
    obtain ⟨y, hy, rfl⟩ := List.mem_map.1 hx
    have h := sumF_mem hy
    unfold lenS at h
    refine ⟨by show y.f0.length ≤ _; omega, by show y.f1.length ≤ _; omega, fun s hs => ?_⟩
    rcases List.mem_append.1 hs with h2 | h2
    · have h3 : s.size ≤ sumS y.f0 := sumS_mem h2
      omega
    · have h3 : s.size ≤ sumS y.f1 := sumS_mem h2
      omega
  have hw2 : ∀ x ∈ toF l, x.f0.length + x.f1.length ≤ 1048576 := by
    intro x hx
    obtain ⟨y, hy, rfl⟩ := List.mem_map.1 hx
    have h := sumF_mem hy
    unfold lenS at h
    show y.f0.length + y.f1.length ≤ _
    omega
  have ht := ftot_le l
  have hn := toF_length l
  have hfu : ∀ l : List S56, fuelF (toF l) ≤ sumF l + 5 * l.length := by
    intro l
    induction l with
    | nil => exact Nat.le_refl _
    | cons x t ih =>
      have e : toF (x :: t) = (⟨x.f0, x.f1⟩ : S43) :: toF t := rfl
      rw [e, fuelF_cons, sumF_cons, List.length_cons]
      unfold lenS
      show x.f0.length + x.f1.length + 5 + fuelF (toF t) ≤ _
      omega
  have hf := hfu l
  obtain ⟨c, ec, hc⟩ := lv_f k (toF l).length (by omega) (toF l) 0 (fun x hx => (hw x hx).2.2)
  have el : impl_Fing_leaves.f (toF l) = some (FL.tot (toF l) : Int) := by
    unfold impl_Fing_leaves.f
    rw [if_pos ⟨by omega, hw2, by omega⟩]
  have ei : impl_isFing.f k (toF l) = some (c && decide (FL.tot (toF l) ≤ 200)) := by
    unfold impl_isFing.f
    rw [if_pos ⟨by omega, hw2⟩, ec, Option.bind_some]
    cases c with
    | true =>
      rw [if_pos rfl, el, Option.bind_some, Bool.true_and]
      congr 1
      rw [Bool.eq_iff_iff, decide_eq_true_eq, decide_eq_true_eq]
      omega
    | false => rw [if_neg (by decide)]; rfl
  have hlen : c = true → (toF l).length ≤ 9 := fun e => by
    rcases GLs_len _ _ _ (hc.1 e) with h | h
    · rw [h]; simp
    · omega
  refine ⟨_, ?_, ei, ?_⟩
  · unfold spec_FingOk.f
    by_cases h12 : ((toF l).length : Int) > 12
    · rw [if_pos h12]
      cases c with
      | true => have := hlen rfl; omega
      | false => rfl
    · rw [if_neg h12]
      obtain ⟨b, e, hb⟩ := specFing_l0 (toF l) (by omega) hw (toF l).length 0 k 0 (by omega) (by rw [List.drop_zero]; omega) (by rw [List.drop_zero]; omega)
      refine e.trans ?_
      congr 1
      rw [Bool.eq_iff_iff, hb, Bool.and_eq_true, hc, decide_eq_true_eq, List.drop_zero, Nat.zero_add]
  · rw [Bool.and_eq_true, decide_eq_true_eq, hc]
theorem cnt_app (a b : ByteArray) : FL.cnt (a ++ b) = FL.cnt a + FL.cnt b := by
  unfold FL.cnt Lib.countByte
  have h : (a ++ b).data = a.data ++ b.data := by simp
  rw [h, Array.toList_append, List.count_append]
theorem size_app (a b : ByteArray) : (a ++ b).size = a.size + b.size := by simp
theorem join_l0 (l : List ByteArray) (hl : l.length ≤ 1048576) : ∀ (d i k : Nat) (acc : ByteArray), i + d = l.length → d < k → acc.size + sumS (l.drop i) + d ≤ 4611686018427387904 →
    ∃ t, spec_l03Join.l0 k l (⟨#[32]⟩ : ByteArray) acc (i : Int) = some t ∧ FL.cnt t = FL.cnt acc + FL.sum (l.drop i) ∧ t.size ≤ acc.size + sumS (l.drop i) + d := by
  intro d
  induction d with
  | zero =>
    intro i k acc hi hk hs
    obtain ⟨k, rfl⟩ : ∃ q, k = q + 1 := ⟨k - 1, by omega⟩
    rw [spec_l03Join.l0, if_neg (by omega)]
    refine ⟨acc, rfl, ?_, by omega⟩
    rw [List.drop_of_length_le (by omega)]
    rfl
  | succ d ih =>
    intro i k acc hi hk hs
    obtain ⟨k, rfl⟩ : ∃ q, k = q + 1 := ⟨k - 1, by omega⟩
    have hgap : (⟨#[32]⟩ : ByteArray).size = 1 := rfl
    have hgc : FL.cnt (⟨#[32]⟩ : ByteArray) = 0 := rfl
    rw [dropS l i (by omega), sumS_cons] at hs
    rw [dropS l i (by omega), sumS_cons, fsum_cons]
    generalize hr : rdOf ByteArray.empty l (i : Int) = s at *
    rw [spec_l03Join.l0, if_pos (by omega), hr]
    by_cases h0 : (i : Int) > 0
    · rw [if_pos h0, if_pos (by rw [hgap]; omega), if_pos (by omega), if_pos (by rw [size_app, hgap]; omega), w64s i (by omega)]
      obtain ⟨t, e, hc, hz⟩ := ih (i + 1) k (acc ++ (⟨#[32]⟩ : ByteArray) ++ s) (by omega) (by omega) (by rw [size_app, size_app, hgap]; omega)
      rw [cnt_app, cnt_app, hgc] at hc
      rw [size_app, size_app, hgap] at hz
      exact ⟨t, e, by omega, by omega⟩
    · rw [if_neg h0, if_pos (by omega), if_pos (by omega), w64s i (by omega)]
      obtain ⟨t, e, hc, hz⟩ := ih (i + 1) k (acc ++ s) (by omega) (by omega) (by rw [size_app]; omega)
      rw [cnt_app] at hc
      rw [size_app] at hz
      exact ⟨t, e, by omega, by omega⟩
theorem join_f (k : Nat) (l : List ByteArray) (hl : l.length ≤ 1048576) (hs : sumS l ≤ 1048576) (hk : l.length < k) : ∃ t, spec_l03Join.f k l (⟨#[32]⟩ : ByteArray) = some t ∧ FL.cnt t = FL.sum l ∧ t.size ≤ lenS l := by
  obtain ⟨t, e, hc, hz⟩ := join_l0 l hl l.length 0 k (⟨#[]⟩ : ByteArray) (by omega) hk (by rw [List.drop_zero, show (⟨#[]⟩ : ByteArray).size = 0 from rfl]; omega)
  rw [List.drop_zero, show FL.cnt (⟨#[]⟩ : ByteArray) = 0 from rfl] at hc
  rw [List.drop_zero, show (⟨#[]⟩ : ByteArray).size = 0 from rfl] at hz
  exact ⟨t, e, by omega, by unfold lenS; omega⟩
def bulkT (l : List S43) : Nat := (l.map fun x => 3 + lenS x.f0 + lenS x.f1).sum
theorem bulkT_cons (x : S43) (l : List S43) : bulkT (x :: l) = 3 + lenS x.f0 + lenS x.f1 + bulkT l := by simp [bulkT]
theorem text_l0 (L : List S43) (hok : ∀ k, 30000000 ≤ k → spec_FingOk.f k L = some true) (hl : L.length ≤ 1048576) (hw : ∀ x ∈ L, lenS x.f0 ≤ 1048576 ∧ lenS x.f1 ≤ 1048576) : ∀ (d i k : Nat) (acc : ByteArray), i + d = L.length → 2 * d + 30000002 ≤ k → acc.size + bulkT (L.drop i) ≤ 4611686018427387904 →
    ∃ t, spec_FingText.l0 k acc (i : Int) L = some t ∧ FL.cnt t = FL.cnt acc + FL.tot (L.drop i) ∧ t.size ≤ acc.size + bulkT (L.drop i) := by
  intro d
  induction d with
  | zero =>
    intro i k acc hi hk hs
    obtain ⟨k, rfl⟩ : ∃ q, k = q + 2 := ⟨k - 2, by omega⟩
    rw [spec_FingText.l0, hok (k + 1) (by omega), Option.bind_some, if_pos rfl, decide_eq_false (by omega : ¬ (i : Int) < (L.length : Int)), spec_FingText.j1, if_neg (by decide)]
    refine ⟨acc, rfl, ?_, by omega⟩
    rw [List.drop_of_length_le (by omega)]
    rfl
  | succ d ih =>
    intro i k acc hi hk hs
    obtain ⟨k, rfl⟩ : ∃ q, k = q + 2 := ⟨k - 2, by omega⟩
    have hx := hw _ (rdI_mem L i (by omega))
    rw [dropI L i (by omega), bulkT_cons] at hs
    rw [dropI L i (by omega), bulkT_cons, ftot_cons]
    rw [spec_FingText.l0, hok (k + 1) (by omega), Option.bind_some, if_pos rfl, decide_eq_true (by omega : (i : Int) < (L.length : Int)), spec_FingText.j1, if_pos rfl]
    generalize hr : rd_T43 L (i : Int) = x at *
    have hx0 := hx.1
    have hx1 := hx.2
    obtain ⟨t0, e0, c0, zz0⟩ := join_f k x.f0 (by unfold lenS at hx0; omega) (by unfold lenS at hx0; omega) (by unfold lenS at hx0; omega)
    obtain ⟨t1, e1, c1, zz1⟩ := join_f k x.f1 (by unfold lenS at hx1; omega) (by unfold lenS at hx1; omega) (by unfold lenS at hx1; omega)
    have g1 : (⟨#[91]⟩ : ByteArray).size = 1 := rfl
    have g2 : (⟨#[124]⟩ : ByteArray).size = 1 := rfl
    have g3 : (⟨#[93]⟩ : ByteArray).size = 1 := rfl
    have n1 : FL.cnt (⟨#[91]⟩ : ByteArray) = 0 := rfl
    have n2 : FL.cnt (⟨#[124]⟩ : ByteArray) = 0 := rfl
    have n3 : FL.cnt (⟨#[93]⟩ : ByteArray) = 0 := rfl
    rw [if_pos (by omega), if_pos (by omega), if_pos (by omega), e0, Option.bind_some, if_pos (by rw [size_app, g1]; omega), if_pos (by rw [size_app, size_app, g1]; omega), e1, Option.bind_some, if_pos (by rw [size_app, size_app, size_app, g1, g2]; omega), if_pos (by rw [size_app, size_app, size_app, size_app, g1, g2]; omega), w64s i (by omega)]
    obtain ⟨t, e, hc, hz⟩ := ih (i + 1) k (((((acc ++ (⟨#[91]⟩ : ByteArray)) ++ t0) ++ (⟨#[124]⟩ : ByteArray)) ++ t1) ++ (⟨#[93]⟩ : ByteArray)) (by omega) (by omega) (by rw [size_app, size_app, size_app, size_app, size_app, g1, g2, g3]; omega)
    rw [cnt_app, cnt_app, cnt_app, cnt_app, cnt_app, n1, n2, n3] at hc
    rw [size_app, size_app, size_app, size_app, size_app, g1, g2, g3] at hz
    exact ⟨t, e, by omega, by omega⟩
theorem lenS_le (l : List ByteArray) (d : Int) (h : ∀ s ∈ l, isN s d) : lenS l ≤ 3 * FL.sum l := by
  unfold lenS
  induction l with
  | nil => exact Nat.le_refl _
  | cons s t ih =>
    have h1 := ih (fun x hx => h x (List.mem_cons_of_mem _ hx))
    have h2 := FT.T_len _ _ (h s List.mem_cons_self).2.2.1
    rw [B_len] at h2
    have h3 := leaves_eq s
    have h4 : (Lib.countByte s.data.toList 120 : Int) = (FL.cnt s : Int) := rfl
    rw [List.length_cons, sumS_cons, fsum_cons]
    omega
theorem bulkT_le (n : Nat) : ∀ (l : List S43) (d : Nat), GLs n l d → bulkT l ≤ 3 * l.length + 3 * FL.tot l := by
  intro l
  induction l with
  | nil => intro d _; exact Nat.zero_le _
  | cons x t ih =>
    intro d h
    have h1 := ih (d + 1) h.2
    have h2 := lenS_le x.f0 (d : Int) (fun s hs => h.1.2 s (List.mem_append_left _ hs))
    have h3 := lenS_le x.f1 (d : Int) (fun s hs => h.1.2 s (List.mem_append_right _ hs))
    rw [bulkT_cons, ftot_cons, List.length_cons]
    omega
/-- The text of a valid tree. -/
theorem textOf_f (k : Nat) (l : List S56) (hl : l.length + sumF l ≤ 1048576) (hk : 30100000 ≤ k) (hg : GLs (toF l).length (toF l) 0) (ht : FL.tot (toF l) ≤ 200) : ∃ t, spec_FingText.f k (toF l) = some t ∧ FL.cnt t = FL.tot (toF l) ∧ t.size ≤ 1000 := by
  have hok : ∀ k, 30000000 ≤ k → spec_FingOk.f k (toF l) = some true := by
    intro k hk
    obtain ⟨b, e, _, hb⟩ := bothFing k l hl hk
    rw [e, hb.2 ⟨hg, ht⟩]
  have hn := toF_length l
  have hw : ∀ x ∈ toF l, lenS x.f0 ≤ 1048576 ∧ lenS x.f1 ≤ 1048576 := by
    intro x hx
    obtain ⟨y, hy, rfl⟩ := List.mem_map.1 hx
    have h := sumF_mem hy
    exact ⟨by show lenS y.f0 ≤ _; omega, by show lenS y.f1 ≤ _; omega⟩
  have h9 : (toF l).length ≤ 9 := by
    rcases GLs_len _ _ _ hg with h | h
    · rw [h]; simp
    · omega
  have hb := bulkT_le _ _ _ hg
  have hz : (⟨#[]⟩ : ByteArray).size = 0 := rfl
  have hc0 : FL.cnt (⟨#[]⟩ : ByteArray) = 0 := rfl
  obtain ⟨t, e, hc, hs⟩ := text_l0 (toF l) hok (by omega) hw (toF l).length 0 k (⟨#[]⟩ : ByteArray) (by omega) (by omega) (by rw [List.drop_zero]; omega)
  rw [List.drop_zero] at hc hs
  exact ⟨t, e, by omega, by omega⟩
def D (s : ByteArray) : List UInt8 := s.data.toList
theorem D_app (a b : ByteArray) : D (a ++ b) = D a ++ D b := by
  unfold D
  have h : (a ++ b).data = a.data ++ b.data := by simp
  rw [h, Array.toList_append]
theorem D_len (a : ByteArray) : (D a).length = a.size := by simp [D]
theorem joinX_l0 (l : List ByteArray) (hl : l.length ≤ 1048576) : ∀ (d i k : Nat) (acc : ByteArray), 1 ≤ i → i + d = l.length → d < k → acc.size + sumS (l.drop i) + d ≤ 4611686018427387904 →
    ∃ t, spec_l03Join.l0 k l (⟨#[32]⟩ : ByteArray) acc (i : Int) = some t ∧ D t = D acc ++ Lib.joinTail [32] ((l.drop i).map D) := by
  intro d
  induction d with
  | zero =>
    intro i k acc h1 hi hk hs
    obtain ⟨k, rfl⟩ : ∃ q, k = q + 1 := ⟨k - 1, by omega⟩
    rw [spec_l03Join.l0, if_neg (by omega)]
    refine ⟨acc, rfl, ?_⟩
    rw [List.drop_of_length_le (by omega)]
    simp [Lib.joinTail]
  | succ d ih =>
    intro i k acc h1 hi hk hs
    obtain ⟨k, rfl⟩ : ∃ q, k = q + 1 := ⟨k - 1, by omega⟩
    have hgap : (⟨#[32]⟩ : ByteArray).size = 1 := rfl
    have hgd : D (⟨#[32]⟩ : ByteArray) = [32] := rfl
    rw [dropS l i (by omega), sumS_cons] at hs
    rw [dropS l i (by omega)]
    generalize hr : rdOf ByteArray.empty l (i : Int) = s at *
    rw [spec_l03Join.l0, if_pos (by omega), hr, if_pos (by omega), if_pos (by rw [hgap]; omega), if_pos (by omega), if_pos (by rw [size_app, hgap]; omega), w64s i (by omega)]
    obtain ⟨t, e, hd⟩ := ih (i + 1) k (acc ++ (⟨#[32]⟩ : ByteArray) ++ s) (by omega) (by omega) (by omega) (by rw [size_app, size_app, hgap]; omega)
    refine ⟨t, e, ?_⟩
    rw [hd, D_app, D_app, hgd]
    simp [Lib.joinTail]
theorem joinX_f (k : Nat) (l : List ByteArray) (hl : l.length ≤ 1048576) (hs : sumS l ≤ 1048576) (hk : l.length < k) : ∃ t, spec_l03Join.f k l (⟨#[32]⟩ : ByteArray) = some t ∧ strings_Join.f l (⟨#[32]⟩ : ByteArray) = some t ∧ t.size ≤ lenS l := by
  obtain ⟨t, e, _, hz⟩ := join_f k l hl hs hk
  have hd : D t = Lib.join (l.map D) [32] := by
    cases l with
    | nil =>
      obtain ⟨k, rfl⟩ : ∃ q, k = q + 1 := ⟨k - 1, by omega⟩
      unfold spec_l03Join.f at e
      rw [spec_l03Join.l0, if_neg (by simp)] at e
      obtain rfl := Option.some.inj e
      rfl
    | cons x r =>
      obtain ⟨k, rfl⟩ : ∃ q, k = q + 1 := ⟨k - 1, by omega⟩
      rw [sumS_cons] at hs
      rw [List.length_cons] at hl hk
      have hx : rdOf ByteArray.empty (x :: r) 0 = x := rfl
      have h0 : (⟨#[]⟩ : ByteArray).size = 0 := rfl
      have hD0 : D (⟨#[]⟩ : ByteArray) = [] := rfl
      unfold spec_l03Join.f at e
      rw [spec_l03Join.l0, if_pos (by rw [List.length_cons]; omega), if_neg (by omega), if_pos (by omega), hx, if_pos (by rw [h0]; omega)] at e
      obtain ⟨t', e', hd'⟩ := joinX_l0 (x :: r) (by rw [List.length_cons]; omega) r.length 1 k ((⟨#[]⟩ : ByteArray) ++ x) (by omega) (by rw [List.length_cons]; omega) (by omega) (by rw [size_app, h0, List.drop_one, List.tail_cons]; omega)
      rw [show wrap64 ((0 : Int) + 1) = ((1 : Nat) : Int) from (by unfold wrap64; omega), e'] at e
      obtain rfl := Option.some.inj e
      rw [hd', D_app, hD0, List.nil_append, List.drop_one, List.tail_cons, List.map_cons, Lib.join_cons]
  refine ⟨t, e, ?_, hz⟩
  have hlen : (Lib.join (l.map D) [32]).length ≤ 140737488355328 := by
    rw [← hd, D_len]
    unfold lenS at hz
    omega
  unfold strings_Join.f
  rw [if_pos ⟨hl, hlen⟩]
  congr 1
  have : t = ⟨(D t).toArray⟩ := by unfold D; cases t; simp
  rw [this, hd]
  rfl
theorem texts_l0 (L : List S43) (hok : ∀ k, 30000000 ≤ k → spec_FingOk.f k L = some true) (hl : L.length ≤ 1048576) (hw : ∀ x ∈ L, lenS x.f0 ≤ 1048576 ∧ lenS x.f1 ≤ 1048576) : ∀ (d i k q : Nat) (acc : ByteArray), i + d = L.length → 2 * d + 30000002 ≤ k → d < q → acc.size + bulkT (L.drop i) ≤ 4611686018427387904 →
    ∃ t, spec_FingText.l0 k acc (i : Int) L = some t ∧ impl_FingText.l0 q acc L (L.length : Int) (i : Int) = some t := by
  intro d
  induction d with
  | zero =>
    intro i k q acc hi hk hq hs
    obtain ⟨k, rfl⟩ : ∃ q, k = q + 2 := ⟨k - 2, by omega⟩
    obtain ⟨q, rfl⟩ : ∃ p, q = p + 1 := ⟨q - 1, by omega⟩
    rw [spec_FingText.l0, hok (k + 1) (by omega), Option.bind_some, if_pos rfl, decide_eq_false (by omega : ¬ (i : Int) < (L.length : Int)), spec_FingText.j1, if_neg (by decide), impl_FingText.l0, if_neg (by omega)]
    exact ⟨acc, rfl, rfl⟩
  | succ d ih =>
    intro i k q acc hi hk hq hs
    obtain ⟨k, rfl⟩ : ∃ q, k = q + 2 := ⟨k - 2, by omega⟩
    obtain ⟨q, rfl⟩ : ∃ p, q = p + 1 := ⟨q - 1, by omega⟩
    have hx := hw _ (rdI_mem L i (by omega))
    rw [dropI L i (by omega), bulkT_cons] at hs
    rw [spec_FingText.l0, hok (k + 1) (by omega), Option.bind_some, if_pos rfl, decide_eq_true (by omega : (i : Int) < (L.length : Int)), spec_FingText.j1, if_pos rfl, impl_FingText.l0, if_pos (show (i : Int) < (L.length : Int) by omega)]
    generalize hr : rd_T43 L (i : Int) = x at *
    have hx0 := hx.1
    have hx1 := hx.2
    obtain ⟨t0, e0, f0, zz0⟩ := joinX_f k x.f0 (by unfold lenS at hx0; omega) (by unfold lenS at hx0; omega) (by unfold lenS at hx0; omega)
    obtain ⟨t1, e1, f1, zz1⟩ := joinX_f k x.f1 (by unfold lenS at hx1; omega) (by unfold lenS at hx1; omega) (by unfold lenS at hx1; omega)
    have g1 : (⟨#[91]⟩ : ByteArray).size = 1 := rfl
    have g2 : (⟨#[124]⟩ : ByteArray).size = 1 := rfl
    have g3 : (⟨#[93]⟩ : ByteArray).size = 1 := rfl
    rw [if_pos (show acc.size + 1 ≤ 9223372036854775807 by omega), if_pos (show (0 : Int) ≤ (i : Int) by omega), if_pos (show (i : Int) < (L.length : Int) by omega), e0, Option.bind_some, if_pos (by rw [size_app, g1]; omega), if_pos (by rw [size_app, size_app, g1]; omega), e1, Option.bind_some, if_pos (by rw [size_app, size_app, size_app, g1, g2]; omega), if_pos (by rw [size_app, size_app, size_app, size_app, g1, g2]; omega), w64s i (by omega)]
    obtain ⟨t, e, e'⟩ := ih (i + 1) k q (((((acc ++ (⟨#[91]⟩ : ByteArray)) ++ t0) ++ (⟨#[124]⟩ : ByteArray)) ++ t1) ++ (⟨#[93]⟩ : ByteArray)) (by omega) (by omega) (by omega) (by rw [size_app, size_app, size_app, size_app, size_app, g1, g2, g3]; omega)
    refine ⟨t, e, ?_⟩
    rw [if_pos (show (0 : Int) ≤ (i : Int) by omega), if_pos (show (i : Int) < (L.length : Int) by omega), f0, Option.bind_some, if_pos (by omega), if_pos (by rw [size_app, g1]; omega), f1, Option.bind_some, if_pos (by rw [size_app, size_app, g1, g2]; omega), if_pos (by rw [size_app, size_app, size_app, g1, g2]; omega), if_pos (by rw [size_app, size_app, size_app, size_app, g1, g2, g3]; omega)]
    rw [← e']
    congr 1
    simp only [ByteArray.append_assoc]
theorem FnExactFingText (l0_0 : List S56) (wl0_0 : (l0_0.length ≤ maxLen ∧ ∀ x ∈ l0_0, wf56 x)) : ∃ k, laws_FnExactFingText.f k l0_0 = some true := by
  have hm : l0_0.length ≤ 9223372036854775807 := by have := wl0_0.1; unfold maxLen at this; omega
  have hw : ∀ c ∈ l0_0, okF c := fun c hc => by
    have h := wl0_0.2 c hc
    unfold wf56 maxLen at h
    exact ⟨⟨by have := h.1.1; omega, fun y hy => by have := h.1.2 y hy; omega⟩, ⟨by have := h.2.1; omega, fun y hy => by have := h.2.2 y hy; omega⟩⟩
  refine ⟨40000000, ?_⟩
  generalize hk : (40000000 : Nat) = k
  unfold laws_FnExactFingText.f
  rw [szFing_f l0_0 k 1048576 (by omega) (by omega) hm hw (by omega)]
  simp only [Option.bind_some]
  by_cases hl : (l0_0.length + sumF l0_0 : Int) ≤ 1048576
  · have hn := toF_length l0_0
    have hq : ∀ c ∈ toF l0_0, c.f0.length ≤ 1048576 ∧ c.f1.length ≤ 1048576 := by
      intro x hx
      obtain ⟨y, hy, rfl⟩ := List.mem_map.1 hx
      have h := sumF_mem hy
      unfold lenS at h
      exact ⟨by show y.f0.length ≤ _; omega, by show y.f1.length ≤ _; omega⟩
    have hboth : ∃ t, spec_FingText.f k (toF l0_0) = some t ∧ impl_FingText.f k (toF l0_0) = some t := by
      obtain ⟨b, es, ei, hb⟩ := bothFing k l0_0 (by omega) (by omega)
      unfold spec_FingText.f impl_FingText.f
      rw [ei, Option.bind_some]
      cases b with
      | false =>
        rw [if_neg (by decide)]
        obtain ⟨k, rfl⟩ : ∃ q, k = q + 2 := ⟨k - 2, by omega⟩
        obtain ⟨b2, es2, _, hb2⟩ := bothFing (k + 1) l0_0 (by omega) (by omega)
        have : b2 = false := by
          cases b2 with
          | false => rfl
          | true => exact absurd (hb.2 (hb2.1 rfl)) (by decide)
        subst this
        rw [spec_FingText.l0, es2, Option.bind_some, if_neg (by decide), spec_FingText.j1, if_neg (by decide)]
        exact ⟨_, rfl, rfl⟩
      | true =>
        rw [if_pos rfl]
        obtain ⟨hg, ht⟩ := hb.1 rfl
        have hok : ∀ k, 30000000 ≤ k → spec_FingOk.f k (toF l0_0) = some true := by
          intro k hk
          obtain ⟨b, e, _, hb⟩ := bothFing k l0_0 (by omega) hk
          rw [e, hb.2 ⟨hg, ht⟩]
        have hw2 : ∀ x ∈ toF l0_0, lenS x.f0 ≤ 1048576 ∧ lenS x.f1 ≤ 1048576 := by
          intro x hx
          obtain ⟨y, hy, rfl⟩ := List.mem_map.1 hx
          have h := sumF_mem hy
          exact ⟨by show lenS y.f0 ≤ _; omega, by show lenS y.f1 ≤ _; omega⟩
        have hbk := bulkT_le _ _ _ hg
        have hz : (⟨#[]⟩ : ByteArray).size = 0 := rfl
        exact texts_l0 (toF l0_0) hok (by omega) hw2 (toF l0_0).length 0 k k (⟨#[]⟩ : ByteArray) (by omega) (by omega) (by omega) (by rw [List.drop_zero]; omega)
    obtain ⟨t, e1, e2⟩ := hboth
    rw [if_pos hl, if_neg (by omega), toFing_f k l0_0 (by omega) (by omega)]
    simp only [Option.bind_some]
    rw [e1, e2]
    simp only [Option.bind_some]
    rw [if_pos trivial, eqFing_self k _ (by omega) hq (by omega)]
    rfl
  · rw [if_neg hl, if_pos (by omega)]

end Go.Proofs.Ytjkipaipaobibaa.Pure
