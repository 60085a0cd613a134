/-
  The law FnExactStackOk in plain words: what the program's function computes is what the reference's computes. No memory, no machine.
-/
import Derived.Test.YtjgbfhdhffhimaaPFnExactStackOkx
import Derived.Test.YtjgbfhdhffhimaaGen
namespace Go.Proofs.Ytjgbfhdhffhimaa.Pure
open Go.RowKit Go.Proofs.Ytjgbfhdhffhimaa.PFnExactStackOk Go.Proofs.YtjgbfhdhffhimaaW.PrintWords Go.Proofs.YtjgbfhdhffhimaaW.PrintLast Go.Proofs.YtjgbfhdhffhimaaW.PrintMore Go.Proofs.Ytjgbfhdhffhimaa.Gen
set_option linter.unusedVariables false
set_option linter.unusedSimpArgs false

def wf63 (x : S63) : Prop := (Lit.int .i64 x.f0).wf = true ∧ (Lit.int .i64 x.f1).wf = true ∧ (x.f2.length ≤ maxLen ∧ ∀ y ∈ x.f2, (Lit.int .u8 y).wf = true)
theorem toByteS_f (k : Nat) (l : List Int) (hk : l.length < k) (hl : l.length ≤ 1048576) : laws_toByteS.f k l = some l := by
  have h := map_loop (L := fun k out i => laws_toByteS.l0 k l out i) l id 0 0 (fun k out i _ hi ho => by
      simp only [laws_toByteS.l0]
      rw [if_pos (by omega), if_pos (by omega), if_pos (by omega), w64s i (by omega), rd_nat]
      rfl) (fun k out ho => by
      simp only [laws_toByteS.l0]
      rw [if_neg (by omega)]) k (List.replicate ((l.length : Int)).toNat 0) (by omega) (by simp)
  unfold laws_toByteS.f
  rw [if_pos (by omega), if_pos (by omega)]
  simpa using h
theorem eqByteS_f (k : Nat) (l l' : List Int) (hk : l.length < k) (hl : l.length ≤ 1048576) : laws_eqByteS.f k l l' = some (decide (l = l')) := by
  unfold laws_eqByteS.f
  by_cases e : l.length = l'.length
  · rw [if_pos (by omega)]
    obtain ⟨b, h, hb⟩ := all_loop (L := fun k i => laws_eqByteS.l0 k l l' i) l.length 0 (fun i => decide (l.getD i 0 = l'.getD i 0)) (fun k i _ hi => by
      simp only [laws_eqByteS.l0]
      rw [if_pos (by omega), if_pos (by omega), if_pos (by omega), w64s i (by omega), rd_nat, rd_nat]
      simp only [decide_eq_true_eq]) (fun k => by
      simp only [laws_eqByteS.l0]
      rw [if_neg (by omega)]) k (by omega)
    refine h.trans ?_
    congr 1
    simp only [decide_eq_true_eq] at hb
    rw [Bool.eq_iff_iff, decide_eq_true_eq]
    exact hb.trans (eq_of_getD 0 e)
  · rw [if_neg (by omega)]
    congr 1
    symm
    exact decide_eq_false (fun h => e (by rw [h]))
theorem eqByteS_self (k : Nat) (l : List Int) (hk : l.length < k) (hl : l.length ≤ 1048576) : laws_eqByteS.f k l l = some true := by
  rw [eqByteS_f k l l hk hl]; simp
theorem szByteS_f (l : List Int) (a : Int) (h0 : 0 ≤ a) (h1 : a ≤ 1048576) (hl : l.length ≤ 9223372036854775807) :
    laws_szByteS.f l a = some (if (l.length : Int) ≤ a then a - (l.length : Int) else -1) := by
  unfold laws_szByteS.f
  rw [w64 (x := a - (l.length : Int)) (by omega) (by omega)]
  by_cases h : (l.length : Int) ≤ a
  · rw [if_neg (by omega), if_pos h]
  · rw [if_pos (by omega), if_neg h]
theorem szEdit_f (x y : Int) (l : List Int) (a : Int) (h0 : 0 ≤ a) (h1 : a ≤ 1048576) (hl : l.length ≤ 9223372036854775807) :
    laws_szEdit.f x y l a = some (if (l.length : Int) ≤ a then a - (l.length : Int) else -1) := by
  unfold laws_szEdit.f
  rw [szByteS_f l a h0 h1 hl]
  simp only [Option.bind_some]
  by_cases h : (l.length : Int) ≤ a
  · rw [if_pos h, if_neg (by omega)]
  · rw [if_neg h, if_pos (by omega)]
theorem toEdit_f (k : Nat) (x y : Int) (l : List Int) (hk : l.length < k) (hl : l.length ≤ 1048576) : laws_toEdit.f k x y l = some (x, y, l) := by
  unfold laws_toEdit.f
  rw [toByteS_f k l hk hl]
  rfl
theorem eqEdit_self (k : Nat) (x y : Int) (l : List Int) (hk : l.length < k) (hl : l.length ≤ 1048576) : laws_eqEdit.f k x y l x y l = some true := by
  unfold laws_eqEdit.f
  rw [if_pos rfl, if_pos rfl, eqByteS_self k l hk hl]
  rfl
theorem wf_i64 {x : Int} (h : (Lit.int .i64 x).wf = true) : -9223372036854775808 ≤ x ∧ x ≤ 9223372036854775807 := by
  simp only [Lit.wf, Bool.and_eq_true, decide_eq_true_eq] at h
  exact ⟨h.1, h.2⟩
theorem wf_u8 {x : Int} (h : (Lit.int .u8 x).wf = true) : 0 ≤ x ∧ x ≤ 255 := by
  simp only [Lit.wf, Bool.and_eq_true, decide_eq_true_eq] at h
  exact ⟨h.1, h.2⟩
def sumE (l : List S63) : Nat := (l.map fun c => c.f2.length).sum
theorem sumE_cons (c : S63) (l : List S63) : sumE (c :: l) = c.f2.length + sumE l := by simp [sumE]
theorem dropE (l : List S63) (i : Nat) (h : i < l.length) : l.drop i = rd_T63 l (i : Int) :: l.drop (i + 1) := by
  rw [List.drop_eq_getElem_cons h]
  unfold rd_T63
  rw [Int.toNat_natCast, List.getD_eq_getElem?_getD, List.getElem?_eq_getElem h]
  rfl
theorem dropF (l : List S65) (i : Nat) (h : i < l.length) : l.drop i = rd_T65 l (i : Int) :: l.drop (i + 1) := by
  rw [List.drop_eq_getElem_cons h]
  unfold rd_T65
  rw [Int.toNat_natCast, List.getD_eq_getElem?_getD, List.getElem?_eq_getElem h]
  rfl
theorem sumE_mem {l : List S63} {c : S63} (h : c ∈ l) : c.f2.length ≤ sumE l := by
  induction l with
  | nil => cases h
  | cons d l ih =>
    rw [sumE_cons]
    rcases List.mem_cons.1 h with rfl | h
    · omega
    · have := ih h; omega
theorem szEditS_l0 (l : List S63) (hw : ∀ c ∈ l, c.f2.length ≤ 9223372036854775807) (hl : l.length ≤ 1048576) : ∀ (d i k : Nat) (x : Int), i + d = l.length → d < k → 0 ≤ x → x ≤ 1048576 →
    laws_szEditS.l0 k l x (i : Int) = some (if (sumE (l.drop i) : Int) ≤ x then x - (sumE (l.drop i) : Int) else -1) := by
  intro d
  induction d with
  | zero =>
    intro i k x hi hk h0 h1
    obtain ⟨k, rfl⟩ : ∃ m, k = m + 1 := ⟨k - 1, by omega⟩
    simp only [laws_szEditS.l0]
    rw [if_neg (by omega), List.drop_of_length_le (by omega), show sumE [] = 0 from rfl, if_pos (by omega)]
    congr 1
    omega
  | succ d ih =>
    intro i k x hi hk h0 h1
    obtain ⟨k, rfl⟩ : ∃ m, k = m + 1 := ⟨k - 1, by omega⟩
    simp only [laws_szEditS.l0]
    have hd := dropE l i (by omega)
    have hmem : rd_T63 l (i : Int) ∈ l := List.mem_of_mem_drop (i := i) (by rw [hd]; exact List.mem_cons_self)
    rw [if_pos (by omega), if_pos (by omega), szEdit_f _ _ _ x h0 h1 (hw _ hmem), hd, sumE_cons]
    simp only [Option.bind_some]
    by_cases h : ((rd_T63 l (i : Int)).f2.length : Int) ≤ x
    · rw [if_pos h, if_neg (by omega), w64s i (by omega), ih (i + 1) k _ (by omega) (by omega) (by omega) (by omega)]
      by_cases h2 : (sumE (l.drop (i + 1)) : Int) ≤ x - ((rd_T63 l (i : Int)).f2.length : Int)
      · rw [if_pos h2, if_pos (by omega)]
        congr 1
        omega
      · rw [if_neg h2, if_neg (by omega)]
    · rw [if_neg h, if_pos (by omega), if_neg (by omega)]
theorem szEditS_f (l : List S63) (k : Nat) (x : Int) (h0 : 0 ≤ x) (h1 : x ≤ 1048576) (hm : l.length ≤ 9223372036854775807) (hw : ∀ c ∈ l, c.f2.length ≤ 9223372036854775807) (hk : 1048577 < k) :
    laws_szEditS.f k l x = some (if (l.length + sumE l : Int) ≤ x then x - (l.length + sumE l : Int) else -1) := by
  unfold laws_szEditS.f
  rw [w64 (x := x - (l.length : Int)) (by omega) (by omega)]
  by_cases h : (l.length : Int) ≤ x
  · rw [if_neg (by omega)]
    refine (szEditS_l0 l hw (by omega) l.length 0 k _ (by omega) (by omega) (by omega) (by omega)).trans ?_
    rw [List.drop_zero]
    by_cases h2 : (l.length + sumE l : Int) ≤ x
    · rw [if_pos h2, if_pos (by omega)]
      congr 1
      omega
    · rw [if_neg h2, if_neg (by omega)]
  · rw [if_pos (by omega), if_neg (by omega)]
def toE (l : List S63) : List S65 := l.map fun c => ⟨c.f0, c.f1, c.f2⟩
theorem rdE (l : List S63) (i : Nat) (h : i < l.length) : rd_T63 l (i : Int) ∈ l := List.mem_of_mem_drop (i := i) (by rw [dropE l i h]; exact List.mem_cons_self)
theorem rdF (l : List S65) (i : Nat) (h : i < l.length) : rd_T65 l (i : Int) ∈ l := List.mem_of_mem_drop (i := i) (by rw [dropF l i h]; exact List.mem_cons_self)
theorem toEditS_f (k : Nat) (l : List S63) (hl : l.length + sumE l ≤ 1048576) (hk : 2097154 < k) : laws_toEditS.f k l = some (toE l) := by
  have h := map_loop (L := fun k out i => laws_toEditS.l0 k l out i) l (fun c => (⟨c.f0, c.f1, c.f2⟩ : S65)) z63 1048577 (fun k out i hk hi ho => by
      simp only [laws_toEditS.l0]
      have hmem := rdE l i hi
      have := sumE_mem hmem
      rw [if_pos (by omega), if_pos (by omega), toEdit_f k _ _ _ (by omega) (by omega)]
      simp only [Option.bind_some]
      rw [if_pos (by omega), w64s i (by omega), Int.toNat_natCast]
      rfl) (fun k out ho => by
      simp only [laws_toEditS.l0]
      rw [if_neg (by omega)]) k (List.replicate ((l.length : Int)).toNat z65) (by omega) (by simp)
  unfold laws_toEditS.f
  rw [if_pos (by omega), if_pos (by omega)]
  exact h
theorem eqEditS_self (k : Nat) (l : List S65) (hl : l.length ≤ 1048576) (hw : ∀ c ∈ l, c.f2.length ≤ 1048576) (hk : 2097154 < k) : laws_eqEditS.f k l l = some true := by
  have key : ∀ (d i k : Nat), i + d = l.length → d + 1048577 < k → laws_eqEditS.l0 k l l (i : Int) = some true := by
    intro d
    induction d with
    | zero =>
      intro i k hi hk
      obtain ⟨k, rfl⟩ : ∃ m, k = m + 1 := ⟨k - 1, by omega⟩
      simp only [laws_eqEditS.l0]
      rw [if_neg (by omega)]
    | succ d ih =>
      intro i k hi hk
      obtain ⟨k, rfl⟩ : ∃ m, k = m + 1 := ⟨k - 1, by omega⟩
      simp only [laws_eqEditS.l0]
      have := hw _ (rdF l i (by omega))
      rw [if_pos (by omega), if_pos (by omega), if_pos (by omega), eqEdit_self k _ _ _ (by omega) (by omega)]
      simp only [Option.bind_some, if_true]
      rw [w64s i (by omega)]
      exact ih (i + 1) k (by omega) (by omega)
  unfold laws_eqEditS.f
  rw [if_pos rfl]
  exact key l.length 0 k (by omega) (by omega)
theorem specSm (x : S65) : spec_l05Small.f x.f0 x.f1 x.f2 = some (impl_areStacked.sm x) := by
  simp only [spec_l05Small.f, spec_l02Small.f, impl_areStacked.sm]
  by_cases h1 : 0 ≤ x.f0 <;> by_cases h2 : x.f0 ≤ 400 <;> by_cases h3 : 0 ≤ x.f1 <;> by_cases h4 : x.f1 ≤ 400 <;> simp [h1, h2, h3, h4]
  omega
theorem specAll_l0 (l : List S65) (hl : l.length ≤ 6) : ∀ (d i k : Nat), i + d = l.length → d < k → spec_l08All.l0 k l (i : Int) = some ((l.drop i).all impl_areStacked.sm) := by
  intro d
  induction d with
  | zero =>
    intro i k hi hk
    obtain ⟨k, rfl⟩ : ∃ m, k = m + 1 := ⟨k - 1, by omega⟩
    simp only [spec_l08All.l0]
    rw [if_neg (by omega), List.drop_of_length_le (by omega)]
    rfl
  | succ d ih =>
    intro i k hi hk
    obtain ⟨k, rfl⟩ : ∃ m, k = m + 1 := ⟨k - 1, by omega⟩
    simp only [spec_l08All.l0]
    rw [if_pos (by omega), if_pos (by omega), specSm, dropF l i (by omega), List.all_cons]
    simp only [Option.bind_some]
    rw [w64s i (by omega), ih (i + 1) k (by omega) (by omega)]
    cases impl_areStacked.sm (rd_T65 l (i : Int)) <;> simp
theorem specAll_f (k : Nat) (l : List S65) (hk : 10 < k) : spec_l08All.f k l = impl_areStacked.f l := by
  unfold spec_l08All.f impl_areStacked.f
  by_cases h : l.length ≤ 6
  · rw [if_neg (by omega), decide_eq_true h, Bool.true_and]
    refine (specAll_l0 l h l.length 0 k (by omega) (by omega)).trans ?_
    rw [List.drop_zero]
  · rw [if_pos (by omega), decide_eq_false h, Bool.false_and]
theorem FnExactStackOk (l0_0 : List S63) (l0_1 : List S63) (wl0_0 : (l0_0.length ≤ maxLen ∧ ∀ x ∈ l0_0, wf63 x)) (wl0_1 : (l0_1.length ≤ maxLen ∧ ∀ x ∈ l0_1, wf63 x)) : ∃ k, laws_FnExactStackOk.f k l0_0 l0_1 = some true := by
  have hm0 : l0_0.length ≤ 9223372036854775807 := by have := wl0_0.1; unfold maxLen at this; omega
  have hw0 : ∀ c ∈ l0_0, c.f2.length ≤ 9223372036854775807 := fun c hc => by have := (wl0_0.2 c hc).2.2.1; unfold maxLen at this; omega
  have hm1 : l0_1.length ≤ 9223372036854775807 := by have := wl0_1.1; unfold maxLen at this; omega
  have hw1 : ∀ c ∈ l0_1, c.f2.length ≤ 9223372036854775807 := fun c hc => by have := (wl0_1.2 c hc).2.2.1; unfold maxLen at this; omega
  refine ⟨3000000, ?_⟩
  generalize hk : (3000000 : Nat) = k
  unfold laws_FnExactStackOk.f laws_szStack.f
  rw [szEditS_f l0_0 k 1048576 (by omega) (by omega) hm0 hw0 (by omega), Option.bind_some]
  by_cases hl : (l0_0.length + sumE l0_0 : Int) ≤ 1048576
  · rw [if_pos hl, if_neg (by omega), szEditS_f l0_1 k _ (by omega) (by omega) hm1 hw1 (by omega), Option.bind_some]
    by_cases hl2 : (l0_1.length + sumE l0_1 : Int) ≤ 1048576 - (l0_0.length + sumE l0_0 : Int)
    · rw [if_pos hl2, if_neg (by omega), Option.bind_some, if_neg (by omega)]
      have ht : laws_toStack.f k l0_0 l0_1 = some (toE l0_0, toE l0_1) := by
        unfold laws_toStack.f
        rw [toEditS_f k l0_0 (by omega) (by omega), toEditS_f k l0_1 (by omega) (by omega)]
        rfl
      have hlen0 : (toE l0_0).length = l0_0.length := by simp [toE]
      have hlen1 : (toE l0_1).length = l0_1.length := by simp [toE]
      have hwt0 : ∀ c ∈ toE l0_0, c.f2.length ≤ 1048576 := fun c hc => by
        obtain ⟨d, hd, rfl⟩ := List.mem_map.1 hc
        have := sumE_mem hd
        show d.f2.length ≤ _
        omega
      have hwt1 : ∀ c ∈ toE l0_1, c.f2.length ≤ 1048576 := fun c hc => by
        obtain ⟨d, hd, rfl⟩ := List.mem_map.1 hc
        have := sumE_mem hd
        show d.f2.length ≤ _
        omega
      rw [ht]
      simp only [Option.bind_some]
      have hs : spec_StackOk.f k (toE l0_0) (toE l0_1) = impl_StackOk.f (toE l0_0) (toE l0_1) := by
        unfold spec_StackOk.f impl_StackOk.f impl_isStack.f
        rw [specAll_f k _ (by omega), specAll_f k _ (by omega)]
        cases h : impl_areStacked.f (toE l0_0) with
        | none => rfl
        | some b => cases b <;> simp [impl_areStacked.f]
      have hi : ∃ b, impl_StackOk.f (toE l0_0) (toE l0_1) = some b := by
        unfold impl_StackOk.f impl_isStack.f impl_areStacked.f
        simp only [Option.bind_some]
        split <;> exact ⟨_, rfl⟩
      obtain ⟨b, hb⟩ := hi
      rw [hs, hb]
      simp only [Option.bind_some]
      rw [show (b != b) = false by cases b <;> rfl, if_neg (by decide)]
      unfold laws_eqStack.f
      rw [eqEditS_self k _ (by omega) hwt0 (by omega), Option.bind_some, if_pos rfl, eqEditS_self k _ (by omega) hwt1 (by omega)]
      rfl
    · rw [if_neg hl2, if_pos (by omega), Option.bind_some, if_pos (by omega)]
  · rw [if_neg hl, if_pos (by omega), Option.bind_some, if_pos (by omega)]

end Go.Proofs.Ytjgbfhdhffhimaa.Pure
