/-
  The law FnExactRuneBytes in plain words: what the program's function computes is what the reference's computes. No memory, no machine.
-/
import Derived.Test.YtcjonnddgklbfaaPFnExactRuneBytesx
import Derived.Test.YtcjonnddgklbfaaGen
namespace Go.Proofs.Ytcjonnddgklbfaa.Pure
open Go.RowKit Go.Proofs.Ytcjonnddgklbfaa.PFnExactRuneBytes Go.Proofs.YtcjonnddgklbfaaW.PrintWords Go.Proofs.YtcjonnddgklbfaaW.PrintLast Go.Proofs.YtcjonnddgklbfaaW.PrintMore Go.Proofs.Ytcjonnddgklbfaa.Gen
set_option linter.unusedVariables false
set_option linter.unusedSimpArgs false

theorem wf_i64 {x : Int} (h : (Lit.int .i64 x).wf = true) : -9223372036854775808 ≤ x ∧ x ≤ 9223372036854775807 := by
  simp only [Lit.wf, Bool.and_eq_true, decide_eq_true_eq] at h
  exact ⟨h.1, h.2⟩
theorem wf_u8 {x : Int} (h : (Lit.int .u8 x).wf = true) : 0 ≤ x ∧ x ≤ 255 := by
  simp only [Lit.wf, Bool.and_eq_true, decide_eq_true_eq] at h
  exact ⟨h.1, h.2⟩
/-- A code point. -/
def isCp (r : Int) : Prop := 0 ≤ r ∧ r ≤ 1114111 ∧ ¬ (55296 ≤ r ∧ r ≤ 57343)
instance (r : Int) : Decidable (isCp r) := by unfold isCp; infer_instance
/-- Its encoding. -/
def rb (r : Int) : List Int :=
  if r < 128 then [r] else if r < 2048 then [192 + r / 64, 128 + r % 64] else if r < 65536 then [224 + r / 4096, 128 + r / 64 % 64, 128 + r % 64]
  else [240 + r / 262144, 128 + r / 4096 % 64, 128 + r / 64 % 64, 128 + r % 64]
theorem rb_length (r : Int) : (rb r).length ≤ 4 := by
  unfold rb
  (repeat' split) <;> simp
theorem by256 {x : Int} (h0 : 0 ≤ x) (h1 : x ≤ 255) : wrap64 x % 256 = x := by unfold wrap64; omega
theorem specRB_f (k : Nat) (hk : 1 ≤ k) (r : Int) : spec_RuneBytes.f k r = some (if isCp r then rb r else []) := by
  obtain ⟨k, rfl⟩ : ∃ m, k = m + 1 := ⟨k - 1, by omega⟩
  by_cases h0 : r < 0
  · have hn : ¬ isCp r := fun h => by unfold isCp at h; omega
    simp only [spec_RuneBytes.f, spec_RuneBytes.j0]
    rw [if_pos h0, if_neg hn]
    simp
  by_cases h1 : r > 1114111
  · have hn : ¬ isCp r := fun h => by unfold isCp at h; omega
    simp only [spec_RuneBytes.f, spec_RuneBytes.j0]
    rw [if_neg h0, if_pos h1, if_neg hn]
    simp
  have key : ∀ b : Bool, (b = true ↔ 55296 ≤ r ∧ r ≤ 57343) → spec_RuneBytes.j0 (k + 1) r b = some (if isCp r then rb r else []) := by
    intro b hb
    simp only [spec_RuneBytes.j0]
    by_cases h2 : b = true
    · have hn : ¬ isCp r := fun h => by have := hb.1 h2; unfold isCp at h; omega
      rw [if_pos h2, if_neg hn]
    · have hc : isCp r := ⟨by omega, by omega, fun h => h2 (hb.2 h)⟩
      rw [if_neg h2, if_pos hc, Int.tdiv_eq_ediv_of_nonneg (by omega), Int.tdiv_eq_ediv_of_nonneg (by omega), Int.tdiv_eq_ediv_of_nonneg (by omega), Int.tmod_eq_emod_of_nonneg (by omega)]
      have e1 : wrap64 (r / 64) = r / 64 := w64 (by omega) (by omega)
      have e2 : wrap64 (r / 4096) = r / 4096 := w64 (by omega) (by omega)
      have e3 : wrap64 (r / 262144) = r / 262144 := w64 (by omega) (by omega)
      rw [e1, e2, e3, Int.tmod_eq_emod_of_nonneg (by omega), Int.tmod_eq_emod_of_nonneg (by omega)]
      unfold rb
      by_cases c1 : r < 128
      · rw [if_pos c1, if_pos c1, show r % 256 = r by omega]
      · rw [if_neg c1, if_neg c1]
        by_cases c2 : r < 2048
        · rw [if_pos c2, if_pos c2, by256 (by omega) (by omega), by256 (by omega) (by omega)]
        · rw [if_neg c2, if_neg c2]
          by_cases c3 : r < 65536
          · rw [if_pos c3, if_pos c3, by256 (by omega) (by omega), by256 (by omega) (by omega), by256 (by omega) (by omega)]
          · rw [if_neg c3, if_neg c3, by256 (by omega) (by omega), by256 (by omega) (by omega), by256 (by omega) (by omega), by256 (by omega) (by omega)]
  unfold spec_RuneBytes.f
  rw [if_neg h0, if_neg h1]
  by_cases h2 : r ≥ 55296
  · rw [if_pos h2]
    exact key _ (by rw [decide_eq_true_eq]; omega)
  · rw [if_neg h2]
    exact key _ ⟨fun h => (by cases h), fun h => (by omega)⟩
theorem eqByteS_f (k : Nat) (l l' : List Int) (hk : l.length < k) (hl : l.length ≤ 1048576) : laws_eqByteS.f k l l' = some (decide (l = l')) := by
  unfold laws_eqByteS.f
  by_cases e : l.length = l'.length
  · rw [if_pos (by omega)]
    obtain ⟨b, h, hb⟩ := all_loop (L := fun k i => laws_eqByteS.l0 k l l' i) l.length 0 (fun i => decide (l.getD i 0 = l'.getD i 0)) (fun k i _ hi => by
      simp only [laws_eqByteS.l0]
      rw [if_pos (by omega), if_pos (by omega), if_pos (by omega), w64s i (by omega), rd_nat, rd_nat]
      simp only [decide_eq_true_eq]) (fun k => by
      simp only [laws_eqByteS.l0]
      rw [if_neg (by omega)]) k (by omega)
    refine h.trans ?_
    congr 1
    simp only [decide_eq_true_eq] at hb
    rw [Bool.eq_iff_iff, decide_eq_true_eq]
    exact hb.trans (eq_of_getD 0 e)
  · rw [if_neg (by omega)]
    congr 1
    symm
    exact decide_eq_false (fun h => e (by rw [h]))
theorem eqByteS_self (k : Nat) (l : List Int) (hk : l.length < k) (hl : l.length ≤ 1048576) : laws_eqByteS.f k l l = some true := by
  rw [eqByteS_f k l l hk hl]; simp
theorem markByteS_f (k : Nat) (l : List Int) (m : Int) (hk : l.length < k) (hl : l.length ≤ 1048576) (h0 : 0 ≤ m) (h1 : m ≤ 4611686018427387904) : laws_markByteS.f k l m = some (m + (l.length : Int), marks l.length m) := by
  unfold laws_markByteS.f
  exact mark_loop (L := fun k out x i => laws_markByteS.l0 k out x i) l.length m (fun k out i hi ho => by
    simp only [laws_markByteS.l0]
    rw [if_pos (by omega), if_pos (by omega), w64s i (by omega), w64 (x := m + (i : Int) + 1) (by omega) (by omega)]
    congr 1
    omega) (fun k out ho => by
    simp only [laws_markByteS.l0]
    rw [if_neg (by omega)]) k l (by omega) rfl
theorem heldByteS_f (k : Nat) (n : Nat) (m : Int) (hk : n < k) (hl : n ≤ 1048576) (h0 : 0 ≤ m) (h1 : m ≤ 4611686018427387904) : laws_heldByteS.f k (marks n m) m = some (m + (n : Int)) := by
  unfold laws_heldByteS.f
  have hm := marks_length n m
  exact held_loop (L := fun k x i => laws_heldByteS.l0 k (marks n m) x i) n m (fun k i hi => by
    simp only [laws_heldByteS.l0]
    rw [if_pos (by omega), if_pos (by omega), rd_nat, if_pos (marks_getD n m i hi), w64s i (by omega), w64 (x := m + (i : Int) + 1) (by omega) (by omega)]
    congr 1
    omega) (fun k => by
    simp only [laws_heldByteS.l0]
    rw [if_neg (by omega)]) k (by omega)
theorem or192 {x : Int} (h0 : 0 ≤ x) (h1 : x < 32) : Go.bits .or .u8 192 x = 192 + x := Go.u8_or192 x h0 h1
theorem implRB_f (k : Nat) (hk : 2 ≤ k) (r : Int) : impl_RuneBytes.f k r = some (if isCp r then rb r else []) := by
  obtain ⟨k, rfl⟩ : ∃ m, k = m + 2 := ⟨k - 2, by omega⟩
  have hin : impl_in.f r 0 1114111 = some (decide (0 ≤ r ∧ r ≤ 1114111)) := by
    unfold impl_in.f
    by_cases h : 0 ≤ r <;> simp [h]
  unfold impl_RuneBytes.f
  rw [hin]
  simp only [Option.bind_some]
  by_cases h0 : 0 ≤ r ∧ r ≤ 1114111
  · rw [w32 (by omega) (by omega)]
    have hv : utf8_ValidRune.f (k + 2) r = some (decide (isCp r)) := by
      simp only [utf8_ValidRune.f, utf8_ValidRune.j0]
      by_cases c1 : r < 55296
      · have hc : isCp r := ⟨by omega, by omega, by omega⟩
        simp [h0.1, c1, hc]
      · by_cases c2 : 57343 < r
        · have hc : isCp r := ⟨by omega, by omega, by omega⟩
          simp [h0.1, h0.2, c1, c2, hc]
        · have hc : ¬ isCp r := fun h => by unfold isCp at h; omega
          simp [h0.1, c1, c2, hc]
    rw [hv]
    by_cases hc : isCp r
    · have ha : utf8_AppendRune.f (k + 2) [] r = some (rb r) := by
        have hm : r % 4294967296 = r := by omega
        unfold isCp at hc
        unfold utf8_AppendRune.f
        rw [hm]
        unfold rb
        by_cases c1 : r ≤ 127
        · rw [if_pos c1, if_pos (show r < 128 by omega), if_pos (by decide), show r % 256 = r by omega]
          rfl
        · rw [if_neg c1, if_neg (show ¬ r < 128 by omega)]
          simp only [utf8_appendRuneNonASCII.f, utf8_appendRuneNonASCII.j0, Option.bind_some, hm]
          by_cases c2 : r ≤ 2047
          · rw [if_pos c2, if_pos (show r < 2048 by omega), if_pos (by simp), Option.bind_some, List.nil_append, show r / 64 % 256 = r / 64 by omega, or192 (by omega) (by omega)]
          · rw [if_neg c2, if_neg (show ¬ r < 2048 by omega)]
            by_cases c3 : r < 65536
            · have e : Go.bits .or .u8 224 (r / 4096 % 256) = 224 + r / 4096 := by rw [show r / 4096 % 256 = r / 4096 by omega]; exact Go.u8_or224 _ (by omega) (by omega)
              rw [if_pos c3, e]
              by_cases c4 : r < 55296
              · simp [c4]
              · have c5 : 57343 < r := by omega
                have c6 : r ≤ 65535 := by omega
                simp [c4, c5, c6]
            · have e : Go.bits .or .u8 240 (r / 262144 % 256) = 240 + r / 262144 := by rw [show r / 262144 % 256 = r / 262144 by omega]; exact Go.u8_or240 _ (by omega) (by omega)
              have c4 : ¬ r < 55296 := by omega
              have c5 : 57343 < r := by omega
              have c6 : ¬ r ≤ 65535 := by omega
              have c7 : 65535 < r := by omega
              rw [if_neg c3, e]
              simp [c4, c5, c6, c7, h0.2]
      rw [ha]
      simp [h0.1, h0.2, hc]
    · simp [h0.1, h0.2, hc]
  · have hc : ¬ isCp r := fun h => h0 ⟨h.1, h.2.1⟩
    simp only [decide_eq_true_eq, if_neg h0, if_neg hc]
theorem FnExactRuneBytes (a0 : Int) (wa0 : (Lit.int .i64 a0).wf = true) : ∃ k, laws_FnExactRuneBytes.f k a0 = some true := by
  refine ⟨8, ?_⟩
  generalize hk : (8 : Nat) = k
  unfold laws_FnExactRuneBytes.f
  rw [specRB_f k (by omega), implRB_f k (by omega)]
  simp only [Option.bind_some]
  generalize hL : (if isCp a0 then rb a0 else []) = L
  have hl : L.length ≤ 4 := by
    rw [← hL]
    split
    · exact rb_length a0
    · simp
  rw [eqByteS_self k L (by omega) (by omega), markByteS_f k L 1 (by omega) (by omega) (by omega) (by omega)]
  simp only [Option.bind_some, if_true]
  rw [heldByteS_f k L.length 1 (by omega) (by omega) (by omega) (by omega)]
  simp only [Option.bind_some, if_true]
  have hn : ¬ (1 + (L.length : Int) < 0) := by omega
  simp [hn]

end Go.Proofs.Ytcjonnddgklbfaa.Pure
