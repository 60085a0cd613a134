-- Written by wip/xprint.py (the session's program over the kit's printer) for the claim of FnExactFingOk; Lean checks it.
import Derived.Test.YtjkipaipaobibaaPFnExactFingOkx0
import Derived.Test.YtjkipaipaobibaaPFnExactFingOkx1
import Derived.Test.YtjkipaipaobibaaPFnExactFingOkx2
import Derived.Test.YtjkipaipaobibaaPFnExactFingOkx5
import Derived.Test.YtjkipaipaobibaaPFnExactFingOkx6
namespace Go.Proofs.Ytjkipaipaobibaa.PFnExactFingOk
open Go.RowKit Go.Proofs.YtjkipaipaobibaaW.PrintWords Go.Proofs.YtjkipaipaobibaaW.PrintLast Go.Proofs.YtjkipaipaobibaaW.PrintMore
attribute [local go_sem] max2_int min2_int max_two min_two max_three min_three max_four min_four   -- for this text's walks alone
set_option linter.unusedVariables false
set_option linter.unusedSimpArgs false

/-! ### impl_Level_isSingle: function 43 -/
def impl_Level_isSingle.f (l0_0 : List ByteArray) (l0_1 : List ByteArray) : Option (Bool) := if (l0_0.length : Int) = 1 then (some ((l0_1.length : Int) == 0)) else (some false)
set_option maxHeartbeats 8000000 in
set_option maxRecDepth 100000 in
theorem impl_Level_isSingle.calls (A0_0 : Option Addr) (c0_0 : Nat) (l0_0 : List ByteArray) (A0_1 : Option Addr) (c0_1 : Nat) (l0_1 : List ByteArray) (r : Bool) (w : World) (hr0_0 : Kd.C Kd.string w A0_0 l0_0.length l0_0) (hc0_0 : l0_0.length ≤ c0_0) (hr0_1 : Kd.C Kd.string w A0_1 l0_1.length l0_1) (hc0_1 : l0_1.length ≤ c0_1) (h : impl_Level_isSingle.f l0_0 l0_1 = some r) :
    Calls Try.prog 43 #[.agg #[.slice A0_0 l0_0.length c0_0, .slice A0_1 l0_1.length c0_1]] w fun e w' => e = .returned (.bool r) ∧ Below w.heap.size w w' := by
  have hu43 := Try.underlying43
  have HR0_0 := Aside0.mk hr0_0
  have HC0_0 := Aside0.mk hc0_0
  clear hr0_0 hc0_0
  have HR0_1 := Aside0.mk hr0_1
  have HC0_1 := Aside0.mk hc0_1
  clear hr0_1 hc0_1
  have HB := Aside0.mk (Below.refl w.heap.size w)
  have H : (if (l0_0.length : Int) = 1 then (some ((l0_1.length : Int) == 0)) else (some false)) = some r := h
  clear h
  by_cases c2 : (l0_0.length : Int) = 1
  · rw [if_pos c2] at H
    have c2b0 : ((l0_0.length : Int) == 1) = true := beq_iff_eq.mpr c2
    have c2b1 : ((l0_0.length : Int) != 1) = false := bne_eq_false_iff_eq.mpr c2
    clear c2
    obtain rfl := Option.some.inj H
    go_enter Try.func43, Try.ntmps43
    go_wp2_with (first | ((with_reducible refine gate_dst (N := 1) rfl ?_); (try (refine gate_guard (by rfl) ?_; dsimp only)); refine box_event ?hg (N := 1) ?hd (cs := #[.slice A0_0 l0_0.length c0_0, .slice A0_1 l0_1.length c0_1]) (t := 43) ?hr ?_; (case hd => rfl); (case hg => rfl); (case hr => first | (go_simp; done) | (go_simp; rfl)); intro gb189 hg w3 hbox hb; have n0_ := Aside0.mk (below_step (by repeat (first | (with_reducible first | exact HB.out | apply below_alloc | apply pw_below_drewN | apply below_drew1) | exact HB.out)) hb); have n1_ := Aside0.mk (hbox); have n2_ := Aside0.mk ((by rw [hg]; exact (below_size (by repeat (first | (with_reducible first | exact HB.out | apply below_alloc | apply pw_below_drewN | apply below_drew1) | exact HB.out))) : w.heap.size ≤ gb189)); have n3_ := Aside0.mk ((by rw [hg]; exact (below_size (by repeat (first | (with_reducible first | exact HB.out | apply below_alloc | apply pw_below_drewN | apply below_drew1) | exact HB.out))) : w.heap.size ≤ gb189)); clear HB; have HB := n0_; have BK189 := n1_; have GW189 := n2_; have GE189 := n3_; clear n0_ n1_ n2_ n3_; clear hb hbox hg; have hcz4_0 : w3.cell? ⟨gb189, 0, none⟩ = some (.slice A0_0 l0_0.length c0_0) := (blk_cell BK189.out 0).trans rfl; have hcz4_1 : w3.cell? ⟨gb189, 1, none⟩ = some (.slice A0_1 l0_1.length c0_1) := (blk_cell BK189.out 1).trans rfl; have hfz4_0 := blk_frozen BK189.out 0; have hfz4_1 := blk_frozen BK189.out 1))
    go_ret
    exact ⟨by first | rfl | (simp [errW_none, errW_some] <;> rfl) | (simp [*, errW_none, errW_some] <;> rfl), by repeat (first | (with_reducible first | exact HB.out | apply below_alloc | apply pw_below_drewN | apply below_drew1 | refine below_set ?_ GE189.out) | exact HB.out)⟩
  · rw [if_neg c2] at H
    have c2b0 : ((l0_0.length : Int) == 1) = false := beq_eq_false_iff_ne.mpr c2
    have c2b1 : ((l0_0.length : Int) != 1) = true := bne_iff_ne.mpr c2
    obtain rfl := Option.some.inj H
    go_enter Try.func43, Try.ntmps43
    go_wp2_with (first | ((with_reducible refine gate_dst (N := 1) rfl ?_); (try (refine gate_guard (by rfl) ?_; dsimp only)); refine box_event ?hg (N := 1) ?hd (cs := #[.slice A0_0 l0_0.length c0_0, .slice A0_1 l0_1.length c0_1]) (t := 43) ?hr ?_; (case hd => rfl); (case hg => rfl); (case hr => first | (go_simp; done) | (go_simp; rfl)); intro gb189 hg w5 hbox hb; have n0_ := Aside0.mk (below_step (by repeat (first | (with_reducible first | exact HB.out | apply below_alloc | apply pw_below_drewN | apply below_drew1) | exact HB.out)) hb); have n1_ := Aside0.mk (hbox); have n2_ := Aside0.mk ((by rw [hg]; exact (below_size (by repeat (first | (with_reducible first | exact HB.out | apply below_alloc | apply pw_below_drewN | apply below_drew1) | exact HB.out))) : w.heap.size ≤ gb189)); have n3_ := Aside0.mk ((by rw [hg]; exact (below_size (by repeat (first | (with_reducible first | exact HB.out | apply below_alloc | apply pw_below_drewN | apply below_drew1) | exact HB.out))) : w.heap.size ≤ gb189)); clear HB; have HB := n0_; have BK189 := n1_; have GW189 := n2_; have GE189 := n3_; clear n0_ n1_ n2_ n3_; clear hb hbox hg; have hcz6_0 : w5.cell? ⟨gb189, 0, none⟩ = some (.slice A0_0 l0_0.length c0_0) := (blk_cell BK189.out 0).trans rfl; have hcz6_1 : w5.cell? ⟨gb189, 1, none⟩ = some (.slice A0_1 l0_1.length c0_1) := (blk_cell BK189.out 1).trans rfl; have hfz6_0 := blk_frozen BK189.out 0; have hfz6_1 := blk_frozen BK189.out 1))
    go_ret
    exact ⟨by first | rfl | (simp [errW_none, errW_some] <;> rfl) | (simp [*, errW_none, errW_some] <;> rfl), by repeat (first | (with_reducible first | exact HB.out | apply below_alloc | apply pw_below_drewN | apply below_drew1 | refine below_set ?_ GE189.out) | exact HB.out)⟩


/-! ### impl_isFing: function 26 -/
def IF.sg (x : S43) : Bool := decide (x.f0.length = 1 ∧ x.f1.length = 0)
def IF.rg (n : Nat) : Bool := decide (1 ≤ n ∧ n ≤ 4)
/-- A level that is bad by its bounds alone. -/
def IF.bad (n : Nat) (x : S43) (d : Nat) : Bool := if IF.sg x = true then decide (d + 1 < n) else (!IF.rg x.f0.length || !IF.rg x.f1.length)
def IF.ns (k : Nat) (d : Int) : List ByteArray → Option Bool
  | [] => some true
  | s :: t => (impl_isNode.f k s d).bind fun b => if b = true then IF.ns k d t else some false
def IF.lv (k n : Nat) : List S43 → Nat → Option Bool
  | [], _ => some true
  | x :: t, d => if IF.bad n x d = true then some false else (IF.ns k (d : Int) (x.f0 ++ x.f1)).bind fun b => if b = true then IF.lv k n t (d + 1) else some false
def impl_isFing.f (k : Nat) (l0_0 : List S43) : Option Bool := if l0_0.length ≤ 1048576 ∧ (∀ x ∈ l0_0, x.f0.length + x.f1.length ≤ 1048576) then (IF.lv k l0_0.length l0_0 0).bind fun b => if b = true then (impl_Fing_leaves.f l0_0).bind fun t => some (decide (t ≤ 200)) else some false else none
theorem IF.ns_mono (k : Nat) (d : Int) : ∀ l : List ByteArray, LeO (IF.ns k d l) (IF.ns (k + 1) d l) := by
  intro l
  induction l with
  | nil => exact LeO.refl _
  | cons s t ih => unfold IF.ns; exact LeO.bind (impl_isNode.mono _ _ _) (fun _ => LeO.ite ih (LeO.refl _))
theorem IF.lv_mono (k n : Nat) : ∀ (l : List S43) (d : Nat), LeO (IF.lv k n l d) (IF.lv (k + 1) n l d) := by
  intro l
  induction l with
  | nil => intro d; exact LeO.refl _
  | cons s t ih => intro d; unfold IF.lv; exact LeO.ite (LeO.refl _) (LeO.bind (IF.ns_mono _ _ _) (fun _ => LeO.ite (ih _) (LeO.refl _)))
theorem impl_isFing.mono : ∀ a0 k, LeO (impl_isFing.f k a0) (impl_isFing.f (k + 1) a0) := by
  intro a0 k
  unfold impl_isFing.f
  exact LeO.ite (LeO.bind (IF.lv_mono _ _ _ _) (fun _ => LeO.refl _)) (LeO.none _)
theorem IF.sg_f (x : S43) : impl_Level_isSingle.f x.f0 x.f1 = some (IF.sg x) := by
  unfold impl_Level_isSingle.f IF.sg
  by_cases h : (x.f0.length : Int) = 1
  · rw [if_pos h]
    congr 1
    by_cases h2 : x.f1.length = 0
    · rw [decide_eq_true (⟨by omega, h2⟩ : x.f0.length = 1 ∧ x.f1.length = 0), h2]; rfl
    · rw [decide_eq_false (fun e : x.f0.length = 1 ∧ x.f1.length = 0 => h2 e.2)]
      exact beq_eq_false_iff_ne.2 (by omega)
  · rw [if_neg h, decide_eq_false (fun e : x.f0.length = 1 ∧ x.f1.length = 0 => h (by omega))]
theorem IF.rg_f (n : Nat) : impl_in.f (n : Int) 1 4 = some (IF.rg n) := by
  unfold impl_in.f IF.rg
  by_cases h : (1 : Int) ≤ (n : Int)
  · rw [if_pos h]
    congr 1
    by_cases h2 : n ≤ 4
    · rw [decide_eq_true (by omega : (n : Int) ≤ 4), decide_eq_true ⟨by omega, h2⟩]
    · rw [decide_eq_false (by omega : ¬ (n : Int) ≤ 4), decide_eq_false (fun e : 1 ≤ n ∧ n ≤ 4 => h2 e.2)]
  · rw [if_neg h, decide_eq_false (fun e : 1 ≤ n ∧ n ≤ 4 => h (by omega))]
theorem IF.drop {L : List ByteArray} {j : Nat} (hj : j < L.length) : L.drop j = rdOf ByteArray.empty L (j : Int) :: L.drop (j + 1) := by
  unfold rdOf
  rw [Int.toNat_natCast, List.getD_eq_getElem?_getD, List.getElem?_eq_getElem hj, List.drop_eq_getElem_cons hj]
  rfl
theorem IF.dropL {L : List S43} {j : Nat} (hj : j < L.length) : L.drop j = rd_T43 L (j : Int) :: L.drop (j + 1) := by
  unfold rd_T43
  rw [Int.toNat_natCast, List.getD_eq_getElem?_getD, List.getElem?_eq_getElem hj, List.drop_eq_getElem_cons hj]
  rfl
set_option maxHeartbeats 16000000 in
set_option maxRecDepth 1000000 in
/-- A tree is valid. -/
theorem impl_isFing.calls (k : Nat) (A0_0 : Option Addr) (c0_0 : Nat) (l0_0 : List S43) (r : Bool) (w : World) (hr0_0 : Kd.C k43 w A0_0 l0_0.length l0_0) (hc0_0 : l0_0.length ≤ c0_0) (h : impl_isFing.f k l0_0 = some r) :
    Calls Try.prog 26 #[.agg #[.slice A0_0 l0_0.length c0_0]] w fun e w' => e = .returned (.bool r) ∧ Below w.heap.size w w' := by
  have hu_ := Try.underlying43
  have hv_ := Try.underlying29
  unfold impl_isFing.f at h
  by_cases hs : l0_0.length ≤ 1048576 ∧ (∀ x ∈ l0_0, x.f0.length + x.f1.length ≤ 1048576)
  case neg => rw [if_neg hs] at h; cases h
  rw [if_pos hs] at h
  obtain ⟨bb, h1, h⟩ := Option.bind_eq_some_iff.1 h
  have HF := Aside0.mk h
  have H := Aside0.mk h1
  have HS := Aside0.mk hs
  have HR := Aside0.mk hr0_0
  have HC := Aside0.mk hc0_0
  clear hs hr0_0 hc0_0 h h1
  have HB := Aside0.mk (Below.refl w.heap.size w)
  go_enter Try.func26, Try.ntmps26
  go_wp2_with (first | ((with_reducible refine gate_dst (N := 1) rfl ?_); refine box_event ?hg (N := 1) ?hd (cs := #[.slice A0_0 l0_0.length c0_0]) (t := 29) ?hr ?_; (case hd => rfl); (case hg => rfl); (case hr => first | (go_simp; done) | (go_simp; rfl)); intro gbf hg w3 hbox hb; have n0_ := Aside0.mk (below_step (by repeat (first | exact HB.out | apply below_alloc | apply pw_below_drewN | apply below_drew1)) hb); have BKF := Aside0.mk hbox; clear HB hb hbox; have HB := n0_; clear n0_ hg; have hczf : w3.cell? ⟨gbf, 0, none⟩ = some (.slice A0_0 l0_0.length c0_0) := (blk_cell BKF.out 0).trans rfl; have hfzf := blk_frozen BKF.out 0))
  repeat (go_quiet (fail); try go_wp2)
  go_loopg [10] (l0_0.length + 1) (fun kx v10 w' => ∃ i : Nat, v10 = .int .i64 (i : Int) ∧ Aside0 (i ≤ l0_0.length) ∧ Aside0 (l0_0.length - i < kx) ∧ Aside0 (IF.lv k l0_0.length (l0_0.drop i) i = some bb) ∧ Aside0 (w'.heap[gbf]? = some (.cells #[.slice A0_0 l0_0.length c0_0] 29 (0, 0))) ∧ Aside0 (Below w.heap.size w w'))
  case atStart => exact ⟨0, rfl, ⟨Nat.zero_le _⟩, ⟨by omega⟩, H, ⟨by (with_reducible repeat (first | refine blk_drewN ?_ _ | refine blk_drew ?_ | refine blk_alloc ?_ _)); exact BKF.out⟩, ⟨by repeat (first | exact HB.out | apply below_alloc | apply pw_below_drewN | apply below_drew1)⟩⟩
  case round =>
    clear HB BKF hczf hfzf H
    obtain ⟨i, rfl, HI, HK, H, BKF, HB⟩ := hrel
    have hczf : wr.cell? ⟨gbf, 0, none⟩ = some (.slice A0_0 l0_0.length c0_0) := (blk_cell BKF.out 0).trans rfl
    have hfzf := blk_frozen BKF.out 0
    by_cases hi : i < l0_0.length
    · have c3 : decide ((i : Int) < (l0_0.length : Int)) = true := decide_eq_true (by omega)
      have p0 : 0 ≤ (i : Int) := by omega
      have q0 : (i : Int) < (l0_0.length : Int) := by omega
      obtain ⟨ad, A1, c1, A2, c2, e1, hx0, hx1, hl1, hi1, hl2, hi2⟩ := at_T43 HR.out (i : Int) p0 q0
      subst e1
      rw [Int.toNat_natCast] at hx0 hx1
      (try replace hx0 := (HB.out.cell (World.block_lt_of_cell? w _ hx0)).trans hx0)
      (try replace hx1 := (HB.out.cell (World.block_lt_of_cell? w _ hx1)).trans hx1)
      have hm := HS.out.2 _ (FL.mem hi)
      have h := H.out
      rw [IF.dropL hi] at h
      generalize hrd : rd_T43 l0_0 (i : Int) = x at *
      obtain ⟨L, hL⟩ : ∃ L : List ByteArray, L = x.f0 ++ x.f1 := ⟨_, rfl⟩
      have hcat := CC.cat _ _ hm
      unfold IF.lv at h
      rw [← hL] at h hcat
      have HM := Aside0.mk hcat
      have HLn := Aside0.mk ((by rw [hL, List.length_append]; exact hm) : L.length ≤ 1048576)
      have hw3 : wrap64 ((i : Int) + 1) = ((i + 1 : Nat) : Int) := by unfold wrap64; have := HS.out.1; omega
      have hw5 : wrap64 ((l0_0.length : Int) - 1) = (l0_0.length : Int) - 1 := by unfold wrap64; have := HS.out.1; omega
      have hsg := IF.sg_f x
      have hin1 := IF.rg_f x.f0.length
      have hin2 := IF.rg_f x.f1.length
      have HW := Aside0.mk hi
      have HX1 := Aside0.mk hi1
      have HX2 := Aside0.mk hi2
      have HL1 := Aside0.mk hl1
      have HL2 := Aside0.mk hl2
      clear hrd hi hi1 hi2 hl1 hl2 hm hcat hL H
      cases hs1 : IF.sg x with
      | true =>
        rw [hs1] at hsg
        have hbd : IF.bad l0_0.length x i = decide (i + 1 < l0_0.length) := by unfold IF.bad; rw [hs1]; rfl
        rw [hbd] at h
        clear hbd
        have HSG := Aside0.mk hsg
        clear hsg hin1 hin2 hs1
        by_cases h5 : i + 1 < l0_0.length
        · have c5 : decide ((i : Int) < (l0_0.length : Int) - 1) = true := decide_eq_true (by omega)
          rw [decide_eq_true h5, if_pos rfl] at h
          obtain rfl := Option.some.inj h
          have hf := HF.out
          rw [if_neg (by decide)] at hf
          obtain rfl := Option.some.inj hf
          clear h hf h5
          go_wp2_with (first | ((with_reducible refine gate_dst (N := 4) rfl ?_); refine box_event ?hg (N := 4) ?hd (cs := #[.slice none 0 0, .slice none 0 0]) (t := 43) ?hr ?_; (case hd => rfl); (case hg => rfl); (case hr => first | (go_simp; done) | (go_simp; rfl)); intro gb hg w5 hbox hb; have NE := Aside0.mk ((by rw [hg]; exact Nat.ne_of_lt (blk_lt (g := gbf) (o := .cells #[.slice (some ad) l0_0.length c0_0] 29 (0, 0)) (by (with_reducible repeat (first | refine blk_drewN ?_ _ | refine blk_drew ?_ | refine blk_alloc ?_ _)); exact BKF.out))) : gbf ≠ gb); have n1_ := Aside0.mk (blk_below (g := gbf) (o := .cells #[.slice (some ad) l0_0.length c0_0] 29 (0, 0)) (by (with_reducible repeat (first | refine blk_drewN ?_ _ | refine blk_drew ?_ | refine blk_alloc ?_ _)); exact BKF.out) hb); have GE := Aside0.mk ((by rw [hg]; exact (below_size (by repeat (first | exact HB.out | apply below_alloc | apply pw_below_drewN | apply below_drew1)))) : w.heap.size ≤ gb); have n0_ := Aside0.mk (below_step (by repeat (first | exact HB.out | apply below_alloc | apply pw_below_drewN | apply below_drew1)) hb); have BK := Aside0.mk hbox; clear HB hb hbox BKF hczf hfzf; have HB := n0_; have BKF := n1_; clear n0_ n1_ hg; have hcz0 : w5.cell? ⟨gb, 0, none⟩ = some (.slice none 0 0) := (blk_cell BK.out 0).trans rfl; have hcz1 : w5.cell? ⟨gb, 1, none⟩ = some (.slice none 0 0) := (blk_cell BK.out 1).trans rfl; have hfz0 := blk_frozen BK.out 0; have hfz1 := blk_frozen BK.out 1) | (go_at_call 43; refine (impl_Level_isSingle.calls A1 c1 x.f0 A2 c2 x.f1 true _ (Kd.C_below HX1.out (by repeat (first | exact HB.out | apply below_alloc | apply pw_below_drewN | apply below_drew1 | refine below_set ?_ GE.out))) HL1.out (Kd.C_below HX2.out (by repeat (first | exact HB.out | apply below_alloc | apply pw_below_drewN | apply below_drew1 | refine below_set ?_ GE.out))) HL2.out HSG.out).mono ?_; rintro e w7 ⟨rfl, hb⟩; have n0_ := Aside0.mk (below_step (by repeat (first | exact HB.out | apply below_alloc | apply pw_below_drewN | apply below_drew1 | refine below_set ?_ GE.out)) hb); have n1_ := Aside0.mk (blk_below (g := gbf) (o := .cells #[.slice (some ad) l0_0.length c0_0] 29 (0, 0)) (by refine blk_far ?_ NE.out _; refine blk_far ?_ NE.out _; exact BKF.out) hb); have n2_ := Aside0.mk (blk_below (g := gb) (o := .cells #[.slice A1 x.f0.length c1, .slice A2 x.f1.length c2] 43 (0, 0)) (by refine blk_put (cs := #[.slice A1 x.f0.length c1, .slice none 0 0]) ?_ 1 _ rfl; refine blk_put (cs := #[.slice none 0 0, .slice none 0 0]) ?_ 0 _ rfl; exact BK.out) hb); clear HB hb BKF BK hcz0 hcz1 hfz0 hfz1; have HB := n0_; have BKF := n1_; have BK := n2_; clear n0_ n1_ n2_; have hcz0 : w7.cell? ⟨gb, 0, none⟩ = some (.slice A1 x.f0.length c1) := (blk_cell BK.out 0).trans rfl; have hcz1 : w7.cell? ⟨gb, 1, none⟩ = some (.slice A2 x.f1.length c2) := (blk_cell BK.out 1).trans rfl; have hfz0 := blk_frozen BK.out 0; have hfz1 := blk_frozen BK.out 1; have hczf : w7.cell? ⟨gbf, 0, none⟩ = some (.slice (some ad) l0_0.length c0_0) := (blk_cell BKF.out 0).trans rfl; have hfzf := blk_frozen BKF.out 0))
          repeat (go_quiet (fail); try go_wp2)
          go_ret
          exact ⟨rfl, by repeat (first | exact HB.out | apply below_alloc | apply pw_below_drewN | apply below_drew1 | refine below_set ?_ GE.out)⟩
        · have c5 : decide ((i : Int) < (l0_0.length : Int) - 1) = false := decide_eq_false (by omega)
          rw [decide_eq_false h5, if_neg (by decide)] at h
          obtain ⟨nb, hn, h2⟩ := Option.bind_eq_some_iff.1 h
          have HN := Aside0.mk hn
          have H2 := Aside0.mk h2
          clear h hn h2 h5
          go_wp2_with (first | ((with_reducible refine gate_dst (N := 4) rfl ?_); refine box_event ?hg (N := 4) ?hd (cs := #[.slice none 0 0, .slice none 0 0]) (t := 43) ?hr ?_; (case hd => rfl); (case hg => rfl); (case hr => first | (go_simp; done) | (go_simp; rfl)); intro gb hg w5 hbox hb; have NE := Aside0.mk ((by rw [hg]; exact Nat.ne_of_lt (blk_lt (g := gbf) (o := .cells #[.slice (some ad) l0_0.length c0_0] 29 (0, 0)) (by (with_reducible repeat (first | refine blk_drewN ?_ _ | refine blk_drew ?_ | refine blk_alloc ?_ _)); exact BKF.out))) : gbf ≠ gb); have n1_ := Aside0.mk (blk_below (g := gbf) (o := .cells #[.slice (some ad) l0_0.length c0_0] 29 (0, 0)) (by (with_reducible repeat (first | refine blk_drewN ?_ _ | refine blk_drew ?_ | refine blk_alloc ?_ _)); exact BKF.out) hb); have GE := Aside0.mk ((by rw [hg]; exact (below_size (by repeat (first | exact HB.out | apply below_alloc | apply pw_below_drewN | apply below_drew1)))) : w.heap.size ≤ gb); have n0_ := Aside0.mk (below_step (by repeat (first | exact HB.out | apply below_alloc | apply pw_below_drewN | apply below_drew1)) hb); have BK := Aside0.mk hbox; clear HB hb hbox BKF hczf hfzf; have HB := n0_; have BKF := n1_; clear n0_ n1_ hg; have hcz0 : w5.cell? ⟨gb, 0, none⟩ = some (.slice none 0 0) := (blk_cell BK.out 0).trans rfl; have hcz1 : w5.cell? ⟨gb, 1, none⟩ = some (.slice none 0 0) := (blk_cell BK.out 1).trans rfl; have hfz0 := blk_frozen BK.out 0; have hfz1 := blk_frozen BK.out 1) | (go_at_call 43; refine (impl_Level_isSingle.calls A1 c1 x.f0 A2 c2 x.f1 true _ (Kd.C_below HX1.out (by repeat (first | exact HB.out | apply below_alloc | apply pw_below_drewN | apply below_drew1 | refine below_set ?_ GE.out))) HL1.out (Kd.C_below HX2.out (by repeat (first | exact HB.out | apply below_alloc | apply pw_below_drewN | apply below_drew1 | refine below_set ?_ GE.out))) HL2.out HSG.out).mono ?_; rintro e w7 ⟨rfl, hb⟩; have n0_ := Aside0.mk (below_step (by repeat (first | exact HB.out | apply below_alloc | apply pw_below_drewN | apply below_drew1 | refine below_set ?_ GE.out)) hb); have n1_ := Aside0.mk (blk_below (g := gbf) (o := .cells #[.slice (some ad) l0_0.length c0_0] 29 (0, 0)) (by refine blk_far ?_ NE.out _; refine blk_far ?_ NE.out _; exact BKF.out) hb); have n2_ := Aside0.mk (blk_below (g := gb) (o := .cells #[.slice A1 x.f0.length c1, .slice A2 x.f1.length c2] 43 (0, 0)) (by refine blk_put (cs := #[.slice A1 x.f0.length c1, .slice none 0 0]) ?_ 1 _ rfl; refine blk_put (cs := #[.slice none 0 0, .slice none 0 0]) ?_ 0 _ rfl; exact BK.out) hb); clear HB hb BKF BK hcz0 hcz1 hfz0 hfz1; have HB := n0_; have BKF := n1_; have BK := n2_; clear n0_ n1_ n2_; have hcz0 : w7.cell? ⟨gb, 0, none⟩ = some (.slice A1 x.f0.length c1) := (blk_cell BK.out 0).trans rfl; have hcz1 : w7.cell? ⟨gb, 1, none⟩ = some (.slice A2 x.f1.length c2) := (blk_cell BK.out 1).trans rfl; have hfz0 := blk_frozen BK.out 0; have hfz1 := blk_frozen BK.out 1; have hczf : w7.cell? ⟨gbf, 0, none⟩ = some (.slice (some ad) l0_0.length c0_0) := (blk_cell BKF.out 0).trans rfl; have hfzf := blk_frozen BKF.out 0) | ((with_reducible refine gate_dst (N := 39) rfl ?_); refine CC.event ?hg (cs := #[.slice A1 x.f0.length c1, .slice A2 x.f1.length c2]) (t := 41) 2 ?hr ?_; (case hg => rfl); (case hr => first | (go_simp; done) | (go_simp; rfl)); intro ga w6 hga hrow hb; have n0_ := Aside0.mk (below_step (by repeat (first | exact HB.out | apply below_alloc | apply pw_below_drewN | apply below_drew1 | refine below_set ?_ GE.out)) hb); have n1_ := Aside0.mk (blk_below (g := gbf) (o := .cells #[.slice (some ad) l0_0.length c0_0] 29 (0, 0)) (by (with_reducible repeat (first | refine blk_drewN ?_ _ | refine blk_drew ?_ | refine blk_alloc ?_ _)); exact BKF.out) hb); have RK := Aside0.mk hrow; clear HB hb hrow hga BKF hczf hfzf; have HB := n0_; have BKF := n1_; clear n0_ n1_) | (go_at_call 44; refine (slices_Concat_string_string.calls (some ⟨ga, 0, none⟩) 2 [x.f0, x.f1] L w6 (CC.pair RK.out HL1.out (Kd.C_below HX1.out HB.out) HL2.out (Kd.C_below HX2.out HB.out)) (Nat.le_refl _) HM.out).mono ?_; rintro e w10 ⟨v7, rfl, ho7, hb7⟩; obtain ⟨A7, c7, ev⟩ := Kd.R_slice ho7; subst ev; have HO := Aside0.mk ho7; have n1_ := Aside0.mk (blk_below (g := gbf) (o := .cells #[.slice (some ad) l0_0.length c0_0] 29 (0, 0)) BKF.out hb7); have n0_ := Aside0.mk (below_step HB.out hb7); clear HB ho7 hb7 BKF; have HB := n0_; have BKF := n1_; clear n0_ n1_))
          repeat (go_quiet (fail); try go_wp2)
          obtain ⟨gk0, hgk0⟩ : ∃ g_ : Nat, g_ = gk := ⟨_, rfl⟩
          have HG := Aside0.mk hgk0
          have HK0 := Aside0.mk HK.out
          clear HK BK RK hgk0 hcz0 hcz1 hfz0 hfz1
          go_loopg [42] (L.length + 1) (fun kx v42 w' => ∃ j : Nat, v42 = .int .i64 (j : Int) ∧ Aside0 (j ≤ L.length) ∧ Aside0 (L.length - j < kx) ∧ Aside0 (IF.ns k (i : Int) (L.drop j) = some nb) ∧ Aside0 (Kd.R Kd.string 9 w' w6.heap.size (fun _ => True) (.slice A7 L.length c7) L) ∧ Aside0 (w'.heap[gbf]? = some (.cells #[.slice (some ad) l0_0.length c0_0] 29 (0, 0))) ∧ Aside0 (Below w.heap.size w w'))
          case atStart => exact ⟨0, rfl, ⟨Nat.zero_le _⟩, ⟨by omega⟩, HN, ⟨by (with_reducible repeat (first | apply Kd.R_alloc | apply Kd.R_drewN | apply Kd.R_drew)); exact HO.out⟩, ⟨by (with_reducible repeat (first | refine blk_drewN ?_ _ | refine blk_drew ?_ | refine blk_alloc ?_ _)); exact BKF.out⟩, ⟨by repeat (first | exact HB.out | apply below_alloc | apply pw_below_drewN | apply below_drew1)⟩⟩
          case round =>
            clear HO HB BKF HN
            obtain ⟨j, rfl, HJ, HK, HN, HO, BKF, HB⟩ := hrel
            by_cases hj : j < L.length
            · have c4 : decide ((j : Int) < (L.length : Int)) = true := decide_eq_true (by omega)
              have p1 : 0 ≤ (j : Int) := by omega
              have q1 : (j : Int) < (L.length : Int) := by omega
              obtain ⟨ae, e2, hxs⟩ := Kd.at_string (Kd.R_reads' HO.out).2.2 (j : Int) p1 q1
              subst e2
              rw [Int.toNat_natCast] at hxs
              have hns := HN.out
              rw [IF.drop hj] at hns
              have hw4 : wrap64 ((j : Int) + 1) = ((j + 1 : Nat) : Int) := by have := HLn.out; unfold wrap64; omega
              generalize rdOf ByteArray.empty L (j : Int) = s at *
              have HW2 := Aside0.mk hj
              clear hj
              unfold IF.ns at hns
              obtain ⟨t, ht, hns⟩ := Option.bind_eq_some_iff.1 hns
              cases t with
              | false =>
                rw [if_neg (by decide)] at hns
                obtain rfl := Option.some.inj hns
                clear hns
                have h2 := H2.out
                rw [if_neg (by decide)] at h2
                obtain rfl := Option.some.inj h2
                have hf := HF.out
                rw [if_neg (by decide)] at hf
                obtain rfl := Option.some.inj hf
                clear h2 hf
                have HTT := Aside0.mk ht
                clear ht
                go_wp2_with (first | (go_at_call 31; refine (impl_isNode.calls k s (i : Int) false _ HTT.out).mono ?_; rintro e w8 ⟨rfl, hd_⟩; obtain ⟨n_, hn_⟩ := hd_; subst hn_))
                repeat (go_quiet (fail); try go_wp2)
                go_ret
                exact ⟨rfl, by repeat (first | exact HB.out | apply below_alloc | apply pw_below_drewN | apply below_drew1)⟩
              | true =>
                rw [if_pos rfl] at hns
                have HTT := Aside0.mk ht
                have HN2 := Aside0.mk hns
                clear ht hns HN
                go_wp2_with (first | (go_at_call 31; refine (impl_isNode.calls k s (i : Int) true _ HTT.out).mono ?_; rintro e w8 ⟨rfl, hd_⟩; obtain ⟨n_, hn_⟩ := hd_; subst hn_))
                repeat (go_quiet (fail); try go_wp2)
                go_roundg (gk - 1)
                case measure => have := HK.out; omega
                case rel => exact ⟨j + 1, by first | rfl | (simp only [hw4]; done) | (simp [*]; done), ⟨HW2.out⟩, ⟨by have := HK.out; have := HW2.out; omega⟩, HN2, ⟨by (with_reducible repeat (first | apply Kd.R_alloc | apply Kd.R_drewN | apply Kd.R_drew)); exact HO.out⟩, ⟨by (with_reducible repeat (first | refine blk_drewN ?_ _ | refine blk_drew ?_ | refine blk_alloc ?_ _)); exact BKF.out⟩, ⟨by repeat (first | exact HB.out | apply below_alloc | apply pw_below_drewN | apply below_drew1)⟩⟩
            · have hjl : j = L.length := by have := HJ.out; omega
              subst hjl
              have c4 : decide ((L.length : Int) < (L.length : Int)) = false := decide_eq_false (by omega)
              clear hj
              have hns := HN.out
              rw [List.drop_length] at hns
              unfold IF.ns at hns
              obtain rfl := Option.some.inj hns
              clear hns
              have h2 := H2.out
              rw [if_pos rfl] at h2
              have HL3 := Aside0.mk h2
              clear h2 H2 HN
              go_wp2
              go_roundg (gk0 - 1)
              case measure => have := HK0.out; have := HG.out; omega
              case rel => exact ⟨i + 1, by first | rfl | (simp only [hw3]; done) | (simp [*]; done), ⟨HW.out⟩, ⟨by have := HK0.out; have := HG.out; have := HW.out; omega⟩, HL3, ⟨by (with_reducible repeat (first | refine blk_drewN ?_ _ | refine blk_drew ?_ | refine blk_alloc ?_ _)); exact BKF.out⟩, ⟨by repeat (first | exact HB.out | apply below_alloc | apply pw_below_drewN | apply below_drew1)⟩⟩
      | false =>
        rw [hs1] at hsg
        have HSG := Aside0.mk hsg
        clear hsg
        cases hr1 : IF.rg x.f0.length with
        | false =>
          rw [hr1] at hin1
          have hbd : IF.bad l0_0.length x i = true := by unfold IF.bad; rw [hs1, hr1]; rfl
          rw [hbd, if_pos rfl] at h
          clear hbd hs1
          have HIN1 := Aside0.mk hin1
          clear hin1 hr1 hin2
          obtain rfl := Option.some.inj h
          have hf := HF.out
          rw [if_neg (by decide)] at hf
          obtain rfl := Option.some.inj hf
          clear h hf
          go_wp2_with (first | ((with_reducible refine gate_dst (N := 4) rfl ?_); refine box_event ?hg (N := 4) ?hd (cs := #[.slice none 0 0, .slice none 0 0]) (t := 43) ?hr ?_; (case hd => rfl); (case hg => rfl); (case hr => first | (go_simp; done) | (go_simp; rfl)); intro gb hg w5 hbox hb; have NE := Aside0.mk ((by rw [hg]; exact Nat.ne_of_lt (blk_lt (g := gbf) (o := .cells #[.slice (some ad) l0_0.length c0_0] 29 (0, 0)) (by (with_reducible repeat (first | refine blk_drewN ?_ _ | refine blk_drew ?_ | refine blk_alloc ?_ _)); exact BKF.out))) : gbf ≠ gb); have n1_ := Aside0.mk (blk_below (g := gbf) (o := .cells #[.slice (some ad) l0_0.length c0_0] 29 (0, 0)) (by (with_reducible repeat (first | refine blk_drewN ?_ _ | refine blk_drew ?_ | refine blk_alloc ?_ _)); exact BKF.out) hb); have GE := Aside0.mk ((by rw [hg]; exact (below_size (by repeat (first | exact HB.out | apply below_alloc | apply pw_below_drewN | apply below_drew1)))) : w.heap.size ≤ gb); have n0_ := Aside0.mk (below_step (by repeat (first | exact HB.out | apply below_alloc | apply pw_below_drewN | apply below_drew1)) hb); have BK := Aside0.mk hbox; clear HB hb hbox BKF hczf hfzf; have HB := n0_; have BKF := n1_; clear n0_ n1_ hg; have hcz0 : w5.cell? ⟨gb, 0, none⟩ = some (.slice none 0 0) := (blk_cell BK.out 0).trans rfl; have hcz1 : w5.cell? ⟨gb, 1, none⟩ = some (.slice none 0 0) := (blk_cell BK.out 1).trans rfl; have hfz0 := blk_frozen BK.out 0; have hfz1 := blk_frozen BK.out 1) | (go_at_call 43; refine (impl_Level_isSingle.calls A1 c1 x.f0 A2 c2 x.f1 false _ (Kd.C_below HX1.out (by repeat (first | exact HB.out | apply below_alloc | apply pw_below_drewN | apply below_drew1 | refine below_set ?_ GE.out))) HL1.out (Kd.C_below HX2.out (by repeat (first | exact HB.out | apply below_alloc | apply pw_below_drewN | apply below_drew1 | refine below_set ?_ GE.out))) HL2.out HSG.out).mono ?_; rintro e w7 ⟨rfl, hb⟩; have n0_ := Aside0.mk (below_step (by repeat (first | exact HB.out | apply below_alloc | apply pw_below_drewN | apply below_drew1 | refine below_set ?_ GE.out)) hb); have n1_ := Aside0.mk (blk_below (g := gbf) (o := .cells #[.slice (some ad) l0_0.length c0_0] 29 (0, 0)) (by refine blk_far ?_ NE.out _; refine blk_far ?_ NE.out _; exact BKF.out) hb); have n2_ := Aside0.mk (blk_below (g := gb) (o := .cells #[.slice A1 x.f0.length c1, .slice A2 x.f1.length c2] 43 (0, 0)) (by refine blk_put (cs := #[.slice A1 x.f0.length c1, .slice none 0 0]) ?_ 1 _ rfl; refine blk_put (cs := #[.slice none 0 0, .slice none 0 0]) ?_ 0 _ rfl; exact BK.out) hb); clear HB hb BKF BK hcz0 hcz1 hfz0 hfz1; have HB := n0_; have BKF := n1_; have BK := n2_; clear n0_ n1_ n2_; have hcz0 : w7.cell? ⟨gb, 0, none⟩ = some (.slice A1 x.f0.length c1) := (blk_cell BK.out 0).trans rfl; have hcz1 : w7.cell? ⟨gb, 1, none⟩ = some (.slice A2 x.f1.length c2) := (blk_cell BK.out 1).trans rfl; have hfz0 := blk_frozen BK.out 0; have hfz1 := blk_frozen BK.out 1; have hczf : w7.cell? ⟨gbf, 0, none⟩ = some (.slice (some ad) l0_0.length c0_0) := (blk_cell BKF.out 0).trans rfl; have hfzf := blk_frozen BKF.out 0) | (go_at_call 34; (with_reducible refine (impl_in.calls (x.f0.length : Int) 1 4 false _ HIN1.out).mono ?_); rintro e w8 ⟨rfl, hd_⟩; obtain ⟨n_, hn_⟩ := hd_; subst hn_))
          repeat (go_quiet (fail); try go_wp2)
          go_ret
          exact ⟨rfl, by repeat (first | exact HB.out | apply below_alloc | apply pw_below_drewN | apply below_drew1 | refine below_set ?_ GE.out)⟩
        | true =>
          rw [hr1] at hin1
          have HIN1 := Aside0.mk hin1
          clear hin1
          cases hr2 : IF.rg x.f1.length with
          | false =>
            rw [hr2] at hin2
            have hbd : IF.bad l0_0.length x i = true := by unfold IF.bad; rw [hs1, hr1, hr2]; rfl
            rw [hbd, if_pos rfl] at h
            clear hbd hs1 hr1
            have HIN2 := Aside0.mk hin2
            clear hin2 hr2
            obtain rfl := Option.some.inj h
            have hf := HF.out
            rw [if_neg (by decide)] at hf
            obtain rfl := Option.some.inj hf
            clear h hf
            go_wp2_with (first | ((with_reducible refine gate_dst (N := 4) rfl ?_); refine box_event ?hg (N := 4) ?hd (cs := #[.slice none 0 0, .slice none 0 0]) (t := 43) ?hr ?_; (case hd => rfl); (case hg => rfl); (case hr => first | (go_simp; done) | (go_simp; rfl)); intro gb hg w5 hbox hb; have NE := Aside0.mk ((by rw [hg]; exact Nat.ne_of_lt (blk_lt (g := gbf) (o := .cells #[.slice (some ad) l0_0.length c0_0] 29 (0, 0)) (by (with_reducible repeat (first | refine blk_drewN ?_ _ | refine blk_drew ?_ | refine blk_alloc ?_ _)); exact BKF.out))) : gbf ≠ gb); have n1_ := Aside0.mk (blk_below (g := gbf) (o := .cells #[.slice (some ad) l0_0.length c0_0] 29 (0, 0)) (by (with_reducible repeat (first | refine blk_drewN ?_ _ | refine blk_drew ?_ | refine blk_alloc ?_ _)); exact BKF.out) hb); have GE := Aside0.mk ((by rw [hg]; exact (below_size (by repeat (first | exact HB.out | apply below_alloc | apply pw_below_drewN | apply below_drew1)))) : w.heap.size ≤ gb); have n0_ := Aside0.mk (below_step (by repeat (first | exact HB.out | apply below_alloc | apply pw_below_drewN | apply below_drew1)) hb); have BK := Aside0.mk hbox; clear HB hb hbox BKF hczf hfzf; have HB := n0_; have BKF := n1_; clear n0_ n1_ hg; have hcz0 : w5.cell? ⟨gb, 0, none⟩ = some (.slice none 0 0) := (blk_cell BK.out 0).trans rfl; have hcz1 : w5.cell? ⟨gb, 1, none⟩ = some (.slice none 0 0) := (blk_cell BK.out 1).trans rfl; have hfz0 := blk_frozen BK.out 0; have hfz1 := blk_frozen BK.out 1) | (go_at_call 43; refine (impl_Level_isSingle.calls A1 c1 x.f0 A2 c2 x.f1 false _ (Kd.C_below HX1.out (by repeat (first | exact HB.out | apply below_alloc | apply pw_below_drewN | apply below_drew1 | refine below_set ?_ GE.out))) HL1.out (Kd.C_below HX2.out (by repeat (first | exact HB.out | apply below_alloc | apply pw_below_drewN | apply below_drew1 | refine below_set ?_ GE.out))) HL2.out HSG.out).mono ?_; rintro e w7 ⟨rfl, hb⟩; have n0_ := Aside0.mk (below_step (by repeat (first | exact HB.out | apply below_alloc | apply pw_below_drewN | apply below_drew1 | refine below_set ?_ GE.out)) hb); have n1_ := Aside0.mk (blk_below (g := gbf) (o := .cells #[.slice (some ad) l0_0.length c0_0] 29 (0, 0)) (by refine blk_far ?_ NE.out _; refine blk_far ?_ NE.out _; exact BKF.out) hb); have n2_ := Aside0.mk (blk_below (g := gb) (o := .cells #[.slice A1 x.f0.length c1, .slice A2 x.f1.length c2] 43 (0, 0)) (by refine blk_put (cs := #[.slice A1 x.f0.length c1, .slice none 0 0]) ?_ 1 _ rfl; refine blk_put (cs := #[.slice none 0 0, .slice none 0 0]) ?_ 0 _ rfl; exact BK.out) hb); clear HB hb BKF BK hcz0 hcz1 hfz0 hfz1; have HB := n0_; have BKF := n1_; have BK := n2_; clear n0_ n1_ n2_; have hcz0 : w7.cell? ⟨gb, 0, none⟩ = some (.slice A1 x.f0.length c1) := (blk_cell BK.out 0).trans rfl; have hcz1 : w7.cell? ⟨gb, 1, none⟩ = some (.slice A2 x.f1.length c2) := (blk_cell BK.out 1).trans rfl; have hfz0 := blk_frozen BK.out 0; have hfz1 := blk_frozen BK.out 1; have hczf : w7.cell? ⟨gbf, 0, none⟩ = some (.slice (some ad) l0_0.length c0_0) := (blk_cell BKF.out 0).trans rfl; have hfzf := blk_frozen BKF.out 0) | (go_at_call 34; (with_reducible refine (impl_in.calls (x.f0.length : Int) 1 4 true _ HIN1.out).mono ?_); rintro e w8 ⟨rfl, hd_⟩; obtain ⟨n_, hn_⟩ := hd_; subst hn_) | (go_at_call 34; (with_reducible refine (impl_in.calls (x.f1.length : Int) 1 4 false _ HIN2.out).mono ?_); rintro e w9 ⟨rfl, hd_⟩; obtain ⟨m_, hm_⟩ := hd_; subst hm_))
            repeat (go_quiet (fail); try go_wp2)
            go_ret
            exact ⟨rfl, by repeat (first | exact HB.out | apply below_alloc | apply pw_below_drewN | apply below_drew1 | refine below_set ?_ GE.out)⟩
          | true =>
            rw [hr2] at hin2
            have hbd : IF.bad l0_0.length x i = false := by unfold IF.bad; rw [hs1, hr1, hr2]; rfl
            rw [hbd, if_neg (by decide)] at h
            clear hbd hs1 hr1
            have HIN2 := Aside0.mk hin2
            clear hin2 hr2
            obtain ⟨nb, hn, h2⟩ := Option.bind_eq_some_iff.1 h
            have HN := Aside0.mk hn
            have H2 := Aside0.mk h2
            clear h hn h2
            go_wp2_with (first | ((with_reducible refine gate_dst (N := 4) rfl ?_); refine box_event ?hg (N := 4) ?hd (cs := #[.slice none 0 0, .slice none 0 0]) (t := 43) ?hr ?_; (case hd => rfl); (case hg => rfl); (case hr => first | (go_simp; done) | (go_simp; rfl)); intro gb hg w5 hbox hb; have NE := Aside0.mk ((by rw [hg]; exact Nat.ne_of_lt (blk_lt (g := gbf) (o := .cells #[.slice (some ad) l0_0.length c0_0] 29 (0, 0)) (by (with_reducible repeat (first | refine blk_drewN ?_ _ | refine blk_drew ?_ | refine blk_alloc ?_ _)); exact BKF.out))) : gbf ≠ gb); have n1_ := Aside0.mk (blk_below (g := gbf) (o := .cells #[.slice (some ad) l0_0.length c0_0] 29 (0, 0)) (by (with_reducible repeat (first | refine blk_drewN ?_ _ | refine blk_drew ?_ | refine blk_alloc ?_ _)); exact BKF.out) hb); have GE := Aside0.mk ((by rw [hg]; exact (below_size (by repeat (first | exact HB.out | apply below_alloc | apply pw_below_drewN | apply below_drew1)))) : w.heap.size ≤ gb); have n0_ := Aside0.mk (below_step (by repeat (first | exact HB.out | apply below_alloc | apply pw_below_drewN | apply below_drew1)) hb); have BK := Aside0.mk hbox; clear HB hb hbox BKF hczf hfzf; have HB := n0_; have BKF := n1_; clear n0_ n1_ hg; have hcz0 : w5.cell? ⟨gb, 0, none⟩ = some (.slice none 0 0) := (blk_cell BK.out 0).trans rfl; have hcz1 : w5.cell? ⟨gb, 1, none⟩ = some (.slice none 0 0) := (blk_cell BK.out 1).trans rfl; have hfz0 := blk_frozen BK.out 0; have hfz1 := blk_frozen BK.out 1) | (go_at_call 43; refine (impl_Level_isSingle.calls A1 c1 x.f0 A2 c2 x.f1 false _ (Kd.C_below HX1.out (by repeat (first | exact HB.out | apply below_alloc | apply pw_below_drewN | apply below_drew1 | refine below_set ?_ GE.out))) HL1.out (Kd.C_below HX2.out (by repeat (first | exact HB.out | apply below_alloc | apply pw_below_drewN | apply below_drew1 | refine below_set ?_ GE.out))) HL2.out HSG.out).mono ?_; rintro e w7 ⟨rfl, hb⟩; have n0_ := Aside0.mk (below_step (by repeat (first | exact HB.out | apply below_alloc | apply pw_below_drewN | apply below_drew1 | refine below_set ?_ GE.out)) hb); have n1_ := Aside0.mk (blk_below (g := gbf) (o := .cells #[.slice (some ad) l0_0.length c0_0] 29 (0, 0)) (by refine blk_far ?_ NE.out _; refine blk_far ?_ NE.out _; exact BKF.out) hb); have n2_ := Aside0.mk (blk_below (g := gb) (o := .cells #[.slice A1 x.f0.length c1, .slice A2 x.f1.length c2] 43 (0, 0)) (by refine blk_put (cs := #[.slice A1 x.f0.length c1, .slice none 0 0]) ?_ 1 _ rfl; refine blk_put (cs := #[.slice none 0 0, .slice none 0 0]) ?_ 0 _ rfl; exact BK.out) hb); clear HB hb BKF BK hcz0 hcz1 hfz0 hfz1; have HB := n0_; have BKF := n1_; have BK := n2_; clear n0_ n1_ n2_; have hcz0 : w7.cell? ⟨gb, 0, none⟩ = some (.slice A1 x.f0.length c1) := (blk_cell BK.out 0).trans rfl; have hcz1 : w7.cell? ⟨gb, 1, none⟩ = some (.slice A2 x.f1.length c2) := (blk_cell BK.out 1).trans rfl; have hfz0 := blk_frozen BK.out 0; have hfz1 := blk_frozen BK.out 1; have hczf : w7.cell? ⟨gbf, 0, none⟩ = some (.slice (some ad) l0_0.length c0_0) := (blk_cell BKF.out 0).trans rfl; have hfzf := blk_frozen BKF.out 0) | (go_at_call 34; (with_reducible refine (impl_in.calls (x.f0.length : Int) 1 4 true _ HIN1.out).mono ?_); rintro e w8 ⟨rfl, hd_⟩; obtain ⟨n_, hn_⟩ := hd_; subst hn_) | (go_at_call 34; (with_reducible refine (impl_in.calls (x.f1.length : Int) 1 4 true _ HIN2.out).mono ?_); rintro e w9 ⟨rfl, hd_⟩; obtain ⟨m_, hm_⟩ := hd_; subst hm_) | ((with_reducible refine gate_dst (N := 39) rfl ?_); refine CC.event ?hg (cs := #[.slice A1 x.f0.length c1, .slice A2 x.f1.length c2]) (t := 41) 2 ?hr ?_; (case hg => rfl); (case hr => first | (go_simp; done) | (go_simp; rfl)); intro ga w6 hga hrow hb; have n0_ := Aside0.mk (below_step (by repeat (first | exact HB.out | apply below_alloc | apply pw_below_drewN | apply below_drew1 | refine below_set ?_ GE.out)) hb); have n1_ := Aside0.mk (blk_below (g := gbf) (o := .cells #[.slice (some ad) l0_0.length c0_0] 29 (0, 0)) (by (with_reducible repeat (first | refine blk_drewN ?_ _ | refine blk_drew ?_ | refine blk_alloc ?_ _)); exact BKF.out) hb); have RK := Aside0.mk hrow; clear HB hb hrow hga BKF hczf hfzf; have HB := n0_; have BKF := n1_; clear n0_ n1_) | (go_at_call 44; refine (slices_Concat_string_string.calls (some ⟨ga, 0, none⟩) 2 [x.f0, x.f1] L w6 (CC.pair RK.out HL1.out (Kd.C_below HX1.out HB.out) HL2.out (Kd.C_below HX2.out HB.out)) (Nat.le_refl _) HM.out).mono ?_; rintro e w10 ⟨v7, rfl, ho7, hb7⟩; obtain ⟨A7, c7, ev⟩ := Kd.R_slice ho7; subst ev; have HO := Aside0.mk ho7; have n1_ := Aside0.mk (blk_below (g := gbf) (o := .cells #[.slice (some ad) l0_0.length c0_0] 29 (0, 0)) BKF.out hb7); have n0_ := Aside0.mk (below_step HB.out hb7); clear HB ho7 hb7 BKF; have HB := n0_; have BKF := n1_; clear n0_ n1_))
            repeat (go_quiet (fail); try go_wp2)
            obtain ⟨gk0, hgk0⟩ : ∃ g_ : Nat, g_ = gk := ⟨_, rfl⟩
            have HG := Aside0.mk hgk0
            have HK0 := Aside0.mk HK.out
            clear HK BK RK hgk0 hcz0 hcz1 hfz0 hfz1
            go_loopg [42] (L.length + 1) (fun kx v42 w' => ∃ j : Nat, v42 = .int .i64 (j : Int) ∧ Aside0 (j ≤ L.length) ∧ Aside0 (L.length - j < kx) ∧ Aside0 (IF.ns k (i : Int) (L.drop j) = some nb) ∧ Aside0 (Kd.R Kd.string 9 w' w6.heap.size (fun _ => True) (.slice A7 L.length c7) L) ∧ Aside0 (w'.heap[gbf]? = some (.cells #[.slice (some ad) l0_0.length c0_0] 29 (0, 0))) ∧ Aside0 (Below w.heap.size w w'))
            case atStart => exact ⟨0, rfl, ⟨Nat.zero_le _⟩, ⟨by omega⟩, HN, ⟨by (with_reducible repeat (first | apply Kd.R_alloc | apply Kd.R_drewN | apply Kd.R_drew)); exact HO.out⟩, ⟨by (with_reducible repeat (first | refine blk_drewN ?_ _ | refine blk_drew ?_ | refine blk_alloc ?_ _)); exact BKF.out⟩, ⟨by repeat (first | exact HB.out | apply below_alloc | apply pw_below_drewN | apply below_drew1)⟩⟩
            case round =>
              clear HO HB BKF HN
              obtain ⟨j, rfl, HJ, HK, HN, HO, BKF, HB⟩ := hrel
              by_cases hj : j < L.length
              · have c4 : decide ((j : Int) < (L.length : Int)) = true := decide_eq_true (by omega)
                have p1 : 0 ≤ (j : Int) := by omega
                have q1 : (j : Int) < (L.length : Int) := by omega
                obtain ⟨ae, e2, hxs⟩ := Kd.at_string (Kd.R_reads' HO.out).2.2 (j : Int) p1 q1
                subst e2
                rw [Int.toNat_natCast] at hxs
                have hns := HN.out
                rw [IF.drop hj] at hns
                have hw4 : wrap64 ((j : Int) + 1) = ((j + 1 : Nat) : Int) := by have := HLn.out; unfold wrap64; omega
                generalize rdOf ByteArray.empty L (j : Int) = s at *
                have HW2 := Aside0.mk hj
                clear hj
                unfold IF.ns at hns
                obtain ⟨t, ht, hns⟩ := Option.bind_eq_some_iff.1 hns
                cases t with
                | false =>
                  rw [if_neg (by decide)] at hns
                  obtain rfl := Option.some.inj hns
                  clear hns
                  have h2 := H2.out
                  rw [if_neg (by decide)] at h2
                  obtain rfl := Option.some.inj h2
                  have hf := HF.out
                  rw [if_neg (by decide)] at hf
                  obtain rfl := Option.some.inj hf
                  clear h2 hf
                  have HTT := Aside0.mk ht
                  clear ht
                  go_wp2_with (first | (go_at_call 31; refine (impl_isNode.calls k s (i : Int) false _ HTT.out).mono ?_; rintro e w8 ⟨rfl, hd_⟩; obtain ⟨n_, hn_⟩ := hd_; subst hn_))
                  repeat (go_quiet (fail); try go_wp2)
                  go_ret
                  exact ⟨rfl, by repeat (first | exact HB.out | apply below_alloc | apply pw_below_drewN | apply below_drew1)⟩
                | true =>
                  rw [if_pos rfl] at hns
                  have HTT := Aside0.mk ht
                  have HN2 := Aside0.mk hns
                  clear ht hns HN
                  go_wp2_with (first | (go_at_call 31; refine (impl_isNode.calls k s (i : Int) true _ HTT.out).mono ?_; rintro e w8 ⟨rfl, hd_⟩; obtain ⟨n_, hn_⟩ := hd_; subst hn_))
                  repeat (go_quiet (fail); try go_wp2)
                  go_roundg (gk - 1)
                  case measure => have := HK.out; omega
                  case rel => exact ⟨j + 1, by first | rfl | (simp only [hw4]; done) | (simp [*]; done), ⟨HW2.out⟩, ⟨by have := HK.out; have := HW2.out; omega⟩, HN2, ⟨by (with_reducible repeat (first | apply Kd.R_alloc | apply Kd.R_drewN | apply Kd.R_drew)); exact HO.out⟩, ⟨by (with_reducible repeat (first | refine blk_drewN ?_ _ | refine blk_drew ?_ | refine blk_alloc ?_ _)); exact BKF.out⟩, ⟨by repeat (first | exact HB.out | apply below_alloc | apply pw_below_drewN | apply below_drew1)⟩⟩
              · have hjl : j = L.length := by have := HJ.out; omega
                subst hjl
                have c4 : decide ((L.length : Int) < (L.length : Int)) = false := decide_eq_false (by omega)
                clear hj
                have hns := HN.out
                rw [List.drop_length] at hns
                unfold IF.ns at hns
                obtain rfl := Option.some.inj hns
                clear hns
                have h2 := H2.out
                rw [if_pos rfl] at h2
                have HL3 := Aside0.mk h2
                clear h2 H2 HN
                go_wp2
                go_roundg (gk0 - 1)
                case measure => have := HK0.out; have := HG.out; omega
                case rel => exact ⟨i + 1, by first | rfl | (simp only [hw3]; done) | (simp [*]; done), ⟨HW.out⟩, ⟨by have := HK0.out; have := HG.out; have := HW.out; omega⟩, HL3, ⟨by (with_reducible repeat (first | refine blk_drewN ?_ _ | refine blk_drew ?_ | refine blk_alloc ?_ _)); exact BKF.out⟩, ⟨by repeat (first | exact HB.out | apply below_alloc | apply pw_below_drewN | apply below_drew1)⟩⟩
    · have hil : i = l0_0.length := by have := HI.out; omega
      subst hil
      have c3 : decide ((l0_0.length : Int) < (l0_0.length : Int)) = false := decide_eq_false (by omega)
      clear hi
      have h := H.out
      rw [List.drop_length] at h
      unfold IF.lv at h
      obtain rfl := Option.some.inj h
      have hf := HF.out
      rw [if_pos rfl] at hf
      obtain ⟨t, ht, hf⟩ := Option.bind_eq_some_iff.1 hf
      obtain rfl := Option.some.inj hf
      have HTT := Aside0.mk ht
      clear h hf ht
      go_wp2_with (first | (go_at_call 40; refine (impl_Fing_leaves.calls A0_0 c0_0 l0_0 t _ (Kd.C_below HR.out (by repeat (first | exact HB.out | apply below_alloc | apply pw_below_drewN | apply below_drew1))) HC.out HTT.out).mono ?_; rintro e w4 ⟨rfl, hb⟩; have n0_ := Aside0.mk (below_step (by repeat (first | exact HB.out | apply below_alloc | apply pw_below_drewN | apply below_drew1)) hb); clear HB hb; have HB := n0_; clear n0_))
      repeat (go_quiet (fail); try go_wp2)
      go_ret
      exact ⟨by first | rfl | (simp; done) | (simp [*]; done), by repeat (first | exact HB.out | apply below_alloc | apply pw_below_drewN | apply below_drew1)⟩

/-! ### impl_FingOk: function 20 -/
def impl_FingOk.f (k : Nat) (l0_0 : List (S43)) : Option (Bool) := (impl_isFing.f k l0_0).bind fun t191 => (some t191)
theorem impl_FingOk.mono : ∀ a0 k, LeO (impl_FingOk.f k a0) (impl_FingOk.f (k + 1) a0) := by
  intro a0 k
  unfold impl_FingOk.f
  repeat' first
      | (with_reducible exact impl_isFing.mono _ _)
      | (with_reducible exact LeO.refl _)
      | (with_reducible exact LeO.none _)
      | (with_reducible refine LeO.ite ?_ ?_)
      | (with_reducible refine LeO.bind ?_ (fun _ => ?_))
      | exact impl_isFing.mono _ _
      | exact LeO.none _
      | refine LeO.ite ?_ ?_
      | refine LeO.bind ?_ (fun _ => ?_)
set_option maxHeartbeats 8000000 in
set_option maxRecDepth 100000 in
theorem impl_FingOk.calls (k : Nat) (A0_0 : Option Addr) (c0_0 : Nat) (l0_0 : List (S43)) (r : Bool) (w : World) (hr0_0 : Kd.C k43 w A0_0 l0_0.length l0_0) (hc0_0 : l0_0.length ≤ c0_0) (h : impl_FingOk.f k l0_0 = some r) :
    Calls Try.prog 20 #[.agg #[.slice A0_0 l0_0.length c0_0]] w fun e w' => e = .returned (.bool r) ∧ Below w.heap.size w w' := by
  have hu29 := Try.underlying29
  have HR0_0 := Aside0.mk hr0_0
  have HC0_0 := Aside0.mk hc0_0
  clear hr0_0 hc0_0
  have HB := Aside0.mk (Below.refl w.heap.size w)
  have H : ((impl_isFing.f k l0_0).bind fun t191 => (some t191)) = some r := h
  clear h
  replace H := Option.bind_eq_some_iff.mp H
  obtain ⟨t191, A20, H⟩ := H
  replace H : (some t191) = some r := H
  have A2 := Aside0.mk A20
  clear A20
  obtain rfl := Option.some.inj H
  go_enter Try.func20, Try.ntmps20
  go_wp2_with (first | ((with_reducible refine gate_dst (N := 1) rfl ?_); refine box_event ?hg (N := 1) ?hd (cs := #[.slice A0_0 l0_0.length c0_0]) (t := 29) ?hr ?_; (case hd => rfl); (case hg => rfl); (case hr => first | (go_simp; done) | (go_simp; rfl)); intro gb190 hg w3 hbox hb; have n0_ := Aside0.mk (below_step (by repeat (first | (with_reducible first | exact HB.out | apply below_alloc | apply pw_below_drewN | apply below_drew1) | exact HB.out)) hb); have n1_ := Aside0.mk (hbox); have n2_ := Aside0.mk ((by rw [hg]; exact (below_size (by repeat (first | (with_reducible first | exact HB.out | apply below_alloc | apply pw_below_drewN | apply below_drew1) | exact HB.out))) : w.heap.size ≤ gb190)); have n3_ := Aside0.mk ((by rw [hg]; exact (below_size (by repeat (first | (with_reducible first | exact HB.out | apply below_alloc | apply pw_below_drewN | apply below_drew1) | exact HB.out))) : w.heap.size ≤ gb190)); clear HB; have HB := n0_; have BK190 := n1_; have GW190 := n2_; have GE190 := n3_; clear n0_ n1_ n2_ n3_; clear hb hbox hg; have hcz4_0 : w3.cell? ⟨gb190, 0, none⟩ = some (.slice A0_0 l0_0.length c0_0) := (blk_cell BK190.out 0).trans rfl; have hfz4_0 := blk_frozen BK190.out 0) | ((with_reducible refine gate_callee (f := 26) rfl ?_); refine goesL_ (some 4) rfl rfl Try.func26 (by kernel_rfl) rfl #[.agg #[.slice A0_0 l0_0.length c0_0]] rfl (by (try simp only [List.map_toArray, List.map_cons, List.map_nil]); first | done | rfl | (simp only [List.length_drop, List.length_take]; rfl)) ?_; (with_reducible refine (impl_isFing.calls k _ _ l0_0 t191 _ ?side1 ?side2 A2.out).mono ?_); (case side1 => repeat (first | exact (Kd.C_below HR0_0.out HB.out) | exact HR0_0.out | (with_reducible refine Kd.C_alloc ?_ _) | (with_reducible refine Kd.C_drewN ?_ _) | (with_reducible refine Kd.C_drew ?_))); (case side2 => exact HC0_0.out); rintro e w5 ⟨rfl, hb⟩; refine ⟨_, rfl, ?_⟩; have n0_ := Aside0.mk (blk_below (g := gb190) (o := .cells #[.slice A0_0 l0_0.length c0_0] 29 (0, 0)) (by (with_reducible repeat (first | refine blk_drewN ?_ _ | refine blk_drew ?_ | refine blk_alloc ?_ _)); exact BK190.out) hb); have n1_ := Aside0.mk (below_step (by repeat (first | (with_reducible first | exact HB.out | apply below_alloc | apply pw_below_drewN | apply below_drew1 | refine below_set ?_ GE190.out) | exact HB.out)) hb); clear BK190; clear HB; have BK190 := n0_; have HB := n1_; clear n0_ n1_; (try clear hb); (try clear hb2); (try clear hk); (try clear hi)))
  go_ret
  exact ⟨by first | rfl | (simp [errW_none, errW_some] <;> rfl) | (simp [*, errW_none, errW_some] <;> rfl), by repeat (first | (with_reducible first | exact HB.out | apply below_alloc | apply pw_below_drewN | apply below_drew1 | refine below_set ?_ GE190.out) | exact HB.out)⟩

/-! ### laws_FnExactFingOk: function 6 -/
def laws_FnExactFingOk.f (k : Nat) (l0_0 : List (S56)) : Option (Bool) := (laws_szFing.f k l0_0 1048576).bind fun t193 => (if t193 < 0 then (some true) else ((laws_toFing.f k l0_0).bind fun t194 => ((spec_FingOk.f k t194).bind fun t197 => ((laws_toFing.f k l0_0).bind fun t198 => ((impl_FingOk.f k t198).bind fun t202 => (if (t202 != t197) = true then (some false) else ((laws_toFing.f k l0_0).bind fun t203 => ((laws_eqFing.f k t198 t203).bind fun t206 => (if t206 = true then (some true) else (some false))))))))))
theorem laws_FnExactFingOk.mono : ∀ a0 k, LeO (laws_FnExactFingOk.f k a0) (laws_FnExactFingOk.f (k + 1) a0) := by
  intro a0 k
  unfold laws_FnExactFingOk.f
  repeat' first
      | (with_reducible exact impl_FingOk.mono _ _)
      | (with_reducible exact laws_eqFing.mono _ _ _)
      | (with_reducible exact laws_szFing.mono _ _ _)
      | (with_reducible exact laws_toFing.mono _ _)
      | (with_reducible exact spec_FingOk.mono _ _)
      | (with_reducible exact LeO.refl _)
      | (with_reducible exact LeO.none _)
      | (with_reducible refine LeO.ite ?_ ?_)
      | (with_reducible refine LeO.bind ?_ (fun _ => ?_))
      | exact impl_FingOk.mono _ _
      | exact laws_eqFing.mono _ _ _
      | exact laws_szFing.mono _ _ _
      | exact laws_toFing.mono _ _
      | exact spec_FingOk.mono _ _
      | exact LeO.none _
      | refine LeO.ite ?_ ?_
      | refine LeO.bind ?_ (fun _ => ?_)
set_option maxHeartbeats 8000000 in
set_option maxRecDepth 100000 in
theorem laws_FnExactFingOk.calls (k : Nat) (A0_0 : Option Addr) (c0_0 : Nat) (l0_0 : List (S56)) (r : Bool) (w : World) (hr0_0 : Kd.C k56 w A0_0 l0_0.length l0_0) (hc0_0 : l0_0.length ≤ c0_0) (ht_ : r = true) (h : laws_FnExactFingOk.f k l0_0 = some r) :
    Calls Try.prog 6 #[.agg #[.slice A0_0 l0_0.length c0_0]] w fun e w' => e = .returned (.bool r) ∧ Below w.heap.size w w' := by
  have hu24 := Try.underlying24
  have hu29 := Try.underlying29
  have HR0_0 := Aside0.mk hr0_0
  have HC0_0 := Aside0.mk hc0_0
  clear hr0_0 hc0_0
  have HB := Aside0.mk (Below.refl w.heap.size w)
  have HRT_ := Aside0.mk ht_
  clear ht_
  have H : ((laws_szFing.f k l0_0 1048576).bind fun t193 => (if t193 < 0 then (some true) else ((laws_toFing.f k l0_0).bind fun t194 => ((spec_FingOk.f k t194).bind fun t197 => ((laws_toFing.f k l0_0).bind fun t198 => ((impl_FingOk.f k t198).bind fun t202 => (if (t202 != t197) = true then (some false) else ((laws_toFing.f k l0_0).bind fun t203 => ((laws_eqFing.f k t198 t203).bind fun t206 => (if t206 = true then (some true) else (some false))))))))))) = some r := h
  clear h
  replace H := Option.bind_eq_some_iff.mp H
  obtain ⟨t193, A20, H⟩ := H
  replace H : (if t193 < 0 then (some true) else ((laws_toFing.f k l0_0).bind fun t194 => ((spec_FingOk.f k t194).bind fun t197 => ((laws_toFing.f k l0_0).bind fun t198 => ((impl_FingOk.f k t198).bind fun t202 => (if (t202 != t197) = true then (some false) else ((laws_toFing.f k l0_0).bind fun t203 => ((laws_eqFing.f k t198 t203).bind fun t206 => (if t206 = true then (some true) else (some false)))))))))) = some r := H
  have A2 := Aside0.mk A20
  clear A20
  by_cases c3 : t193 < 0
  · rw [if_pos c3] at H
    have c3b0 : decide (t193 < 0) = true := decide_eq_true c3
    clear c3
    obtain rfl := Option.some.inj H
    go_enter Try.func6, Try.ntmps6
    go_wp2_with (first | ((with_reducible refine gate_dst (N := 1) rfl ?_); refine box_event ?hg (N := 1) ?hd (cs := #[.slice A0_0 l0_0.length c0_0]) (t := 24) ?hr ?_; (case hd => rfl); (case hg => rfl); (case hr => first | (go_simp; done) | (go_simp; rfl)); intro gb192 hg w4 hbox hb; have n0_ := Aside0.mk (below_step (by repeat (first | (with_reducible first | exact HB.out | apply below_alloc | apply pw_below_drewN | apply below_drew1) | exact HB.out)) hb); have n1_ := Aside0.mk (hbox); have n2_ := Aside0.mk ((by rw [hg]; exact (below_size (by repeat (first | (with_reducible first | exact HB.out | apply below_alloc | apply pw_below_drewN | apply below_drew1) | exact HB.out))) : w.heap.size ≤ gb192)); have n3_ := Aside0.mk ((by rw [hg]; exact (below_size (by repeat (first | (with_reducible first | exact HB.out | apply below_alloc | apply pw_below_drewN | apply below_drew1) | exact HB.out))) : w.heap.size ≤ gb192)); clear HB; have HB := n0_; have BK192 := n1_; have GW192 := n2_; have GE192 := n3_; clear n0_ n1_ n2_ n3_; clear hb hbox hg; have hcz5_0 : w4.cell? ⟨gb192, 0, none⟩ = some (.slice A0_0 l0_0.length c0_0) := (blk_cell BK192.out 0).trans rfl; have hfz5_0 := blk_frozen BK192.out 0) | ((with_reducible refine gate_callee (f := 8) rfl ?_); refine goesL_ (some 9) rfl rfl Try.func8 (by kernel_rfl) rfl #[.agg #[.slice A0_0 l0_0.length c0_0], .int .i64 1048576] rfl (by (try simp only [List.map_toArray, List.map_cons, List.map_nil]); first | done | rfl | (simp only [List.length_drop, List.length_take]; rfl)) ?_; (with_reducible refine (laws_szFing.calls k _ _ l0_0 1048576 t193 _ ?side1 ?side2 A2.out).mono ?_); (case side1 => repeat (first | exact (Kd.C_below HR0_0.out HB.out) | exact HR0_0.out | (with_reducible refine Kd.C_alloc ?_ _) | (with_reducible refine Kd.C_drewN ?_ _) | (with_reducible refine Kd.C_drew ?_))); (case side2 => exact HC0_0.out); rintro e w6 ⟨rfl, hb⟩; refine ⟨_, rfl, ?_⟩; have n0_ := Aside0.mk (blk_below (g := gb192) (o := .cells #[.slice A0_0 l0_0.length c0_0] 24 (0, 0)) (by (with_reducible repeat (first | refine blk_drewN ?_ _ | refine blk_drew ?_ | refine blk_alloc ?_ _)); exact BK192.out) hb); have n1_ := Aside0.mk (below_step (by repeat (first | (with_reducible first | exact HB.out | apply below_alloc | apply pw_below_drewN | apply below_drew1 | refine below_set ?_ GE192.out) | exact HB.out)) hb); clear BK192; clear HB; have BK192 := n0_; have HB := n1_; clear n0_ n1_; (try clear hb); (try clear hb2); (try clear hk); (try clear hi)))
    go_ret
    exact ⟨by first | rfl | (simp [errW_none, errW_some] <;> rfl) | (simp [*, errW_none, errW_some] <;> rfl), by repeat (first | (with_reducible first | exact HB.out | apply below_alloc | apply pw_below_drewN | apply below_drew1 | refine below_set ?_ GE192.out) | exact HB.out)⟩
  · rw [if_neg c3] at H
    have c3b0 : decide (t193 < 0) = false := decide_eq_false c3
    clear c3
    replace H := Option.bind_eq_some_iff.mp H
    obtain ⟨t194, A70, H⟩ := H
    replace H : ((spec_FingOk.f k t194).bind fun t197 => ((laws_toFing.f k l0_0).bind fun t198 => ((impl_FingOk.f k t198).bind fun t202 => (if (t202 != t197) = true then (some false) else ((laws_toFing.f k l0_0).bind fun t203 => ((laws_eqFing.f k t198 t203).bind fun t206 => (if t206 = true then (some true) else (some false)))))))) = some r := H
    have A7 := Aside0.mk A70
    clear A70
    replace H := Option.bind_eq_some_iff.mp H
    obtain ⟨t197, A80, H⟩ := H
    replace H : ((laws_toFing.f k l0_0).bind fun t198 => ((impl_FingOk.f k t198).bind fun t202 => (if (t202 != t197) = true then (some false) else ((laws_toFing.f k l0_0).bind fun t203 => ((laws_eqFing.f k t198 t203).bind fun t206 => (if t206 = true then (some true) else (some false))))))) = some r := H
    have A8 := Aside0.mk A80
    clear A80
    replace H := Option.bind_eq_some_iff.mp H
    obtain ⟨t198, A90, H⟩ := H
    replace H : ((impl_FingOk.f k t198).bind fun t202 => (if (t202 != t197) = true then (some false) else ((laws_toFing.f k l0_0).bind fun t203 => ((laws_eqFing.f k t198 t203).bind fun t206 => (if t206 = true then (some true) else (some false)))))) = some r := H
    have A9 := Aside0.mk A90
    clear A90
    replace H := Option.bind_eq_some_iff.mp H
    obtain ⟨t202, A100, H⟩ := H
    replace H : (if (t202 != t197) = true then (some false) else ((laws_toFing.f k l0_0).bind fun t203 => ((laws_eqFing.f k t198 t203).bind fun t206 => (if t206 = true then (some true) else (some false))))) = some r := H
    have A10 := Aside0.mk A100
    clear A100
    by_cases c11 : (t202 != t197) = true
    · rw [if_pos c11] at H
      have c11b0 : (t202 != t197) = true := c11
      (try (have c11b1 : decide (t202 = t197) = false := by simpa using c11))
      (try (have c11b2 : (t202 == t197) = false := by simpa using c11))
      (try (have c11b3 : ¬ (t202 = t197) := by simpa using c11))
      clear c11
      exact absurd H (by rw [HRT_.out]; simp)
    · rw [if_neg c11] at H
      have c11b0 : (t202 != t197) = false := by simpa using c11
      (try (have c11b1 : decide (t202 = t197) = true := by simpa using c11))
      (try (have c11b2 : (t202 == t197) = true := by simpa using c11))
      clear c11
      replace H := Option.bind_eq_some_iff.mp H
      obtain ⟨t203, A120, H⟩ := H
      replace H : ((laws_eqFing.f k t198 t203).bind fun t206 => (if t206 = true then (some true) else (some false))) = some r := H
      have A12 := Aside0.mk A120
      clear A120
      replace H := Option.bind_eq_some_iff.mp H
      obtain ⟨t206, A130, H⟩ := H
      replace H : (if t206 = true then (some true) else (some false)) = some r := H
      have A13 := Aside0.mk A130
      clear A130
      by_cases c14 : t206 = true
      · subst c14
        have H1 : (some true) = some r := by rw [if_pos rfl] at H; exact H
        clear H
        have H := H1
        clear H1
        obtain rfl := Option.some.inj H
        go_enter Try.func6, Try.ntmps6
        try go_wp2_with (first | ((with_reducible refine gate_dst (N := 1) rfl ?_); refine box_event ?hg (N := 1) ?hd (cs := #[.slice A0_0 l0_0.length c0_0]) (t := 24) ?hr ?_; (case hd => rfl); (case hg => rfl); (case hr => first | (go_simp; done) | (go_simp; rfl)); intro gb192 hg w15 hbox hb; have n0_ := Aside0.mk (below_step (by repeat (first | (with_reducible first | exact HB.out | apply below_alloc | apply pw_below_drewN | apply below_drew1) | exact HB.out)) hb); have n1_ := Aside0.mk (hbox); have n2_ := Aside0.mk ((by rw [hg]; exact (below_size (by repeat (first | (with_reducible first | exact HB.out | apply below_alloc | apply pw_below_drewN | apply below_drew1) | exact HB.out))) : w.heap.size ≤ gb192)); have n3_ := Aside0.mk ((by rw [hg]; exact (below_size (by repeat (first | (with_reducible first | exact HB.out | apply below_alloc | apply pw_below_drewN | apply below_drew1) | exact HB.out))) : w.heap.size ≤ gb192)); clear HB; have HB := n0_; have BK192 := n1_; have GW192 := n2_; have GE192 := n3_; clear n0_ n1_ n2_ n3_; clear hb hbox hg; have hcz16_0 : w15.cell? ⟨gb192, 0, none⟩ = some (.slice A0_0 l0_0.length c0_0) := (blk_cell BK192.out 0).trans rfl; have hfz16_0 := blk_frozen BK192.out 0) | ((with_reducible refine gate_callee (f := 8) rfl ?_); refine goesL_ (some 9) rfl rfl Try.func8 (by kernel_rfl) rfl #[.agg #[.slice A0_0 l0_0.length c0_0], .int .i64 1048576] rfl (by (try simp only [List.map_toArray, List.map_cons, List.map_nil]); first | done | rfl | (simp only [List.length_drop, List.length_take]; rfl)) ?_; (with_reducible refine (laws_szFing.calls k _ _ l0_0 1048576 t193 _ ?side1 ?side2 A2.out).mono ?_); (case side1 => repeat (first | exact (Kd.C_below HR0_0.out HB.out) | exact HR0_0.out | (with_reducible refine Kd.C_alloc ?_ _) | (with_reducible refine Kd.C_drewN ?_ _) | (with_reducible refine Kd.C_drew ?_))); (case side2 => exact HC0_0.out); rintro e w17 ⟨rfl, hb⟩; refine ⟨_, rfl, ?_⟩; have n0_ := Aside0.mk (blk_below (g := gb192) (o := .cells #[.slice A0_0 l0_0.length c0_0] 24 (0, 0)) (by (with_reducible repeat (first | refine blk_drewN ?_ _ | refine blk_drew ?_ | refine blk_alloc ?_ _)); exact BK192.out) hb); have n1_ := Aside0.mk (below_step (by repeat (first | (with_reducible first | exact HB.out | apply below_alloc | apply pw_below_drewN | apply below_drew1 | refine below_set ?_ GE192.out) | exact HB.out)) hb); clear BK192; clear HB; have BK192 := n0_; have HB := n1_; clear n0_ n1_; (try clear hb); (try clear hb2); (try clear hk); (try clear hi); have hcz18_0 : w17.cell? ⟨gb192, 0, none⟩ = some (.slice A0_0 l0_0.length c0_0) := (blk_cell BK192.out 0).trans rfl; have hfz18_0 := blk_frozen BK192.out 0) | ((with_reducible refine gate_callee (f := 10) rfl ?_); refine goesL_ (some 13) rfl rfl Try.func10 (by kernel_rfl) rfl #[.agg #[.slice A0_0 l0_0.length c0_0]] rfl (by (try simp only [List.map_toArray, List.map_cons, List.map_nil]); first | done | rfl | (simp only [List.length_drop, List.length_take]; rfl)) ?_; (with_reducible refine (laws_toFing.calls k _ _ l0_0 t194 _ ?side1 ?side2 A7.out).mono ?_); (case side1 => repeat (first | exact (Kd.C_below HR0_0.out HB.out) | exact HR0_0.out | (with_reducible refine Kd.C_alloc ?_ _) | (with_reducible refine Kd.C_drewN ?_ _) | (with_reducible refine Kd.C_drew ?_))); (case side2 => exact HC0_0.out); rintro e w19 ⟨v195, rfl, ho0, hb⟩; refine ⟨_, rfl, ?_⟩; have n0_ := Aside0.mk (Kd.S_lower ho0 (below_size (by repeat (first | (with_reducible first | exact HB.out | apply below_alloc | apply pw_below_drewN | apply below_drew1 | refine below_set ?_ GE192.out) | exact HB.out)))); have n1_ := Aside0.mk (blk_below (g := gb192) (o := .cells #[.slice A0_0 l0_0.length c0_0] 24 (0, 0)) (by (with_reducible repeat (first | refine blk_drewN ?_ _ | refine blk_drew ?_ | refine blk_alloc ?_ _)); exact BK192.out) hb); have n2_ := Aside0.mk (below_step (by repeat (first | (with_reducible first | exact HB.out | apply below_alloc | apply pw_below_drewN | apply below_drew1 | refine below_set ?_ GE192.out) | exact HB.out)) hb); clear BK192; clear HB; have HO196 := n0_; have BK192 := n1_; have HB := n2_; clear n0_ n1_ n2_; (try clear hb); (try clear hb2); (try clear hk); (try clear hi); (try clear ho0); obtain ⟨Ao20, co20, eo20⟩ := Kd.S_slice HO196.out; subst eo20) | ((with_reducible refine gate_callee (f := 19) rfl ?_); refine goesL_ (some 14) rfl rfl Try.func19 (by kernel_rfl) rfl #[.agg #[.slice Ao20 t194.length co20]] rfl (by (try simp only [List.map_toArray, List.map_cons, List.map_nil]); first | done | rfl | (simp only [List.length_drop, List.length_take]; rfl)) ?_; (with_reducible refine (spec_FingOk.calls k _ _ t194 t197 _ ?side1 ?side2 A8.out).mono ?_); (case side1 => repeat (first | exact (Kd.S_reads' HO196.out).2.2 | (with_reducible refine Kd.C_alloc ?_ _) | (with_reducible refine Kd.C_drewN ?_ _) | (with_reducible refine Kd.C_drew ?_))); (case side2 => exact (Kd.S_reads' HO196.out).2.1); rintro e w21 ⟨rfl, hb⟩; refine ⟨_, rfl, ?_⟩; have n0_ := Aside0.mk (Kd.S_below (by (with_reducible repeat (first | apply Kd.S_alloc | apply Kd.S_drewN | apply Kd.S_drew)); exact HO196.out) hb); have n1_ := Aside0.mk (blk_below (g := gb192) (o := .cells #[.slice A0_0 l0_0.length c0_0] 24 (0, 0)) (by (with_reducible repeat (first | refine blk_drewN ?_ _ | refine blk_drew ?_ | refine blk_alloc ?_ _)); exact BK192.out) hb); have n2_ := Aside0.mk (below_step (by repeat (first | (with_reducible first | exact HB.out | apply below_alloc | apply pw_below_drewN | apply below_drew1 | refine below_set ?_ GE192.out) | exact HB.out)) hb); clear HO196; clear BK192; clear HB; have HO196 := n0_; have BK192 := n1_; have HB := n2_; clear n0_ n1_ n2_; (try clear hb); (try clear hb2); (try clear hk); (try clear hi); have hcz22_0 : w21.cell? ⟨gb192, 0, none⟩ = some (.slice A0_0 l0_0.length c0_0) := (blk_cell BK192.out 0).trans rfl; have hfz22_0 := blk_frozen BK192.out 0) | ((with_reducible refine gate_callee (f := 10) rfl ?_); refine goesL_ (some 16) rfl rfl Try.func10 (by kernel_rfl) rfl #[.agg #[.slice A0_0 l0_0.length c0_0]] rfl (by (try simp only [List.map_toArray, List.map_cons, List.map_nil]); first | done | rfl | (simp only [List.length_drop, List.length_take]; rfl)) ?_; (with_reducible refine (laws_toFing.calls k _ _ l0_0 t198 _ ?side1 ?side2 A9.out).mono ?_); (case side1 => repeat (first | exact (Kd.C_below HR0_0.out HB.out) | exact HR0_0.out | (with_reducible refine Kd.C_alloc ?_ _) | (with_reducible refine Kd.C_drewN ?_ _) | (with_reducible refine Kd.C_drew ?_))); (case side2 => exact HC0_0.out); rintro e w23 ⟨v199, rfl, ho0, hb⟩; refine ⟨_, rfl, ?_⟩; have n0_ := Aside0.mk (Kd.S_elder' (by (with_reducible repeat (first | apply Kd.S_alloc | apply Kd.S_drewN | apply Kd.S_drew)); exact HO196.out) (Kd.S_base ho0) hb); have n1_ := Aside0.mk (Kd.S_lower (Kd.S_new' ho0 (Kd.S_lt (by (with_reducible repeat (first | apply Kd.S_alloc | apply Kd.S_drewN | apply Kd.S_drew)); exact HO196.out))) (below_size (by repeat (first | (with_reducible first | exact HB.out | apply below_alloc | apply pw_below_drewN | apply below_drew1 | refine below_set ?_ GE192.out) | exact HB.out)))); have n2_ := Aside0.mk (blk_below (g := gb192) (o := .cells #[.slice A0_0 l0_0.length c0_0] 24 (0, 0)) (by (with_reducible repeat (first | refine blk_drewN ?_ _ | refine blk_drew ?_ | refine blk_alloc ?_ _)); exact BK192.out) hb); have n3_ := Aside0.mk (below_step (by repeat (first | (with_reducible first | exact HB.out | apply below_alloc | apply pw_below_drewN | apply below_drew1 | refine below_set ?_ GE192.out) | exact HB.out)) hb); clear HO196; clear BK192; clear HB; have HO196 := n0_; have HO200 := n1_; have BK192 := n2_; have HB := n3_; clear n0_ n1_ n2_ n3_; (try clear hb); (try clear hb2); (try clear hk); (try clear hi); (try clear ho0)) | ((with_reducible refine gate_dst (N := 5) rfl ?_); refine box_event ?hg (N := 5) ?hd (cs := #[.slice none 0 0]) (t := 29) ?hr ?_; (case hd => rfl); (case hg => rfl); (case hr => first | (go_simp; done) | (go_simp; rfl)); intro gb201 hg w24 hbox hb; have n0_ := Aside0.mk (Kd.S_below (by (with_reducible repeat (first | apply Kd.S_alloc | apply Kd.S_drewN | apply Kd.S_drew)); exact HO196.out) hb); have n1_ := Aside0.mk (Kd.S_below (by (with_reducible repeat (first | apply Kd.S_alloc | apply Kd.S_drewN | apply Kd.S_drew)); exact HO200.out) hb); have n2_ := Aside0.mk (blk_below (g := gb192) (o := .cells #[.slice A0_0 l0_0.length c0_0] 24 (0, 0)) (by (with_reducible repeat (first | refine blk_drewN ?_ _ | refine blk_drew ?_ | refine blk_alloc ?_ _)); exact BK192.out) hb); have n3_ := Aside0.mk (below_step (by repeat (first | (with_reducible first | exact HB.out | apply below_alloc | apply pw_below_drewN | apply below_drew1 | refine below_set ?_ GE192.out) | exact HB.out)) hb); have n4_ := Aside0.mk (hbox); have n5_ := Aside0.mk ((by rw [hg]; exact (below_size (by repeat (first | (with_reducible first | exact HB.out | apply below_alloc | apply pw_below_drewN | apply below_drew1 | refine below_set ?_ GE192.out) | exact HB.out))) : w.heap.size ≤ gb201)); have n6_ := Aside0.mk ((by rw [hg]; exact (below_size (by repeat (first | (with_reducible first | exact HB.out | apply below_alloc | apply pw_below_drewN | apply below_drew1 | refine below_set ?_ GE192.out) | exact HB.out))) : w.heap.size ≤ gb201)); have n7_ := Aside0.mk ((by rw [hg]; exact Nat.ne_of_lt (blk_lt (g := gb192) (o := .cells #[.slice A0_0 l0_0.length c0_0] 24 (0, 0)) (by (with_reducible repeat (first | refine blk_drewN ?_ _ | refine blk_drew ?_ | refine blk_alloc ?_ _)); exact BK192.out)) : gb192 ≠ gb201)); have n8_ := Aside0.mk ((by rw [hg]; exact Nat.ne_of_gt (blk_lt (g := gb192) (o := .cells #[.slice A0_0 l0_0.length c0_0] 24 (0, 0)) (by (with_reducible repeat (first | refine blk_drewN ?_ _ | refine blk_drew ?_ | refine blk_alloc ?_ _)); exact BK192.out)) : gb201 ≠ gb192)); clear HO196; clear HO200; clear BK192; clear HB; have HO196 := n0_; have HO200 := n1_; have BK192 := n2_; have HB := n3_; have BK201 := n4_; have GW201 := n5_; have GE201 := n6_; have NB192_201 := n7_; have NB201_192 := n8_; clear n0_ n1_ n2_ n3_ n4_ n5_ n6_ n7_ n8_; clear hb hbox hg; obtain ⟨Ao25, co25, eo25⟩ := Kd.S_slice HO200.out; subst eo25; have hnb26 := NB201_192.out; have hnc26 := NB192_201.out; have hcz27_0 : w24.cell? ⟨gb201, 0, none⟩ = some (.slice none 0 0) := (blk_cell BK201.out 0).trans rfl; have hfz27_0 := blk_frozen BK201.out 0) | ((with_reducible refine gate_callee (f := 20) rfl ?_); refine goesL_ (some 18) rfl rfl Try.func20 (by kernel_rfl) rfl #[.agg #[.slice Ao25 t198.length co25]] rfl (by (try simp only [List.map_toArray, List.map_cons, List.map_nil]); first | done | rfl | (simp only [List.length_drop, List.length_take]; rfl)) ?_; (with_reducible refine (impl_FingOk.calls k _ _ t198 t202 _ ?side1 ?side2 A10.out).mono ?_); (case side1 => refine (Kd.S_reads' (e := 43) (base := w.heap.size) (ok := fun k_ => (True ∧ some k_ ≠ (.slice Ao20 t194.length co20 : Value).ownBlock)) (n := t198.length) (c := co25) ?_).2.2; exact (by (with_reducible repeat (first | apply Kd.S_alloc | apply Kd.S_drewN | apply Kd.S_drew)); exact (Kd.S_mono (Kd.S_far (p := ⟨gb201, 0, none⟩) (Kd.S_types HO200.out BK201.out (by decide)) (fun _ hk => hk.2) (.slice Ao25 t198.length co25)) (fun _ h_ => h_.1)))); (case side2 => exact (Kd.S_reads' HO200.out).2.1); rintro e w28 ⟨rfl, hb⟩; refine ⟨_, rfl, ?_⟩; have n0_ := Aside0.mk (Kd.S_below (by (with_reducible repeat (first | apply Kd.S_alloc | apply Kd.S_drewN | apply Kd.S_drew)); exact (Kd.S_mono (Kd.S_far (p := ⟨gb201, 0, none⟩) (Kd.S_types HO196.out BK201.out (by decide)) (fun _ hk => hk.2) (.slice Ao25 t198.length co25)) (fun _ h_ => h_.1))) hb); have n1_ := Aside0.mk (Kd.S_below (by (with_reducible repeat (first | apply Kd.S_alloc | apply Kd.S_drewN | apply Kd.S_drew)); exact (Kd.S_mono (Kd.S_far (p := ⟨gb201, 0, none⟩) (Kd.S_types HO200.out BK201.out (by decide)) (fun _ hk => hk.2) (.slice Ao25 t198.length co25)) (fun _ h_ => h_.1))) hb); have n2_ := Aside0.mk (blk_below (g := gb192) (o := .cells #[.slice A0_0 l0_0.length c0_0] 24 (0, 0)) (by (with_reducible repeat (first | refine blk_drewN ?_ _ | refine blk_drew ?_ | refine blk_alloc ?_ _)); refine blk_far ?_ NB192_201.out _; (with_reducible repeat (first | refine blk_drewN ?_ _ | refine blk_drew ?_ | refine blk_alloc ?_ _)); exact BK192.out) hb); have n3_ := Aside0.mk (blk_below (g := gb201) (o := .cells #[.slice Ao25 t198.length co25] 29 (0, 0)) (by (with_reducible repeat (first | refine blk_drewN ?_ _ | refine blk_drew ?_ | refine blk_alloc ?_ _)); refine blk_put (cs := #[.slice none 0 0]) ?_ 0 _ rfl; (with_reducible repeat (first | refine blk_drewN ?_ _ | refine blk_drew ?_ | refine blk_alloc ?_ _)); exact BK201.out) hb); have n4_ := Aside0.mk (below_step (by repeat (first | (with_reducible first | exact HB.out | apply below_alloc | apply pw_below_drewN | apply below_drew1 | refine below_set ?_ GE192.out | refine below_set ?_ GE201.out) | exact HB.out)) hb); clear HO196; clear HO200; clear BK192; clear BK201; clear HB; have HO196 := n0_; have HO200 := n1_; have BK192 := n2_; have BK201 := n3_; have HB := n4_; clear n0_ n1_ n2_ n3_ n4_; (try clear hb); (try clear hb2); (try clear hk); (try clear hi)))
        have n0_ := Aside0.mk (Kd.S_drew HO196.out)
        have n1_ := Aside0.mk (Kd.S_drew HO200.out)
        have n2_ := Aside0.mk (blk_drew BK192.out)
        have n3_ := Aside0.mk (blk_drew BK201.out)
        have n4_ := Aside0.mk (below_drew1 HB.out)
        clear HO196
        clear HO200
        clear BK192
        clear BK201
        clear HB
        have HO196 := n0_
        have HO200 := n1_
        have BK192 := n2_
        have BK201 := n3_
        have HB := n4_
        clear n0_ n1_ n2_ n3_ n4_
        refine start_ (n := 5) (S := fun w' => w'.cell? ⟨gb201, 0, none⟩ = some (.slice Ao25 t198.length co25) ∧ w'.cell? ⟨gb192, 0, none⟩ = some (.slice A0_0 l0_0.length c0_0)) (ds := []) #[false, false, false, false, false] (by kernel_rfl) rfl rfl ⟨(blk_cell BK201.out 0).trans rfl, (blk_cell BK192.out 0).trans rfl⟩ (fun hHeld => ?_)
        generalize w28.drew = w29 at HO196 HO200 BK192 BK201 HB hHeld ⊢
        refine take_ (i := 0) (N := some 22) (v := ?_) (a' := ?_) #[true, false, false, false, false] rfl rfl (by kernel_rfl) (fun _ _ _ h => h) (Or.inl ⟨by rfl, ?_⟩) hHeld ?_ ?_
        rotate_left
        · rintro w' ⟨s0, s1⟩
          go_simp
          with_reducible rfl
        rotate_left
        · simp only [Act.put, List.setIfInBounds_toArray, List.set_cons_zero, List.set_cons_succ, i64_w, i32_w]
          rfl
        refine take_ (i := 1) (N := some 23) (v := ?_) (a' := ?_) #[true, true, false, false, false] rfl rfl (by kernel_rfl) (fun _ _ _ h => h) (Or.inl ⟨by rfl, ?_⟩) hHeld ?_ ?_
        rotate_left
        · rintro w' ⟨s0, s1⟩
          go_simp
          with_reducible rfl
        rotate_left
        · simp only [Act.put, List.setIfInBounds_toArray, List.set_cons_zero, List.set_cons_succ, i64_w, i32_w]
          rfl
        refine one_ (i := 2) (N := some 24) #[true, true, true, false, false] rfl rfl (by kernel_rfl) (by decide) (fun K hK => ?_)
        refine goes_ Try.func10 (by kernel_rfl) rfl #[.agg #[.slice A0_0 l0_0.length c0_0]] (by rfl) rfl rfl (by (try simp only [List.map_toArray, List.map_cons, List.map_nil]); first | done | rfl | (simp only [List.length_drop, List.length_take]; rfl)) ?_
        with_reducible refine (laws_toFing.calls k _ _ l0_0 t203 _ ?side1 ?side2 A12.out).mono ?_
        (case side1 => repeat (first | exact (Kd.C_below HR0_0.out HB.out) | exact HR0_0.out | (with_reducible refine Kd.C_alloc ?_ _) | (with_reducible refine Kd.C_drewN ?_ _) | (with_reducible refine Kd.C_drew ?_)))
        (case side2 => exact HC0_0.out)
        rintro e w30 ⟨v204, rfl, ho0, hb⟩
        refine ⟨_, rfl, ?_⟩
        have n0_ := Aside0.mk (Kd.S_elder' (by (with_reducible repeat (first | apply Kd.S_alloc | apply Kd.S_drewN | apply Kd.S_drew)); exact HO196.out) (Kd.S_base ho0) hb)
        have n1_ := Aside0.mk (Kd.S_elder' (by (with_reducible repeat (first | apply Kd.S_alloc | apply Kd.S_drewN | apply Kd.S_drew)); exact HO200.out) (Kd.S_base ho0) hb)
        have n2_ := Aside0.mk (Kd.S_lower (Kd.S_new' (Kd.S_new' ho0 (Kd.S_lt (by (with_reducible repeat (first | apply Kd.S_alloc | apply Kd.S_drewN | apply Kd.S_drew)); exact HO196.out))) (Kd.S_lt (by (with_reducible repeat (first | apply Kd.S_alloc | apply Kd.S_drewN | apply Kd.S_drew)); exact HO200.out))) (below_size (by repeat (first | (with_reducible first | exact HB.out | apply below_alloc | apply pw_below_drewN | apply below_drew1 | refine below_set ?_ GE192.out | refine below_set ?_ GE201.out) | exact HB.out))))
        have n3_ := Aside0.mk (blk_below (g := gb192) (o := .cells #[.slice A0_0 l0_0.length c0_0] 24 (0, 0)) (by (with_reducible repeat (first | refine blk_drewN ?_ _ | refine blk_drew ?_ | refine blk_alloc ?_ _)); exact BK192.out) hb)
        have n4_ := Aside0.mk (blk_below (g := gb201) (o := .cells #[.slice Ao25 t198.length co25] 29 (0, 0)) (by (with_reducible repeat (first | refine blk_drewN ?_ _ | refine blk_drew ?_ | refine blk_alloc ?_ _)); exact BK201.out) hb)
        have n5_ := Aside0.mk (below_step (by repeat (first | (with_reducible first | exact HB.out | apply below_alloc | apply pw_below_drewN | apply below_drew1 | refine below_set ?_ GE192.out | refine below_set ?_ GE201.out) | exact HB.out)) hb)
        clear HO196
        clear HO200
        clear BK192
        clear BK201
        clear HB
        have HO196 := n0_
        have HO200 := n1_
        have HO205 := n2_
        have BK192 := n3_
        have BK201 := n4_
        have HB := n5_
        clear n0_ n1_ n2_ n3_ n4_ n5_
        (try clear hb)
        (try clear hb2)
        (try clear hk)
        (try clear hi)
        (try clear ho0)
        obtain ⟨Ao31, co31, eo31⟩ := Kd.S_slice HO205.out
        (first | subst eo31 | (injection eo31 with f1_ f2_ f3_; have f4_ := f1_.symm; have f5_ := f3_.symm; clear f1_ f2_ f3_; subst f4_; subst f5_))
        refine hK.out _ _ ⟨(blk_cell BK201.out 0).trans rfl, (blk_cell BK192.out 0).trans rfl⟩ (fun hHeld => ?_)
        clear hK K
        refine norm_ (a' := ?_) ?_ ?_
        rotate_left
        · show Act.put _ (some 24) _ = _
          simp only [Act.put, List.setIfInBounds_toArray, List.set_cons_zero, List.set_cons_succ, i64_w, i32_w]
          rfl
        refine one_ (i := 3) (N := some 25) #[true, true, true, true, false] rfl rfl (by kernel_rfl) (by decide) (fun K hK => ?_)
        refine goes_ Try.func12 (by kernel_rfl) rfl #[.agg #[.slice Ao25 t198.length co25], .agg #[.slice Ao31 t203.length co31]] (by rfl) rfl rfl (by (try simp only [List.map_toArray, List.map_cons, List.map_nil]); first | done | rfl | (simp only [List.length_drop, List.length_take]; rfl)) ?_
        with_reducible refine (laws_eqFing.calls k _ _ t198 _ _ t203 true _ ?side1 ?side2 ?side3 ?side4 A13.out).mono ?_
        (case side1 => repeat (first | exact (Kd.S_reads' HO200.out).2.2 | (with_reducible refine Kd.C_alloc ?_ _) | (with_reducible refine Kd.C_drewN ?_ _) | (with_reducible refine Kd.C_drew ?_)))
        (case side2 => exact (Kd.S_reads' HO200.out).2.1)
        (case side3 => repeat (first | exact (Kd.S_reads' HO205.out).2.2 | (with_reducible refine Kd.C_alloc ?_ _) | (with_reducible refine Kd.C_drewN ?_ _) | (with_reducible refine Kd.C_drew ?_)))
        (case side4 => exact (Kd.S_reads' HO205.out).2.1)
        rintro e w32 ⟨rfl, hb⟩
        refine ⟨_, rfl, ?_⟩
        have n0_ := Aside0.mk (Kd.S_below (by (with_reducible repeat (first | apply Kd.S_alloc | apply Kd.S_drewN | apply Kd.S_drew)); exact HO196.out) hb)
        have n1_ := Aside0.mk (Kd.S_below (by (with_reducible repeat (first | apply Kd.S_alloc | apply Kd.S_drewN | apply Kd.S_drew)); exact HO200.out) hb)
        have n2_ := Aside0.mk (Kd.S_below (by (with_reducible repeat (first | apply Kd.S_alloc | apply Kd.S_drewN | apply Kd.S_drew)); exact HO205.out) hb)
        have n3_ := Aside0.mk (blk_below (g := gb192) (o := .cells #[.slice A0_0 l0_0.length c0_0] 24 (0, 0)) (by (with_reducible repeat (first | refine blk_drewN ?_ _ | refine blk_drew ?_ | refine blk_alloc ?_ _)); exact BK192.out) hb)
        have n4_ := Aside0.mk (blk_below (g := gb201) (o := .cells #[.slice Ao25 t198.length co25] 29 (0, 0)) (by (with_reducible repeat (first | refine blk_drewN ?_ _ | refine blk_drew ?_ | refine blk_alloc ?_ _)); exact BK201.out) hb)
        have n5_ := Aside0.mk (below_step (by repeat (first | (with_reducible first | exact HB.out | apply below_alloc | apply pw_below_drewN | apply below_drew1 | refine below_set ?_ GE192.out | refine below_set ?_ GE201.out) | exact HB.out)) hb)
        clear HO196
        clear HO200
        clear HO205
        clear BK192
        clear BK201
        clear HB
        have HO196 := n0_
        have HO200 := n1_
        have HO205 := n2_
        have BK192 := n3_
        have BK201 := n4_
        have HB := n5_
        clear n0_ n1_ n2_ n3_ n4_ n5_
        (try clear hb)
        (try clear hb2)
        (try clear hk)
        (try clear hi)
        refine hK.out _ _ ⟨(blk_cell BK201.out 0).trans rfl, (blk_cell BK192.out 0).trans rfl⟩ (fun hHeld => ?_)
        clear hK K
        refine norm_ (a' := ?_) ?_ ?_
        rotate_left
        · show Act.put _ (some 25) _ = _
          simp only [Act.put, List.setIfInBounds_toArray, List.set_cons_zero, List.set_cons_succ, i64_w, i32_w]
          rfl
        refine pure_ (i := 4) (N := some 26) (v := ?_) (a' := ?_) #[true, true, true, true, true] rfl rfl (by kernel_rfl) (fun _ _ _ h => h) (Or.inl ⟨by rfl, ?_⟩) ?_ ?_
        rotate_left
        · intro w'
          go_simp
          with_reducible rfl
        rotate_left
        · simp only [Act.put, List.setIfInBounds_toArray, List.set_cons_zero, List.set_cons_succ, i64_w, i32_w]
          rfl
        refine done_ (by kernel_rfl) ?_
        try go_wp2
        go_ret
        exact ⟨by first | rfl | (simp [errW_none, errW_some] <;> rfl) | (simp [*, errW_none, errW_some] <;> rfl), by repeat (first | (with_reducible first | exact HB.out | apply below_alloc | apply pw_below_drewN | apply below_drew1 | refine below_set ?_ GE192.out | refine below_set ?_ GE201.out) | exact HB.out)⟩
      · replace c14 := Bool.eq_false_iff.mpr c14
        subst c14
        have H1 : (some false) = some r := by rw [if_neg (show ¬ (false = true) by decide)] at H; exact H
        clear H
        have H := H1
        clear H1
        exact absurd H (by rw [HRT_.out]; simp)

end Go.Proofs.Ytjkipaipaobibaa.PFnExactFingOk
