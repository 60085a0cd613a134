-- Written by wip/xprint.py (the session's program over the kit's printer) for the claim of FnExactFingText; Lean checks it.
import Derived.Test.YtjkipaipaobibaaPFnExactFingTextx0
import Derived.Test.YtjkipaipaobibaaPFnExactFingTextx5
import Derived.Test.YtjkipaipaobibaaPFnExactFingTextx6
namespace Go.Proofs.Ytjkipaipaobibaa.PFnExactFingText
open Go.RowKit Go.Proofs.YtjkipaipaobibaaW.PrintWords Go.Proofs.YtjkipaipaobibaaW.PrintLast Go.Proofs.YtjkipaipaobibaaW.PrintMore
attribute [local go_sem] max2_int min2_int max_two min_two max_three min_three max_four min_four   -- for this text's walks alone
set_option linter.unusedVariables false
set_option linter.unusedSimpArgs false


/-! ### impl_isFing: function 26 -/
def IF.sg (x : S43) : Bool := decide (x.f0.length = 1 ∧ x.f1.length = 0)
def IF.rg (n : Nat) : Bool := decide (1 ≤ n ∧ n ≤ 4)
/-- A level that is bad by its bounds alone. -/
def IF.bad (n : Nat) (x : S43) (d : Nat) : Bool := if IF.sg x = true then decide (d + 1 < n) else (!IF.rg x.f0.length || !IF.rg x.f1.length)
def IF.ns (k : Nat) (d : Int) : List ByteArray → Option Bool
  | [] => some true
  | s :: t => (impl_isNode.f k s d).bind fun b => if b = true then IF.ns k d t else some false
def IF.lv (k n : Nat) : List S43 → Nat → Option Bool
  | [], _ => some true
  | x :: t, d => if IF.bad n x d = true then some false else (IF.ns k (d : Int) (x.f0 ++ x.f1)).bind fun b => if b = true then IF.lv k n t (d + 1) else some false
def impl_isFing.f (k : Nat) (l0_0 : List S43) : Option Bool := if l0_0.length ≤ 1048576 ∧ (∀ x ∈ l0_0, x.f0.length + x.f1.length ≤ 1048576) then (IF.lv k l0_0.length l0_0 0).bind fun b => if b = true then (impl_Fing_leaves.f l0_0).bind fun t => some (decide (t ≤ 200)) else some false else none
theorem IF.ns_mono (k : Nat) (d : Int) : ∀ l : List ByteArray, LeO (IF.ns k d l) (IF.ns (k + 1) d l) := by
  intro l
  induction l with
  | nil => exact LeO.refl _
  | cons s t ih => unfold IF.ns; exact LeO.bind (impl_isNode.mono _ _ _) (fun _ => LeO.ite ih (LeO.refl _))
theorem IF.lv_mono (k n : Nat) : ∀ (l : List S43) (d : Nat), LeO (IF.lv k n l d) (IF.lv (k + 1) n l d) := by
  intro l
  induction l with
  | nil => intro d; exact LeO.refl _
  | cons s t ih => intro d; unfold IF.lv; exact LeO.ite (LeO.refl _) (LeO.bind (IF.ns_mono _ _ _) (fun _ => LeO.ite (ih _) (LeO.refl _)))
theorem impl_isFing.mono : ∀ a0 k, LeO (impl_isFing.f k a0) (impl_isFing.f (k + 1) a0) := by
  intro a0 k
  unfold impl_isFing.f
  exact LeO.ite (LeO.bind (IF.lv_mono _ _ _ _) (fun _ => LeO.refl _)) (LeO.none _)
theorem IF.sg_f (x : S43) : impl_Level_isSingle.f x.f0 x.f1 = some (IF.sg x) := by
  unfold impl_Level_isSingle.f IF.sg
  by_cases h : (x.f0.length : Int) = 1
  · rw [if_pos h]
    congr 1
    by_cases h2 : x.f1.length = 0
    · rw [decide_eq_true (⟨by omega, h2⟩ : x.f0.length = 1 ∧ x.f1.length = 0), h2]; rfl
    · rw [decide_eq_false (fun e : x.f0.length = 1 ∧ x.f1.length = 0 => h2 e.2)]
      exact beq_eq_false_iff_ne.2 (by omega)
  · rw [if_neg h, decide_eq_false (fun e : x.f0.length = 1 ∧ x.f1.length = 0 => h (by omega))]
theorem IF.rg_f (n : Nat) : impl_in.f (n : Int) 1 4 = some (IF.rg n) := by
  unfold impl_in.f IF.rg
  by_cases h : (1 : Int) ≤ (n : Int)
  · rw [if_pos h]
    congr 1
    by_cases h2 : n ≤ 4
    · rw [decide_eq_true (by omega : (n : Int) ≤ 4), decide_eq_true ⟨by omega, h2⟩]
    · rw [decide_eq_false (by omega : ¬ (n : Int) ≤ 4), decide_eq_false (fun e : 1 ≤ n ∧ n ≤ 4 => h2 e.2)]
  · rw [if_neg h, decide_eq_false (fun e : 1 ≤ n ∧ n ≤ 4 => h (by omega))]
theorem IF.drop {L : List ByteArray} {j : Nat} (hj : j < L.length) : L.drop j = rdOf ByteArray.empty L (j : Int) :: L.drop (j + 1) := by
  unfold rdOf
  rw [Int.toNat_natCast, List.getD_eq_getElem?_getD, List.getElem?_eq_getElem hj, List.drop_eq_getElem_cons hj]
  rfl
theorem IF.dropL {L : List S43} {j : Nat} (hj : j < L.length) : L.drop j = rd_T43 L (j : Int) :: L.drop (j + 1) := by
  unfold rd_T43
  rw [Int.toNat_natCast, List.getD_eq_getElem?_getD, List.getElem?_eq_getElem hj, List.drop_eq_getElem_cons hj]
  rfl
set_option maxHeartbeats 16000000 in
set_option maxRecDepth 1000000 in
/-- A tree is valid. -/
theorem impl_isFing.calls (k : Nat) (A0_0 : Option Addr) (c0_0 : Nat) (l0_0 : List S43) (r : Bool) (w : World) (hr0_0 : Kd.C k43 w A0_0 l0_0.length l0_0) (hc0_0 : l0_0.length ≤ c0_0) (h : impl_isFing.f k l0_0 = some r) :
    Calls Try.prog 26 #[.agg #[.slice A0_0 l0_0.length c0_0]] w fun e w' => e = .returned (.bool r) ∧ Below w.heap.size w w' := by
  have hu_ := Try.underlying43
  have hv_ := Try.underlying29
  unfold impl_isFing.f at h
  by_cases hs : l0_0.length ≤ 1048576 ∧ (∀ x ∈ l0_0, x.f0.length + x.f1.length ≤ 1048576)
  case neg => rw [if_neg hs] at h; cases h
  rw [if_pos hs] at h
  obtain ⟨bb, h1, h⟩ := Option.bind_eq_some_iff.1 h
  have HF := Aside0.mk h
  have H := Aside0.mk h1
  have HS := Aside0.mk hs
  have HR := Aside0.mk hr0_0
  have HC := Aside0.mk hc0_0
  clear hs hr0_0 hc0_0 h h1
  have HB := Aside0.mk (Below.refl w.heap.size w)
  go_enter Try.func26, Try.ntmps26
  go_wp2_with (first | ((with_reducible refine gate_dst (N := 1) rfl ?_); refine box_event ?hg (N := 1) ?hd (cs := #[.slice A0_0 l0_0.length c0_0]) (t := 29) ?hr ?_; (case hd => rfl); (case hg => rfl); (case hr => first | (go_simp; done) | (go_simp; rfl)); intro gbf hg w3 hbox hb; have n0_ := Aside0.mk (below_step (by repeat (first | exact HB.out | apply below_alloc | apply pw_below_drewN | apply below_drew1)) hb); have BKF := Aside0.mk hbox; clear HB hb hbox; have HB := n0_; clear n0_ hg; have hczf : w3.cell? ⟨gbf, 0, none⟩ = some (.slice A0_0 l0_0.length c0_0) := (blk_cell BKF.out 0).trans rfl; have hfzf := blk_frozen BKF.out 0))
  repeat (go_quiet (fail); try go_wp2)
  go_loopg [10] (l0_0.length + 1) (fun kx v10 w' => ∃ i : Nat, v10 = .int .i64 (i : Int) ∧ Aside0 (i ≤ l0_0.length) ∧ Aside0 (l0_0.length - i < kx) ∧ Aside0 (IF.lv k l0_0.length (l0_0.drop i) i = some bb) ∧ Aside0 (w'.heap[gbf]? = some (.cells #[.slice A0_0 l0_0.length c0_0] 29 (0, 0))) ∧ Aside0 (Below w.heap.size w w'))
  case atStart => exact ⟨0, rfl, ⟨Nat.zero_le _⟩, ⟨by omega⟩, H, ⟨by (with_reducible repeat (first | refine blk_drewN ?_ _ | refine blk_drew ?_ | refine blk_alloc ?_ _)); exact BKF.out⟩, ⟨by repeat (first | exact HB.out | apply below_alloc | apply pw_below_drewN | apply below_drew1)⟩⟩
  case round =>
    clear HB BKF hczf hfzf H
    obtain ⟨i, rfl, HI, HK, H, BKF, HB⟩ := hrel
    have hczf : wr.cell? ⟨gbf, 0, none⟩ = some (.slice A0_0 l0_0.length c0_0) := (blk_cell BKF.out 0).trans rfl
    have hfzf := blk_frozen BKF.out 0
    by_cases hi : i < l0_0.length
    · have c3 : decide ((i : Int) < (l0_0.length : Int)) = true := decide_eq_true (by omega)
      have p0 : 0 ≤ (i : Int) := by omega
      have q0 : (i : Int) < (l0_0.length : Int) := by omega
      obtain ⟨ad, A1, c1, A2, c2, e1, hx0, hx1, hl1, hi1, hl2, hi2⟩ := at_T43 HR.out (i : Int) p0 q0
      subst e1
      rw [Int.toNat_natCast] at hx0 hx1
      (try replace hx0 := (HB.out.cell (World.block_lt_of_cell? w _ hx0)).trans hx0)
      (try replace hx1 := (HB.out.cell (World.block_lt_of_cell? w _ hx1)).trans hx1)
      have hm := HS.out.2 _ (FL.mem hi)
      have h := H.out
      rw [IF.dropL hi] at h
      generalize hrd : rd_T43 l0_0 (i : Int) = x at *
      obtain ⟨L, hL⟩ : ∃ L : List ByteArray, L = x.f0 ++ x.f1 := ⟨_, rfl⟩
      have hcat := CC.cat _ _ hm
      unfold IF.lv at h
      rw [← hL] at h hcat
      have HM := Aside0.mk hcat
      have HLn := Aside0.mk ((by rw [hL, List.length_append]; exact hm) : L.length ≤ 1048576)
      have hw3 : wrap64 ((i : Int) + 1) = ((i + 1 : Nat) : Int) := by unfold wrap64; have := HS.out.1; omega
      have hw5 : wrap64 ((l0_0.length : Int) - 1) = (l0_0.length : Int) - 1 := by unfold wrap64; have := HS.out.1; omega
      have hsg := IF.sg_f x
      have hin1 := IF.rg_f x.f0.length
      have hin2 := IF.rg_f x.f1.length
      have HW := Aside0.mk hi
      have HX1 := Aside0.mk hi1
      have HX2 := Aside0.mk hi2
      have HL1 := Aside0.mk hl1
      have HL2 := Aside0.mk hl2
      clear hrd hi hi1 hi2 hl1 hl2 hm hcat hL H
      cases hs1 : IF.sg x with
      | true =>
        rw [hs1] at hsg
        have hbd : IF.bad l0_0.length x i = decide (i + 1 < l0_0.length) := by unfold IF.bad; rw [hs1]; rfl
        rw [hbd] at h
        clear hbd
        have HSG := Aside0.mk hsg
        clear hsg hin1 hin2 hs1
        by_cases h5 : i + 1 < l0_0.length
        · have c5 : decide ((i : Int) < (l0_0.length : Int) - 1) = true := decide_eq_true (by omega)
          rw [decide_eq_true h5, if_pos rfl] at h
          obtain rfl := Option.some.inj h
          have hf := HF.out
          rw [if_neg (by decide)] at hf
          obtain rfl := Option.some.inj hf
          clear h hf h5
          go_wp2_with (first | ((with_reducible refine gate_dst (N := 4) rfl ?_); refine box_event ?hg (N := 4) ?hd (cs := #[.slice none 0 0, .slice none 0 0]) (t := 43) ?hr ?_; (case hd => rfl); (case hg => rfl); (case hr => first | (go_simp; done) | (go_simp; rfl)); intro gb hg w5 hbox hb; have NE := Aside0.mk ((by rw [hg]; exact Nat.ne_of_lt (blk_lt (g := gbf) (o := .cells #[.slice (some ad) l0_0.length c0_0] 29 (0, 0)) (by (with_reducible repeat (first | refine blk_drewN ?_ _ | refine blk_drew ?_ | refine blk_alloc ?_ _)); exact BKF.out))) : gbf ≠ gb); have n1_ := Aside0.mk (blk_below (g := gbf) (o := .cells #[.slice (some ad) l0_0.length c0_0] 29 (0, 0)) (by (with_reducible repeat (first | refine blk_drewN ?_ _ | refine blk_drew ?_ | refine blk_alloc ?_ _)); exact BKF.out) hb); have GE := Aside0.mk ((by rw [hg]; exact (below_size (by repeat (first | exact HB.out | apply below_alloc | apply pw_below_drewN | apply below_drew1)))) : w.heap.size ≤ gb); have n0_ := Aside0.mk (below_step (by repeat (first | exact HB.out | apply below_alloc | apply pw_below_drewN | apply below_drew1)) hb); have BK := Aside0.mk hbox; clear HB hb hbox BKF hczf hfzf; have HB := n0_; have BKF := n1_; clear n0_ n1_ hg; have hcz0 : w5.cell? ⟨gb, 0, none⟩ = some (.slice none 0 0) := (blk_cell BK.out 0).trans rfl; have hcz1 : w5.cell? ⟨gb, 1, none⟩ = some (.slice none 0 0) := (blk_cell BK.out 1).trans rfl; have hfz0 := blk_frozen BK.out 0; have hfz1 := blk_frozen BK.out 1) | (go_at_call 43; refine (impl_Level_isSingle.calls A1 c1 x.f0 A2 c2 x.f1 true _ (Kd.C_below HX1.out (by repeat (first | exact HB.out | apply below_alloc | apply pw_below_drewN | apply below_drew1 | refine below_set ?_ GE.out))) HL1.out (Kd.C_below HX2.out (by repeat (first | exact HB.out | apply below_alloc | apply pw_below_drewN | apply below_drew1 | refine below_set ?_ GE.out))) HL2.out HSG.out).mono ?_; rintro e w7 ⟨rfl, hb⟩; have n0_ := Aside0.mk (below_step (by repeat (first | exact HB.out | apply below_alloc | apply pw_below_drewN | apply below_drew1 | refine below_set ?_ GE.out)) hb); have n1_ := Aside0.mk (blk_below (g := gbf) (o := .cells #[.slice (some ad) l0_0.length c0_0] 29 (0, 0)) (by refine blk_far ?_ NE.out _; refine blk_far ?_ NE.out _; exact BKF.out) hb); have n2_ := Aside0.mk (blk_below (g := gb) (o := .cells #[.slice A1 x.f0.length c1, .slice A2 x.f1.length c2] 43 (0, 0)) (by refine blk_put (cs := #[.slice A1 x.f0.length c1, .slice none 0 0]) ?_ 1 _ rfl; refine blk_put (cs := #[.slice none 0 0, .slice none 0 0]) ?_ 0 _ rfl; exact BK.out) hb); clear HB hb BKF BK hcz0 hcz1 hfz0 hfz1; have HB := n0_; have BKF := n1_; have BK := n2_; clear n0_ n1_ n2_; have hcz0 : w7.cell? ⟨gb, 0, none⟩ = some (.slice A1 x.f0.length c1) := (blk_cell BK.out 0).trans rfl; have hcz1 : w7.cell? ⟨gb, 1, none⟩ = some (.slice A2 x.f1.length c2) := (blk_cell BK.out 1).trans rfl; have hfz0 := blk_frozen BK.out 0; have hfz1 := blk_frozen BK.out 1; have hczf : w7.cell? ⟨gbf, 0, none⟩ = some (.slice (some ad) l0_0.length c0_0) := (blk_cell BKF.out 0).trans rfl; have hfzf := blk_frozen BKF.out 0))
          repeat (go_quiet (fail); try go_wp2)
          go_ret
          exact ⟨rfl, by repeat (first | exact HB.out | apply below_alloc | apply pw_below_drewN | apply below_drew1 | refine below_set ?_ GE.out)⟩
        · have c5 : decide ((i : Int) < (l0_0.length : Int) - 1) = false := decide_eq_false (by omega)
          rw [decide_eq_false h5, if_neg (by decide)] at h
          obtain ⟨nb, hn, h2⟩ := Option.bind_eq_some_iff.1 h
          have HN := Aside0.mk hn
          have H2 := Aside0.mk h2
          clear h hn h2 h5
          go_wp2_with (first | ((with_reducible refine gate_dst (N := 4) rfl ?_); refine box_event ?hg (N := 4) ?hd (cs := #[.slice none 0 0, .slice none 0 0]) (t := 43) ?hr ?_; (case hd => rfl); (case hg => rfl); (case hr => first | (go_simp; done) | (go_simp; rfl)); intro gb hg w5 hbox hb; have NE := Aside0.mk ((by rw [hg]; exact Nat.ne_of_lt (blk_lt (g := gbf) (o := .cells #[.slice (some ad) l0_0.length c0_0] 29 (0, 0)) (by (with_reducible repeat (first | refine blk_drewN ?_ _ | refine blk_drew ?_ | refine blk_alloc ?_ _)); exact BKF.out))) : gbf ≠ gb); have n1_ := Aside0.mk (blk_below (g := gbf) (o := .cells #[.slice (some ad) l0_0.length c0_0] 29 (0, 0)) (by (with_reducible repeat (first | refine blk_drewN ?_ _ | refine blk_drew ?_ | refine blk_alloc ?_ _)); exact BKF.out) hb); have GE := Aside0.mk ((by rw [hg]; exact (below_size (by repeat (first | exact HB.out | apply below_alloc | apply pw_below_drewN | apply below_drew1)))) : w.heap.size ≤ gb); have n0_ := Aside0.mk (below_step (by repeat (first | exact HB.out | apply below_alloc | apply pw_below_drewN | apply below_drew1)) hb); have BK := Aside0.mk hbox; clear HB hb hbox BKF hczf hfzf; have HB := n0_; have BKF := n1_; clear n0_ n1_ hg; have hcz0 : w5.cell? ⟨gb, 0, none⟩ = some (.slice none 0 0) := (blk_cell BK.out 0).trans rfl; have hcz1 : w5.cell? ⟨gb, 1, none⟩ = some (.slice none 0 0) := (blk_cell BK.out 1).trans rfl; have hfz0 := blk_frozen BK.out 0; have hfz1 := blk_frozen BK.out 1) | (go_at_call 43; refine (impl_Level_isSingle.calls A1 c1 x.f0 A2 c2 x.f1 true _ (Kd.C_below HX1.out (by repeat (first | exact HB.out | apply below_alloc | apply pw_below_drewN | apply below_drew1 | refine below_set ?_ GE.out))) HL1.out (Kd.C_below HX2.out (by repeat (first | exact HB.out | apply below_alloc | apply pw_below_drewN | apply below_drew1 | refine below_set ?_ GE.out))) HL2.out HSG.out).mono ?_; rintro e w7 ⟨rfl, hb⟩; have n0_ := Aside0.mk (below_step (by repeat (first | exact HB.out | apply below_alloc | apply pw_below_drewN | apply below_drew1 | refine below_set ?_ GE.out)) hb); have n1_ := Aside0.mk (blk_below (g := gbf) (o := .cells #[.slice (some ad) l0_0.length c0_0] 29 (0, 0)) (by refine blk_far ?_ NE.out _; refine blk_far ?_ NE.out _; exact BKF.out) hb); have n2_ := Aside0.mk (blk_below (g := gb) (o := .cells #[.slice A1 x.f0.length c1, .slice A2 x.f1.length c2] 43 (0, 0)) (by refine blk_put (cs := #[.slice A1 x.f0.length c1, .slice none 0 0]) ?_ 1 _ rfl; refine blk_put (cs := #[.slice none 0 0, .slice none 0 0]) ?_ 0 _ rfl; exact BK.out) hb); clear HB hb BKF BK hcz0 hcz1 hfz0 hfz1; have HB := n0_; have BKF := n1_; have BK := n2_; clear n0_ n1_ n2_; have hcz0 : w7.cell? ⟨gb, 0, none⟩ = some (.slice A1 x.f0.length c1) := (blk_cell BK.out 0).trans rfl; have hcz1 : w7.cell? ⟨gb, 1, none⟩ = some (.slice A2 x.f1.length c2) := (blk_cell BK.out 1).trans rfl; have hfz0 := blk_frozen BK.out 0; have hfz1 := blk_frozen BK.out 1; have hczf : w7.cell? ⟨gbf, 0, none⟩ = some (.slice (some ad) l0_0.length c0_0) := (blk_cell BKF.out 0).trans rfl; have hfzf := blk_frozen BKF.out 0) | ((with_reducible refine gate_dst (N := 39) rfl ?_); refine CC.event ?hg (cs := #[.slice A1 x.f0.length c1, .slice A2 x.f1.length c2]) (t := 41) 2 ?hr ?_; (case hg => rfl); (case hr => first | (go_simp; done) | (go_simp; rfl)); intro ga w6 hga hrow hb; have n0_ := Aside0.mk (below_step (by repeat (first | exact HB.out | apply below_alloc | apply pw_below_drewN | apply below_drew1 | refine below_set ?_ GE.out)) hb); have n1_ := Aside0.mk (blk_below (g := gbf) (o := .cells #[.slice (some ad) l0_0.length c0_0] 29 (0, 0)) (by (with_reducible repeat (first | refine blk_drewN ?_ _ | refine blk_drew ?_ | refine blk_alloc ?_ _)); exact BKF.out) hb); have RK := Aside0.mk hrow; clear HB hb hrow hga BKF hczf hfzf; have HB := n0_; have BKF := n1_; clear n0_ n1_) | (go_at_call 44; refine (slices_Concat_string_string.calls (some ⟨ga, 0, none⟩) 2 [x.f0, x.f1] L w6 (CC.pair RK.out HL1.out (Kd.C_below HX1.out HB.out) HL2.out (Kd.C_below HX2.out HB.out)) (Nat.le_refl _) HM.out).mono ?_; rintro e w10 ⟨v7, rfl, ho7, hb7⟩; obtain ⟨A7, c7, ev⟩ := Kd.R_slice ho7; subst ev; have HO := Aside0.mk ho7; have n1_ := Aside0.mk (blk_below (g := gbf) (o := .cells #[.slice (some ad) l0_0.length c0_0] 29 (0, 0)) BKF.out hb7); have n0_ := Aside0.mk (below_step HB.out hb7); clear HB ho7 hb7 BKF; have HB := n0_; have BKF := n1_; clear n0_ n1_))
          repeat (go_quiet (fail); try go_wp2)
          obtain ⟨gk0, hgk0⟩ : ∃ g_ : Nat, g_ = gk := ⟨_, rfl⟩
          have HG := Aside0.mk hgk0
          have HK0 := Aside0.mk HK.out
          clear HK BK RK hgk0 hcz0 hcz1 hfz0 hfz1
          go_loopg [42] (L.length + 1) (fun kx v42 w' => ∃ j : Nat, v42 = .int .i64 (j : Int) ∧ Aside0 (j ≤ L.length) ∧ Aside0 (L.length - j < kx) ∧ Aside0 (IF.ns k (i : Int) (L.drop j) = some nb) ∧ Aside0 (Kd.R Kd.string 9 w' w6.heap.size (fun _ => True) (.slice A7 L.length c7) L) ∧ Aside0 (w'.heap[gbf]? = some (.cells #[.slice (some ad) l0_0.length c0_0] 29 (0, 0))) ∧ Aside0 (Below w.heap.size w w'))
          case atStart => exact ⟨0, rfl, ⟨Nat.zero_le _⟩, ⟨by omega⟩, HN, ⟨by (with_reducible repeat (first | apply Kd.R_alloc | apply Kd.R_drewN | apply Kd.R_drew)); exact HO.out⟩, ⟨by (with_reducible repeat (first | refine blk_drewN ?_ _ | refine blk_drew ?_ | refine blk_alloc ?_ _)); exact BKF.out⟩, ⟨by repeat (first | exact HB.out | apply below_alloc | apply pw_below_drewN | apply below_drew1)⟩⟩
          case round =>
            clear HO HB BKF HN
            obtain ⟨j, rfl, HJ, HK, HN, HO, BKF, HB⟩ := hrel
            by_cases hj : j < L.length
            · have c4 : decide ((j : Int) < (L.length : Int)) = true := decide_eq_true (by omega)
              have p1 : 0 ≤ (j : Int) := by omega
              have q1 : (j : Int) < (L.length : Int) := by omega
              obtain ⟨ae, e2, hxs⟩ := Kd.at_string (Kd.R_reads' HO.out).2.2 (j : Int) p1 q1
              subst e2
              rw [Int.toNat_natCast] at hxs
              have hns := HN.out
              rw [IF.drop hj] at hns
              have hw4 : wrap64 ((j : Int) + 1) = ((j + 1 : Nat) : Int) := by have := HLn.out; unfold wrap64; omega
              generalize rdOf ByteArray.empty L (j : Int) = s at *
              have HW2 := Aside0.mk hj
              clear hj
              unfold IF.ns at hns
              obtain ⟨t, ht, hns⟩ := Option.bind_eq_some_iff.1 hns
              cases t with
              | false =>
                rw [if_neg (by decide)] at hns
                obtain rfl := Option.some.inj hns
                clear hns
                have h2 := H2.out
                rw [if_neg (by decide)] at h2
                obtain rfl := Option.some.inj h2
                have hf := HF.out
                rw [if_neg (by decide)] at hf
                obtain rfl := Option.some.inj hf
                clear h2 hf
                have HTT := Aside0.mk ht
                clear ht
                go_wp2_with (first | (go_at_call 31; refine (impl_isNode.calls k s (i : Int) false _ HTT.out).mono ?_; rintro e w8 ⟨rfl, hd_⟩; obtain ⟨n_, hn_⟩ := hd_; subst hn_))
                repeat (go_quiet (fail); try go_wp2)
                go_ret
                exact ⟨rfl, by repeat (first | exact HB.out | apply below_alloc | apply pw_below_drewN | apply below_drew1)⟩
              | true =>
                rw [if_pos rfl] at hns
                have HTT := Aside0.mk ht
                have HN2 := Aside0.mk hns
                clear ht hns HN
                go_wp2_with (first | (go_at_call 31; refine (impl_isNode.calls k s (i : Int) true _ HTT.out).mono ?_; rintro e w8 ⟨rfl, hd_⟩; obtain ⟨n_, hn_⟩ := hd_; subst hn_))
                repeat (go_quiet (fail); try go_wp2)
                go_roundg (gk - 1)
                case measure => have := HK.out; omega
                case rel => exact ⟨j + 1, by first | rfl | (simp only [hw4]; done) | (simp [*]; done), ⟨HW2.out⟩, ⟨by have := HK.out; have := HW2.out; omega⟩, HN2, ⟨by (with_reducible repeat (first | apply Kd.R_alloc | apply Kd.R_drewN | apply Kd.R_drew)); exact HO.out⟩, ⟨by (with_reducible repeat (first | refine blk_drewN ?_ _ | refine blk_drew ?_ | refine blk_alloc ?_ _)); exact BKF.out⟩, ⟨by repeat (first | exact HB.out | apply below_alloc | apply pw_below_drewN | apply below_drew1)⟩⟩
            · have hjl : j = L.length := by have := HJ.out; omega
              subst hjl
              have c4 : decide ((L.length : Int) < (L.length : Int)) = false := decide_eq_false (by omega)
              clear hj
              have hns := HN.out
              rw [List.drop_length] at hns
              unfold IF.ns at hns
              obtain rfl := Option.some.inj hns
              clear hns
              have h2 := H2.out
              rw [if_pos rfl] at h2
              have HL3 := Aside0.mk h2
              clear h2 H2 HN
              go_wp2
              go_roundg (gk0 - 1)
              case measure => have := HK0.out; have := HG.out; omega
              case rel => exact ⟨i + 1, by first | rfl | (simp only [hw3]; done) | (simp [*]; done), ⟨HW.out⟩, ⟨by have := HK0.out; have := HG.out; have := HW.out; omega⟩, HL3, ⟨by (with_reducible repeat (first | refine blk_drewN ?_ _ | refine blk_drew ?_ | refine blk_alloc ?_ _)); exact BKF.out⟩, ⟨by repeat (first | exact HB.out | apply below_alloc | apply pw_below_drewN | apply below_drew1)⟩⟩
      | false =>
        rw [hs1] at hsg
        have HSG := Aside0.mk hsg
        clear hsg
        cases hr1 : IF.rg x.f0.length with
        | false =>
          rw [hr1] at hin1
          have hbd : IF.bad l0_0.length x i = true := by unfold IF.bad; rw [hs1, hr1]; rfl
          rw [hbd, if_pos rfl] at h
          clear hbd hs1
          have HIN1 := Aside0.mk hin1
          clear hin1 hr1 hin2
          obtain rfl := Option.some.inj h
          have hf := HF.out
          rw [if_neg (by decide)] at hf
          obtain rfl := Option.some.inj hf
          clear h hf
          go_wp2_with (first | ((with_reducible refine gate_dst (N := 4) rfl ?_); refine box_event ?hg (N := 4) ?hd (cs := #[.slice none 0 0, .slice none 0 0]) (t := 43) ?hr ?_; (case hd => rfl); (case hg => rfl); (case hr => first | (go_simp; done) | (go_simp; rfl)); intro gb hg w5 hbox hb; have NE := Aside0.mk ((by rw [hg]; exact Nat.ne_of_lt (blk_lt (g := gbf) (o := .cells #[.slice (some ad) l0_0.length c0_0] 29 (0, 0)) (by (with_reducible repeat (first | refine blk_drewN ?_ _ | refine blk_drew ?_ | refine blk_alloc ?_ _)); exact BKF.out))) : gbf ≠ gb); have n1_ := Aside0.mk (blk_below (g := gbf) (o := .cells #[.slice (some ad) l0_0.length c0_0] 29 (0, 0)) (by (with_reducible repeat (first | refine blk_drewN ?_ _ | refine blk_drew ?_ | refine blk_alloc ?_ _)); exact BKF.out) hb); have GE := Aside0.mk ((by rw [hg]; exact (below_size (by repeat (first | exact HB.out | apply below_alloc | apply pw_below_drewN | apply below_drew1)))) : w.heap.size ≤ gb); have n0_ := Aside0.mk (below_step (by repeat (first | exact HB.out | apply below_alloc | apply pw_below_drewN | apply below_drew1)) hb); have BK := Aside0.mk hbox; clear HB hb hbox BKF hczf hfzf; have HB := n0_; have BKF := n1_; clear n0_ n1_ hg; have hcz0 : w5.cell? ⟨gb, 0, none⟩ = some (.slice none 0 0) := (blk_cell BK.out 0).trans rfl; have hcz1 : w5.cell? ⟨gb, 1, none⟩ = some (.slice none 0 0) := (blk_cell BK.out 1).trans rfl; have hfz0 := blk_frozen BK.out 0; have hfz1 := blk_frozen BK.out 1) | (go_at_call 43; refine (impl_Level_isSingle.calls A1 c1 x.f0 A2 c2 x.f1 false _ (Kd.C_below HX1.out (by repeat (first | exact HB.out | apply below_alloc | apply pw_below_drewN | apply below_drew1 | refine below_set ?_ GE.out))) HL1.out (Kd.C_below HX2.out (by repeat (first | exact HB.out | apply below_alloc | apply pw_below_drewN | apply below_drew1 | refine below_set ?_ GE.out))) HL2.out HSG.out).mono ?_; rintro e w7 ⟨rfl, hb⟩; have n0_ := Aside0.mk (below_step (by repeat (first | exact HB.out | apply below_alloc | apply pw_below_drewN | apply below_drew1 | refine below_set ?_ GE.out)) hb); have n1_ := Aside0.mk (blk_below (g := gbf) (o := .cells #[.slice (some ad) l0_0.length c0_0] 29 (0, 0)) (by refine blk_far ?_ NE.out _; refine blk_far ?_ NE.out _; exact BKF.out) hb); have n2_ := Aside0.mk (blk_below (g := gb) (o := .cells #[.slice A1 x.f0.length c1, .slice A2 x.f1.length c2] 43 (0, 0)) (by refine blk_put (cs := #[.slice A1 x.f0.length c1, .slice none 0 0]) ?_ 1 _ rfl; refine blk_put (cs := #[.slice none 0 0, .slice none 0 0]) ?_ 0 _ rfl; exact BK.out) hb); clear HB hb BKF BK hcz0 hcz1 hfz0 hfz1; have HB := n0_; have BKF := n1_; have BK := n2_; clear n0_ n1_ n2_; have hcz0 : w7.cell? ⟨gb, 0, none⟩ = some (.slice A1 x.f0.length c1) := (blk_cell BK.out 0).trans rfl; have hcz1 : w7.cell? ⟨gb, 1, none⟩ = some (.slice A2 x.f1.length c2) := (blk_cell BK.out 1).trans rfl; have hfz0 := blk_frozen BK.out 0; have hfz1 := blk_frozen BK.out 1; have hczf : w7.cell? ⟨gbf, 0, none⟩ = some (.slice (some ad) l0_0.length c0_0) := (blk_cell BKF.out 0).trans rfl; have hfzf := blk_frozen BKF.out 0) | (go_at_call 34; (with_reducible refine (impl_in.calls (x.f0.length : Int) 1 4 false _ HIN1.out).mono ?_); rintro e w8 ⟨rfl, hd_⟩; obtain ⟨n_, hn_⟩ := hd_; subst hn_))
          repeat (go_quiet (fail); try go_wp2)
          go_ret
          exact ⟨rfl, by repeat (first | exact HB.out | apply below_alloc | apply pw_below_drewN | apply below_drew1 | refine below_set ?_ GE.out)⟩
        | true =>
          rw [hr1] at hin1
          have HIN1 := Aside0.mk hin1
          clear hin1
          cases hr2 : IF.rg x.f1.length with
          | false =>
            rw [hr2] at hin2
            have hbd : IF.bad l0_0.length x i = true := by unfold IF.bad; rw [hs1, hr1, hr2]; rfl
            rw [hbd, if_pos rfl] at h
            clear hbd hs1 hr1
            have HIN2 := Aside0.mk hin2
            clear hin2 hr2
            obtain rfl := Option.some.inj h
            have hf := HF.out
            rw [if_neg (by decide)] at hf
            obtain rfl := Option.some.inj hf
            clear h hf
            go_wp2_with (first | ((with_reducible refine gate_dst (N := 4) rfl ?_); refine box_event ?hg (N := 4) ?hd (cs := #[.slice none 0 0, .slice none 0 0]) (t := 43) ?hr ?_; (case hd => rfl); (case hg => rfl); (case hr => first | (go_simp; done) | (go_simp; rfl)); intro gb hg w5 hbox hb; have NE := Aside0.mk ((by rw [hg]; exact Nat.ne_of_lt (blk_lt (g := gbf) (o := .cells #[.slice (some ad) l0_0.length c0_0] 29 (0, 0)) (by (with_reducible repeat (first | refine blk_drewN ?_ _ | refine blk_drew ?_ | refine blk_alloc ?_ _)); exact BKF.out))) : gbf ≠ gb); have n1_ := Aside0.mk (blk_below (g := gbf) (o := .cells #[.slice (some ad) l0_0.length c0_0] 29 (0, 0)) (by (with_reducible repeat (first | refine blk_drewN ?_ _ | refine blk_drew ?_ | refine blk_alloc ?_ _)); exact BKF.out) hb); have GE := Aside0.mk ((by rw [hg]; exact (below_size (by repeat (first | exact HB.out | apply below_alloc | apply pw_below_drewN | apply below_drew1)))) : w.heap.size ≤ gb); have n0_ := Aside0.mk (below_step (by repeat (first | exact HB.out | apply below_alloc | apply pw_below_drewN | apply below_drew1)) hb); have BK := Aside0.mk hbox; clear HB hb hbox BKF hczf hfzf; have HB := n0_; have BKF := n1_; clear n0_ n1_ hg; have hcz0 : w5.cell? ⟨gb, 0, none⟩ = some (.slice none 0 0) := (blk_cell BK.out 0).trans rfl; have hcz1 : w5.cell? ⟨gb, 1, none⟩ = some (.slice none 0 0) := (blk_cell BK.out 1).trans rfl; have hfz0 := blk_frozen BK.out 0; have hfz1 := blk_frozen BK.out 1) | (go_at_call 43; refine (impl_Level_isSingle.calls A1 c1 x.f0 A2 c2 x.f1 false _ (Kd.C_below HX1.out (by repeat (first | exact HB.out | apply below_alloc | apply pw_below_drewN | apply below_drew1 | refine below_set ?_ GE.out))) HL1.out (Kd.C_below HX2.out (by repeat (first | exact HB.out | apply below_alloc | apply pw_below_drewN | apply below_drew1 | refine below_set ?_ GE.out))) HL2.out HSG.out).mono ?_; rintro e w7 ⟨rfl, hb⟩; have n0_ := Aside0.mk (below_step (by repeat (first | exact HB.out | apply below_alloc | apply pw_below_drewN | apply below_drew1 | refine below_set ?_ GE.out)) hb); have n1_ := Aside0.mk (blk_below (g := gbf) (o := .cells #[.slice (some ad) l0_0.length c0_0] 29 (0, 0)) (by refine blk_far ?_ NE.out _; refine blk_far ?_ NE.out _; exact BKF.out) hb); have n2_ := Aside0.mk (blk_below (g := gb) (o := .cells #[.slice A1 x.f0.length c1, .slice A2 x.f1.length c2] 43 (0, 0)) (by refine blk_put (cs := #[.slice A1 x.f0.length c1, .slice none 0 0]) ?_ 1 _ rfl; refine blk_put (cs := #[.slice none 0 0, .slice none 0 0]) ?_ 0 _ rfl; exact BK.out) hb); clear HB hb BKF BK hcz0 hcz1 hfz0 hfz1; have HB := n0_; have BKF := n1_; have BK := n2_; clear n0_ n1_ n2_; have hcz0 : w7.cell? ⟨gb, 0, none⟩ = some (.slice A1 x.f0.length c1) := (blk_cell BK.out 0).trans rfl; have hcz1 : w7.cell? ⟨gb, 1, none⟩ = some (.slice A2 x.f1.length c2) := (blk_cell BK.out 1).trans rfl; have hfz0 := blk_frozen BK.out 0; have hfz1 := blk_frozen BK.out 1; have hczf : w7.cell? ⟨gbf, 0, none⟩ = some (.slice (some ad) l0_0.length c0_0) := (blk_cell BKF.out 0).trans rfl; have hfzf := blk_frozen BKF.out 0) | (go_at_call 34; (with_reducible refine (impl_in.calls (x.f0.length : Int) 1 4 true _ HIN1.out).mono ?_); rintro e w8 ⟨rfl, hd_⟩; obtain ⟨n_, hn_⟩ := hd_; subst hn_) | (go_at_call 34; (with_reducible refine (impl_in.calls (x.f1.length : Int) 1 4 false _ HIN2.out).mono ?_); rintro e w9 ⟨rfl, hd_⟩; obtain ⟨m_, hm_⟩ := hd_; subst hm_))
            repeat (go_quiet (fail); try go_wp2)
            go_ret
            exact ⟨rfl, by repeat (first | exact HB.out | apply below_alloc | apply pw_below_drewN | apply below_drew1 | refine below_set ?_ GE.out)⟩
          | true =>
            rw [hr2] at hin2
            have hbd : IF.bad l0_0.length x i = false := by unfold IF.bad; rw [hs1, hr1, hr2]; rfl
            rw [hbd, if_neg (by decide)] at h
            clear hbd hs1 hr1
            have HIN2 := Aside0.mk hin2
            clear hin2 hr2
            obtain ⟨nb, hn, h2⟩ := Option.bind_eq_some_iff.1 h
            have HN := Aside0.mk hn
            have H2 := Aside0.mk h2
            clear h hn h2
            go_wp2_with (first | ((with_reducible refine gate_dst (N := 4) rfl ?_); refine box_event ?hg (N := 4) ?hd (cs := #[.slice none 0 0, .slice none 0 0]) (t := 43) ?hr ?_; (case hd => rfl); (case hg => rfl); (case hr => first | (go_simp; done) | (go_simp; rfl)); intro gb hg w5 hbox hb; have NE := Aside0.mk ((by rw [hg]; exact Nat.ne_of_lt (blk_lt (g := gbf) (o := .cells #[.slice (some ad) l0_0.length c0_0] 29 (0, 0)) (by (with_reducible repeat (first | refine blk_drewN ?_ _ | refine blk_drew ?_ | refine blk_alloc ?_ _)); exact BKF.out))) : gbf ≠ gb); have n1_ := Aside0.mk (blk_below (g := gbf) (o := .cells #[.slice (some ad) l0_0.length c0_0] 29 (0, 0)) (by (with_reducible repeat (first | refine blk_drewN ?_ _ | refine blk_drew ?_ | refine blk_alloc ?_ _)); exact BKF.out) hb); have GE := Aside0.mk ((by rw [hg]; exact (below_size (by repeat (first | exact HB.out | apply below_alloc | apply pw_below_drewN | apply below_drew1)))) : w.heap.size ≤ gb); have n0_ := Aside0.mk (below_step (by repeat (first | exact HB.out | apply below_alloc | apply pw_below_drewN | apply below_drew1)) hb); have BK := Aside0.mk hbox; clear HB hb hbox BKF hczf hfzf; have HB := n0_; have BKF := n1_; clear n0_ n1_ hg; have hcz0 : w5.cell? ⟨gb, 0, none⟩ = some (.slice none 0 0) := (blk_cell BK.out 0).trans rfl; have hcz1 : w5.cell? ⟨gb, 1, none⟩ = some (.slice none 0 0) := (blk_cell BK.out 1).trans rfl; have hfz0 := blk_frozen BK.out 0; have hfz1 := blk_frozen BK.out 1) | (go_at_call 43; refine (impl_Level_isSingle.calls A1 c1 x.f0 A2 c2 x.f1 false _ (Kd.C_below HX1.out (by repeat (first | exact HB.out | apply below_alloc | apply pw_below_drewN | apply below_drew1 | refine below_set ?_ GE.out))) HL1.out (Kd.C_below HX2.out (by repeat (first | exact HB.out | apply below_alloc | apply pw_below_drewN | apply below_drew1 | refine below_set ?_ GE.out))) HL2.out HSG.out).mono ?_; rintro e w7 ⟨rfl, hb⟩; have n0_ := Aside0.mk (below_step (by repeat (first | exact HB.out | apply below_alloc | apply pw_below_drewN | apply below_drew1 | refine below_set ?_ GE.out)) hb); have n1_ := Aside0.mk (blk_below (g := gbf) (o := .cells #[.slice (some ad) l0_0.length c0_0] 29 (0, 0)) (by refine blk_far ?_ NE.out _; refine blk_far ?_ NE.out _; exact BKF.out) hb); have n2_ := Aside0.mk (blk_below (g := gb) (o := .cells #[.slice A1 x.f0.length c1, .slice A2 x.f1.length c2] 43 (0, 0)) (by refine blk_put (cs := #[.slice A1 x.f0.length c1, .slice none 0 0]) ?_ 1 _ rfl; refine blk_put (cs := #[.slice none 0 0, .slice none 0 0]) ?_ 0 _ rfl; exact BK.out) hb); clear HB hb BKF BK hcz0 hcz1 hfz0 hfz1; have HB := n0_; have BKF := n1_; have BK := n2_; clear n0_ n1_ n2_; have hcz0 : w7.cell? ⟨gb, 0, none⟩ = some (.slice A1 x.f0.length c1) := (blk_cell BK.out 0).trans rfl; have hcz1 : w7.cell? ⟨gb, 1, none⟩ = some (.slice A2 x.f1.length c2) := (blk_cell BK.out 1).trans rfl; have hfz0 := blk_frozen BK.out 0; have hfz1 := blk_frozen BK.out 1; have hczf : w7.cell? ⟨gbf, 0, none⟩ = some (.slice (some ad) l0_0.length c0_0) := (blk_cell BKF.out 0).trans rfl; have hfzf := blk_frozen BKF.out 0) | (go_at_call 34; (with_reducible refine (impl_in.calls (x.f0.length : Int) 1 4 true _ HIN1.out).mono ?_); rintro e w8 ⟨rfl, hd_⟩; obtain ⟨n_, hn_⟩ := hd_; subst hn_) | (go_at_call 34; (with_reducible refine (impl_in.calls (x.f1.length : Int) 1 4 true _ HIN2.out).mono ?_); rintro e w9 ⟨rfl, hd_⟩; obtain ⟨m_, hm_⟩ := hd_; subst hm_) | ((with_reducible refine gate_dst (N := 39) rfl ?_); refine CC.event ?hg (cs := #[.slice A1 x.f0.length c1, .slice A2 x.f1.length c2]) (t := 41) 2 ?hr ?_; (case hg => rfl); (case hr => first | (go_simp; done) | (go_simp; rfl)); intro ga w6 hga hrow hb; have n0_ := Aside0.mk (below_step (by repeat (first | exact HB.out | apply below_alloc | apply pw_below_drewN | apply below_drew1 | refine below_set ?_ GE.out)) hb); have n1_ := Aside0.mk (blk_below (g := gbf) (o := .cells #[.slice (some ad) l0_0.length c0_0] 29 (0, 0)) (by (with_reducible repeat (first | refine blk_drewN ?_ _ | refine blk_drew ?_ | refine blk_alloc ?_ _)); exact BKF.out) hb); have RK := Aside0.mk hrow; clear HB hb hrow hga BKF hczf hfzf; have HB := n0_; have BKF := n1_; clear n0_ n1_) | (go_at_call 44; refine (slices_Concat_string_string.calls (some ⟨ga, 0, none⟩) 2 [x.f0, x.f1] L w6 (CC.pair RK.out HL1.out (Kd.C_below HX1.out HB.out) HL2.out (Kd.C_below HX2.out HB.out)) (Nat.le_refl _) HM.out).mono ?_; rintro e w10 ⟨v7, rfl, ho7, hb7⟩; obtain ⟨A7, c7, ev⟩ := Kd.R_slice ho7; subst ev; have HO := Aside0.mk ho7; have n1_ := Aside0.mk (blk_below (g := gbf) (o := .cells #[.slice (some ad) l0_0.length c0_0] 29 (0, 0)) BKF.out hb7); have n0_ := Aside0.mk (below_step HB.out hb7); clear HB ho7 hb7 BKF; have HB := n0_; have BKF := n1_; clear n0_ n1_))
            repeat (go_quiet (fail); try go_wp2)
            obtain ⟨gk0, hgk0⟩ : ∃ g_ : Nat, g_ = gk := ⟨_, rfl⟩
            have HG := Aside0.mk hgk0
            have HK0 := Aside0.mk HK.out
            clear HK BK RK hgk0 hcz0 hcz1 hfz0 hfz1
            go_loopg [42] (L.length + 1) (fun kx v42 w' => ∃ j : Nat, v42 = .int .i64 (j : Int) ∧ Aside0 (j ≤ L.length) ∧ Aside0 (L.length - j < kx) ∧ Aside0 (IF.ns k (i : Int) (L.drop j) = some nb) ∧ Aside0 (Kd.R Kd.string 9 w' w6.heap.size (fun _ => True) (.slice A7 L.length c7) L) ∧ Aside0 (w'.heap[gbf]? = some (.cells #[.slice (some ad) l0_0.length c0_0] 29 (0, 0))) ∧ Aside0 (Below w.heap.size w w'))
            case atStart => exact ⟨0, rfl, ⟨Nat.zero_le _⟩, ⟨by omega⟩, HN, ⟨by (with_reducible repeat (first | apply Kd.R_alloc | apply Kd.R_drewN | apply Kd.R_drew)); exact HO.out⟩, ⟨by (with_reducible repeat (first | refine blk_drewN ?_ _ | refine blk_drew ?_ | refine blk_alloc ?_ _)); exact BKF.out⟩, ⟨by repeat (first | exact HB.out | apply below_alloc | apply pw_below_drewN | apply below_drew1)⟩⟩
            case round =>
              clear HO HB BKF HN
              obtain ⟨j, rfl, HJ, HK, HN, HO, BKF, HB⟩ := hrel
              by_cases hj : j < L.length
              · have c4 : decide ((j : Int) < (L.length : Int)) = true := decide_eq_true (by omega)
                have p1 : 0 ≤ (j : Int) := by omega
                have q1 : (j : Int) < (L.length : Int) := by omega
                obtain ⟨ae, e2, hxs⟩ := Kd.at_string (Kd.R_reads' HO.out).2.2 (j : Int) p1 q1
                subst e2
                rw [Int.toNat_natCast] at hxs
                have hns := HN.out
                rw [IF.drop hj] at hns
                have hw4 : wrap64 ((j : Int) + 1) = ((j + 1 : Nat) : Int) := by have := HLn.out; unfold wrap64; omega
                generalize rdOf ByteArray.empty L (j : Int) = s at *
                have HW2 := Aside0.mk hj
                clear hj
                unfold IF.ns at hns
                obtain ⟨t, ht, hns⟩ := Option.bind_eq_some_iff.1 hns
                cases t with
                | false =>
                  rw [if_neg (by decide)] at hns
                  obtain rfl := Option.some.inj hns
                  clear hns
                  have h2 := H2.out
                  rw [if_neg (by decide)] at h2
                  obtain rfl := Option.some.inj h2
                  have hf := HF.out
                  rw [if_neg (by decide)] at hf
                  obtain rfl := Option.some.inj hf
                  clear h2 hf
                  have HTT := Aside0.mk ht
                  clear ht
                  go_wp2_with (first | (go_at_call 31; refine (impl_isNode.calls k s (i : Int) false _ HTT.out).mono ?_; rintro e w8 ⟨rfl, hd_⟩; obtain ⟨n_, hn_⟩ := hd_; subst hn_))
                  repeat (go_quiet (fail); try go_wp2)
                  go_ret
                  exact ⟨rfl, by repeat (first | exact HB.out | apply below_alloc | apply pw_below_drewN | apply below_drew1)⟩
                | true =>
                  rw [if_pos rfl] at hns
                  have HTT := Aside0.mk ht
                  have HN2 := Aside0.mk hns
                  clear ht hns HN
                  go_wp2_with (first | (go_at_call 31; refine (impl_isNode.calls k s (i : Int) true _ HTT.out).mono ?_; rintro e w8 ⟨rfl, hd_⟩; obtain ⟨n_, hn_⟩ := hd_; subst hn_))
                  repeat (go_quiet (fail); try go_wp2)
                  go_roundg (gk - 1)
                  case measure => have := HK.out; omega
                  case rel => exact ⟨j + 1, by first | rfl | (simp only [hw4]; done) | (simp [*]; done), ⟨HW2.out⟩, ⟨by have := HK.out; have := HW2.out; omega⟩, HN2, ⟨by (with_reducible repeat (first | apply Kd.R_alloc | apply Kd.R_drewN | apply Kd.R_drew)); exact HO.out⟩, ⟨by (with_reducible repeat (first | refine blk_drewN ?_ _ | refine blk_drew ?_ | refine blk_alloc ?_ _)); exact BKF.out⟩, ⟨by repeat (first | exact HB.out | apply below_alloc | apply pw_below_drewN | apply below_drew1)⟩⟩
              · have hjl : j = L.length := by have := HJ.out; omega
                subst hjl
                have c4 : decide ((L.length : Int) < (L.length : Int)) = false := decide_eq_false (by omega)
                clear hj
                have hns := HN.out
                rw [List.drop_length] at hns
                unfold IF.ns at hns
                obtain rfl := Option.some.inj hns
                clear hns
                have h2 := H2.out
                rw [if_pos rfl] at h2
                have HL3 := Aside0.mk h2
                clear h2 H2 HN
                go_wp2
                go_roundg (gk0 - 1)
                case measure => have := HK0.out; have := HG.out; omega
                case rel => exact ⟨i + 1, by first | rfl | (simp only [hw3]; done) | (simp [*]; done), ⟨HW.out⟩, ⟨by have := HK0.out; have := HG.out; have := HW.out; omega⟩, HL3, ⟨by (with_reducible repeat (first | refine blk_drewN ?_ _ | refine blk_drew ?_ | refine blk_alloc ?_ _)); exact BKF.out⟩, ⟨by repeat (first | exact HB.out | apply below_alloc | apply pw_below_drewN | apply below_drew1)⟩⟩
    · have hil : i = l0_0.length := by have := HI.out; omega
      subst hil
      have c3 : decide ((l0_0.length : Int) < (l0_0.length : Int)) = false := decide_eq_false (by omega)
      clear hi
      have h := H.out
      rw [List.drop_length] at h
      unfold IF.lv at h
      obtain rfl := Option.some.inj h
      have hf := HF.out
      rw [if_pos rfl] at hf
      obtain ⟨t, ht, hf⟩ := Option.bind_eq_some_iff.1 hf
      obtain rfl := Option.some.inj hf
      have HTT := Aside0.mk ht
      clear h hf ht
      go_wp2_with (first | (go_at_call 40; refine (impl_Fing_leaves.calls A0_0 c0_0 l0_0 t _ (Kd.C_below HR.out (by repeat (first | exact HB.out | apply below_alloc | apply pw_below_drewN | apply below_drew1))) HC.out HTT.out).mono ?_; rintro e w4 ⟨rfl, hb⟩; have n0_ := Aside0.mk (below_step (by repeat (first | exact HB.out | apply below_alloc | apply pw_below_drewN | apply below_drew1)) hb); clear HB hb; have HB := n0_; clear n0_))
      repeat (go_quiet (fail); try go_wp2)
      go_ret
      exact ⟨by first | rfl | (simp; done) | (simp [*]; done), by repeat (first | exact HB.out | apply below_alloc | apply pw_below_drewN | apply below_drew1)⟩


/-! ### strings_Join: function 27 -/
theorem SJ.extra : Builder.Extra Try.prog Try.lays1_156_ren := { sizeBuilder := by kernel_rfl, liesBuilder := by kernel_rfl, t5 := by kernel_rfl, a5 := fun w => by rfl, z5 := fun w => by rfl, v5 := fun w => by rfl, infoByte := by kernel_rfl, cellsByte := by kernel_rfl, sizeByte := by kernel_rfl, neB5 := by decide }
/-- A slice that reads as strings and holds one at least: where it lies. -/
theorem SJ.cells {w : World} {A : Option Addr} {l : List ByteArray} (h : Kd.C Kd.string w A l.length l) (hn : 0 < l.length) :
    ∃ b off, A = some ⟨b, off, none⟩ ∧ ∀ (j : Nat) x, l[j]? = some x → w.cell? ⟨b, off + j, none⟩ = some (.string x) := by
  obtain ⟨_, _, h3⟩ := h
  obtain ⟨ad, rfl, hc⟩ := h3 hn
  have cell : ∀ (j : Nat) x, l[j]? = some x → w.cell? (ad.add j) = some (.string x) := by
    intro j x hj
    obtain ⟨c, _, hK, hcell⟩ := hc j _ hj
    have hK' : c = [.string x] := hK
    subst hK'
    have := hcell 0 _ rfl
    rw [show j * Kd.string.sz + 0 = j from by show j * 1 + 0 = j; omega] at this
    exact this
  have h0 := cell 0 _ (List.getElem?_eq_getElem hn)
  have hs : ad.spot = none := by
    have e : ad.add 0 = ad := rfl
    rw [e] at h0
    unfold World.cell? at h0
    cases hsp : ad.spot with
    | none => rfl
    | some s =>
      rw [hsp] at h0
      split at h0 <;> simp at h0
  obtain ⟨b, off, sp⟩ := ad
  obtain rfl : sp = none := hs
  exact ⟨b, off, rfl, fun j x hj => by have h := cell j x hj; rw [show (⟨b, off, none⟩ : Addr).add j = ⟨b, off + j, none⟩ by unfold Addr.add; split <;> simp_all] at h; exact h⟩
def strings_Join.f (l0 : List ByteArray) (a1 : ByteArray) : Option ByteArray := if l0.length ≤ 1048576 ∧ (Lib.join (l0.map (·.data.toList)) a1.data.toList).length ≤ 140737488355328 then some ⟨(Lib.join (l0.map (·.data.toList)) a1.data.toList).toArray⟩ else none
theorem strings_Join.calls (A0 : Option Addr) (c0 : Nat) (l0 : List ByteArray) (a1 : ByteArray) (r : ByteArray) (w : World) (hr0 : Kd.C Kd.string w A0 l0.length l0) (hc0 : l0.length ≤ c0) (h : strings_Join.f l0 a1 = some r) :
    Calls Try.prog 27 #[.slice A0 l0.length c0, .string a1] w fun e w' => e = .returned (.string r) ∧ Below w.heap.size w w' := by
  unfold strings_Join.f at h
  by_cases hs : l0.length ≤ 1048576 ∧ (Lib.join (l0.map (·.data.toList)) a1.data.toList).length ≤ 140737488355328
  case neg => rw [if_neg hs] at h; cases h
  rw [if_pos hs] at h
  obtain rfl := Option.some.inj h
  clear h
  cases l0 with
  | nil =>
    refine Calls.mono (Any.strings_Join_none Try.lays1_156 SJ.extra A0 c0 a1 w) ?_
    rintro e w' ⟨rfl, rfl⟩
    exact ⟨rfl, Below.refl _ _⟩
  | cons x t =>
    obtain ⟨b, off, rfl, hp⟩ := SJ.cells hr0 (by simp)
    have hb : b < w.heap.size := World.block_lt_of_cell? w _ (hp 0 x rfl)
    refine Calls.mono (Any.strings_Join Try.lays1_156 SJ.extra b off c0 (x :: t) a1 w hp hb (by omega) hc0 hs.2) ?_
    rintro e w' ⟨rfl, hbl⟩
    exact ⟨rfl, hbl⟩

/-! ### impl_FingText: function 11 -/
def impl_FingText.l0 : Nat → ByteArray → List (S43) → Int → Int → Option (ByteArray)
  | 0, _, _, _, _ => none
  | k + 1, x3, x10, x11, x12 => if x12 < x11 then (if 0 ≤ x12 then (if x12 < (x10.length : Int) then ((strings_Join.f ((rd_T43 x10 x12).f0) (⟨#[32]⟩ : ByteArray)).bind fun t190 => (if 1 + t190.size ≤ 9223372036854775807 then (if ((⟨#[91]⟩ : ByteArray) ++ t190).size + 1 ≤ 9223372036854775807 then ((strings_Join.f ((rd_T43 x10 x12).f1) (⟨#[32]⟩ : ByteArray)).bind fun t191 => (if (((⟨#[91]⟩ : ByteArray) ++ t190) ++ (⟨#[124]⟩ : ByteArray)).size + t191.size ≤ 9223372036854775807 then (if ((((⟨#[91]⟩ : ByteArray) ++ t190) ++ (⟨#[124]⟩ : ByteArray)) ++ t191).size + 1 ≤ 9223372036854775807 then (if x3.size + (((((⟨#[91]⟩ : ByteArray) ++ t190) ++ (⟨#[124]⟩ : ByteArray)) ++ t191) ++ (⟨#[93]⟩ : ByteArray)).size ≤ 9223372036854775807 then (impl_FingText.l0 k (x3 ++ (((((⟨#[91]⟩ : ByteArray) ++ t190) ++ (⟨#[124]⟩ : ByteArray)) ++ t191) ++ (⟨#[93]⟩ : ByteArray))) x10 x11 (wrap64 (x12 + 1))) else (none)) else (none)) else (none))) else (none)) else (none))) else (none)) else (none)) else (some x3)
def impl_FingText.f (k : Nat) (l0_0 : List (S43)) : Option (ByteArray) := (impl_isFing.f k l0_0).bind fun t187 => (if t187 = true then (impl_FingText.l0 k (⟨#[]⟩ : ByteArray) l0_0 (l0_0.length : Int) 0) else (some (⟨#[]⟩ : ByteArray)))
theorem impl_FingText.mono_l : ∀ k, (∀ y0 y1 y2 y3, LeO (impl_FingText.l0 k y0 y1 y2 y3) (impl_FingText.l0 (k + 1) y0 y1 y2 y3))
  | 0 => fun _ _ _ _ r h => by simp [impl_FingText.l0] at h
  | k + 1 => by
    have ih0 := impl_FingText.mono_l k
    · intro y0 y1 y2 y3
      unfold impl_FingText.l0
      repeat' first
      | (with_reducible exact ih0 _ _ _ _)
      | (with_reducible exact impl_isFing.mono _ _)
      | (with_reducible exact LeO.refl _)
      | (with_reducible exact LeO.none _)
      | (with_reducible refine LeO.ite ?_ ?_)
      | (with_reducible refine LeO.bind ?_ (fun _ => ?_))
      | exact ih0 _ _ _ _
      | exact impl_isFing.mono _ _
      | exact LeO.none _
      | refine LeO.ite ?_ ?_
      | refine LeO.bind ?_ (fun _ => ?_)
theorem impl_FingText.mono : ∀ a0 k, LeO (impl_FingText.f k a0) (impl_FingText.f (k + 1) a0) := by
  intro a0 k
  have ih0 := impl_FingText.mono_l k
  unfold impl_FingText.f
  repeat' first
      | (with_reducible exact ih0 _ _ _ _)
      | (with_reducible exact impl_isFing.mono _ _)
      | (with_reducible exact LeO.refl _)
      | (with_reducible exact LeO.none _)
      | (with_reducible refine LeO.ite ?_ ?_)
      | (with_reducible refine LeO.bind ?_ (fun _ => ?_))
      | exact ih0 _ _ _ _
      | exact impl_isFing.mono _ _
      | exact LeO.none _
      | refine LeO.ite ?_ ?_
      | refine LeO.bind ?_ (fun _ => ?_)
def impl_FingText.T7 : Bool × List (List Nat × List Nat) := (true, [([], []), ([], []), ([1], [1]), ([2], [2]), ([3], [3]), ([4], [4]), ([], []), ([6], [6]), ([7, 3], [7]), ([5, 8], [5, 8]), ([9], [9]), ([0, 10], [0, 10]), ([11, 8, 0, 1, 2, 3, 4, 5, 6, 7, 8, 9, 10, 11], [0, 11])])
def impl_FingText.B7 : List Nat := [0, 0, 2, 6, 14, 30, 0, 64, 206, 510, 1022, 2047, 4095]
theorem impl_FingText.tab7 : rtab .any (opsOf Try.f11 7) = impl_FingText.T7 := by kernel_rfl
theorem impl_FingText.bits7 : waitsOk impl_FingText.T7.2 impl_FingText.B7 = true := by kernel_rfl
set_option maxHeartbeats 8000000 in
set_option maxRecDepth 100000 in
theorem impl_FingText.calls (k : Nat) (A0_0 : Option Addr) (c0_0 : Nat) (l0_0 : List (S43)) (r : ByteArray) (w : World) (hr0_0 : Kd.C k43 w A0_0 l0_0.length l0_0) (hc0_0 : l0_0.length ≤ c0_0) (h : impl_FingText.f k l0_0 = some r) :
    Calls Try.prog 11 #[.agg #[.slice A0_0 l0_0.length c0_0]] w fun e w' => e = .returned (.string r) ∧ Below w.heap.size w w' := by
  have hu29 := Try.underlying29
  have hu43 := Try.underlying43
  have HR0_0 := Aside0.mk hr0_0
  have HC0_0 := Aside0.mk hc0_0
  clear hr0_0 hc0_0
  have HB := Aside0.mk (Below.refl w.heap.size w)
  have H : ((impl_isFing.f k l0_0).bind fun t187 => (if t187 = true then (impl_FingText.l0 k (⟨#[]⟩ : ByteArray) l0_0 (l0_0.length : Int) 0) else (some (⟨#[]⟩ : ByteArray)))) = some r := h
  clear h
  replace H := Option.bind_eq_some_iff.mp H
  obtain ⟨t187, A20, H⟩ := H
  replace H : (if t187 = true then (impl_FingText.l0 k (⟨#[]⟩ : ByteArray) l0_0 (l0_0.length : Int) 0) else (some (⟨#[]⟩ : ByteArray))) = some r := H
  have A2 := Aside0.mk A20
  clear A20
  by_cases c3 : t187 = true
  · subst c3
    have H1 : (impl_FingText.l0 k (⟨#[]⟩ : ByteArray) l0_0 (l0_0.length : Int) 0) = some r := by rw [if_pos rfl] at H; exact H
    clear H
    have H := H1
    clear H1
    have H' := Aside0.mk H
    clear H
    go_enter Try.func11, Try.ntmps11
    go_wp2_with (first | ((with_reducible refine gate_dst (N := 1) rfl ?_); refine box_event ?hg (N := 1) ?hd (cs := #[.slice A0_0 l0_0.length c0_0]) (t := 29) ?hr ?_; (case hd => rfl); (case hg => rfl); (case hr => first | (go_simp; done) | (go_simp; rfl)); intro gb186 hg w4 hbox hb; have n0_ := Aside0.mk (below_step (by repeat (first | (with_reducible first | exact HB.out | apply below_alloc | apply pw_below_drewN | apply below_drew1) | exact HB.out)) hb); have n1_ := Aside0.mk (hbox); have n2_ := Aside0.mk ((by rw [hg]; exact (below_size (by repeat (first | (with_reducible first | exact HB.out | apply below_alloc | apply pw_below_drewN | apply below_drew1) | exact HB.out))) : w.heap.size ≤ gb186)); have n3_ := Aside0.mk ((by rw [hg]; exact (below_size (by repeat (first | (with_reducible first | exact HB.out | apply below_alloc | apply pw_below_drewN | apply below_drew1) | exact HB.out))) : w.heap.size ≤ gb186)); clear HB; have HB := n0_; have BK186 := n1_; have GW186 := n2_; have GE186 := n3_; clear n0_ n1_ n2_ n3_; clear hb hbox hg; have hcz5_0 : w4.cell? ⟨gb186, 0, none⟩ = some (.slice A0_0 l0_0.length c0_0) := (blk_cell BK186.out 0).trans rfl; have hfz5_0 := blk_frozen BK186.out 0) | ((with_reducible refine gate_callee (f := 26) rfl ?_); refine goesL_ (some 7) rfl rfl Try.func26 (by kernel_rfl) rfl #[.agg #[.slice A0_0 l0_0.length c0_0]] rfl (by (try simp only [List.map_toArray, List.map_cons, List.map_nil]); first | done | rfl | (simp only [List.length_drop, List.length_take]; rfl)) ?_; (with_reducible refine (impl_isFing.calls k _ _ l0_0 true _ ?side1 ?side2 A2.out).mono ?_); (case side1 => repeat (first | exact (Kd.C_below HR0_0.out HB.out) | exact HR0_0.out | (with_reducible refine Kd.C_alloc ?_ _) | (with_reducible refine Kd.C_drewN ?_ _) | (with_reducible refine Kd.C_drew ?_))); (case side2 => exact HC0_0.out); rintro e w6 ⟨rfl, hb⟩; refine ⟨_, rfl, ?_⟩; have n0_ := Aside0.mk (blk_below (g := gb186) (o := .cells #[.slice A0_0 l0_0.length c0_0] 29 (0, 0)) (by (with_reducible repeat (first | refine blk_drewN ?_ _ | refine blk_drew ?_ | refine blk_alloc ?_ _)); exact BK186.out) hb); have n1_ := Aside0.mk (below_step (by repeat (first | (with_reducible first | exact HB.out | apply below_alloc | apply pw_below_drewN | apply below_drew1 | refine below_set ?_ GE186.out) | exact HB.out)) hb); clear BK186; clear HB; have BK186 := n0_; have HB := n1_; clear n0_ n1_; (try clear hb); (try clear hb2); (try clear hk); (try clear hi); have hcz7_0 : w6.cell? ⟨gb186, 0, none⟩ = some (.slice A0_0 l0_0.length c0_0) := (blk_cell BK186.out 0).trans rfl; have hfz7_0 := blk_frozen BK186.out 0))
    go_loopg [3, 12] k (fun kq v3 v12 w' => ∃ (x3_1 : ByteArray) (x12_1 : Int), v3 = .string x3_1 ∧ v12 = .int .i64 x12_1 ∧ Aside0 (impl_FingText.l0 kq x3_1 l0_0 (l0_0.length : Int) x12_1 = some r) ∧ Aside0 (kq ≤ k) ∧ Aside0 (w'.heap[gb186]? = some (.cells #[(.slice A0_0 l0_0.length c0_0)] 29 (0, 0))) ∧ Aside0 (Below w.heap.size w w'))
    case atStart => exact ⟨((⟨#[]⟩ : ByteArray)), (0), (by first | rfl | (simp; done) | (simp [*]; done)), (by first | rfl | (simp; done) | (simp [*]; done)), H', ⟨Nat.le_refl _⟩, ⟨by (with_reducible repeat (first | refine blk_drewN ?_ _ | refine blk_drew ?_ | refine blk_alloc ?_ _)); exact BK186.out⟩, ⟨by repeat (first | (with_reducible first | exact HB.out | apply below_alloc | apply pw_below_drewN | apply below_drew1 | refine below_set ?_ GE186.out) | exact HB.out)⟩⟩
    case round =>
      clear H'
      try clear c1
      try clear c2
      try clear p2
      try clear c3
      try clear hcz5_0
      try clear hcz7_0
      try clear hfz5_0
      try clear hfz7_0
      obtain ⟨x3_1, x12_1, rfl, rfl, HA, HK1, BK186, HB⟩ := hrel
      cases gk with
      | zero => exact absurd HA.out (by simp [impl_FingText.l0])
      | succ k1 =>
        have H := HA.out
        clear HA
        simp only [impl_FingText.l0] at H
        by_cases c8 : x12_1 < (l0_0.length : Int)
        · rw [if_pos c8] at H
          have c8b0 : decide (x12_1 < (l0_0.length : Int)) = true := decide_eq_true c8
          clear c8
          by_cases c9 : 0 ≤ x12_1
          · rw [if_pos c9] at H
            have c9b0 : decide (0 ≤ x12_1) = true := decide_eq_true c9
            clear c9
            by_cases c10 : x12_1 < (l0_0.length : Int)
            · rw [if_pos c10] at H
              have c10b0 : decide (x12_1 < (l0_0.length : Int)) = true := decide_eq_true c10
              clear c10
              replace H := Option.bind_eq_some_iff.mp H
              obtain ⟨t190, A110, H⟩ := H
              replace H : (if 1 + t190.size ≤ 9223372036854775807 then (if ((⟨#[91]⟩ : ByteArray) ++ t190).size + 1 ≤ 9223372036854775807 then ((strings_Join.f ((rd_T43 l0_0 x12_1).f1) (⟨#[32]⟩ : ByteArray)).bind fun t191 => (if (((⟨#[91]⟩ : ByteArray) ++ t190) ++ (⟨#[124]⟩ : ByteArray)).size + t191.size ≤ 9223372036854775807 then (if ((((⟨#[91]⟩ : ByteArray) ++ t190) ++ (⟨#[124]⟩ : ByteArray)) ++ t191).size + 1 ≤ 9223372036854775807 then (if x3_1.size + (((((⟨#[91]⟩ : ByteArray) ++ t190) ++ (⟨#[124]⟩ : ByteArray)) ++ t191) ++ (⟨#[93]⟩ : ByteArray)).size ≤ 9223372036854775807 then (impl_FingText.l0 k1 (x3_1 ++ (((((⟨#[91]⟩ : ByteArray) ++ t190) ++ (⟨#[124]⟩ : ByteArray)) ++ t191) ++ (⟨#[93]⟩ : ByteArray))) l0_0 (l0_0.length : Int) (wrap64 (x12_1 + 1))) else (none)) else (none)) else (none))) else (none)) else (none)) = some r := H
              have A11 := Aside0.mk A110
              clear A110
              by_cases c12 : 1 + t190.size ≤ 9223372036854775807
              · rw [if_pos c12] at H
                have c12b0 := eq_true c12
                have c12b1 : decide (1 + t190.size ≤ 9223372036854775807) = true := decide_eq_true c12
                try have c12b2 : (9223372036854775807 < 1 + t190.size) = False := eq_false (Nat.not_lt.2 c12)
                by_cases c13 : ((⟨#[91]⟩ : ByteArray) ++ t190).size + 1 ≤ 9223372036854775807
                · rw [if_pos c13] at H
                  have c13b0 := eq_true c13
                  have c13b1 : decide (((⟨#[91]⟩ : ByteArray) ++ t190).size + 1 ≤ 9223372036854775807) = true := decide_eq_true c13
                  try have c13b2 : (9223372036854775807 < ((⟨#[91]⟩ : ByteArray) ++ t190).size + 1) = False := eq_false (Nat.not_lt.2 c13)
                  (try (have c13m : 1 + t190.size + 1 ≤ 9223372036854775807 := (by have h_ := c13; rw [ByteArray.size_append] at h_; exact h_); have c13mf := eq_false (Nat.not_lt.2 c13m); have c13mt := eq_true c13m))
                  replace H := Option.bind_eq_some_iff.mp H
                  obtain ⟨t191, A140, H⟩ := H
                  replace H : (if (((⟨#[91]⟩ : ByteArray) ++ t190) ++ (⟨#[124]⟩ : ByteArray)).size + t191.size ≤ 9223372036854775807 then (if ((((⟨#[91]⟩ : ByteArray) ++ t190) ++ (⟨#[124]⟩ : ByteArray)) ++ t191).size + 1 ≤ 9223372036854775807 then (if x3_1.size + (((((⟨#[91]⟩ : ByteArray) ++ t190) ++ (⟨#[124]⟩ : ByteArray)) ++ t191) ++ (⟨#[93]⟩ : ByteArray)).size ≤ 9223372036854775807 then (impl_FingText.l0 k1 (x3_1 ++ (((((⟨#[91]⟩ : ByteArray) ++ t190) ++ (⟨#[124]⟩ : ByteArray)) ++ t191) ++ (⟨#[93]⟩ : ByteArray))) l0_0 (l0_0.length : Int) (wrap64 (x12_1 + 1))) else (none)) else (none)) else (none)) = some r := H
                  have A14 := Aside0.mk A140
                  clear A140
                  by_cases c15 : (((⟨#[91]⟩ : ByteArray) ++ t190) ++ (⟨#[124]⟩ : ByteArray)).size + t191.size ≤ 9223372036854775807
                  · rw [if_pos c15] at H
                    have c15b0 := eq_true c15
                    have c15b1 : decide ((((⟨#[91]⟩ : ByteArray) ++ t190) ++ (⟨#[124]⟩ : ByteArray)).size + t191.size ≤ 9223372036854775807) = true := decide_eq_true c15
                    try have c15b2 : (9223372036854775807 < (((⟨#[91]⟩ : ByteArray) ++ t190) ++ (⟨#[124]⟩ : ByteArray)).size + t191.size) = False := eq_false (Nat.not_lt.2 c15)
                    (try (have c15m : 1 + t190.size + 1 + t191.size ≤ 9223372036854775807 := (by have h_ := c15; rw [ByteArray.size_append, ByteArray.size_append] at h_; exact h_); have c15mf := eq_false (Nat.not_lt.2 c15m); have c15mt := eq_true c15m))
                    by_cases c16 : ((((⟨#[91]⟩ : ByteArray) ++ t190) ++ (⟨#[124]⟩ : ByteArray)) ++ t191).size + 1 ≤ 9223372036854775807
                    · rw [if_pos c16] at H
                      have c16b0 := eq_true c16
                      have c16b1 : decide (((((⟨#[91]⟩ : ByteArray) ++ t190) ++ (⟨#[124]⟩ : ByteArray)) ++ t191).size + 1 ≤ 9223372036854775807) = true := decide_eq_true c16
                      try have c16b2 : (9223372036854775807 < ((((⟨#[91]⟩ : ByteArray) ++ t190) ++ (⟨#[124]⟩ : ByteArray)) ++ t191).size + 1) = False := eq_false (Nat.not_lt.2 c16)
                      (try (have c16m : 1 + t190.size + 1 + t191.size + 1 ≤ 9223372036854775807 := (by have h_ := c16; rw [ByteArray.size_append, ByteArray.size_append, ByteArray.size_append] at h_; exact h_); have c16mf := eq_false (Nat.not_lt.2 c16m); have c16mt := eq_true c16m))
                      by_cases c17 : x3_1.size + (((((⟨#[91]⟩ : ByteArray) ++ t190) ++ (⟨#[124]⟩ : ByteArray)) ++ t191) ++ (⟨#[93]⟩ : ByteArray)).size ≤ 9223372036854775807
                      · rw [if_pos c17] at H
                        have c17b0 := eq_true c17
                        have c17b1 : decide (x3_1.size + (((((⟨#[91]⟩ : ByteArray) ++ t190) ++ (⟨#[124]⟩ : ByteArray)) ++ t191) ++ (⟨#[93]⟩ : ByteArray)).size ≤ 9223372036854775807) = true := decide_eq_true c17
                        try have c17b2 : (9223372036854775807 < x3_1.size + (((((⟨#[91]⟩ : ByteArray) ++ t190) ++ (⟨#[124]⟩ : ByteArray)) ++ t191) ++ (⟨#[93]⟩ : ByteArray)).size) = False := eq_false (Nat.not_lt.2 c17)
                        (try (have c17m : x3_1.size + (1 + t190.size + 1 + t191.size + 1) ≤ 9223372036854775807 := (by have h_ := c17; rw [ByteArray.size_append, ByteArray.size_append, ByteArray.size_append, ByteArray.size_append] at h_; exact h_); have c17mf := eq_false (Nat.not_lt.2 c17m); have c17mt := eq_true c17m))
                        have H' := Aside0.mk H
                        clear H
                        have p188 : 0 ≤ (x12_1 : Int) := of_decide_eq_true (by first | (with_reducible assumption) | assumption)
                        have q188 : x12_1 < (l0_0.length : Int) := of_decide_eq_true (by first | (with_reducible assumption) | assumption)
                        obtain ⟨ad188, A188_0, c188_0, A188_1, c188_1, e188, hx188_0, hx188_1, hl188_0, hi188_0, hl188_1, hi188_1⟩ := at_T43 HR0_0.out x12_1 p188 q188
                        cases e188
                        (try replace hx188_0 := (HB.out.cell (World.block_lt_of_cell? w _ hx188_0)).trans hx188_0)
                        (try replace hx188_1 := (HB.out.cell (World.block_lt_of_cell? w _ hx188_1)).trans hx188_1)
                        have HR188_0 := Aside0.mk hi188_0
                        have HC188_0 := Aside0.mk hl188_0
                        clear hi188_0 hl188_0
                        have HR188_1 := Aside0.mk hi188_1
                        have HC188_1 := Aside0.mk hl188_1
                        clear hi188_1 hl188_1
                        replace p188 := eq_true p188
                        replace q188 := eq_true q188
                        try go_wp2_with (first | ((with_reducible refine gate_dst (N := 5) rfl ?_); refine box_event ?hg (N := 5) ?hd (cs := #[.slice none 0 0, .slice none 0 0]) (t := 43) ?hr ?_; (case hd => rfl); (case hg => rfl); (case hr => first | (go_simp; done) | (go_simp; rfl)); intro gb189 hg w18 hbox hb; have n0_ := Aside0.mk (blk_below (g := gb186) (o := .cells #[.slice (some ad188) l0_0.length c0_0] 29 (0, 0)) (by (with_reducible repeat (first | refine blk_drewN ?_ _ | refine blk_drew ?_ | refine blk_alloc ?_ _)); exact BK186.out) hb); have n1_ := Aside0.mk (below_step (by repeat (first | (with_reducible first | exact HB.out | apply below_alloc | apply pw_below_drewN | apply below_drew1 | refine below_set ?_ GE186.out) | exact HB.out)) hb); have n2_ := Aside0.mk (hbox); have n3_ := Aside0.mk ((by rw [hg]; exact (below_size (by repeat (first | (with_reducible first | exact HB.out | apply below_alloc | apply pw_below_drewN | apply below_drew1 | refine below_set ?_ GE186.out) | exact HB.out))) : w.heap.size ≤ gb189)); have n4_ := Aside0.mk ((by rw [hg]; exact (below_size (by repeat (first | (with_reducible first | exact HB.out | apply below_alloc | apply pw_below_drewN | apply below_drew1 | refine below_set ?_ GE186.out) | exact HB.out))) : w.heap.size ≤ gb189)); have n5_ := Aside0.mk ((by rw [hg]; exact Nat.ne_of_lt (blk_lt (g := gb186) (o := .cells #[.slice (some ad188) l0_0.length c0_0] 29 (0, 0)) (by (with_reducible repeat (first | refine blk_drewN ?_ _ | refine blk_drew ?_ | refine blk_alloc ?_ _)); exact BK186.out)) : gb186 ≠ gb189)); have n6_ := Aside0.mk ((by rw [hg]; exact Nat.ne_of_gt (blk_lt (g := gb186) (o := .cells #[.slice (some ad188) l0_0.length c0_0] 29 (0, 0)) (by (with_reducible repeat (first | refine blk_drewN ?_ _ | refine blk_drew ?_ | refine blk_alloc ?_ _)); exact BK186.out)) : gb189 ≠ gb186)); clear BK186; clear HB; have BK186 := n0_; have HB := n1_; have BK189 := n2_; have GW189 := n3_; have GE189 := n4_; have NB186_189 := n5_; have NB189_186 := n6_; clear n0_ n1_ n2_ n3_ n4_ n5_ n6_; clear hb hbox hg; have hnb19 := NB189_186.out; have hnc19 := NB186_189.out; have hcz20_0 : w18.cell? ⟨gb189, 0, none⟩ = some (.slice none 0 0) := (blk_cell BK189.out 0).trans rfl; have hcz20_1 : w18.cell? ⟨gb189, 1, none⟩ = some (.slice none 0 0) := (blk_cell BK189.out 1).trans rfl; have hfz20_0 := blk_frozen BK189.out 0; have hfz20_1 := blk_frozen BK189.out 1))
                        have n0_ : Aside0 (((w18.setCell ⟨gb189, 0, none⟩ (.slice A188_0 ((rd_T43 l0_0 x12_1).f0).length c188_0)).setCell ⟨gb189, 1, none⟩ (.slice A188_1 ((rd_T43 l0_0 x12_1).f1).length c188_1)).heap[gb186]? = some (.cells #[.slice (some ad188) l0_0.length c0_0] 29 (0, 0))) := ⟨by (with_reducible repeat (first | refine blk_drewN ?_ _ | refine blk_drew ?_ | refine blk_alloc ?_ _)); refine blk_far ?_ NB186_189.out _; (with_reducible repeat (first | refine blk_drewN ?_ _ | refine blk_drew ?_ | refine blk_alloc ?_ _)); refine blk_far ?_ NB186_189.out _; (with_reducible repeat (first | refine blk_drewN ?_ _ | refine blk_drew ?_ | refine blk_alloc ?_ _)); exact BK186.out⟩
                        have n1_ : Aside0 (((w18.setCell ⟨gb189, 0, none⟩ (.slice A188_0 ((rd_T43 l0_0 x12_1).f0).length c188_0)).setCell ⟨gb189, 1, none⟩ (.slice A188_1 ((rd_T43 l0_0 x12_1).f1).length c188_1)).heap[gb189]? = some (.cells #[.slice A188_0 ((rd_T43 l0_0 x12_1).f0).length c188_0, .slice A188_1 ((rd_T43 l0_0 x12_1).f1).length c188_1] 43 (0, 0))) := ⟨by (with_reducible repeat (first | refine blk_drewN ?_ _ | refine blk_drew ?_ | refine blk_alloc ?_ _)); refine blk_put (cs := #[.slice A188_0 ((rd_T43 l0_0 x12_1).f0).length c188_0, .slice none 0 0]) ?_ 1 _ rfl; (with_reducible repeat (first | refine blk_drewN ?_ _ | refine blk_drew ?_ | refine blk_alloc ?_ _)); refine blk_put (cs := #[.slice none 0 0, .slice none 0 0]) ?_ 0 _ rfl; (with_reducible repeat (first | refine blk_drewN ?_ _ | refine blk_drew ?_ | refine blk_alloc ?_ _)); exact BK189.out⟩
                        have n2_ : Aside0 (Below w.heap.size w ((w18.setCell ⟨gb189, 0, none⟩ (.slice A188_0 ((rd_T43 l0_0 x12_1).f0).length c188_0)).setCell ⟨gb189, 1, none⟩ (.slice A188_1 ((rd_T43 l0_0 x12_1).f1).length c188_1))) := ⟨by repeat (first | (with_reducible first | exact HB.out | apply below_alloc | apply pw_below_drewN | apply below_drew1 | refine below_set ?_ GE186.out | refine below_set ?_ GE189.out) | exact HB.out)⟩
                        (try clear BK186)
                        (try clear BK189)
                        (try clear HB)
                        generalize ((w18.setCell ⟨gb189, 0, none⟩ (.slice A188_0 ((rd_T43 l0_0 x12_1).f0).length c188_0)).setCell ⟨gb189, 1, none⟩ (.slice A188_1 ((rd_T43 l0_0 x12_1).f1).length c188_1)) = w21 at n0_ n1_ n2_ ⊢
                        have BK186 := n0_
                        have BK189 := n1_
                        have HB := n2_
                        clear n0_ n1_ n2_
                        have n0_ := Aside0.mk (blk_drew BK186.out)
                        have n1_ := Aside0.mk (blk_drew BK189.out)
                        have n2_ := Aside0.mk (below_drew1 HB.out)
                        clear BK186
                        clear BK189
                        clear HB
                        have BK186 := n0_
                        have BK189 := n1_
                        have HB := n2_
                        clear n0_ n1_ n2_
                        refine start_ (n := 13) (S := fun w' => w'.cell? ⟨gb189, 0, none⟩ = some (.slice A188_0 ((rd_T43 l0_0 x12_1).f0).length c188_0) ∧ w'.cell? ⟨gb189, 1, none⟩ = some (.slice A188_1 ((rd_T43 l0_0 x12_1).f1).length c188_1)) (ds := []) #[false, false, false, false, false, false, false, false, false, false, false, false, false] (by kernel_rfl) rfl rfl ⟨(blk_cell BK189.out 0).trans rfl, (blk_cell BK189.out 1).trans rfl⟩ (fun hHeld => ?_); refine with_tabW impl_FingText.tab7 impl_FingText.bits7 (fun HT_ HW_ => ?_)
                        generalize w21.drew = w22 at BK186 BK189 HB hHeld ⊢
                        refine pure_ (i := 0) (N := some 16) (v := ?_) (a' := ?_) #[true, false, false, false, false, false, false, false, false, false, false, false, false] rfl rfl (any_of HT_.out (by kernel_rfl)) (fun _ _ _ h => h) (Or.inl ⟨by rfl, ?_⟩) ?_ ?_
                        rotate_left
                        · intro w'
                          go_simp
                          with_reducible rfl
                        rotate_left
                        · simp only [Act.put, List.setIfInBounds_toArray, List.set_cons_zero, List.set_cons_succ, i64_w, i32_w]
                          rfl
                        refine pure_ (i := 1) (N := some 17) (v := ?_) (a' := ?_) #[true, true, false, false, false, false, false, false, false, false, false, false, false] rfl rfl (any_of HT_.out (by kernel_rfl)) (fun _ _ _ h => h) (Or.inl ⟨by rfl, ?_⟩) ?_ ?_
                        rotate_left
                        · intro w'
                          go_simp
                          with_reducible rfl
                        rotate_left
                        · simp only [Act.put, List.setIfInBounds_toArray, List.set_cons_zero, List.set_cons_succ, i64_w, i32_w]
                          rfl
                        refine pure_ (i := 6) (N := some 22) (v := ?_) (a' := ?_) #[true, true, false, false, false, false, true, false, false, false, false, false, false] rfl rfl (any_of HT_.out (by kernel_rfl)) (fun _ _ _ h => h) (Or.inl ⟨by rfl, ?_⟩) ?_ ?_
                        rotate_left
                        · intro w'
                          go_simp
                          with_reducible rfl
                        rotate_left
                        · simp only [Act.put, List.setIfInBounds_toArray, List.set_cons_zero, List.set_cons_succ, i64_w, i32_w]
                          rfl
                        refine take_ (i := 2) (N := some 18) (v := ?_) (a' := ?_) #[true, true, true, false, false, false, true, false, false, false, false, false, false] rfl rfl (take_ofW HT_.out HW_.out (by kernel_rfl)) (fun _ _ _ h => h) (Or.inl ⟨by rfl, ?_⟩) hHeld ?_ ?_
                        rotate_left
                        · rintro w' ⟨s0, s1⟩
                          go_simp
                          with_reducible rfl
                        rotate_left
                        · simp only [Act.put, List.setIfInBounds_toArray, List.set_cons_zero, List.set_cons_succ, i64_w, i32_w]
                          rfl
                        refine take_ (i := 7) (N := some 23) (v := ?_) (a' := ?_) #[true, true, true, false, false, false, true, true, false, false, false, false, false] rfl rfl (take_ofW HT_.out HW_.out (by kernel_rfl)) (fun _ _ _ h => h) (Or.inl ⟨by rfl, ?_⟩) hHeld ?_ ?_
                        rotate_left
                        · rintro w' ⟨s0, s1⟩
                          go_simp
                          with_reducible rfl
                        rotate_left
                        · simp only [Act.put, List.setIfInBounds_toArray, List.set_cons_zero, List.set_cons_succ, i64_w, i32_w]
                          rfl
                        refine one_ (i := 3) (N := some 19) #[true, true, true, true, false, false, true, true, false, false, false, false, false] rfl rfl (one_of HT_.out (by kernel_rfl)) (by decide) (fun K hK => ?_)
                        refine goes_ Try.func27 (by kernel_rfl) rfl #[.slice A188_0 ((rd_T43 l0_0 x12_1).f0).length c188_0, .string (⟨#[32]⟩ : ByteArray)] (by rfl) rfl rfl (by (try simp only [List.map_toArray, List.map_cons, List.map_nil]); first | done | rfl | (simp only [List.length_drop, List.length_take]; rfl)) ?_
                        with_reducible refine (strings_Join.calls _ _ ((rd_T43 l0_0 x12_1).f0) (⟨#[32]⟩ : ByteArray) t190 _ ?side1 ?side2 A11.out).mono ?_
                        (case side1 => repeat (first | exact (Kd.C_below HR188_0.out HB.out) | exact HR188_0.out | (with_reducible refine Kd.C_alloc ?_ _) | (with_reducible refine Kd.C_drewN ?_ _) | (with_reducible refine Kd.C_drew ?_)))
                        (case side2 => exact HC188_0.out)
                        rintro e w23 ⟨rfl, hb⟩
                        refine ⟨_, rfl, ?_⟩
                        have n0_ := Aside0.mk (blk_below (g := gb186) (o := .cells #[.slice (some ad188) l0_0.length c0_0] 29 (0, 0)) (by (with_reducible repeat (first | refine blk_drewN ?_ _ | refine blk_drew ?_ | refine blk_alloc ?_ _)); exact BK186.out) hb)
                        have n1_ := Aside0.mk (blk_below (g := gb189) (o := .cells #[.slice A188_0 ((rd_T43 l0_0 x12_1).f0).length c188_0, .slice A188_1 ((rd_T43 l0_0 x12_1).f1).length c188_1] 43 (0, 0)) (by (with_reducible repeat (first | refine blk_drewN ?_ _ | refine blk_drew ?_ | refine blk_alloc ?_ _)); exact BK189.out) hb)
                        have n2_ := Aside0.mk (below_step (by repeat (first | (with_reducible first | exact HB.out | apply below_alloc | apply pw_below_drewN | apply below_drew1 | refine below_set ?_ GE186.out | refine below_set ?_ GE189.out) | exact HB.out)) hb)
                        clear BK186
                        clear BK189
                        clear HB
                        have BK186 := n0_
                        have BK189 := n1_
                        have HB := n2_
                        clear n0_ n1_ n2_
                        (try clear hb)
                        (try clear hb2)
                        (try clear hk)
                        (try clear hi)
                        refine hK.out _ _ ⟨(blk_cell BK189.out 0).trans rfl, (blk_cell BK189.out 1).trans rfl⟩ (fun hHeld => ?_)
                        clear hK K
                        refine norm_ (a' := ?_) ?_ ?_
                        rotate_left
                        · show Act.put _ (some 19) _ = _
                          simp only [Act.put, List.setIfInBounds_toArray, List.set_cons_zero, List.set_cons_succ, i64_w, i32_w]
                          rfl
                        refine pure_ (i := 4) (N := some 20) (v := ?_) (a' := ?_) #[true, true, true, true, true, false, true, true, false, false, false, false, false] rfl rfl (any_of HT_.out (by kernel_rfl)) (fun _ _ _ h => h) (Or.inl ⟨by rfl, ?_⟩) ?_ ?_
                        rotate_left
                        · intro w'
                          go_simp
                          with_reducible rfl
                        rotate_left
                        · simp only [Act.put, List.setIfInBounds_toArray, List.set_cons_zero, List.set_cons_succ, i64_w, i32_w]
                          rfl
                        refine pure_ (i := 5) (N := some 21) (v := ?_) (a' := ?_) #[true, true, true, true, true, true, true, true, false, false, false, false, false] rfl rfl (any_of HT_.out (by kernel_rfl)) (fun _ _ _ h => h) (Or.inl ⟨by rfl, ?_⟩) ?_ ?_
                        rotate_left
                        · intro w'
                          go_simp
                          with_reducible rfl
                        rotate_left
                        · simp only [Act.put, List.setIfInBounds_toArray, List.set_cons_zero, List.set_cons_succ, i64_w, i32_w]
                          rfl
                        refine one_ (i := 8) (N := some 24) #[true, true, true, true, true, true, true, true, true, false, false, false, false] rfl rfl (one_of HT_.out (by kernel_rfl)) (by decide) (fun K hK => ?_)
                        refine goes_ Try.func27 (by kernel_rfl) rfl #[.slice A188_1 ((rd_T43 l0_0 x12_1).f1).length c188_1, .string (⟨#[32]⟩ : ByteArray)] (by rfl) rfl rfl (by (try simp only [List.map_toArray, List.map_cons, List.map_nil]); first | done | rfl | (simp only [List.length_drop, List.length_take]; rfl)) ?_
                        with_reducible refine (strings_Join.calls _ _ ((rd_T43 l0_0 x12_1).f1) (⟨#[32]⟩ : ByteArray) t191 _ ?side1 ?side2 A14.out).mono ?_
                        (case side1 => repeat (first | exact (Kd.C_below HR188_1.out HB.out) | exact HR188_1.out | (with_reducible refine Kd.C_alloc ?_ _) | (with_reducible refine Kd.C_drewN ?_ _) | (with_reducible refine Kd.C_drew ?_)))
                        (case side2 => exact HC188_1.out)
                        rintro e w24 ⟨rfl, hb⟩
                        refine ⟨_, rfl, ?_⟩
                        have n0_ := Aside0.mk (blk_below (g := gb186) (o := .cells #[.slice (some ad188) l0_0.length c0_0] 29 (0, 0)) (by (with_reducible repeat (first | refine blk_drewN ?_ _ | refine blk_drew ?_ | refine blk_alloc ?_ _)); exact BK186.out) hb)
                        have n1_ := Aside0.mk (blk_below (g := gb189) (o := .cells #[.slice A188_0 ((rd_T43 l0_0 x12_1).f0).length c188_0, .slice A188_1 ((rd_T43 l0_0 x12_1).f1).length c188_1] 43 (0, 0)) (by (with_reducible repeat (first | refine blk_drewN ?_ _ | refine blk_drew ?_ | refine blk_alloc ?_ _)); exact BK189.out) hb)
                        have n2_ := Aside0.mk (below_step (by repeat (first | (with_reducible first | exact HB.out | apply below_alloc | apply pw_below_drewN | apply below_drew1 | refine below_set ?_ GE186.out | refine below_set ?_ GE189.out) | exact HB.out)) hb)
                        clear BK186
                        clear BK189
                        clear HB
                        have BK186 := n0_
                        have BK189 := n1_
                        have HB := n2_
                        clear n0_ n1_ n2_
                        (try clear hb)
                        (try clear hb2)
                        (try clear hk)
                        (try clear hi)
                        refine hK.out _ _ ⟨(blk_cell BK189.out 0).trans rfl, (blk_cell BK189.out 1).trans rfl⟩ (fun hHeld => ?_)
                        clear hK K
                        refine norm_ (a' := ?_) ?_ ?_
                        rotate_left
                        · show Act.put _ (some 24) _ = _
                          simp only [Act.put, List.setIfInBounds_toArray, List.set_cons_zero, List.set_cons_succ, i64_w, i32_w]
                          rfl
                        refine pure_ (i := 9) (N := some 25) (v := ?_) (a' := ?_) #[true, true, true, true, true, true, true, true, true, true, false, false, false] rfl rfl (any_of HT_.out (by kernel_rfl)) (fun _ _ _ h => h) (Or.inl ⟨by rfl, ?_⟩) ?_ ?_
                        rotate_left
                        · intro w'
                          go_simp
                          with_reducible rfl
                        rotate_left
                        · simp only [Act.put, List.setIfInBounds_toArray, List.set_cons_zero, List.set_cons_succ, i64_w, i32_w]
                          rfl
                        refine pure_ (i := 10) (N := some 26) (v := ?_) (a' := ?_) #[true, true, true, true, true, true, true, true, true, true, true, false, false] rfl rfl (any_of HT_.out (by kernel_rfl)) (fun _ _ _ h => h) (Or.inl ⟨by rfl, ?_⟩) ?_ ?_
                        rotate_left
                        · intro w'
                          go_simp
                          with_reducible rfl
                        rotate_left
                        · simp only [Act.put, List.setIfInBounds_toArray, List.set_cons_zero, List.set_cons_succ, i64_w, i32_w]
                          rfl
                        refine pure_ (i := 11) (N := some 27) (v := ?_) (a' := ?_) #[true, true, true, true, true, true, true, true, true, true, true, true, false] rfl rfl (any_of HT_.out (by kernel_rfl)) (fun _ _ _ h => h) (Or.inl ⟨by rfl, ?_⟩) ?_ ?_
                        rotate_left
                        · intro w'
                          go_simp
                          with_reducible rfl
                        rotate_left
                        · simp only [Act.put, List.setIfInBounds_toArray, List.set_cons_zero, List.set_cons_succ, i64_w, i32_w]
                          rfl
                        refine pure_ (i := 12) (N := some 3) (v := ?_) (a' := ?_) #[true, true, true, true, true, true, true, true, true, true, true, true, true] rfl rfl (any_of HT_.out (by kernel_rfl)) (fun _ _ _ h => h) (Or.inl ⟨by rfl, ?_⟩) ?_ ?_
                        rotate_left
                        · intro w'
                          go_simp
                          with_reducible rfl
                        rotate_left
                        · simp only [Act.put, List.setIfInBounds_toArray, List.set_cons_zero, List.set_cons_succ, i64_w, i32_w]
                          rfl
                        refine done_ (done_of HT_.out (by kernel_rfl)) ?_
                        try go_wp2
                        go_roundg k1
                        case measure => have := HK1.out; omega
                        case rel => exact ⟨(x3_1 ++ (((((⟨#[91]⟩ : ByteArray) ++ t190) ++ (⟨#[124]⟩ : ByteArray)) ++ t191) ++ (⟨#[93]⟩ : ByteArray))), (wrap64 (x12_1 + 1)), (by first | rfl | (simp; done) | (simp [*]; done)), (by first | rfl | (simp; done) | (simp [*]; done)), H', ⟨by have := HK1.out; omega⟩, ⟨by (with_reducible repeat (first | refine blk_drewN ?_ _ | refine blk_drew ?_ | refine blk_alloc ?_ _)); exact BK186.out⟩, ⟨by repeat (first | (with_reducible first | exact HB.out | apply below_alloc | apply pw_below_drewN | apply below_drew1 | refine below_set ?_ GE186.out | refine below_set ?_ GE189.out) | exact HB.out)⟩⟩
                      · rw [if_neg c17] at H
                        exact absurd H (by simp)
                    · rw [if_neg c16] at H
                      exact absurd H (by simp)
                  · rw [if_neg c15] at H
                    exact absurd H (by simp)
                · rw [if_neg c13] at H
                  exact absurd H (by simp)
              · rw [if_neg c12] at H
                exact absurd H (by simp)
            · rw [if_neg c10] at H
              exact absurd H (by simp)
          · rw [if_neg c9] at H
            exact absurd H (by simp)
        · rw [if_neg c8] at H
          have c8b0 : decide (x12_1 < (l0_0.length : Int)) = false := decide_eq_false c8
          clear c8
          obtain rfl := Option.some.inj H
          go_wp2
          go_ret
          exact ⟨by first | rfl | (simp [errW_none, errW_some] <;> rfl) | (simp [*, errW_none, errW_some] <;> rfl), by repeat (first | (with_reducible first | exact HB.out | apply below_alloc | apply pw_below_drewN | apply below_drew1 | refine below_set ?_ GE186.out) | exact HB.out)⟩
  · replace c3 := Bool.eq_false_iff.mpr c3
    subst c3
    have H1 : (some (⟨#[]⟩ : ByteArray)) = some r := by rw [if_neg (show ¬ (false = true) by decide)] at H; exact H
    clear H
    have H := H1
    clear H1
    obtain rfl := Option.some.inj H
    go_enter Try.func11, Try.ntmps11
    go_wp2_with (first | ((with_reducible refine gate_dst (N := 1) rfl ?_); refine box_event ?hg (N := 1) ?hd (cs := #[.slice A0_0 l0_0.length c0_0]) (t := 29) ?hr ?_; (case hd => rfl); (case hg => rfl); (case hr => first | (go_simp; done) | (go_simp; rfl)); intro gb186 hg w25 hbox hb; have n0_ := Aside0.mk (below_step (by repeat (first | (with_reducible first | exact HB.out | apply below_alloc | apply pw_below_drewN | apply below_drew1) | exact HB.out)) hb); have n1_ := Aside0.mk (hbox); have n2_ := Aside0.mk ((by rw [hg]; exact (below_size (by repeat (first | (with_reducible first | exact HB.out | apply below_alloc | apply pw_below_drewN | apply below_drew1) | exact HB.out))) : w.heap.size ≤ gb186)); have n3_ := Aside0.mk ((by rw [hg]; exact (below_size (by repeat (first | (with_reducible first | exact HB.out | apply below_alloc | apply pw_below_drewN | apply below_drew1) | exact HB.out))) : w.heap.size ≤ gb186)); clear HB; have HB := n0_; have BK186 := n1_; have GW186 := n2_; have GE186 := n3_; clear n0_ n1_ n2_ n3_; clear hb hbox hg; have hcz26_0 : w25.cell? ⟨gb186, 0, none⟩ = some (.slice A0_0 l0_0.length c0_0) := (blk_cell BK186.out 0).trans rfl; have hfz26_0 := blk_frozen BK186.out 0) | ((with_reducible refine gate_callee (f := 26) rfl ?_); refine goesL_ (some 7) rfl rfl Try.func26 (by kernel_rfl) rfl #[.agg #[.slice A0_0 l0_0.length c0_0]] rfl (by (try simp only [List.map_toArray, List.map_cons, List.map_nil]); first | done | rfl | (simp only [List.length_drop, List.length_take]; rfl)) ?_; (with_reducible refine (impl_isFing.calls k _ _ l0_0 false _ ?side1 ?side2 A2.out).mono ?_); (case side1 => repeat (first | exact (Kd.C_below HR0_0.out HB.out) | exact HR0_0.out | (with_reducible refine Kd.C_alloc ?_ _) | (with_reducible refine Kd.C_drewN ?_ _) | (with_reducible refine Kd.C_drew ?_))); (case side2 => exact HC0_0.out); rintro e w27 ⟨rfl, hb⟩; refine ⟨_, rfl, ?_⟩; have n0_ := Aside0.mk (blk_below (g := gb186) (o := .cells #[.slice A0_0 l0_0.length c0_0] 29 (0, 0)) (by (with_reducible repeat (first | refine blk_drewN ?_ _ | refine blk_drew ?_ | refine blk_alloc ?_ _)); exact BK186.out) hb); have n1_ := Aside0.mk (below_step (by repeat (first | (with_reducible first | exact HB.out | apply below_alloc | apply pw_below_drewN | apply below_drew1 | refine below_set ?_ GE186.out) | exact HB.out)) hb); clear BK186; clear HB; have BK186 := n0_; have HB := n1_; clear n0_ n1_; (try clear hb); (try clear hb2); (try clear hk); (try clear hi)))
    go_ret
    exact ⟨by first | rfl | (simp [errW_none, errW_some] <;> rfl) | (simp [*, errW_none, errW_some] <;> rfl), by repeat (first | (with_reducible first | exact HB.out | apply below_alloc | apply pw_below_drewN | apply below_drew1 | refine below_set ?_ GE186.out) | exact HB.out)⟩

end Go.Proofs.Ytjkipaipaobibaa.PFnExactFingText
