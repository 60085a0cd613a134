-- Written by wip/xprint.py (the session's program over the kit's printer) for the claim of FnExactFingText; Lean checks it.
import Derived.Test.YtjkipaipaobibaaPFnExactFingTextx0
import Derived.Test.YtjkipaipaobibaaPFnExactFingTextx1
import Derived.Test.YtjkipaipaobibaaPFnExactFingTextx3
namespace Go.Proofs.Ytjkipaipaobibaa.PFnExactFingText
open Go.RowKit Go.Proofs.YtjkipaipaobibaaW.PrintWords Go.Proofs.YtjkipaipaobibaaW.PrintLast Go.Proofs.YtjkipaipaobibaaW.PrintMore
attribute [local go_sem] max2_int min2_int max_two min_two max_three min_three max_four min_four   -- for this text's walks alone
set_option linter.unusedVariables false
set_option linter.unusedSimpArgs false

/-! ### spec_FingOk: function 19 -/
mutual
def spec_FingOk.l0 : Nat → Int → Int → List (S43) → Option (Bool)
  | 0, _, _, _ => none
  | k + 1, x3, x4, x126000 => if x4 < (x126000.length : Int) then (if 0 ≤ x4 then (if (((rd_T43 x126000 x4).f0).length : Int) ≥ 1 then (if (((rd_T43 x126000 x4).f0).length : Int) ≤ 4 then (if (((rd_T43 x126000 x4).f1).length : Int) ≥ 1 then (spec_FingOk.j1 k x3 x4 (decide ((((rd_T43 x126000 x4).f1).length : Int) ≤ 4)) x126000 ((rd_T43 x126000 x4).f0) ((rd_T43 x126000 x4).f1)) else (spec_FingOk.j1 k x3 x4 false x126000 ((rd_T43 x126000 x4).f0) ((rd_T43 x126000 x4).f1))) else (spec_FingOk.j1 k x3 x4 false x126000 ((rd_T43 x126000 x4).f0) ((rd_T43 x126000 x4).f1))) else (spec_FingOk.j1 k x3 x4 false x126000 ((rd_T43 x126000 x4).f0) ((rd_T43 x126000 x4).f1))) else (none)) else (some (decide (x3 ≤ 200)))
def spec_FingOk.j1 : Nat → Int → Int → Bool → List (S43) → List ByteArray → List ByteArray → Option (Bool)
  | 0, _, _, _, _, _, _ => none
  | k + 1, x3, x4, x6, x126000, x128000, x128001 => if x6 = true then ((spec_l03All.f k x128000 x4).bind fun t128 => (if t128 = true then ((spec_l03All.f k x128001 x4).bind fun t129 => (spec_FingOk.j2 k x3 x4 (!t129) x126000 x128000 x128001)) else (spec_FingOk.j2 k x3 x4 true x126000 x128000 x128001))) else ((spec_l03Single.f x128000 x128001).bind fun t130 => (if t130 = true then (if (x4 = (wrap64 ((x126000.length : Int) - 1))) then ((spec_l03All.f k x128000 x4).bind fun t131 => (if t131 = true then ((spec_l03All.f k x128001 x4).bind fun t132 => (spec_FingOk.j2 k x3 x4 (!t132) x126000 x128000 x128001)) else (spec_FingOk.j2 k x3 x4 true x126000 x128000 x128001))) else (spec_FingOk.j2 k x3 x4 true x126000 x128000 x128001)) else (spec_FingOk.j2 k x3 x4 true x126000 x128000 x128001)))
def spec_FingOk.j2 : Nat → Int → Int → Bool → List (S43) → List ByteArray → List ByteArray → Option (Bool)
  | 0, _, _, _, _, _, _ => none
  | k + 1, x3, x4, x75, x126000, x128000, x128001 => if x75 = true then (some false) else (spec_FingOk.l1 k x3 x4 0 x126000 x128000 x128001)
def spec_FingOk.l1 : Nat → Int → Int → Int → List (S43) → List ByteArray → List ByteArray → Option (Bool)
  | 0, _, _, _, _, _, _ => none
  | k + 1, x3, x4, x7, x126000, x128000, x128001 => if x7 < (x128000.length : Int) then (if 0 ≤ x7 then ((spec_l03Leaves.f k (rdOf ByteArray.empty x128000 x7)).bind fun t134 => (spec_FingOk.l1 k (wrap64 (x3 + t134)) x4 (wrap64 (x7 + 1)) x126000 x128000 x128001)) else (none)) else (spec_FingOk.l2 k x3 x4 0 x126000 x128000 x128001)
def spec_FingOk.l2 : Nat → Int → Int → Int → List (S43) → List ByteArray → List ByteArray → Option (Bool)
  | 0, _, _, _, _, _, _ => none
  | k + 1, x3, x4, x8, x126000, x128000, x128001 => if x8 < (x128001.length : Int) then (if 0 ≤ x8 then ((spec_l03Leaves.f k (rdOf ByteArray.empty x128001 x8)).bind fun t136 => (spec_FingOk.l2 k (wrap64 (x3 + t136)) x4 (wrap64 (x8 + 1)) x126000 x128000 x128001)) else (none)) else (spec_FingOk.l0 k x3 (wrap64 (x4 + 1)) x126000)
end
def spec_FingOk.f (k : Nat) (l0_0 : List (S43)) : Option (Bool) := if (l0_0.length : Int) > 12 then (some false) else (spec_FingOk.l0 k 0 0 l0_0)
theorem spec_FingOk.mono_l : ∀ k, (∀ y0 y1 y2, LeO (spec_FingOk.l0 k y0 y1 y2) (spec_FingOk.l0 (k + 1) y0 y1 y2)) ∧ (∀ y0 y1 y2 y3 y4 y5, LeO (spec_FingOk.j1 k y0 y1 y2 y3 y4 y5) (spec_FingOk.j1 (k + 1) y0 y1 y2 y3 y4 y5)) ∧ (∀ y0 y1 y2 y3 y4 y5, LeO (spec_FingOk.j2 k y0 y1 y2 y3 y4 y5) (spec_FingOk.j2 (k + 1) y0 y1 y2 y3 y4 y5)) ∧ (∀ y0 y1 y2 y3 y4 y5, LeO (spec_FingOk.l1 k y0 y1 y2 y3 y4 y5) (spec_FingOk.l1 (k + 1) y0 y1 y2 y3 y4 y5)) ∧ (∀ y0 y1 y2 y3 y4 y5, LeO (spec_FingOk.l2 k y0 y1 y2 y3 y4 y5) (spec_FingOk.l2 (k + 1) y0 y1 y2 y3 y4 y5))
  | 0 => ⟨fun _ _ _ r h => by simp [spec_FingOk.l0] at h, fun _ _ _ _ _ _ r h => by simp [spec_FingOk.j1] at h, fun _ _ _ _ _ _ r h => by simp [spec_FingOk.j2] at h, fun _ _ _ _ _ _ r h => by simp [spec_FingOk.l1] at h, fun _ _ _ _ _ _ r h => by simp [spec_FingOk.l2] at h⟩
  | k + 1 => by
    obtain ⟨ih0, ih1, ih2, ih3, ih4⟩ := spec_FingOk.mono_l k
    refine ⟨?_, ?_, ?_, ?_, ?_⟩
    · intro y0 y1 y2
      unfold spec_FingOk.l0
      repeat' first
      | (with_reducible exact ih0 _ _ _)
      | (with_reducible exact ih1 _ _ _ _ _ _)
      | (with_reducible exact ih2 _ _ _ _ _ _)
      | (with_reducible exact ih3 _ _ _ _ _ _)
      | (with_reducible exact ih4 _ _ _ _ _ _)
      | (with_reducible exact spec_l03All.mono _ _ _)
      | (with_reducible exact spec_l03Leaves.mono _ _)
      | (with_reducible exact LeO.refl _)
      | (with_reducible exact LeO.none _)
      | (with_reducible refine LeO.ite ?_ ?_)
      | (with_reducible refine LeO.bind ?_ (fun _ => ?_))
      | exact ih0 _ _ _
      | exact ih1 _ _ _ _ _ _
      | exact ih2 _ _ _ _ _ _
      | exact ih3 _ _ _ _ _ _
      | exact ih4 _ _ _ _ _ _
      | exact spec_l03All.mono _ _ _
      | exact spec_l03Leaves.mono _ _
      | exact LeO.none _
      | refine LeO.ite ?_ ?_
      | refine LeO.bind ?_ (fun _ => ?_)
    · intro y0 y1 y2 y3 y4 y5
      unfold spec_FingOk.j1
      repeat' first
      | (with_reducible exact ih0 _ _ _)
      | (with_reducible exact ih1 _ _ _ _ _ _)
      | (with_reducible exact ih2 _ _ _ _ _ _)
      | (with_reducible exact ih3 _ _ _ _ _ _)
      | (with_reducible exact ih4 _ _ _ _ _ _)
      | (with_reducible exact spec_l03All.mono _ _ _)
      | (with_reducible exact spec_l03Leaves.mono _ _)
      | (with_reducible exact LeO.refl _)
      | (with_reducible exact LeO.none _)
      | (with_reducible refine LeO.ite ?_ ?_)
      | (with_reducible refine LeO.bind ?_ (fun _ => ?_))
      | exact ih0 _ _ _
      | exact ih1 _ _ _ _ _ _
      | exact ih2 _ _ _ _ _ _
      | exact ih3 _ _ _ _ _ _
      | exact ih4 _ _ _ _ _ _
      | exact spec_l03All.mono _ _ _
      | exact spec_l03Leaves.mono _ _
      | exact LeO.none _
      | refine LeO.ite ?_ ?_
      | refine LeO.bind ?_ (fun _ => ?_)
    · intro y0 y1 y2 y3 y4 y5
      unfold spec_FingOk.j2
      repeat' first
      | (with_reducible exact ih0 _ _ _)
      | (with_reducible exact ih1 _ _ _ _ _ _)
      | (with_reducible exact ih2 _ _ _ _ _ _)
      | (with_reducible exact ih3 _ _ _ _ _ _)
      | (with_reducible exact ih4 _ _ _ _ _ _)
      | (with_reducible exact spec_l03All.mono _ _ _)
      | (with_reducible exact spec_l03Leaves.mono _ _)
      | (with_reducible exact LeO.refl _)
      | (with_reducible exact LeO.none _)
      | (with_reducible refine LeO.ite ?_ ?_)
      | (with_reducible refine LeO.bind ?_ (fun _ => ?_))
      | exact ih0 _ _ _
      | exact ih1 _ _ _ _ _ _
      | exact ih2 _ _ _ _ _ _
      | exact ih3 _ _ _ _ _ _
      | exact ih4 _ _ _ _ _ _
      | exact spec_l03All.mono _ _ _
      | exact spec_l03Leaves.mono _ _
      | exact LeO.none _
      | refine LeO.ite ?_ ?_
      | refine LeO.bind ?_ (fun _ => ?_)
    · intro y0 y1 y2 y3 y4 y5
      unfold spec_FingOk.l1
      repeat' first
      | (with_reducible exact ih0 _ _ _)
      | (with_reducible exact ih1 _ _ _ _ _ _)
      | (with_reducible exact ih2 _ _ _ _ _ _)
      | (with_reducible exact ih3 _ _ _ _ _ _)
      | (with_reducible exact ih4 _ _ _ _ _ _)
      | (with_reducible exact spec_l03All.mono _ _ _)
      | (with_reducible exact spec_l03Leaves.mono _ _)
      | (with_reducible exact LeO.refl _)
      | (with_reducible exact LeO.none _)
      | (with_reducible refine LeO.ite ?_ ?_)
      | (with_reducible refine LeO.bind ?_ (fun _ => ?_))
      | exact ih0 _ _ _
      | exact ih1 _ _ _ _ _ _
      | exact ih2 _ _ _ _ _ _
      | exact ih3 _ _ _ _ _ _
      | exact ih4 _ _ _ _ _ _
      | exact spec_l03All.mono _ _ _
      | exact spec_l03Leaves.mono _ _
      | exact LeO.none _
      | refine LeO.ite ?_ ?_
      | refine LeO.bind ?_ (fun _ => ?_)
    · intro y0 y1 y2 y3 y4 y5
      unfold spec_FingOk.l2
      repeat' first
      | (with_reducible exact ih0 _ _ _)
      | (with_reducible exact ih1 _ _ _ _ _ _)
      | (with_reducible exact ih2 _ _ _ _ _ _)
      | (with_reducible exact ih3 _ _ _ _ _ _)
      | (with_reducible exact ih4 _ _ _ _ _ _)
      | (with_reducible exact spec_l03All.mono _ _ _)
      | (with_reducible exact spec_l03Leaves.mono _ _)
      | (with_reducible exact LeO.refl _)
      | (with_reducible exact LeO.none _)
      | (with_reducible refine LeO.ite ?_ ?_)
      | (with_reducible refine LeO.bind ?_ (fun _ => ?_))
      | exact ih0 _ _ _
      | exact ih1 _ _ _ _ _ _
      | exact ih2 _ _ _ _ _ _
      | exact ih3 _ _ _ _ _ _
      | exact ih4 _ _ _ _ _ _
      | exact spec_l03All.mono _ _ _
      | exact spec_l03Leaves.mono _ _
      | exact LeO.none _
      | refine LeO.ite ?_ ?_
      | refine LeO.bind ?_ (fun _ => ?_)
theorem spec_FingOk.mono : ∀ a0 k, LeO (spec_FingOk.f k a0) (spec_FingOk.f (k + 1) a0) := by
  intro a0 k
  obtain ⟨ih0, ih1, ih2, ih3, ih4⟩ := spec_FingOk.mono_l k
  unfold spec_FingOk.f
  repeat' first
      | (with_reducible exact ih0 _ _ _)
      | (with_reducible exact ih1 _ _ _ _ _ _)
      | (with_reducible exact ih2 _ _ _ _ _ _)
      | (with_reducible exact ih3 _ _ _ _ _ _)
      | (with_reducible exact ih4 _ _ _ _ _ _)
      | (with_reducible exact spec_l03All.mono _ _ _)
      | (with_reducible exact spec_l03Leaves.mono _ _)
      | (with_reducible exact LeO.refl _)
      | (with_reducible exact LeO.none _)
      | (with_reducible refine LeO.ite ?_ ?_)
      | (with_reducible refine LeO.bind ?_ (fun _ => ?_))
      | exact ih0 _ _ _
      | exact ih1 _ _ _ _ _ _
      | exact ih2 _ _ _ _ _ _
      | exact ih3 _ _ _ _ _ _
      | exact ih4 _ _ _ _ _ _
      | exact spec_l03All.mono _ _ _
      | exact spec_l03Leaves.mono _ _
      | exact LeO.none _
      | refine LeO.ite ?_ ?_
      | refine LeO.bind ?_ (fun _ => ?_)
set_option maxHeartbeats 8000000 in
set_option maxRecDepth 100000 in
theorem spec_FingOk.calls (k : Nat) (A0_0 : Option Addr) (c0_0 : Nat) (l0_0 : List (S43)) (r : Bool) (w : World) (hr0_0 : Kd.C k43 w A0_0 l0_0.length l0_0) (hc0_0 : l0_0.length ≤ c0_0) (h : spec_FingOk.f k l0_0 = some r) :
    Calls Try.prog 19 #[.agg #[.slice A0_0 l0_0.length c0_0]] w fun e w' => e = .returned (.bool r) ∧ Below w.heap.size w w' := by
  have hu29 := Try.underlying29
  have hu43 := Try.underlying43
  have HR0_0 := Aside0.mk hr0_0
  have HC0_0 := Aside0.mk hc0_0
  clear hr0_0 hc0_0
  have HB := Aside0.mk (Below.refl w.heap.size w)
  have H : (if (l0_0.length : Int) > 12 then (some false) else (spec_FingOk.l0 k 0 0 l0_0)) = some r := h
  clear h
  by_cases c2 : (l0_0.length : Int) > 12
  · rw [if_pos c2] at H
    have c2b0 : decide (12 < (l0_0.length : Int)) = true := decide_eq_true c2
    have c2b1 : decide (12 < l0_0.length) = true := decide_eq_true (by omega)
    clear c2
    obtain rfl := Option.some.inj H
    go_enter Try.func19, Try.ntmps19
    go_wp2_with (first | ((with_reducible refine gate_dst (N := 1) rfl ?_); (try (refine gate_guard (by rfl) ?_; dsimp only)); refine box_event ?hg (N := 1) ?hd (cs := #[.slice A0_0 l0_0.length c0_0]) (t := 29) ?hr ?_; (case hd => rfl); (case hg => rfl); (case hr => first | (go_simp; done) | (go_simp; rfl)); intro gb125 hg w3 hbox hb; have n0_ := Aside0.mk (below_step (by repeat (first | (with_reducible first | exact HB.out | apply below_alloc | apply pw_below_drewN | apply below_drew1) | exact HB.out)) hb); have n1_ := Aside0.mk (hbox); have n2_ := Aside0.mk ((by rw [hg]; exact (below_size (by repeat (first | (with_reducible first | exact HB.out | apply below_alloc | apply pw_below_drewN | apply below_drew1) | exact HB.out))) : w.heap.size ≤ gb125)); have n3_ := Aside0.mk ((by rw [hg]; exact (below_size (by repeat (first | (with_reducible first | exact HB.out | apply below_alloc | apply pw_below_drewN | apply below_drew1) | exact HB.out))) : w.heap.size ≤ gb125)); clear HB; have HB := n0_; have BK125 := n1_; have GW125 := n2_; have GE125 := n3_; clear n0_ n1_ n2_ n3_; clear hb hbox hg; have hcz4_0 : w3.cell? ⟨gb125, 0, none⟩ = some (.slice A0_0 l0_0.length c0_0) := (blk_cell BK125.out 0).trans rfl; have hfz4_0 := blk_frozen BK125.out 0))
    go_ret
    exact ⟨by first | rfl | (simp [errW_none, errW_some] <;> rfl) | (simp [*, errW_none, errW_some] <;> rfl), by repeat (first | (with_reducible first | exact HB.out | apply below_alloc | apply pw_below_drewN | apply below_drew1 | refine below_set ?_ GE125.out) | exact HB.out)⟩
  · rw [if_neg c2] at H
    have c2b0 : decide (12 < (l0_0.length : Int)) = false := decide_eq_false c2
    have c2b1 : decide (12 < l0_0.length) = false := decide_eq_false (by omega)
    clear c2
    have H' := Aside0.mk H
    clear H
    go_enter Try.func19, Try.ntmps19
    go_wp2_with (first | ((with_reducible refine gate_dst (N := 1) rfl ?_); (try (refine gate_guard (by rfl) ?_; dsimp only)); refine box_event ?hg (N := 1) ?hd (cs := #[.slice A0_0 l0_0.length c0_0]) (t := 29) ?hr ?_; (case hd => rfl); (case hg => rfl); (case hr => first | (go_simp; done) | (go_simp; rfl)); intro gb125 hg w5 hbox hb; have n0_ := Aside0.mk (below_step (by repeat (first | (with_reducible first | exact HB.out | apply below_alloc | apply pw_below_drewN | apply below_drew1) | exact HB.out)) hb); have n1_ := Aside0.mk (hbox); have n2_ := Aside0.mk ((by rw [hg]; exact (below_size (by repeat (first | (with_reducible first | exact HB.out | apply below_alloc | apply pw_below_drewN | apply below_drew1) | exact HB.out))) : w.heap.size ≤ gb125)); have n3_ := Aside0.mk ((by rw [hg]; exact (below_size (by repeat (first | (with_reducible first | exact HB.out | apply below_alloc | apply pw_below_drewN | apply below_drew1) | exact HB.out))) : w.heap.size ≤ gb125)); clear HB; have HB := n0_; have BK125 := n1_; have GW125 := n2_; have GE125 := n3_; clear n0_ n1_ n2_ n3_; clear hb hbox hg; have hcz6_0 : w5.cell? ⟨gb125, 0, none⟩ = some (.slice A0_0 l0_0.length c0_0) := (blk_cell BK125.out 0).trans rfl; have hfz6_0 := blk_frozen BK125.out 0))
    go_loopg [3, 4] k (fun kq v3 v4 w' => ∃ (x3_1 : Int) (x4_1 : Int), v3 = .int .i64 x3_1 ∧ v4 = .int .i64 x4_1 ∧ Aside0 (spec_FingOk.l0 kq x3_1 x4_1 l0_0 = some r) ∧ Aside0 (kq ≤ k) ∧ Aside0 (w'.heap[gb125]? = some (.cells #[(.slice A0_0 l0_0.length c0_0)] 29 (0, 0))) ∧ Aside0 (Below w.heap.size w w'))
    case atStart => exact ⟨(0), (0), (by first | rfl | (simp; done) | (simp [*]; done)), (by first | rfl | (simp; done) | (simp [*]; done)), H', ⟨Nat.le_refl _⟩, ⟨by (with_reducible repeat (first | refine blk_drewN ?_ _ | refine blk_drew ?_ | refine blk_alloc ?_ _)); exact BK125.out⟩, ⟨by repeat (first | (with_reducible first | exact HB.out | apply below_alloc | apply pw_below_drewN | apply below_drew1 | refine below_set ?_ GE125.out) | exact HB.out)⟩⟩
    case round =>
      clear H'
      try clear c1
      try clear c2
      try clear c2b0
      try clear c2b1
      try clear p2
      try clear hcz4_0
      try clear hcz6_0
      try clear hfz4_0
      try clear hfz6_0
      obtain ⟨x3_1, x4_1, rfl, rfl, HA, HK1, BK125, HB⟩ := hrel
      cases gk with
      | zero => exact absurd HA.out (by simp [spec_FingOk.l0])
      | succ k1 =>
        have H := HA.out
        clear HA
        simp only [spec_FingOk.l0] at H
        by_cases c7 : x4_1 < (l0_0.length : Int)
        · rw [if_pos c7] at H
          have c7b0 : decide (x4_1 < (l0_0.length : Int)) = true := decide_eq_true c7
          clear c7
          by_cases c8 : 0 ≤ x4_1
          · rw [if_pos c8] at H
            have c8b0 : decide (0 ≤ x4_1) = true := decide_eq_true c8
            clear c8
            have HC9 := Aside0.mk H
            clear H
            have hcz10_0 : wr.cell? ⟨gb125, 0, none⟩ = some (.slice A0_0 l0_0.length c0_0) := (blk_cell BK125.out 0).trans rfl
            have hfz10_0 := blk_frozen BK125.out 0
            have p126 : 0 ≤ (x4_1 : Int) := of_decide_eq_true (by first | (with_reducible assumption) | assumption)
            have q126 : x4_1 < (l0_0.length : Int) := of_decide_eq_true (by first | (with_reducible assumption) | assumption)
            obtain ⟨ad126, A126_0, c126_0, A126_1, c126_1, e126, hx126_0, hx126_1, hl126_0, hi126_0, hl126_1, hi126_1⟩ := at_T43 HR0_0.out x4_1 p126 q126
            cases e126
            (try replace hx126_0 := (HB.out.cell (World.block_lt_of_cell? w _ hx126_0)).trans hx126_0)
            (try replace hx126_1 := (HB.out.cell (World.block_lt_of_cell? w _ hx126_1)).trans hx126_1)
            have HR126_0 := Aside0.mk hi126_0
            have HC126_0 := Aside0.mk hl126_0
            clear hi126_0 hl126_0
            have HR126_1 := Aside0.mk hi126_1
            have HC126_1 := Aside0.mk hl126_1
            clear hi126_1 hl126_1
            replace p126 := eq_true p126
            replace q126 := eq_true q126
            go_upto_region 8 with (first | ((with_reducible refine gate_dst (N := 5) rfl ?_); (try (refine gate_guard (by rfl) ?_; dsimp only)); refine box_event ?hg (N := 5) ?hd (cs := #[.slice none 0 0, .slice none 0 0]) (t := 43) ?hr ?_; (case hd => rfl); (case hg => rfl); (case hr => first | (go_simp; done) | (go_simp; rfl)); intro gb127 hg w11 hbox hb; have n0_ := Aside0.mk (blk_below (g := gb125) (o := .cells #[.slice (some ad126) l0_0.length c0_0] 29 (0, 0)) (by (with_reducible repeat (first | refine blk_drewN ?_ _ | refine blk_drew ?_ | refine blk_alloc ?_ _)); exact BK125.out) hb); have n1_ := Aside0.mk (below_step (by repeat (first | (with_reducible first | exact HB.out | apply below_alloc | apply pw_below_drewN | apply below_drew1 | refine below_set ?_ GE125.out) | exact HB.out)) hb); have n2_ := Aside0.mk (hbox); have n3_ := Aside0.mk ((by rw [hg]; exact (below_size (by repeat (first | (with_reducible first | exact HB.out | apply below_alloc | apply pw_below_drewN | apply below_drew1 | refine below_set ?_ GE125.out) | exact HB.out))) : w.heap.size ≤ gb127)); have n4_ := Aside0.mk ((by rw [hg]; exact (below_size (by repeat (first | (with_reducible first | exact HB.out | apply below_alloc | apply pw_below_drewN | apply below_drew1 | refine below_set ?_ GE125.out) | exact HB.out))) : w.heap.size ≤ gb127)); have n5_ := Aside0.mk ((by rw [hg]; exact Nat.ne_of_lt (blk_lt (g := gb125) (o := .cells #[.slice (some ad126) l0_0.length c0_0] 29 (0, 0)) (by (with_reducible repeat (first | refine blk_drewN ?_ _ | refine blk_drew ?_ | refine blk_alloc ?_ _)); exact BK125.out)) : gb125 ≠ gb127)); have n6_ := Aside0.mk ((by rw [hg]; exact Nat.ne_of_gt (blk_lt (g := gb125) (o := .cells #[.slice (some ad126) l0_0.length c0_0] 29 (0, 0)) (by (with_reducible repeat (first | refine blk_drewN ?_ _ | refine blk_drew ?_ | refine blk_alloc ?_ _)); exact BK125.out)) : gb127 ≠ gb125)); clear BK125; clear HB; have BK125 := n0_; have HB := n1_; have BK127 := n2_; have GW127 := n3_; have GE127 := n4_; have NB125_127 := n5_; have NB127_125 := n6_; clear n0_ n1_ n2_ n3_ n4_ n5_ n6_; clear hb hbox hg; have hnb12 := NB127_125.out; have hnc12 := NB125_127.out; have hcz13_0 : w11.cell? ⟨gb127, 0, none⟩ = some (.slice none 0 0) := (blk_cell BK127.out 0).trans rfl; have hcz13_1 : w11.cell? ⟨gb127, 1, none⟩ = some (.slice none 0 0) := (blk_cell BK127.out 1).trans rfl; have hfz13_0 := blk_frozen BK127.out 0; have hfz13_1 := blk_frozen BK127.out 1))
            (try simp only [Act.put, List.setIfInBounds_toArray, List.set_cons_zero, List.set_cons_succ])
            go_cut [6] (fun v6 wc => ∃ (kq : Nat) (x6_8 : Bool), v6 = .bool x6_8 ∧ Aside0 (spec_FingOk.j1 kq x3_1 x4_1 x6_8 l0_0 ((rd_T43 l0_0 x4_1).f0) ((rd_T43 l0_0 x4_1).f1) = some r) ∧ Aside0 (kq ≤ k1) ∧ Aside0 (wc.heap[gb125]? = some (.cells #[(.slice (some ad126) l0_0.length c0_0)] 29 (0, 0))) ∧ Aside0 (wc.heap[gb127]? = some (.cells #[(.slice A126_0 ((rd_T43 l0_0 x4_1).f0).length c126_0), (.slice A126_1 ((rd_T43 l0_0 x4_1).f1).length c126_1)] 43 (0, 0))) ∧ Aside0 (Below w.heap.size w wc))
            case first =>
              have H := HC9.out
              clear HC9
              by_cases c14 : (((rd_T43 l0_0 x4_1).f0).length : Int) ≥ 1
              · rw [if_pos c14] at H
                have c14b0 : decide (1 ≤ (((rd_T43 l0_0 x4_1).f0).length : Int)) = true := decide_eq_true c14
                have c14b1 : decide (1 ≤ ((rd_T43 l0_0 x4_1).f0).length) = true := decide_eq_true (by omega)
                clear c14
                (first | rw [c14b0] | (simp only [i64_w, i32_w]; rw [c14b0]) | skip)
                by_cases c15 : (((rd_T43 l0_0 x4_1).f0).length : Int) ≤ 4
                · rw [if_pos c15] at H
                  have c15b0 : decide ((((rd_T43 l0_0 x4_1).f0).length : Int) ≤ 4) = true := decide_eq_true c15
                  have c15b1 : decide (((rd_T43 l0_0 x4_1).f0).length ≤ 4) = true := decide_eq_true (by omega)
                  clear c15
                  by_cases c16 : (((rd_T43 l0_0 x4_1).f1).length : Int) ≥ 1
                  · rw [if_pos c16] at H
                    have c16b0 : decide (1 ≤ (((rd_T43 l0_0 x4_1).f1).length : Int)) = true := decide_eq_true c16
                    have c16b1 : decide (1 ≤ ((rd_T43 l0_0 x4_1).f1).length) = true := decide_eq_true (by omega)
                    clear c16
                    have H' := Aside0.mk H
                    clear H
                    have hnb17 := NB127_125.out
                    have hnc17 := NB125_127.out
                    have hcz18_0 : w11.cell? ⟨gb127, 0, none⟩ = some (.slice none 0 0) := (blk_cell BK127.out 0).trans rfl
                    have hcz18_1 : w11.cell? ⟨gb127, 1, none⟩ = some (.slice none 0 0) := (blk_cell BK127.out 1).trans rfl
                    have hfz18_0 := blk_frozen BK127.out 0
                    have hfz18_1 := blk_frozen BK127.out 1
                    go_wp2
                    go_meet
                    case rel => exact ⟨_, (decide ((((rd_T43 l0_0 x4_1).f1).length : Int) ≤ 4)), (by first | rfl | (simp; done) | (simp [*]; done)), H', ⟨by have := HK1.out; first | omega | exact Nat.le_refl _⟩, ⟨by (with_reducible repeat (first | refine blk_drewN ?_ _ | refine blk_drew ?_ | refine blk_alloc ?_ _)); refine blk_far ?_ NB125_127.out _; (with_reducible repeat (first | refine blk_drewN ?_ _ | refine blk_drew ?_ | refine blk_alloc ?_ _)); refine blk_far ?_ NB125_127.out _; (with_reducible repeat (first | refine blk_drewN ?_ _ | refine blk_drew ?_ | refine blk_alloc ?_ _)); exact BK125.out⟩, ⟨by (with_reducible repeat (first | refine blk_drewN ?_ _ | refine blk_drew ?_ | refine blk_alloc ?_ _)); refine blk_put (cs := #[.slice A126_0 ((rd_T43 l0_0 x4_1).f0).length c126_0, .slice none 0 0]) ?_ 1 _ rfl; (with_reducible repeat (first | refine blk_drewN ?_ _ | refine blk_drew ?_ | refine blk_alloc ?_ _)); refine blk_put (cs := #[.slice none 0 0, .slice none 0 0]) ?_ 0 _ rfl; (with_reducible repeat (first | refine blk_drewN ?_ _ | refine blk_drew ?_ | refine blk_alloc ?_ _)); exact BK127.out⟩, ⟨by repeat (first | (with_reducible first | exact HB.out | apply below_alloc | apply pw_below_drewN | apply below_drew1 | refine below_set ?_ GE125.out | refine below_set ?_ GE127.out) | exact HB.out)⟩⟩
                  · rw [if_neg c16] at H
                    have c16b0 : decide (1 ≤ (((rd_T43 l0_0 x4_1).f1).length : Int)) = false := decide_eq_false c16
                    have c16b1 : decide (1 ≤ ((rd_T43 l0_0 x4_1).f1).length) = false := decide_eq_false (by omega)
                    clear c16
                    have H' := Aside0.mk H
                    clear H
                    have hnb19 := NB127_125.out
                    have hnc19 := NB125_127.out
                    have hcz20_0 : w11.cell? ⟨gb127, 0, none⟩ = some (.slice none 0 0) := (blk_cell BK127.out 0).trans rfl
                    have hcz20_1 : w11.cell? ⟨gb127, 1, none⟩ = some (.slice none 0 0) := (blk_cell BK127.out 1).trans rfl
                    have hfz20_0 := blk_frozen BK127.out 0
                    have hfz20_1 := blk_frozen BK127.out 1
                    go_wp2
                    go_meet
                    case rel => exact ⟨_, (false), (by first | rfl | (simp; done) | (simp [*]; done)), H', ⟨by have := HK1.out; first | omega | exact Nat.le_refl _⟩, ⟨by (with_reducible repeat (first | refine blk_drewN ?_ _ | refine blk_drew ?_ | refine blk_alloc ?_ _)); refine blk_far ?_ NB125_127.out _; (with_reducible repeat (first | refine blk_drewN ?_ _ | refine blk_drew ?_ | refine blk_alloc ?_ _)); refine blk_far ?_ NB125_127.out _; (with_reducible repeat (first | refine blk_drewN ?_ _ | refine blk_drew ?_ | refine blk_alloc ?_ _)); exact BK125.out⟩, ⟨by (with_reducible repeat (first | refine blk_drewN ?_ _ | refine blk_drew ?_ | refine blk_alloc ?_ _)); refine blk_put (cs := #[.slice A126_0 ((rd_T43 l0_0 x4_1).f0).length c126_0, .slice none 0 0]) ?_ 1 _ rfl; (with_reducible repeat (first | refine blk_drewN ?_ _ | refine blk_drew ?_ | refine blk_alloc ?_ _)); refine blk_put (cs := #[.slice none 0 0, .slice none 0 0]) ?_ 0 _ rfl; (with_reducible repeat (first | refine blk_drewN ?_ _ | refine blk_drew ?_ | refine blk_alloc ?_ _)); exact BK127.out⟩, ⟨by repeat (first | (with_reducible first | exact HB.out | apply below_alloc | apply pw_below_drewN | apply below_drew1 | refine below_set ?_ GE125.out | refine below_set ?_ GE127.out) | exact HB.out)⟩⟩
                · rw [if_neg c15] at H
                  have c15b0 : decide ((((rd_T43 l0_0 x4_1).f0).length : Int) ≤ 4) = false := decide_eq_false c15
                  have c15b1 : decide (((rd_T43 l0_0 x4_1).f0).length ≤ 4) = false := decide_eq_false (by omega)
                  clear c15
                  have H' := Aside0.mk H
                  clear H
                  have hnb21 := NB127_125.out
                  have hnc21 := NB125_127.out
                  have hcz22_0 : w11.cell? ⟨gb127, 0, none⟩ = some (.slice none 0 0) := (blk_cell BK127.out 0).trans rfl
                  have hcz22_1 : w11.cell? ⟨gb127, 1, none⟩ = some (.slice none 0 0) := (blk_cell BK127.out 1).trans rfl
                  have hfz22_0 := blk_frozen BK127.out 0
                  have hfz22_1 := blk_frozen BK127.out 1
                  go_wp2
                  go_meet
                  case rel => exact ⟨_, (false), (by first | rfl | (simp; done) | (simp [*]; done)), H', ⟨by have := HK1.out; first | omega | exact Nat.le_refl _⟩, ⟨by (with_reducible repeat (first | refine blk_drewN ?_ _ | refine blk_drew ?_ | refine blk_alloc ?_ _)); refine blk_far ?_ NB125_127.out _; (with_reducible repeat (first | refine blk_drewN ?_ _ | refine blk_drew ?_ | refine blk_alloc ?_ _)); refine blk_far ?_ NB125_127.out _; (with_reducible repeat (first | refine blk_drewN ?_ _ | refine blk_drew ?_ | refine blk_alloc ?_ _)); exact BK125.out⟩, ⟨by (with_reducible repeat (first | refine blk_drewN ?_ _ | refine blk_drew ?_ | refine blk_alloc ?_ _)); refine blk_put (cs := #[.slice A126_0 ((rd_T43 l0_0 x4_1).f0).length c126_0, .slice none 0 0]) ?_ 1 _ rfl; (with_reducible repeat (first | refine blk_drewN ?_ _ | refine blk_drew ?_ | refine blk_alloc ?_ _)); refine blk_put (cs := #[.slice none 0 0, .slice none 0 0]) ?_ 0 _ rfl; (with_reducible repeat (first | refine blk_drewN ?_ _ | refine blk_drew ?_ | refine blk_alloc ?_ _)); exact BK127.out⟩, ⟨by repeat (first | (with_reducible first | exact HB.out | apply below_alloc | apply pw_below_drewN | apply below_drew1 | refine below_set ?_ GE125.out | refine below_set ?_ GE127.out) | exact HB.out)⟩⟩
              · rw [if_neg c14] at H
                have c14b0 : decide (1 ≤ (((rd_T43 l0_0 x4_1).f0).length : Int)) = false := decide_eq_false c14
                have c14b1 : decide (1 ≤ ((rd_T43 l0_0 x4_1).f0).length) = false := decide_eq_false (by omega)
                clear c14
                (first | rw [c14b0] | (simp only [i64_w, i32_w]; rw [c14b0]) | skip)
                have H' := Aside0.mk H
                clear H
                have hnb23 := NB127_125.out
                have hnc23 := NB125_127.out
                have hcz24_0 : w11.cell? ⟨gb127, 0, none⟩ = some (.slice none 0 0) := (blk_cell BK127.out 0).trans rfl
                have hcz24_1 : w11.cell? ⟨gb127, 1, none⟩ = some (.slice none 0 0) := (blk_cell BK127.out 1).trans rfl
                have hfz24_0 := blk_frozen BK127.out 0
                have hfz24_1 := blk_frozen BK127.out 1
                go_wp2
                go_meet
                case rel => exact ⟨_, (false), (by first | rfl | (simp; done) | (simp [*]; done)), H', ⟨by have := HK1.out; first | omega | exact Nat.le_refl _⟩, ⟨by (with_reducible repeat (first | refine blk_drewN ?_ _ | refine blk_drew ?_ | refine blk_alloc ?_ _)); refine blk_far ?_ NB125_127.out _; (with_reducible repeat (first | refine blk_drewN ?_ _ | refine blk_drew ?_ | refine blk_alloc ?_ _)); refine blk_far ?_ NB125_127.out _; (with_reducible repeat (first | refine blk_drewN ?_ _ | refine blk_drew ?_ | refine blk_alloc ?_ _)); exact BK125.out⟩, ⟨by (with_reducible repeat (first | refine blk_drewN ?_ _ | refine blk_drew ?_ | refine blk_alloc ?_ _)); refine blk_put (cs := #[.slice A126_0 ((rd_T43 l0_0 x4_1).f0).length c126_0, .slice none 0 0]) ?_ 1 _ rfl; (with_reducible repeat (first | refine blk_drewN ?_ _ | refine blk_drew ?_ | refine blk_alloc ?_ _)); refine blk_put (cs := #[.slice none 0 0, .slice none 0 0]) ?_ 0 _ rfl; (with_reducible repeat (first | refine blk_drewN ?_ _ | refine blk_drew ?_ | refine blk_alloc ?_ _)); exact BK127.out⟩, ⟨by repeat (first | (with_reducible first | exact HB.out | apply below_alloc | apply pw_below_drewN | apply below_drew1 | refine below_set ?_ GE125.out | refine below_set ?_ GE127.out) | exact HB.out)⟩⟩
            case rest =>
              clear HC9
              try clear c1
              try clear p1
              try clear q1
              try clear hx1
              try clear c2
              try clear c2b0
              try clear c2b1
              try clear p2
              try clear c7
              try clear c7b0
              try clear c8
              try clear c8b0
              try clear c12
              try clear p12
              try clear q12
              try clear hx12
              try clear c14
              try clear c14b0
              try clear c14b1
              try clear c15
              try clear c15b0
              try clear c15b1
              try clear c16
              try clear c16b0
              try clear c16b1
              try clear c17
              try clear c19
              try clear c21
              try clear c23
              try clear hcz10_0
              try clear hcz13_0
              try clear hcz13_1
              try clear hcz18_0
              try clear hcz18_1
              try clear hcz20_0
              try clear hcz20_1
              try clear hcz22_0
              try clear hcz22_1
              try clear hcz24_0
              try clear hcz24_1
              try clear hcz4_0
              try clear hcz6_0
              try clear hfz10_0
              try clear hfz13_0
              try clear hfz13_1
              try clear hfz18_0
              try clear hfz18_1
              try clear hfz20_0
              try clear hfz20_1
              try clear hfz22_0
              try clear hfz22_1
              try clear hfz24_0
              try clear hfz24_1
              try clear hfz4_0
              try clear hfz6_0
              try clear hx126_0
              try clear hx126_1
              try clear p126
              try clear p2
              try clear q126
              obtain ⟨kq, x6_8, rfl, HA, HJ8, BK125, BK127, HB⟩ := hcut
              cases kq with
              | zero => exact absurd HA.out (by simp [spec_FingOk.j1])
              | succ kj8 =>
                have H := HA.out
                clear HA
                simp only [spec_FingOk.j1] at H
                have HC25 := Aside0.mk H
                clear H
                go_upto_region 9 with (fail)
                go_cut [75] (fun v75 wc => ∃ (kq : Nat) (x75_24 : Bool), v75 = .bool x75_24 ∧ Aside0 (spec_FingOk.j2 kq x3_1 x4_1 x75_24 l0_0 ((rd_T43 l0_0 x4_1).f0) ((rd_T43 l0_0 x4_1).f1) = some r) ∧ Aside0 (kq ≤ kj8) ∧ Aside0 (wc.heap[gb125]? = some (.cells #[(.slice (some ad126) l0_0.length c0_0)] 29 (0, 0))) ∧ Aside0 (wc.heap[gb127]? = some (.cells #[(.slice A126_0 ((rd_T43 l0_0 x4_1).f0).length c126_0), (.slice A126_1 ((rd_T43 l0_0 x4_1).f1).length c126_1)] 43 (0, 0))) ∧ Aside0 (Below w.heap.size w wc))
                case first =>
                  have H := HC25.out
                  clear HC25
                  by_cases c26 : x6_8 = true
                  · subst c26
                    have H1 : ((spec_l03All.f kj8 ((rd_T43 l0_0 x4_1).f0) x4_1).bind fun t128 => (if t128 = true then ((spec_l03All.f kj8 ((rd_T43 l0_0 x4_1).f1) x4_1).bind fun t129 => (spec_FingOk.j2 kj8 x3_1 x4_1 (!t129) l0_0 ((rd_T43 l0_0 x4_1).f0) ((rd_T43 l0_0 x4_1).f1))) else (spec_FingOk.j2 kj8 x3_1 x4_1 true l0_0 ((rd_T43 l0_0 x4_1).f0) ((rd_T43 l0_0 x4_1).f1)))) = some r := by rw [if_pos rfl] at H; exact H
                    clear H
                    have H := H1
                    clear H1
                    replace H := Option.bind_eq_some_iff.mp H
                    obtain ⟨t128, A270, H⟩ := H
                    replace H : (if t128 = true then ((spec_l03All.f kj8 ((rd_T43 l0_0 x4_1).f1) x4_1).bind fun t129 => (spec_FingOk.j2 kj8 x3_1 x4_1 (!t129) l0_0 ((rd_T43 l0_0 x4_1).f0) ((rd_T43 l0_0 x4_1).f1))) else (spec_FingOk.j2 kj8 x3_1 x4_1 true l0_0 ((rd_T43 l0_0 x4_1).f0) ((rd_T43 l0_0 x4_1).f1))) = some r := H
                    have A27 := Aside0.mk A270
                    clear A270
                    by_cases c28 : t128 = true
                    · subst c28
                      have H1 : ((spec_l03All.f kj8 ((rd_T43 l0_0 x4_1).f1) x4_1).bind fun t129 => (spec_FingOk.j2 kj8 x3_1 x4_1 (!t129) l0_0 ((rd_T43 l0_0 x4_1).f0) ((rd_T43 l0_0 x4_1).f1))) = some r := by rw [if_pos rfl] at H; exact H
                      clear H
                      have H := H1
                      clear H1
                      replace H := Option.bind_eq_some_iff.mp H
                      obtain ⟨t129, A290, H⟩ := H
                      replace H : (spec_FingOk.j2 kj8 x3_1 x4_1 (!t129) l0_0 ((rd_T43 l0_0 x4_1).f0) ((rd_T43 l0_0 x4_1).f1)) = some r := H
                      have A29 := Aside0.mk A290
                      clear A290
                      have H' := Aside0.mk H
                      clear H
                      have hnb30 := NB127_125.out
                      have hnc30 := NB125_127.out
                      have hcz31_0 : wc.cell? ⟨gb127, 0, none⟩ = some (.slice A126_0 ((rd_T43 l0_0 x4_1).f0).length c126_0) := (blk_cell BK127.out 0).trans rfl
                      have hcz31_1 : wc.cell? ⟨gb127, 1, none⟩ = some (.slice A126_1 ((rd_T43 l0_0 x4_1).f1).length c126_1) := (blk_cell BK127.out 1).trans rfl
                      have hfz31_0 := blk_frozen BK127.out 0
                      have hfz31_1 := blk_frozen BK127.out 1
                      go_wp2_with (first | (go_at_call 39; (with_reducible refine (spec_l03All.calls kj8 _ _ ((rd_T43 l0_0 x4_1).f0) x4_1 true _ ?side1 ?side2 A27.out).mono ?_); (case side1 => repeat (first | exact (Kd.C_below HR126_0.out HB.out) | exact HR126_0.out | (with_reducible refine Kd.C_alloc ?_ _) | (with_reducible refine Kd.C_drewN ?_ _) | (with_reducible refine Kd.C_drew ?_))); (case side2 => exact HC126_0.out); rintro e w32 ⟨rfl, hb⟩; have n0_ := Aside0.mk (blk_below (g := gb125) (o := .cells #[.slice (some ad126) l0_0.length c0_0] 29 (0, 0)) (by (with_reducible repeat (first | refine blk_drewN ?_ _ | refine blk_drew ?_ | refine blk_alloc ?_ _)); exact BK125.out) hb); have n1_ := Aside0.mk (blk_below (g := gb127) (o := .cells #[.slice A126_0 ((rd_T43 l0_0 x4_1).f0).length c126_0, .slice A126_1 ((rd_T43 l0_0 x4_1).f1).length c126_1] 43 (0, 0)) (by (with_reducible repeat (first | refine blk_drewN ?_ _ | refine blk_drew ?_ | refine blk_alloc ?_ _)); exact BK127.out) hb); have n2_ := Aside0.mk (below_step (by repeat (first | (with_reducible first | exact HB.out | apply below_alloc | apply pw_below_drewN | apply below_drew1 | refine below_set ?_ GE125.out | refine below_set ?_ GE127.out) | exact HB.out)) hb); clear BK125; clear BK127; clear HB; have BK125 := n0_; have BK127 := n1_; have HB := n2_; clear n0_ n1_ n2_; (try clear hb); (try clear hb2); (try clear hk); (try clear hi); have hcz33_0 : w32.cell? ⟨gb127, 0, none⟩ = some (.slice A126_0 ((rd_T43 l0_0 x4_1).f0).length c126_0) := (blk_cell BK127.out 0).trans rfl; have hcz33_1 : w32.cell? ⟨gb127, 1, none⟩ = some (.slice A126_1 ((rd_T43 l0_0 x4_1).f1).length c126_1) := (blk_cell BK127.out 1).trans rfl; have hfz33_0 := blk_frozen BK127.out 0; have hfz33_1 := blk_frozen BK127.out 1) | (go_at_call 39; (with_reducible refine (spec_l03All.calls kj8 _ _ ((rd_T43 l0_0 x4_1).f1) x4_1 t129 _ ?side1 ?side2 A29.out).mono ?_); (case side1 => repeat (first | exact (Kd.C_below HR126_1.out HB.out) | exact HR126_1.out | (with_reducible refine Kd.C_alloc ?_ _) | (with_reducible refine Kd.C_drewN ?_ _) | (with_reducible refine Kd.C_drew ?_))); (case side2 => exact HC126_1.out); rintro e w34 ⟨rfl, hb⟩; have n0_ := Aside0.mk (blk_below (g := gb125) (o := .cells #[.slice (some ad126) l0_0.length c0_0] 29 (0, 0)) (by (with_reducible repeat (first | refine blk_drewN ?_ _ | refine blk_drew ?_ | refine blk_alloc ?_ _)); exact BK125.out) hb); have n1_ := Aside0.mk (blk_below (g := gb127) (o := .cells #[.slice A126_0 ((rd_T43 l0_0 x4_1).f0).length c126_0, .slice A126_1 ((rd_T43 l0_0 x4_1).f1).length c126_1] 43 (0, 0)) (by (with_reducible repeat (first | refine blk_drewN ?_ _ | refine blk_drew ?_ | refine blk_alloc ?_ _)); exact BK127.out) hb); have n2_ := Aside0.mk (below_step (by repeat (first | (with_reducible first | exact HB.out | apply below_alloc | apply pw_below_drewN | apply below_drew1 | refine below_set ?_ GE125.out | refine below_set ?_ GE127.out) | exact HB.out)) hb); clear BK125; clear BK127; clear HB; have BK125 := n0_; have BK127 := n1_; have HB := n2_; clear n0_ n1_ n2_; (try clear hb); (try clear hb2); (try clear hk); (try clear hi)))
                      go_meet
                      case rel => exact ⟨_, (!t129), (by first | rfl | (simp; done) | (simp [*]; done)), H', ⟨by have := HK1.out; have := HJ8.out; first | omega | exact Nat.le_refl _⟩, ⟨by (with_reducible repeat (first | refine blk_drewN ?_ _ | refine blk_drew ?_ | refine blk_alloc ?_ _)); exact BK125.out⟩, ⟨by (with_reducible repeat (first | refine blk_drewN ?_ _ | refine blk_drew ?_ | refine blk_alloc ?_ _)); exact BK127.out⟩, ⟨by repeat (first | (with_reducible first | exact HB.out | apply below_alloc | apply pw_below_drewN | apply below_drew1 | refine below_set ?_ GE125.out | refine below_set ?_ GE127.out) | exact HB.out)⟩⟩
                    · replace c28 := Bool.eq_false_iff.mpr c28
                      subst c28
                      have H1 : (spec_FingOk.j2 kj8 x3_1 x4_1 true l0_0 ((rd_T43 l0_0 x4_1).f0) ((rd_T43 l0_0 x4_1).f1)) = some r := by rw [if_neg (show ¬ (false = true) by decide)] at H; exact H
                      clear H
                      have H := H1
                      clear H1
                      have H' := Aside0.mk H
                      clear H
                      have hnb35 := NB127_125.out
                      have hnc35 := NB125_127.out
                      have hcz36_0 : wc.cell? ⟨gb127, 0, none⟩ = some (.slice A126_0 ((rd_T43 l0_0 x4_1).f0).length c126_0) := (blk_cell BK127.out 0).trans rfl
                      have hcz36_1 : wc.cell? ⟨gb127, 1, none⟩ = some (.slice A126_1 ((rd_T43 l0_0 x4_1).f1).length c126_1) := (blk_cell BK127.out 1).trans rfl
                      have hfz36_0 := blk_frozen BK127.out 0
                      have hfz36_1 := blk_frozen BK127.out 1
                      go_wp2_with (first | (go_at_call 39; (with_reducible refine (spec_l03All.calls kj8 _ _ ((rd_T43 l0_0 x4_1).f0) x4_1 false _ ?side1 ?side2 A27.out).mono ?_); (case side1 => repeat (first | exact (Kd.C_below HR126_0.out HB.out) | exact HR126_0.out | (with_reducible refine Kd.C_alloc ?_ _) | (with_reducible refine Kd.C_drewN ?_ _) | (with_reducible refine Kd.C_drew ?_))); (case side2 => exact HC126_0.out); rintro e w37 ⟨rfl, hb⟩; have n0_ := Aside0.mk (blk_below (g := gb125) (o := .cells #[.slice (some ad126) l0_0.length c0_0] 29 (0, 0)) (by (with_reducible repeat (first | refine blk_drewN ?_ _ | refine blk_drew ?_ | refine blk_alloc ?_ _)); exact BK125.out) hb); have n1_ := Aside0.mk (blk_below (g := gb127) (o := .cells #[.slice A126_0 ((rd_T43 l0_0 x4_1).f0).length c126_0, .slice A126_1 ((rd_T43 l0_0 x4_1).f1).length c126_1] 43 (0, 0)) (by (with_reducible repeat (first | refine blk_drewN ?_ _ | refine blk_drew ?_ | refine blk_alloc ?_ _)); exact BK127.out) hb); have n2_ := Aside0.mk (below_step (by repeat (first | (with_reducible first | exact HB.out | apply below_alloc | apply pw_below_drewN | apply below_drew1 | refine below_set ?_ GE125.out | refine below_set ?_ GE127.out) | exact HB.out)) hb); clear BK125; clear BK127; clear HB; have BK125 := n0_; have BK127 := n1_; have HB := n2_; clear n0_ n1_ n2_; (try clear hb); (try clear hb2); (try clear hk); (try clear hi)))
                      go_meet
                      case rel => exact ⟨_, (true), (by first | rfl | (simp; done) | (simp [*]; done)), H', ⟨by have := HK1.out; have := HJ8.out; first | omega | exact Nat.le_refl _⟩, ⟨by (with_reducible repeat (first | refine blk_drewN ?_ _ | refine blk_drew ?_ | refine blk_alloc ?_ _)); exact BK125.out⟩, ⟨by (with_reducible repeat (first | refine blk_drewN ?_ _ | refine blk_drew ?_ | refine blk_alloc ?_ _)); exact BK127.out⟩, ⟨by repeat (first | (with_reducible first | exact HB.out | apply below_alloc | apply pw_below_drewN | apply below_drew1 | refine below_set ?_ GE125.out | refine below_set ?_ GE127.out) | exact HB.out)⟩⟩
                  · replace c26 := Bool.eq_false_iff.mpr c26
                    subst c26
                    have H1 : ((spec_l03Single.f ((rd_T43 l0_0 x4_1).f0) ((rd_T43 l0_0 x4_1).f1)).bind fun t130 => (if t130 = true then (if (x4_1 = (wrap64 ((l0_0.length : Int) - 1))) then ((spec_l03All.f kj8 ((rd_T43 l0_0 x4_1).f0) x4_1).bind fun t131 => (if t131 = true then ((spec_l03All.f kj8 ((rd_T43 l0_0 x4_1).f1) x4_1).bind fun t132 => (spec_FingOk.j2 kj8 x3_1 x4_1 (!t132) l0_0 ((rd_T43 l0_0 x4_1).f0) ((rd_T43 l0_0 x4_1).f1))) else (spec_FingOk.j2 kj8 x3_1 x4_1 true l0_0 ((rd_T43 l0_0 x4_1).f0) ((rd_T43 l0_0 x4_1).f1)))) else (spec_FingOk.j2 kj8 x3_1 x4_1 true l0_0 ((rd_T43 l0_0 x4_1).f0) ((rd_T43 l0_0 x4_1).f1))) else (spec_FingOk.j2 kj8 x3_1 x4_1 true l0_0 ((rd_T43 l0_0 x4_1).f0) ((rd_T43 l0_0 x4_1).f1)))) = some r := by rw [if_neg (show ¬ (false = true) by decide)] at H; exact H
                    clear H
                    have H := H1
                    clear H1
                    replace H := Option.bind_eq_some_iff.mp H
                    obtain ⟨t130, A380, H⟩ := H
                    replace H : (if t130 = true then (if (x4_1 = (wrap64 ((l0_0.length : Int) - 1))) then ((spec_l03All.f kj8 ((rd_T43 l0_0 x4_1).f0) x4_1).bind fun t131 => (if t131 = true then ((spec_l03All.f kj8 ((rd_T43 l0_0 x4_1).f1) x4_1).bind fun t132 => (spec_FingOk.j2 kj8 x3_1 x4_1 (!t132) l0_0 ((rd_T43 l0_0 x4_1).f0) ((rd_T43 l0_0 x4_1).f1))) else (spec_FingOk.j2 kj8 x3_1 x4_1 true l0_0 ((rd_T43 l0_0 x4_1).f0) ((rd_T43 l0_0 x4_1).f1)))) else (spec_FingOk.j2 kj8 x3_1 x4_1 true l0_0 ((rd_T43 l0_0 x4_1).f0) ((rd_T43 l0_0 x4_1).f1))) else (spec_FingOk.j2 kj8 x3_1 x4_1 true l0_0 ((rd_T43 l0_0 x4_1).f0) ((rd_T43 l0_0 x4_1).f1))) = some r := H
                    have A38 := Aside0.mk A380
                    clear A380
                    by_cases c39 : t130 = true
                    · subst c39
                      have H1 : (if (x4_1 = (wrap64 ((l0_0.length : Int) - 1))) then ((spec_l03All.f kj8 ((rd_T43 l0_0 x4_1).f0) x4_1).bind fun t131 => (if t131 = true then ((spec_l03All.f kj8 ((rd_T43 l0_0 x4_1).f1) x4_1).bind fun t132 => (spec_FingOk.j2 kj8 x3_1 x4_1 (!t132) l0_0 ((rd_T43 l0_0 x4_1).f0) ((rd_T43 l0_0 x4_1).f1))) else (spec_FingOk.j2 kj8 x3_1 x4_1 true l0_0 ((rd_T43 l0_0 x4_1).f0) ((rd_T43 l0_0 x4_1).f1)))) else (spec_FingOk.j2 kj8 x3_1 x4_1 true l0_0 ((rd_T43 l0_0 x4_1).f0) ((rd_T43 l0_0 x4_1).f1))) = some r := by rw [if_pos rfl] at H; exact H
                      clear H
                      have H := H1
                      clear H1
                      by_cases c40 : (x4_1 = (wrap64 ((l0_0.length : Int) - 1)))
                      · rw [if_pos c40] at H
                        have c40b0 : (x4_1 == (wrap64 ((l0_0.length : Int) - 1))) = true := beq_iff_eq.mpr c40
                        have c40b1 : (x4_1 != (wrap64 ((l0_0.length : Int) - 1))) = false := bne_eq_false_iff_eq.mpr c40
                        clear c40
                        (first | rw [c40b0] | (simp only [i64_w, i32_w]; rw [c40b0]) | skip)
                        replace H := Option.bind_eq_some_iff.mp H
                        obtain ⟨t131, A410, H⟩ := H
                        replace H : (if t131 = true then ((spec_l03All.f kj8 ((rd_T43 l0_0 x4_1).f1) x4_1).bind fun t132 => (spec_FingOk.j2 kj8 x3_1 x4_1 (!t132) l0_0 ((rd_T43 l0_0 x4_1).f0) ((rd_T43 l0_0 x4_1).f1))) else (spec_FingOk.j2 kj8 x3_1 x4_1 true l0_0 ((rd_T43 l0_0 x4_1).f0) ((rd_T43 l0_0 x4_1).f1))) = some r := H
                        have A41 := Aside0.mk A410
                        clear A410
                        by_cases c42 : t131 = true
                        · subst c42
                          have H1 : ((spec_l03All.f kj8 ((rd_T43 l0_0 x4_1).f1) x4_1).bind fun t132 => (spec_FingOk.j2 kj8 x3_1 x4_1 (!t132) l0_0 ((rd_T43 l0_0 x4_1).f0) ((rd_T43 l0_0 x4_1).f1))) = some r := by rw [if_pos rfl] at H; exact H
                          clear H
                          have H := H1
                          clear H1
                          replace H := Option.bind_eq_some_iff.mp H
                          obtain ⟨t132, A430, H⟩ := H
                          replace H : (spec_FingOk.j2 kj8 x3_1 x4_1 (!t132) l0_0 ((rd_T43 l0_0 x4_1).f0) ((rd_T43 l0_0 x4_1).f1)) = some r := H
                          have A43 := Aside0.mk A430
                          clear A430
                          have H' := Aside0.mk H
                          clear H
                          have hnb44 := NB127_125.out
                          have hnc44 := NB125_127.out
                          have hcz45_0 : wc.cell? ⟨gb127, 0, none⟩ = some (.slice A126_0 ((rd_T43 l0_0 x4_1).f0).length c126_0) := (blk_cell BK127.out 0).trans rfl
                          have hcz45_1 : wc.cell? ⟨gb127, 1, none⟩ = some (.slice A126_1 ((rd_T43 l0_0 x4_1).f1).length c126_1) := (blk_cell BK127.out 1).trans rfl
                          have hfz45_0 := blk_frozen BK127.out 0
                          have hfz45_1 := blk_frozen BK127.out 1
                          go_wp2_with (first | (go_at_call 38; (with_reducible refine (spec_l03Single.calls _ _ ((rd_T43 l0_0 x4_1).f0) _ _ ((rd_T43 l0_0 x4_1).f1) true _ ?side1 ?side2 ?side3 ?side4 A38.out).mono ?_); (case side1 => repeat (first | exact (Kd.C_below HR126_0.out HB.out) | exact HR126_0.out | (with_reducible refine Kd.C_alloc ?_ _) | (with_reducible refine Kd.C_drewN ?_ _) | (with_reducible refine Kd.C_drew ?_))); (case side2 => exact HC126_0.out); (case side3 => repeat (first | exact (Kd.C_below HR126_1.out HB.out) | exact HR126_1.out | (with_reducible refine Kd.C_alloc ?_ _) | (with_reducible refine Kd.C_drewN ?_ _) | (with_reducible refine Kd.C_drew ?_))); (case side4 => exact HC126_1.out); rintro e w46 ⟨rfl, hb⟩; have n0_ := Aside0.mk (blk_below (g := gb125) (o := .cells #[.slice (some ad126) l0_0.length c0_0] 29 (0, 0)) (by (with_reducible repeat (first | refine blk_drewN ?_ _ | refine blk_drew ?_ | refine blk_alloc ?_ _)); exact BK125.out) hb); have n1_ := Aside0.mk (blk_below (g := gb127) (o := .cells #[.slice A126_0 ((rd_T43 l0_0 x4_1).f0).length c126_0, .slice A126_1 ((rd_T43 l0_0 x4_1).f1).length c126_1] 43 (0, 0)) (by (with_reducible repeat (first | refine blk_drewN ?_ _ | refine blk_drew ?_ | refine blk_alloc ?_ _)); exact BK127.out) hb); have n2_ := Aside0.mk (below_step (by repeat (first | (with_reducible first | exact HB.out | apply below_alloc | apply pw_below_drewN | apply below_drew1 | refine below_set ?_ GE125.out | refine below_set ?_ GE127.out) | exact HB.out)) hb); clear BK125; clear BK127; clear HB; have BK125 := n0_; have BK127 := n1_; have HB := n2_; clear n0_ n1_ n2_; (try clear hb); (try clear hb2); (try clear hk); (try clear hi); have hcz47_0 : w46.cell? ⟨gb125, 0, none⟩ = some (.slice (some ad126) l0_0.length c0_0) := (blk_cell BK125.out 0).trans rfl; have hfz47_0 := blk_frozen BK125.out 0; have hcz48_0 : w46.cell? ⟨gb127, 0, none⟩ = some (.slice A126_0 ((rd_T43 l0_0 x4_1).f0).length c126_0) := (blk_cell BK127.out 0).trans rfl; have hcz48_1 : w46.cell? ⟨gb127, 1, none⟩ = some (.slice A126_1 ((rd_T43 l0_0 x4_1).f1).length c126_1) := (blk_cell BK127.out 1).trans rfl; have hfz48_0 := blk_frozen BK127.out 0; have hfz48_1 := blk_frozen BK127.out 1) | (go_at_call 39; (with_reducible refine (spec_l03All.calls kj8 _ _ ((rd_T43 l0_0 x4_1).f0) x4_1 true _ ?side1 ?side2 A41.out).mono ?_); (case side1 => repeat (first | exact (Kd.C_below HR126_0.out HB.out) | exact HR126_0.out | (with_reducible refine Kd.C_alloc ?_ _) | (with_reducible refine Kd.C_drewN ?_ _) | (with_reducible refine Kd.C_drew ?_))); (case side2 => exact HC126_0.out); rintro e w49 ⟨rfl, hb⟩; have n0_ := Aside0.mk (blk_below (g := gb125) (o := .cells #[.slice (some ad126) l0_0.length c0_0] 29 (0, 0)) (by (with_reducible repeat (first | refine blk_drewN ?_ _ | refine blk_drew ?_ | refine blk_alloc ?_ _)); exact BK125.out) hb); have n1_ := Aside0.mk (blk_below (g := gb127) (o := .cells #[.slice A126_0 ((rd_T43 l0_0 x4_1).f0).length c126_0, .slice A126_1 ((rd_T43 l0_0 x4_1).f1).length c126_1] 43 (0, 0)) (by (with_reducible repeat (first | refine blk_drewN ?_ _ | refine blk_drew ?_ | refine blk_alloc ?_ _)); exact BK127.out) hb); have n2_ := Aside0.mk (below_step (by repeat (first | (with_reducible first | exact HB.out | apply below_alloc | apply pw_below_drewN | apply below_drew1 | refine below_set ?_ GE125.out | refine below_set ?_ GE127.out) | exact HB.out)) hb); clear BK125; clear BK127; clear HB; have BK125 := n0_; have BK127 := n1_; have HB := n2_; clear n0_ n1_ n2_; (try clear hb); (try clear hb2); (try clear hk); (try clear hi); have hcz50_0 : w49.cell? ⟨gb127, 0, none⟩ = some (.slice A126_0 ((rd_T43 l0_0 x4_1).f0).length c126_0) := (blk_cell BK127.out 0).trans rfl; have hcz50_1 : w49.cell? ⟨gb127, 1, none⟩ = some (.slice A126_1 ((rd_T43 l0_0 x4_1).f1).length c126_1) := (blk_cell BK127.out 1).trans rfl; have hfz50_0 := blk_frozen BK127.out 0; have hfz50_1 := blk_frozen BK127.out 1) | (go_at_call 39; (with_reducible refine (spec_l03All.calls kj8 _ _ ((rd_T43 l0_0 x4_1).f1) x4_1 t132 _ ?side1 ?side2 A43.out).mono ?_); (case side1 => repeat (first | exact (Kd.C_below HR126_1.out HB.out) | exact HR126_1.out | (with_reducible refine Kd.C_alloc ?_ _) | (with_reducible refine Kd.C_drewN ?_ _) | (with_reducible refine Kd.C_drew ?_))); (case side2 => exact HC126_1.out); rintro e w51 ⟨rfl, hb⟩; have n0_ := Aside0.mk (blk_below (g := gb125) (o := .cells #[.slice (some ad126) l0_0.length c0_0] 29 (0, 0)) (by (with_reducible repeat (first | refine blk_drewN ?_ _ | refine blk_drew ?_ | refine blk_alloc ?_ _)); exact BK125.out) hb); have n1_ := Aside0.mk (blk_below (g := gb127) (o := .cells #[.slice A126_0 ((rd_T43 l0_0 x4_1).f0).length c126_0, .slice A126_1 ((rd_T43 l0_0 x4_1).f1).length c126_1] 43 (0, 0)) (by (with_reducible repeat (first | refine blk_drewN ?_ _ | refine blk_drew ?_ | refine blk_alloc ?_ _)); exact BK127.out) hb); have n2_ := Aside0.mk (below_step (by repeat (first | (with_reducible first | exact HB.out | apply below_alloc | apply pw_below_drewN | apply below_drew1 | refine below_set ?_ GE125.out | refine below_set ?_ GE127.out) | exact HB.out)) hb); clear BK125; clear BK127; clear HB; have BK125 := n0_; have BK127 := n1_; have HB := n2_; clear n0_ n1_ n2_; (try clear hb); (try clear hb2); (try clear hk); (try clear hi)))
                          go_meet
                          case rel => exact ⟨_, (!t132), (by first | rfl | (simp; done) | (simp [*]; done)), H', ⟨by have := HK1.out; have := HJ8.out; first | omega | exact Nat.le_refl _⟩, ⟨by (with_reducible repeat (first | refine blk_drewN ?_ _ | refine blk_drew ?_ | refine blk_alloc ?_ _)); exact BK125.out⟩, ⟨by (with_reducible repeat (first | refine blk_drewN ?_ _ | refine blk_drew ?_ | refine blk_alloc ?_ _)); exact BK127.out⟩, ⟨by repeat (first | (with_reducible first | exact HB.out | apply below_alloc | apply pw_below_drewN | apply below_drew1 | refine below_set ?_ GE125.out | refine below_set ?_ GE127.out) | exact HB.out)⟩⟩
                        · replace c42 := Bool.eq_false_iff.mpr c42
                          subst c42
                          have H1 : (spec_FingOk.j2 kj8 x3_1 x4_1 true l0_0 ((rd_T43 l0_0 x4_1).f0) ((rd_T43 l0_0 x4_1).f1)) = some r := by rw [if_neg (show ¬ (false = true) by decide)] at H; exact H
                          clear H
                          have H := H1
                          clear H1
                          have H' := Aside0.mk H
                          clear H
                          have hnb52 := NB127_125.out
                          have hnc52 := NB125_127.out
                          have hcz53_0 : wc.cell? ⟨gb127, 0, none⟩ = some (.slice A126_0 ((rd_T43 l0_0 x4_1).f0).length c126_0) := (blk_cell BK127.out 0).trans rfl
                          have hcz53_1 : wc.cell? ⟨gb127, 1, none⟩ = some (.slice A126_1 ((rd_T43 l0_0 x4_1).f1).length c126_1) := (blk_cell BK127.out 1).trans rfl
                          have hfz53_0 := blk_frozen BK127.out 0
                          have hfz53_1 := blk_frozen BK127.out 1
                          go_wp2_with (first | (go_at_call 38; (with_reducible refine (spec_l03Single.calls _ _ ((rd_T43 l0_0 x4_1).f0) _ _ ((rd_T43 l0_0 x4_1).f1) true _ ?side1 ?side2 ?side3 ?side4 A38.out).mono ?_); (case side1 => repeat (first | exact (Kd.C_below HR126_0.out HB.out) | exact HR126_0.out | (with_reducible refine Kd.C_alloc ?_ _) | (with_reducible refine Kd.C_drewN ?_ _) | (with_reducible refine Kd.C_drew ?_))); (case side2 => exact HC126_0.out); (case side3 => repeat (first | exact (Kd.C_below HR126_1.out HB.out) | exact HR126_1.out | (with_reducible refine Kd.C_alloc ?_ _) | (with_reducible refine Kd.C_drewN ?_ _) | (with_reducible refine Kd.C_drew ?_))); (case side4 => exact HC126_1.out); rintro e w54 ⟨rfl, hb⟩; have n0_ := Aside0.mk (blk_below (g := gb125) (o := .cells #[.slice (some ad126) l0_0.length c0_0] 29 (0, 0)) (by (with_reducible repeat (first | refine blk_drewN ?_ _ | refine blk_drew ?_ | refine blk_alloc ?_ _)); exact BK125.out) hb); have n1_ := Aside0.mk (blk_below (g := gb127) (o := .cells #[.slice A126_0 ((rd_T43 l0_0 x4_1).f0).length c126_0, .slice A126_1 ((rd_T43 l0_0 x4_1).f1).length c126_1] 43 (0, 0)) (by (with_reducible repeat (first | refine blk_drewN ?_ _ | refine blk_drew ?_ | refine blk_alloc ?_ _)); exact BK127.out) hb); have n2_ := Aside0.mk (below_step (by repeat (first | (with_reducible first | exact HB.out | apply below_alloc | apply pw_below_drewN | apply below_drew1 | refine below_set ?_ GE125.out | refine below_set ?_ GE127.out) | exact HB.out)) hb); clear BK125; clear BK127; clear HB; have BK125 := n0_; have BK127 := n1_; have HB := n2_; clear n0_ n1_ n2_; (try clear hb); (try clear hb2); (try clear hk); (try clear hi); have hcz55_0 : w54.cell? ⟨gb125, 0, none⟩ = some (.slice (some ad126) l0_0.length c0_0) := (blk_cell BK125.out 0).trans rfl; have hfz55_0 := blk_frozen BK125.out 0; have hcz56_0 : w54.cell? ⟨gb127, 0, none⟩ = some (.slice A126_0 ((rd_T43 l0_0 x4_1).f0).length c126_0) := (blk_cell BK127.out 0).trans rfl; have hcz56_1 : w54.cell? ⟨gb127, 1, none⟩ = some (.slice A126_1 ((rd_T43 l0_0 x4_1).f1).length c126_1) := (blk_cell BK127.out 1).trans rfl; have hfz56_0 := blk_frozen BK127.out 0; have hfz56_1 := blk_frozen BK127.out 1) | (go_at_call 39; (with_reducible refine (spec_l03All.calls kj8 _ _ ((rd_T43 l0_0 x4_1).f0) x4_1 false _ ?side1 ?side2 A41.out).mono ?_); (case side1 => repeat (first | exact (Kd.C_below HR126_0.out HB.out) | exact HR126_0.out | (with_reducible refine Kd.C_alloc ?_ _) | (with_reducible refine Kd.C_drewN ?_ _) | (with_reducible refine Kd.C_drew ?_))); (case side2 => exact HC126_0.out); rintro e w57 ⟨rfl, hb⟩; have n0_ := Aside0.mk (blk_below (g := gb125) (o := .cells #[.slice (some ad126) l0_0.length c0_0] 29 (0, 0)) (by (with_reducible repeat (first | refine blk_drewN ?_ _ | refine blk_drew ?_ | refine blk_alloc ?_ _)); exact BK125.out) hb); have n1_ := Aside0.mk (blk_below (g := gb127) (o := .cells #[.slice A126_0 ((rd_T43 l0_0 x4_1).f0).length c126_0, .slice A126_1 ((rd_T43 l0_0 x4_1).f1).length c126_1] 43 (0, 0)) (by (with_reducible repeat (first | refine blk_drewN ?_ _ | refine blk_drew ?_ | refine blk_alloc ?_ _)); exact BK127.out) hb); have n2_ := Aside0.mk (below_step (by repeat (first | (with_reducible first | exact HB.out | apply below_alloc | apply pw_below_drewN | apply below_drew1 | refine below_set ?_ GE125.out | refine below_set ?_ GE127.out) | exact HB.out)) hb); clear BK125; clear BK127; clear HB; have BK125 := n0_; have BK127 := n1_; have HB := n2_; clear n0_ n1_ n2_; (try clear hb); (try clear hb2); (try clear hk); (try clear hi)))
                          go_meet
                          case rel => exact ⟨_, (true), (by first | rfl | (simp; done) | (simp [*]; done)), H', ⟨by have := HK1.out; have := HJ8.out; first | omega | exact Nat.le_refl _⟩, ⟨by (with_reducible repeat (first | refine blk_drewN ?_ _ | refine blk_drew ?_ | refine blk_alloc ?_ _)); exact BK125.out⟩, ⟨by (with_reducible repeat (first | refine blk_drewN ?_ _ | refine blk_drew ?_ | refine blk_alloc ?_ _)); exact BK127.out⟩, ⟨by repeat (first | (with_reducible first | exact HB.out | apply below_alloc | apply pw_below_drewN | apply below_drew1 | refine below_set ?_ GE125.out | refine below_set ?_ GE127.out) | exact HB.out)⟩⟩
                      · rw [if_neg c40] at H
                        have c40b0 : (x4_1 == (wrap64 ((l0_0.length : Int) - 1))) = false := beq_eq_false_iff_ne.mpr c40
                        have c40b1 : (x4_1 != (wrap64 ((l0_0.length : Int) - 1))) = true := bne_iff_ne.mpr c40
                        (first | rw [c40b0] | (simp only [i64_w, i32_w]; rw [c40b0]) | skip)
                        have H' := Aside0.mk H
                        clear H
                        have hnb58 := NB127_125.out
                        have hnc58 := NB125_127.out
                        have hcz59_0 : wc.cell? ⟨gb127, 0, none⟩ = some (.slice A126_0 ((rd_T43 l0_0 x4_1).f0).length c126_0) := (blk_cell BK127.out 0).trans rfl
                        have hcz59_1 : wc.cell? ⟨gb127, 1, none⟩ = some (.slice A126_1 ((rd_T43 l0_0 x4_1).f1).length c126_1) := (blk_cell BK127.out 1).trans rfl
                        have hfz59_0 := blk_frozen BK127.out 0
                        have hfz59_1 := blk_frozen BK127.out 1
                        go_wp2_with (first | (go_at_call 38; (with_reducible refine (spec_l03Single.calls _ _ ((rd_T43 l0_0 x4_1).f0) _ _ ((rd_T43 l0_0 x4_1).f1) true _ ?side1 ?side2 ?side3 ?side4 A38.out).mono ?_); (case side1 => repeat (first | exact (Kd.C_below HR126_0.out HB.out) | exact HR126_0.out | (with_reducible refine Kd.C_alloc ?_ _) | (with_reducible refine Kd.C_drewN ?_ _) | (with_reducible refine Kd.C_drew ?_))); (case side2 => exact HC126_0.out); (case side3 => repeat (first | exact (Kd.C_below HR126_1.out HB.out) | exact HR126_1.out | (with_reducible refine Kd.C_alloc ?_ _) | (with_reducible refine Kd.C_drewN ?_ _) | (with_reducible refine Kd.C_drew ?_))); (case side4 => exact HC126_1.out); rintro e w60 ⟨rfl, hb⟩; have n0_ := Aside0.mk (blk_below (g := gb125) (o := .cells #[.slice (some ad126) l0_0.length c0_0] 29 (0, 0)) (by (with_reducible repeat (first | refine blk_drewN ?_ _ | refine blk_drew ?_ | refine blk_alloc ?_ _)); exact BK125.out) hb); have n1_ := Aside0.mk (blk_below (g := gb127) (o := .cells #[.slice A126_0 ((rd_T43 l0_0 x4_1).f0).length c126_0, .slice A126_1 ((rd_T43 l0_0 x4_1).f1).length c126_1] 43 (0, 0)) (by (with_reducible repeat (first | refine blk_drewN ?_ _ | refine blk_drew ?_ | refine blk_alloc ?_ _)); exact BK127.out) hb); have n2_ := Aside0.mk (below_step (by repeat (first | (with_reducible first | exact HB.out | apply below_alloc | apply pw_below_drewN | apply below_drew1 | refine below_set ?_ GE125.out | refine below_set ?_ GE127.out) | exact HB.out)) hb); clear BK125; clear BK127; clear HB; have BK125 := n0_; have BK127 := n1_; have HB := n2_; clear n0_ n1_ n2_; (try clear hb); (try clear hb2); (try clear hk); (try clear hi); have hcz61_0 : w60.cell? ⟨gb125, 0, none⟩ = some (.slice (some ad126) l0_0.length c0_0) := (blk_cell BK125.out 0).trans rfl; have hfz61_0 := blk_frozen BK125.out 0))
                        go_meet
                        case rel => exact ⟨_, (true), (by first | rfl | (simp; done) | (simp [*]; done)), H', ⟨by have := HK1.out; have := HJ8.out; first | omega | exact Nat.le_refl _⟩, ⟨by (with_reducible repeat (first | refine blk_drewN ?_ _ | refine blk_drew ?_ | refine blk_alloc ?_ _)); exact BK125.out⟩, ⟨by (with_reducible repeat (first | refine blk_drewN ?_ _ | refine blk_drew ?_ | refine blk_alloc ?_ _)); exact BK127.out⟩, ⟨by repeat (first | (with_reducible first | exact HB.out | apply below_alloc | apply pw_below_drewN | apply below_drew1 | refine below_set ?_ GE125.out | refine below_set ?_ GE127.out) | exact HB.out)⟩⟩
                    · replace c39 := Bool.eq_false_iff.mpr c39
                      subst c39
                      have H1 : (spec_FingOk.j2 kj8 x3_1 x4_1 true l0_0 ((rd_T43 l0_0 x4_1).f0) ((rd_T43 l0_0 x4_1).f1)) = some r := by rw [if_neg (show ¬ (false = true) by decide)] at H; exact H
                      clear H
                      have H := H1
                      clear H1
                      have H' := Aside0.mk H
                      clear H
                      have hnb62 := NB127_125.out
                      have hnc62 := NB125_127.out
                      have hcz63_0 : wc.cell? ⟨gb127, 0, none⟩ = some (.slice A126_0 ((rd_T43 l0_0 x4_1).f0).length c126_0) := (blk_cell BK127.out 0).trans rfl
                      have hcz63_1 : wc.cell? ⟨gb127, 1, none⟩ = some (.slice A126_1 ((rd_T43 l0_0 x4_1).f1).length c126_1) := (blk_cell BK127.out 1).trans rfl
                      have hfz63_0 := blk_frozen BK127.out 0
                      have hfz63_1 := blk_frozen BK127.out 1
                      go_wp2_with (first | (go_at_call 38; (with_reducible refine (spec_l03Single.calls _ _ ((rd_T43 l0_0 x4_1).f0) _ _ ((rd_T43 l0_0 x4_1).f1) false _ ?side1 ?side2 ?side3 ?side4 A38.out).mono ?_); (case side1 => repeat (first | exact (Kd.C_below HR126_0.out HB.out) | exact HR126_0.out | (with_reducible refine Kd.C_alloc ?_ _) | (with_reducible refine Kd.C_drewN ?_ _) | (with_reducible refine Kd.C_drew ?_))); (case side2 => exact HC126_0.out); (case side3 => repeat (first | exact (Kd.C_below HR126_1.out HB.out) | exact HR126_1.out | (with_reducible refine Kd.C_alloc ?_ _) | (with_reducible refine Kd.C_drewN ?_ _) | (with_reducible refine Kd.C_drew ?_))); (case side4 => exact HC126_1.out); rintro e w64 ⟨rfl, hb⟩; have n0_ := Aside0.mk (blk_below (g := gb125) (o := .cells #[.slice (some ad126) l0_0.length c0_0] 29 (0, 0)) (by (with_reducible repeat (first | refine blk_drewN ?_ _ | refine blk_drew ?_ | refine blk_alloc ?_ _)); exact BK125.out) hb); have n1_ := Aside0.mk (blk_below (g := gb127) (o := .cells #[.slice A126_0 ((rd_T43 l0_0 x4_1).f0).length c126_0, .slice A126_1 ((rd_T43 l0_0 x4_1).f1).length c126_1] 43 (0, 0)) (by (with_reducible repeat (first | refine blk_drewN ?_ _ | refine blk_drew ?_ | refine blk_alloc ?_ _)); exact BK127.out) hb); have n2_ := Aside0.mk (below_step (by repeat (first | (with_reducible first | exact HB.out | apply below_alloc | apply pw_below_drewN | apply below_drew1 | refine below_set ?_ GE125.out | refine below_set ?_ GE127.out) | exact HB.out)) hb); clear BK125; clear BK127; clear HB; have BK125 := n0_; have BK127 := n1_; have HB := n2_; clear n0_ n1_ n2_; (try clear hb); (try clear hb2); (try clear hk); (try clear hi)))
                      go_meet
                      case rel => exact ⟨_, (true), (by first | rfl | (simp; done) | (simp [*]; done)), H', ⟨by have := HK1.out; have := HJ8.out; first | omega | exact Nat.le_refl _⟩, ⟨by (with_reducible repeat (first | refine blk_drewN ?_ _ | refine blk_drew ?_ | refine blk_alloc ?_ _)); exact BK125.out⟩, ⟨by (with_reducible repeat (first | refine blk_drewN ?_ _ | refine blk_drew ?_ | refine blk_alloc ?_ _)); exact BK127.out⟩, ⟨by repeat (first | (with_reducible first | exact HB.out | apply below_alloc | apply pw_below_drewN | apply below_drew1 | refine below_set ?_ GE125.out | refine below_set ?_ GE127.out) | exact HB.out)⟩⟩
                case rest =>
                  clear HC25
                  try clear c1
                  try clear p1
                  try clear q1
                  try clear hx1
                  try clear c2
                  try clear c2b0
                  try clear c2b1
                  try clear p2
                  try clear c3
                  try clear c4
                  try clear c5
                  try clear c6
                  try clear p6
                  try clear c7
                  try clear c7b0
                  try clear c8
                  try clear c8b0
                  try clear c12
                  try clear p12
                  try clear q12
                  try clear hx12
                  try clear c14
                  try clear c14b0
                  try clear c14b1
                  try clear c15
                  try clear c15b0
                  try clear c15b1
                  try clear c16
                  try clear c16b0
                  try clear c16b1
                  try clear c17
                  try clear c19
                  try clear c21
                  try clear c23
                  try clear c26
                  try clear c28
                  try clear c30
                  try clear c35
                  try clear c39
                  try clear c40
                  try clear c40b0
                  try clear c40b1
                  try clear c42
                  try clear c44
                  try clear c52
                  try clear c58
                  try clear c62
                  try clear p64
                  try clear hcz10_0
                  try clear hcz13_0
                  try clear hcz13_1
                  try clear hcz18_0
                  try clear hcz18_1
                  try clear hcz20_0
                  try clear hcz20_1
                  try clear hcz22_0
                  try clear hcz22_1
                  try clear hcz24_0
                  try clear hcz24_1
                  try clear hcz31_0
                  try clear hcz31_1
                  try clear hcz33_0
                  try clear hcz33_1
                  try clear hcz36_0
                  try clear hcz36_1
                  try clear hcz45_0
                  try clear hcz45_1
                  try clear hcz47_0
                  try clear hcz48_0
                  try clear hcz48_1
                  try clear hcz4_0
                  try clear hcz50_0
                  try clear hcz50_1
                  try clear hcz53_0
                  try clear hcz53_1
                  try clear hcz55_0
                  try clear hcz56_0
                  try clear hcz56_1
                  try clear hcz59_0
                  try clear hcz59_1
                  try clear hcz61_0
                  try clear hcz63_0
                  try clear hcz63_1
                  try clear hcz6_0
                  try clear hfz10_0
                  try clear hfz13_0
                  try clear hfz13_1
                  try clear hfz18_0
                  try clear hfz18_1
                  try clear hfz20_0
                  try clear hfz20_1
                  try clear hfz22_0
                  try clear hfz22_1
                  try clear hfz24_0
                  try clear hfz24_1
                  try clear hfz31_0
                  try clear hfz31_1
                  try clear hfz33_0
                  try clear hfz33_1
                  try clear hfz36_0
                  try clear hfz36_1
                  try clear hfz45_0
                  try clear hfz45_1
                  try clear hfz47_0
                  try clear hfz48_0
                  try clear hfz48_1
                  try clear hfz4_0
                  try clear hfz50_0
                  try clear hfz50_1
                  try clear hfz53_0
                  try clear hfz53_1
                  try clear hfz55_0
                  try clear hfz56_0
                  try clear hfz56_1
                  try clear hfz59_0
                  try clear hfz59_1
                  try clear hfz61_0
                  try clear hfz63_0
                  try clear hfz63_1
                  try clear hfz6_0
                  try clear hx126_0
                  try clear hx126_1
                  try clear p1
                  try clear p12
                  try clear p126
                  try clear p2
                  try clear q1
                  try clear q12
                  try clear q126
                  obtain ⟨kq, x75_24, rfl, HA, HJ24, BK125, BK127, HB⟩ := hcut
                  cases kq with
                  | zero => exact absurd HA.out (by simp [spec_FingOk.j2])
                  | succ kj24 =>
                    have H := HA.out
                    clear HA
                    simp only [spec_FingOk.j2] at H
                    by_cases c65 : x75_24 = true
                    · subst c65
                      have H1 : (some false) = some r := by rw [if_pos rfl] at H; exact H
                      clear H
                      have H := H1
                      clear H1
                      obtain rfl := Option.some.inj H
                      go_wp2
                      go_ret
                      exact ⟨by first | rfl | (simp [errW_none, errW_some] <;> rfl) | (simp [*, errW_none, errW_some] <;> rfl), by repeat (first | (with_reducible first | exact HB.out | apply below_alloc | apply pw_below_drewN | apply below_drew1 | refine below_set ?_ GE125.out | refine below_set ?_ GE127.out) | exact HB.out)⟩
                    · replace c65 := Bool.eq_false_iff.mpr c65
                      subst c65
                      have H1 : (spec_FingOk.l1 kj24 x3_1 x4_1 0 l0_0 ((rd_T43 l0_0 x4_1).f0) ((rd_T43 l0_0 x4_1).f1)) = some r := by rw [if_neg (show ¬ (false = true) by decide)] at H; exact H
                      clear H
                      have H := H1
                      clear H1
                      have H' := Aside0.mk H
                      clear H
                      go_wp2
                      go_loopg [3, 7] kj24 (fun kq v3 v7 w' => ∃ (x3_4 : Int) (x7_4 : Int), v3 = .int .i64 x3_4 ∧ v7 = .int .i64 x7_4 ∧ Aside0 (spec_FingOk.l1 kq x3_4 x4_1 x7_4 l0_0 ((rd_T43 l0_0 x4_1).f0) ((rd_T43 l0_0 x4_1).f1) = some r) ∧ Aside0 (kq ≤ kj24) ∧ Aside0 (w'.heap[gb125]? = some (.cells #[(.slice (some ad126) l0_0.length c0_0)] 29 (0, 0))) ∧ Aside0 (w'.heap[gb127]? = some (.cells #[(.slice A126_0 ((rd_T43 l0_0 x4_1).f0).length c126_0), (.slice A126_1 ((rd_T43 l0_0 x4_1).f1).length c126_1)] 43 (0, 0))) ∧ Aside0 (Below w.heap.size w w'))
                      case atStart => exact ⟨(x3_1), (0), (by first | rfl | (simp; done) | (simp [*]; done)), (by first | rfl | (simp; done) | (simp [*]; done)), H', ⟨Nat.le_refl _⟩, ⟨by (with_reducible repeat (first | refine blk_drewN ?_ _ | refine blk_drew ?_ | refine blk_alloc ?_ _)); exact BK125.out⟩, ⟨by (with_reducible repeat (first | refine blk_drewN ?_ _ | refine blk_drew ?_ | refine blk_alloc ?_ _)); exact BK127.out⟩, ⟨by repeat (first | (with_reducible first | exact HB.out | apply below_alloc | apply pw_below_drewN | apply below_drew1 | refine below_set ?_ GE125.out | refine below_set ?_ GE127.out) | exact HB.out)⟩⟩
                      case round =>
                        clear H'
                        try clear c1
                        try clear p1
                        try clear q1
                        try clear hx1
                        try clear c2
                        try clear c2b0
                        try clear c2b1
                        try clear p2
                        try clear c3
                        try clear c4
                        try clear c5
                        try clear c6
                        try clear p6
                        try clear c7
                        try clear c7b0
                        try clear c8
                        try clear c8b0
                        try clear c12
                        try clear p12
                        try clear q12
                        try clear hx12
                        try clear c14
                        try clear c14b0
                        try clear c14b1
                        try clear c15
                        try clear c15b0
                        try clear c15b1
                        try clear c16
                        try clear c16b0
                        try clear c16b1
                        try clear c17
                        try clear c19
                        try clear c21
                        try clear c23
                        try clear c26
                        try clear c28
                        try clear c30
                        try clear c35
                        try clear c39
                        try clear c40
                        try clear c40b0
                        try clear c40b1
                        try clear c42
                        try clear c44
                        try clear c52
                        try clear c58
                        try clear c62
                        try clear p64
                        try clear c65
                        try clear hcz10_0
                        try clear hcz13_0
                        try clear hcz13_1
                        try clear hcz18_0
                        try clear hcz18_1
                        try clear hcz20_0
                        try clear hcz20_1
                        try clear hcz22_0
                        try clear hcz22_1
                        try clear hcz24_0
                        try clear hcz24_1
                        try clear hcz31_0
                        try clear hcz31_1
                        try clear hcz33_0
                        try clear hcz33_1
                        try clear hcz36_0
                        try clear hcz36_1
                        try clear hcz45_0
                        try clear hcz45_1
                        try clear hcz47_0
                        try clear hcz48_0
                        try clear hcz48_1
                        try clear hcz4_0
                        try clear hcz50_0
                        try clear hcz50_1
                        try clear hcz53_0
                        try clear hcz53_1
                        try clear hcz55_0
                        try clear hcz56_0
                        try clear hcz56_1
                        try clear hcz59_0
                        try clear hcz59_1
                        try clear hcz61_0
                        try clear hcz63_0
                        try clear hcz63_1
                        try clear hcz6_0
                        try clear hfz10_0
                        try clear hfz13_0
                        try clear hfz13_1
                        try clear hfz18_0
                        try clear hfz18_1
                        try clear hfz20_0
                        try clear hfz20_1
                        try clear hfz22_0
                        try clear hfz22_1
                        try clear hfz24_0
                        try clear hfz24_1
                        try clear hfz31_0
                        try clear hfz31_1
                        try clear hfz33_0
                        try clear hfz33_1
                        try clear hfz36_0
                        try clear hfz36_1
                        try clear hfz45_0
                        try clear hfz45_1
                        try clear hfz47_0
                        try clear hfz48_0
                        try clear hfz48_1
                        try clear hfz4_0
                        try clear hfz50_0
                        try clear hfz50_1
                        try clear hfz53_0
                        try clear hfz53_1
                        try clear hfz55_0
                        try clear hfz56_0
                        try clear hfz56_1
                        try clear hfz59_0
                        try clear hfz59_1
                        try clear hfz61_0
                        try clear hfz63_0
                        try clear hfz63_1
                        try clear hfz6_0
                        try clear hx126_0
                        try clear hx126_1
                        try clear p1
                        try clear p12
                        try clear p126
                        try clear p2
                        try clear p6
                        try clear p64
                        try clear q1
                        try clear q12
                        try clear q126
                        obtain ⟨x3_4, x7_4, rfl, rfl, HA, HK4, BK125, BK127, HB⟩ := hrel
                        cases gk with
                        | zero => exact absurd HA.out (by simp [spec_FingOk.l1])
                        | succ k4 =>
                          have H := HA.out
                          clear HA
                          simp only [spec_FingOk.l1] at H
                          by_cases c66 : x7_4 < (((rd_T43 l0_0 x4_1).f0).length : Int)
                          · rw [if_pos c66] at H
                            have c66b0 : decide (x7_4 < (((rd_T43 l0_0 x4_1).f0).length : Int)) = true := decide_eq_true c66
                            clear c66
                            by_cases c67 : 0 ≤ x7_4
                            · rw [if_pos c67] at H
                              have c67b0 : decide (0 ≤ x7_4) = true := decide_eq_true c67
                              clear c67
                              replace H := Option.bind_eq_some_iff.mp H
                              obtain ⟨t134, A680, H⟩ := H
                              replace H : (spec_FingOk.l1 k4 (wrap64 (x3_4 + t134)) x4_1 (wrap64 (x7_4 + 1)) l0_0 ((rd_T43 l0_0 x4_1).f0) ((rd_T43 l0_0 x4_1).f1)) = some r := H
                              have A68 := Aside0.mk A680
                              clear A680
                              have H' := Aside0.mk H
                              clear H
                              have hnb69 := NB127_125.out
                              have hnc69 := NB125_127.out
                              have hcz70_0 : wr.cell? ⟨gb127, 0, none⟩ = some (.slice A126_0 ((rd_T43 l0_0 x4_1).f0).length c126_0) := (blk_cell BK127.out 0).trans rfl
                              have hcz70_1 : wr.cell? ⟨gb127, 1, none⟩ = some (.slice A126_1 ((rd_T43 l0_0 x4_1).f1).length c126_1) := (blk_cell BK127.out 1).trans rfl
                              have hfz70_0 := blk_frozen BK127.out 0
                              have hfz70_1 := blk_frozen BK127.out 1
                              have p133 : 0 ≤ (x7_4 : Int) := of_decide_eq_true (by first | (with_reducible assumption) | assumption)
                              have q133 : x7_4 < (((rd_T43 l0_0 x4_1).f0).length : Int) := of_decide_eq_true (by first | (with_reducible assumption) | assumption)
                              obtain ⟨ad133, e133, hx133_0⟩ := Kd.at_string HR126_0.out x7_4 p133 q133
                              cases e133
                              (try replace hx133_0 := (HB.out.cell (World.block_lt_of_cell? w _ hx133_0)).trans hx133_0)
                              replace p133 := eq_true p133
                              replace q133 := eq_true q133
                              go_wp2_with (first | ((with_reducible refine gate_callee (f := 29) rfl ?_); refine goesL_ (some 89) rfl rfl Try.func29 (by kernel_rfl) rfl #[.string (rdOf ByteArray.empty ((rd_T43 l0_0 x4_1).f0) x7_4)] rfl (by (try simp only [List.map_toArray, List.map_cons, List.map_nil]); first | done | rfl | (simp only [List.length_drop, List.length_take]; rfl)) ?_; (with_reducible refine (spec_l03Leaves.calls k4 (rdOf ByteArray.empty ((rd_T43 l0_0 x4_1).f0) x7_4) t134 _ A68.out).mono ?_); rintro e w' ⟨rfl, ⟨nd, rfl⟩⟩; refine ⟨_, rfl, ?_⟩))
                              go_roundg k4
                              case measure => have := HK1.out; have := HJ8.out; have := HJ24.out; have := HK4.out; omega
                              case rel => exact ⟨(wrap64 (x3_4 + t134)), (wrap64 (x7_4 + 1)), (by first | rfl | (simp; done) | (simp [*]; done)), (by first | rfl | (simp; done) | (simp [*]; done)), H', ⟨by have := HK1.out; have := HJ8.out; have := HJ24.out; have := HK4.out; omega⟩, ⟨by (with_reducible repeat (first | refine blk_drewN ?_ _ | refine blk_drew ?_ | refine blk_alloc ?_ _)); exact BK125.out⟩, ⟨by (with_reducible repeat (first | refine blk_drewN ?_ _ | refine blk_drew ?_ | refine blk_alloc ?_ _)); exact BK127.out⟩, ⟨by repeat (first | (with_reducible first | exact HB.out | apply below_alloc | apply pw_below_drewN | apply below_drew1 | refine below_set ?_ GE125.out | refine below_set ?_ GE127.out) | exact HB.out)⟩⟩
                            · rw [if_neg c67] at H
                              exact absurd H (by simp)
                          · rw [if_neg c66] at H
                            have c66b0 : decide (x7_4 < (((rd_T43 l0_0 x4_1).f0).length : Int)) = false := decide_eq_false c66
                            clear c66
                            have H' := Aside0.mk H
                            clear H
                            have hnb71 := NB127_125.out
                            have hnc71 := NB125_127.out
                            have hcz72_0 : wr.cell? ⟨gb127, 0, none⟩ = some (.slice A126_0 ((rd_T43 l0_0 x4_1).f0).length c126_0) := (blk_cell BK127.out 0).trans rfl
                            have hcz72_1 : wr.cell? ⟨gb127, 1, none⟩ = some (.slice A126_1 ((rd_T43 l0_0 x4_1).f1).length c126_1) := (blk_cell BK127.out 1).trans rfl
                            have hfz72_0 := blk_frozen BK127.out 0
                            have hfz72_1 := blk_frozen BK127.out 1
                            go_wp2
                            go_loopg [3, 8] k4 (fun kq v3 v8 w' => ∃ (x3_5 : Int) (x8_5 : Int), v3 = .int .i64 x3_5 ∧ v8 = .int .i64 x8_5 ∧ Aside0 (spec_FingOk.l2 kq x3_5 x4_1 x8_5 l0_0 ((rd_T43 l0_0 x4_1).f0) ((rd_T43 l0_0 x4_1).f1) = some r) ∧ Aside0 (kq ≤ k4) ∧ Aside0 (w'.heap[gb125]? = some (.cells #[(.slice (some ad126) l0_0.length c0_0)] 29 (0, 0))) ∧ Aside0 (w'.heap[gb127]? = some (.cells #[(.slice A126_0 ((rd_T43 l0_0 x4_1).f0).length c126_0), (.slice A126_1 ((rd_T43 l0_0 x4_1).f1).length c126_1)] 43 (0, 0))) ∧ Aside0 (Below w.heap.size w w'))
                            case atStart => exact ⟨(x3_4), (0), (by first | rfl | (simp; done) | (simp [*]; done)), (by first | rfl | (simp; done) | (simp [*]; done)), H', ⟨Nat.le_refl _⟩, ⟨by (with_reducible repeat (first | refine blk_drewN ?_ _ | refine blk_drew ?_ | refine blk_alloc ?_ _)); exact BK125.out⟩, ⟨by (with_reducible repeat (first | refine blk_drewN ?_ _ | refine blk_drew ?_ | refine blk_alloc ?_ _)); exact BK127.out⟩, ⟨by repeat (first | (with_reducible first | exact HB.out | apply below_alloc | apply pw_below_drewN | apply below_drew1 | refine below_set ?_ GE125.out | refine below_set ?_ GE127.out) | exact HB.out)⟩⟩
                            case round =>
                              clear H'
                              try clear c1
                              try clear p1
                              try clear q1
                              try clear hx1
                              try clear c2
                              try clear c2b0
                              try clear c2b1
                              try clear p2
                              try clear c3
                              try clear c4
                              try clear c5
                              try clear c6
                              try clear p6
                              try clear c7
                              try clear c7b0
                              try clear c8
                              try clear c8b0
                              try clear c12
                              try clear p12
                              try clear q12
                              try clear hx12
                              try clear p13
                              try clear q13
                              try clear hx13
                              try clear c14
                              try clear c14b0
                              try clear c14b1
                              try clear c15
                              try clear c15b0
                              try clear c15b1
                              try clear c16
                              try clear c16b0
                              try clear c16b1
                              try clear c17
                              try clear c19
                              try clear c21
                              try clear c23
                              try clear c26
                              try clear c28
                              try clear c29
                              try clear c30
                              try clear c35
                              try clear c39
                              try clear c40
                              try clear c40b0
                              try clear c40b1
                              try clear c42
                              try clear c44
                              try clear c52
                              try clear c58
                              try clear c62
                              try clear p64
                              try clear c65
                              try clear c66
                              try clear c66b0
                              try clear c67
                              try clear c67b0
                              try clear c69
                              try clear c71
                              try clear hcz10_0
                              try clear hcz13_0
                              try clear hcz13_1
                              try clear hcz18_0
                              try clear hcz18_1
                              try clear hcz20_0
                              try clear hcz20_1
                              try clear hcz22_0
                              try clear hcz22_1
                              try clear hcz24_0
                              try clear hcz24_1
                              try clear hcz31_0
                              try clear hcz31_1
                              try clear hcz33_0
                              try clear hcz33_1
                              try clear hcz36_0
                              try clear hcz36_1
                              try clear hcz45_0
                              try clear hcz45_1
                              try clear hcz47_0
                              try clear hcz48_0
                              try clear hcz48_1
                              try clear hcz4_0
                              try clear hcz50_0
                              try clear hcz50_1
                              try clear hcz53_0
                              try clear hcz53_1
                              try clear hcz55_0
                              try clear hcz56_0
                              try clear hcz56_1
                              try clear hcz59_0
                              try clear hcz59_1
                              try clear hcz61_0
                              try clear hcz63_0
                              try clear hcz63_1
                              try clear hcz6_0
                              try clear hcz70_0
                              try clear hcz70_1
                              try clear hcz72_0
                              try clear hcz72_1
                              try clear hfz10_0
                              try clear hfz13_0
                              try clear hfz13_1
                              try clear hfz18_0
                              try clear hfz18_1
                              try clear hfz20_0
                              try clear hfz20_1
                              try clear hfz22_0
                              try clear hfz22_1
                              try clear hfz24_0
                              try clear hfz24_1
                              try clear hfz31_0
                              try clear hfz31_1
                              try clear hfz33_0
                              try clear hfz33_1
                              try clear hfz36_0
                              try clear hfz36_1
                              try clear hfz45_0
                              try clear hfz45_1
                              try clear hfz47_0
                              try clear hfz48_0
                              try clear hfz48_1
                              try clear hfz4_0
                              try clear hfz50_0
                              try clear hfz50_1
                              try clear hfz53_0
                              try clear hfz53_1
                              try clear hfz55_0
                              try clear hfz56_0
                              try clear hfz56_1
                              try clear hfz59_0
                              try clear hfz59_1
                              try clear hfz61_0
                              try clear hfz63_0
                              try clear hfz63_1
                              try clear hfz6_0
                              try clear hfz70_0
                              try clear hfz70_1
                              try clear hfz72_0
                              try clear hfz72_1
                              try clear hx126_0
                              try clear hx126_1
                              try clear hx133_0
                              try clear p1
                              try clear p12
                              try clear p126
                              try clear p133
                              try clear p2
                              try clear p6
                              try clear p64
                              try clear q1
                              try clear q12
                              try clear q126
                              try clear q133
                              obtain ⟨x3_5, x8_5, rfl, rfl, HA, HK5, BK125, BK127, HB⟩ := hrel
                              cases gk with
                              | zero => exact absurd HA.out (by simp [spec_FingOk.l2])
                              | succ k5 =>
                                have H := HA.out
                                clear HA
                                simp only [spec_FingOk.l2] at H
                                by_cases c73 : x8_5 < (((rd_T43 l0_0 x4_1).f1).length : Int)
                                · rw [if_pos c73] at H
                                  have c73b0 : decide (x8_5 < (((rd_T43 l0_0 x4_1).f1).length : Int)) = true := decide_eq_true c73
                                  clear c73
                                  by_cases c74 : 0 ≤ x8_5
                                  · rw [if_pos c74] at H
                                    have c74b0 : decide (0 ≤ x8_5) = true := decide_eq_true c74
                                    clear c74
                                    replace H := Option.bind_eq_some_iff.mp H
                                    obtain ⟨t136, A750, H⟩ := H
                                    replace H : (spec_FingOk.l2 k5 (wrap64 (x3_5 + t136)) x4_1 (wrap64 (x8_5 + 1)) l0_0 ((rd_T43 l0_0 x4_1).f0) ((rd_T43 l0_0 x4_1).f1)) = some r := H
                                    have A75 := Aside0.mk A750
                                    clear A750
                                    have H' := Aside0.mk H
                                    clear H
                                    have hnb76 := NB127_125.out
                                    have hnc76 := NB125_127.out
                                    have hcz77_0 : wr.cell? ⟨gb127, 0, none⟩ = some (.slice A126_0 ((rd_T43 l0_0 x4_1).f0).length c126_0) := (blk_cell BK127.out 0).trans rfl
                                    have hcz77_1 : wr.cell? ⟨gb127, 1, none⟩ = some (.slice A126_1 ((rd_T43 l0_0 x4_1).f1).length c126_1) := (blk_cell BK127.out 1).trans rfl
                                    have hfz77_0 := blk_frozen BK127.out 0
                                    have hfz77_1 := blk_frozen BK127.out 1
                                    have p135 : 0 ≤ (x8_5 : Int) := of_decide_eq_true (by first | (with_reducible assumption) | assumption)
                                    have q135 : x8_5 < (((rd_T43 l0_0 x4_1).f1).length : Int) := of_decide_eq_true (by first | (with_reducible assumption) | assumption)
                                    obtain ⟨ad135, e135, hx135_0⟩ := Kd.at_string HR126_1.out x8_5 p135 q135
                                    cases e135
                                    (try replace hx135_0 := (HB.out.cell (World.block_lt_of_cell? w _ hx135_0)).trans hx135_0)
                                    replace p135 := eq_true p135
                                    replace q135 := eq_true q135
                                    go_wp2_with (first | ((with_reducible refine gate_callee (f := 29) rfl ?_); refine goesL_ (some 104) rfl rfl Try.func29 (by kernel_rfl) rfl #[.string (rdOf ByteArray.empty ((rd_T43 l0_0 x4_1).f1) x8_5)] rfl (by (try simp only [List.map_toArray, List.map_cons, List.map_nil]); first | done | rfl | (simp only [List.length_drop, List.length_take]; rfl)) ?_; (with_reducible refine (spec_l03Leaves.calls k5 (rdOf ByteArray.empty ((rd_T43 l0_0 x4_1).f1) x8_5) t136 _ A75.out).mono ?_); rintro e w' ⟨rfl, ⟨nd, rfl⟩⟩; refine ⟨_, rfl, ?_⟩))
                                    go_roundg k5
                                    case measure => have := HK1.out; have := HJ8.out; have := HJ24.out; have := HK4.out; have := HK5.out; omega
                                    case rel => exact ⟨(wrap64 (x3_5 + t136)), (wrap64 (x8_5 + 1)), (by first | rfl | (simp; done) | (simp [*]; done)), (by first | rfl | (simp; done) | (simp [*]; done)), H', ⟨by have := HK1.out; have := HJ8.out; have := HJ24.out; have := HK4.out; have := HK5.out; omega⟩, ⟨by (with_reducible repeat (first | refine blk_drewN ?_ _ | refine blk_drew ?_ | refine blk_alloc ?_ _)); exact BK125.out⟩, ⟨by (with_reducible repeat (first | refine blk_drewN ?_ _ | refine blk_drew ?_ | refine blk_alloc ?_ _)); exact BK127.out⟩, ⟨by repeat (first | (with_reducible first | exact HB.out | apply below_alloc | apply pw_below_drewN | apply below_drew1 | refine below_set ?_ GE125.out | refine below_set ?_ GE127.out) | exact HB.out)⟩⟩
                                  · rw [if_neg c74] at H
                                    exact absurd H (by simp)
                                · rw [if_neg c73] at H
                                  have c73b0 : decide (x8_5 < (((rd_T43 l0_0 x4_1).f1).length : Int)) = false := decide_eq_false c73
                                  clear c73
                                  have H' := Aside0.mk H
                                  clear H
                                  have hnb78 := NB127_125.out
                                  have hnc78 := NB125_127.out
                                  have hcz79_0 : wr.cell? ⟨gb127, 0, none⟩ = some (.slice A126_0 ((rd_T43 l0_0 x4_1).f0).length c126_0) := (blk_cell BK127.out 0).trans rfl
                                  have hcz79_1 : wr.cell? ⟨gb127, 1, none⟩ = some (.slice A126_1 ((rd_T43 l0_0 x4_1).f1).length c126_1) := (blk_cell BK127.out 1).trans rfl
                                  have hfz79_0 := blk_frozen BK127.out 0
                                  have hfz79_1 := blk_frozen BK127.out 1
                                  go_wp2
                                  go_roundg k5
                                  case measure => have := HK1.out; have := HJ8.out; have := HJ24.out; have := HK4.out; have := HK5.out; omega
                                  case rel => exact ⟨(x3_5), (wrap64 (x4_1 + 1)), (by first | rfl | (simp; done) | (simp [*]; done)), (by first | rfl | (simp; done) | (simp [*]; done)), H', ⟨by have := HK1.out; have := HJ8.out; have := HJ24.out; have := HK4.out; have := HK5.out; omega⟩, ⟨by (with_reducible repeat (first | refine blk_drewN ?_ _ | refine blk_drew ?_ | refine blk_alloc ?_ _)); exact BK125.out⟩, ⟨by repeat (first | (with_reducible first | exact HB.out | apply below_alloc | apply pw_below_drewN | apply below_drew1 | refine below_set ?_ GE125.out | refine below_set ?_ GE127.out) | exact HB.out)⟩⟩
          · rw [if_neg c8] at H
            exact absurd H (by simp)
        · rw [if_neg c7] at H
          have c7b0 : decide (x4_1 < (l0_0.length : Int)) = false := decide_eq_false c7
          clear c7
          obtain rfl := Option.some.inj H
          have hcz80_0 : wr.cell? ⟨gb125, 0, none⟩ = some (.slice A0_0 l0_0.length c0_0) := (blk_cell BK125.out 0).trans rfl
          have hfz80_0 := blk_frozen BK125.out 0
          go_wp2
          go_ret
          exact ⟨by first | rfl | (simp [errW_none, errW_some] <;> rfl) | (simp [*, errW_none, errW_some] <;> rfl), by repeat (first | (with_reducible first | exact HB.out | apply below_alloc | apply pw_below_drewN | apply below_drew1 | refine below_set ?_ GE125.out) | exact HB.out)⟩

end Go.Proofs.Ytjkipaipaobibaa.PFnExactFingText
