-- Written by wip/xprint.py (the session's program over the kit's printer) for the claim of FnExactRopeOf; Lean checks it.
import Derived.Test.YtedmjdjodpgdlaaDoorPFnExactRopeOfx0
import Derived.Test.YtedmjdjodpgdlaaDoorPFnExactRopeOfx1
import Derived.Test.YtedmjdjodpgdlaaDoorPFnExactRopeOfx3
import Derived.Test.YtedmjdjodpgdlaaDoorPFnExactRopeOfx4
namespace Go.Proofs.YtedmjdjodpgdlaaDoor.PFnExactRopeOf
open Go.RowKit Go.Proofs.YtedmjdjodpgdlaaDoorW.PrintWords Go.Proofs.YtedmjdjodpgdlaaDoorW.PrintLast Go.Proofs.YtedmjdjodpgdlaaDoorW.PrintMore
attribute [local go_sem] max2_int min2_int max_two min_two max_three min_three max_four min_four   -- for this text's walks alone
set_option linter.unusedVariables false
set_option linter.unusedSimpArgs false


/-! ### laws_FnExactRopeOf: function 5 -/
def laws_FnExactRopeOf.f (k : Nat) (l0 : List Int) : Option Bool := if (l0.length : Int) > 1048576 then some true else (laws_toByteS.f k l0).bind fun (r0_ : (List Int)) => (spec_RopeOf.f k r0_).bind fun (r1_ : (List S66) × Bool) => (laws_toByteS.f k l0).bind fun (r2_ : (List Int)) => (impl_RopeOf.f k r2_).bind fun (r3_ : (List S66) × Bool) => (laws_eqRope.f k r3_.1 r1_.1).bind fun (r4_ : Bool) => if r4_ = true then (if r3_.2 = r1_.2 then ((laws_toByteS.f k l0).bind fun (r5_ : (List Int)) => (laws_eqByteS.f k r2_ r5_).bind fun (r6_ : Bool) => if r6_ = true then ((laws_markByteS.f k r2_ 1).bind fun (r7_ : Int × (List Int)) => if r7_.1 < 0 then none else ((laws_eqRope.f k r3_.1 r1_.1).bind fun (r8_ : Bool) => if r8_ = true then ((laws_markRope.f k r3_.1 1).bind fun (r9_ : Int × (List S66)) => (laws_heldRope.f k r9_.2 1).bind fun (r10_ : Int) => if r10_ < 0 then none else (if r10_ = r9_.1 then ((laws_toByteS.f k l0).bind fun (r11_ : (List Int)) => (impl_RopeOf.f k r11_).bind fun (r12_ : (List S66) × Bool) => (laws_eqRope.f k r12_.1 r1_.1).bind fun (r13_ : Bool) => if r13_ = true then (if r12_.2 = r1_.2 then ((laws_heldRope.f k r9_.2 1).bind fun (r14_ : Int) => if r14_ < 0 then none else (if r14_ = r9_.1 then (some true) else none)) else none) else none) else none)) else none)) else none) else none) else none
set_option maxHeartbeats 16000000 in
set_option maxRecDepth 1000000 in
/-- The law's own walk: its rows lie in ranges of blocks that do not meet. -/
theorem laws_FnExactRopeOf.calls (k : Nat) (A0 : Option Addr) (c0 : Nat) (l0 : List Int) (r : Bool) (w : World) (hr0 : Kd.C (Kd.int .u8) w A0 l0.length l0) (hc0 : l0.length ≤ c0) (hT : Lib.Utf8Tabs 0 1 w) (ht_ : r = true) (h : laws_FnExactRopeOf.f k l0 = some r) :
    Calls Tryd.prog 5 #[.slice A0 l0.length c0] w fun e w' => e = .returned (.bool r) ∧ Below w.heap.size w w' := by
  have HR0 := Aside0.mk hr0
  have HC0 := Aside0.mk hc0
  clear hr0 hc0
  have HT := Aside0.mk hT
  clear hT
  subst ht_
  have HB := Aside0.mk (Below.refl w.heap.size w)
  have HN := Aside0.mk (Nat.le_refl w.heap.size)
  unfold laws_FnExactRopeOf.f at h
  by_cases cg : (l0.length : Int) > 1048576
  · clear h
    have cgb : decide (1048576 < (l0.length : Int)) = true := decide_eq_true (by omega)
    clear cg
    go_enter Tryd.func5, Tryd.ntmps5
    go_wp2
    go_ret
    exact ⟨rfl, by repeat (first | exact HB.out | apply below_alloc | apply pw_below_drewN | apply below_drew1)⟩
  rw [if_neg cg] at h
  have cgb : decide (1048576 < (l0.length : Int)) = false := decide_eq_false (by omega)
  clear cg
  replace h := Option.bind_eq_some_iff.1 h
  obtain ⟨t1, e0_, h⟩ := h
  (try dsimp only at h)
  replace h := Option.bind_eq_some_iff.1 h
  obtain ⟨⟨w0_, u0⟩, e1_, h⟩ := h
  (try dsimp only at h)
  replace h := Option.bind_eq_some_iff.1 h
  obtain ⟨x0, e2_, h⟩ := h
  (try dsimp only at h)
  replace h := Option.bind_eq_some_iff.1 h
  obtain ⟨⟨g0, u1⟩, e3_, h⟩ := h
  (try dsimp only at h)
  replace h := Option.bind_eq_some_iff.1 h
  obtain ⟨b1, e4_, h⟩ := h
  (try dsimp only at h)
  have z_ : b1 = true := by cases b1 with | true => rfl | false => exact absurd h (by simp)
  subst z_
  rw [if_pos rfl] at h
  by_cases z_ : u1 = u0
  case neg => rw [if_neg z_] at h; cases h
  rw [if_pos z_] at h
  replace z_ := z_.symm
  subst z_
  replace h := Option.bind_eq_some_iff.1 h
  obtain ⟨t2, e5_, h⟩ := h
  (try dsimp only at h)
  replace h := Option.bind_eq_some_iff.1 h
  obtain ⟨b2, e6_, h⟩ := h
  (try dsimp only at h)
  have z_ : b2 = true := by cases b2 with | true => rfl | false => exact absurd h (by simp)
  subst z_
  rw [if_pos rfl] at h
  replace h := Option.bind_eq_some_iff.1 h
  obtain ⟨⟨k1, x1⟩, e7_, h⟩ := h
  (try dsimp only at h)
  by_cases z_k1 : k1 < 0
  case pos => rw [if_pos z_k1] at h; cases h
  rw [if_neg z_k1] at h
  have zb_k1 : decide (k1 < 0) = false := decide_eq_false z_k1
  clear z_k1
  replace h := Option.bind_eq_some_iff.1 h
  obtain ⟨b3, e8_, h⟩ := h
  (try dsimp only at h)
  have z_ : b3 = true := by cases b3 with | true => rfl | false => exact absurd h (by simp)
  subst z_
  rw [if_pos rfl] at h
  replace h := Option.bind_eq_some_iff.1 h
  obtain ⟨⟨m1, g1⟩, e9_, h⟩ := h
  (try dsimp only at h)
  replace h := Option.bind_eq_some_iff.1 h
  obtain ⟨q1, e10_, h⟩ := h
  (try dsimp only at h)
  by_cases z_q1 : q1 < 0
  case pos => rw [if_pos z_q1] at h; cases h
  rw [if_neg z_q1] at h
  have zb_q1 : decide (q1 < 0) = false := decide_eq_false z_q1
  clear z_q1
  by_cases z_ : q1 = m1
  case neg => rw [if_neg z_] at h; cases h
  rw [if_pos z_] at h
  replace z_ := z_.symm
  subst z_
  replace h := Option.bind_eq_some_iff.1 h
  obtain ⟨t3, e11_, h⟩ := h
  (try dsimp only at h)
  replace h := Option.bind_eq_some_iff.1 h
  obtain ⟨⟨h0, u2⟩, e12_, h⟩ := h
  (try dsimp only at h)
  replace h := Option.bind_eq_some_iff.1 h
  obtain ⟨b4, e13_, h⟩ := h
  (try dsimp only at h)
  have z_ : b4 = true := by cases b4 with | true => rfl | false => exact absurd h (by simp)
  subst z_
  rw [if_pos rfl] at h
  by_cases z_ : u2 = u0
  case neg => rw [if_neg z_] at h; cases h
  rw [if_pos z_] at h
  replace z_ := z_.symm
  subst z_
  replace h := Option.bind_eq_some_iff.1 h
  obtain ⟨q2, e14_, h⟩ := h
  (try dsimp only at h)
  by_cases z_q2 : q2 < 0
  case pos => rw [if_pos z_q2] at h; cases h
  rw [if_neg z_q2] at h
  have zb_q2 : decide (q2 < 0) = false := decide_eq_false z_q2
  clear z_q2
  by_cases z_ : q2 = m1
  case neg => rw [if_neg z_] at h; cases h
  rw [if_pos z_] at h
  replace z_ := z_.symm
  subst z_
  clear h
  replace e0_ := Aside0.mk e0_
  replace e1_ := Aside0.mk e1_
  replace e2_ := Aside0.mk e2_
  replace e3_ := Aside0.mk e3_
  replace e4_ := Aside0.mk e4_
  replace e5_ := Aside0.mk e5_
  replace e6_ := Aside0.mk e6_
  replace e7_ := Aside0.mk e7_
  replace e8_ := Aside0.mk e8_
  replace e9_ := Aside0.mk e9_
  replace e10_ := Aside0.mk e10_
  replace e11_ := Aside0.mk e11_
  replace e12_ := Aside0.mk e12_
  replace e13_ := Aside0.mk e13_
  replace e14_ := Aside0.mk e14_
  go_enter Tryd.func5, Tryd.ntmps5
  go_wp2_with fail
  refine (laws_toByteS.calls k _ _ l0 t1 _ (Kd.C_below HR0.out HB.out) HC0.out e0_.out).mono ?_
  rintro e w1 ⟨v_t1, rfl, ho_t1, hb⟩
  obtain ⟨lo1, hi1, hn1, hl1, hh1, ho2_t1⟩ := Deep.R_new ho_t1 HB.out hb HN.out
  obtain ⟨A_t1, cc_t1, ev_⟩ := Kd.R_slice ho2_t1
  subst ev_
  have HN_ := Aside0.mk (Nat.le_trans HN.out (Below.size hb))
  clear HN
  have HN := HN_
  clear HN_
  have HB_ := Aside0.mk (below_step HB.out hb)
  clear HB
  have HB := HB_
  clear HB_
  have HO_t1 := Aside0.mk ho2_t1
  have HI1 := Aside0.mk (And.intro hn1 hl1)
  clear HN
  have HN := Aside0.mk hh1
  clear ho2_t1 hn1 hl1 hh1 ho_t1
  clear hb
  go_wp2_with fail
  refine (spec_RopeOf.calls k _ _ t1 w0_ u0 _ (Kd.R_reads' HO_t1.out).2.2 (Kd.R_reads' HO_t1.out).2.1 e1_.out).mono ?_
  rintro e w2 ⟨v_w0_, rfl, ho_w0_, hb⟩
  obtain ⟨lo2, hi2, hn2, hl2, hh2, ho2_w0_⟩ := Deep.S_new ho_w0_ HB.out hb HN.out
  obtain ⟨A_w0_, cc_w0_, ev_⟩ := Kd.S_slice ho2_w0_
  subst ev_
  have HO_t1_ := Aside0.mk (Kd.R_below HO_t1.out hb)
  clear HO_t1
  have HO_t1 := HO_t1_
  clear HO_t1_
  have HN_ := Aside0.mk (Nat.le_trans HN.out (Below.size hb))
  clear HN
  have HN := HN_
  clear HN_
  have HB_ := Aside0.mk (below_step HB.out hb)
  clear HB
  have HB := HB_
  clear HB_
  have HO_w0_ := Aside0.mk ho2_w0_
  have HI2 := Aside0.mk (And.intro hn2 hl2)
  clear HN
  have HN := Aside0.mk hh2
  clear ho2_w0_ hn2 hl2 hh2 ho_w0_
  clear hb
  go_wp2_with fail
  refine Deep.named (Wi := w2) (by repeat (first | exact Below.refl _ _ | apply below_alloc | apply pw_below_drewN | apply below_drew1 | refine below_set ?_ (Nat.le_refl _))) ?_
  intro w3 hw hbw
  obtain ⟨gb_w0_, hgb_⟩ : ∃ n_, n_ = w2.heap.size := ⟨_, rfl⟩
  rw [← hgb_]
  have BK_w0_ := Aside0.mk (show w3.heap[gb_w0_]? = some (.cells #[.slice A_w0_ w0_.length cc_w0_] 37 (0, 0)) by rw [hw, hgb_]; first | exact blk_new _ _ | exact Deep.box_set _ _ _ _)
  have HI3 := Aside0.mk (And.intro (show hi2 ≤ gb_w0_ by rw [hgb_]; exact HN.out) (Nat.le_succ gb_w0_))
  obtain ⟨hi3, eh_⟩ : ∃ n_, n_ = gb_w0_ + 1 := ⟨_, rfl⟩
  have EH3 := Aside0.mk eh_
  have HSZ_ := Aside0.mk (show hi3 ≤ w3.heap.size by rw [eh_]; exact blk_lt BK_w0_.out)
  have HO_t1_ := Aside0.mk (Kd.R_below HO_t1.out hbw)
  clear HO_t1
  have HO_t1 := HO_t1_
  clear HO_t1_
  have HO_w0__ := Aside0.mk (Kd.S_below HO_w0_.out hbw)
  clear HO_w0_
  have HO_w0_ := HO_w0__
  clear HO_w0__
  have HN_ := Aside0.mk (Nat.le_trans HN.out (Below.size hbw))
  clear HN
  have HN := HN_
  clear HN_
  have HB_ := Aside0.mk (below_step HB.out hbw)
  clear HB
  have HB := HB_
  clear HB_
  clear HN
  have HN := HSZ_
  clear HSZ_ hw hbw hgb_ eh_
  (try clear hcz_w0_)
  have hcz_w0_ : w3.cell? ⟨gb_w0_, 0, none⟩ = some (.slice A_w0_ w0_.length cc_w0_) := (blk_cell BK_w0_.out 0).trans rfl
  refine (laws_toByteS.calls k _ _ l0 x0 _ (Kd.C_below HR0.out HB.out) HC0.out e2_.out).mono ?_
  rintro e w4 ⟨v_x0, rfl, ho_x0, hb⟩
  obtain ⟨lo4, hi4, hn4, hl4, hh4, ho2_x0⟩ := Deep.R_new ho_x0 HB.out hb HN.out
  obtain ⟨A_x0, cc_x0, ev_⟩ := Kd.R_slice ho2_x0
  subst ev_
  have HO_t1_ := Aside0.mk (Kd.R_below HO_t1.out hb)
  clear HO_t1
  have HO_t1 := HO_t1_
  clear HO_t1_
  have HO_w0__ := Aside0.mk (Kd.S_below HO_w0_.out hb)
  clear HO_w0_
  have HO_w0_ := HO_w0__
  clear HO_w0__
  have BK_w0__ := Aside0.mk (blk_below BK_w0_.out hb)
  clear BK_w0_
  have BK_w0_ := BK_w0__
  clear BK_w0__
  have HN_ := Aside0.mk (Nat.le_trans HN.out (Below.size hb))
  clear HN
  have HN := HN_
  clear HN_
  have HB_ := Aside0.mk (below_step HB.out hb)
  clear HB
  have HB := HB_
  clear HB_
  have HO_x0 := Aside0.mk ho2_x0
  have HI4 := Aside0.mk (And.intro hn4 hl4)
  clear HN
  have HN := Aside0.mk hh4
  clear ho2_x0 hn4 hl4 hh4 ho_x0
  clear hb
  (try clear hcz_w0_)
  have hcz_w0_ : w4.cell? ⟨gb_w0_, 0, none⟩ = some (.slice A_w0_ w0_.length cc_w0_) := (blk_cell BK_w0_.out 0).trans rfl
  go_wp2_with fail
  refine (impl_RopeOf.calls k _ _ x0 g0 u0 _ (Kd.R_reads' HO_x0.out).2.2 (Kd.R_reads' HO_x0.out).2.1 (Utf8Tabs_below HT.out HB.out) e3_.out).mono ?_
  rintro e w5 ⟨v_g0, rfl, ho_g0, hb⟩
  obtain ⟨lo5, hi5, hn5, hl5, hh5, ho2_g0⟩ := Deep.S_new ho_g0 HB.out hb HN.out
  obtain ⟨A_g0, cc_g0, ev_⟩ := Kd.S_slice ho2_g0
  subst ev_
  have HO_t1_ := Aside0.mk (Kd.R_below HO_t1.out hb)
  clear HO_t1
  have HO_t1 := HO_t1_
  clear HO_t1_
  have HO_w0__ := Aside0.mk (Kd.S_below HO_w0_.out hb)
  clear HO_w0_
  have HO_w0_ := HO_w0__
  clear HO_w0__
  have HO_x0_ := Aside0.mk (Kd.R_below HO_x0.out hb)
  clear HO_x0
  have HO_x0 := HO_x0_
  clear HO_x0_
  have BK_w0__ := Aside0.mk (blk_below BK_w0_.out hb)
  clear BK_w0_
  have BK_w0_ := BK_w0__
  clear BK_w0__
  have HN_ := Aside0.mk (Nat.le_trans HN.out (Below.size hb))
  clear HN
  have HN := HN_
  clear HN_
  have HB_ := Aside0.mk (below_step HB.out hb)
  clear HB
  have HB := HB_
  clear HB_
  have HO_g0 := Aside0.mk ho2_g0
  have HI5 := Aside0.mk (And.intro hn5 hl5)
  clear HN
  have HN := Aside0.mk hh5
  clear ho2_g0 hn5 hl5 hh5 ho_g0
  clear hb
  (try clear hcz_w0_)
  have hcz_w0_ : w5.cell? ⟨gb_w0_, 0, none⟩ = some (.slice A_w0_ w0_.length cc_w0_) := (blk_cell BK_w0_.out 0).trans rfl
  have hcza_w0_ : ∀ o_, (w5.alloc o_).cell? ⟨gb_w0_, 0, none⟩ = some (.slice A_w0_ w0_.length cc_w0_) := fun o_ => (blk_cell (blk_alloc BK_w0_.out o_) 0).trans rfl
  go_wp2_with fail
  clear hcza_w0_
  refine Deep.named (Wi := w5) (by repeat (first | exact Below.refl _ _ | apply below_alloc | apply pw_below_drewN | apply below_drew1 | refine below_set ?_ (Nat.le_refl _))) ?_
  intro w6 hw hbw
  obtain ⟨gb_g0, hgb_⟩ : ∃ n_, n_ = w5.heap.size := ⟨_, rfl⟩
  rw [← hgb_]
  have BK_g0 := Aside0.mk (show w6.heap[gb_g0]? = some (.cells #[.slice A_g0 g0.length cc_g0] 37 (0, 0)) by rw [hw, hgb_]; first | exact blk_new _ _ | exact Deep.box_set _ _ _ _)
  have HI6 := Aside0.mk (And.intro (show hi5 ≤ gb_g0 by rw [hgb_]; exact HN.out) (Nat.le_succ gb_g0))
  obtain ⟨hi6, eh_⟩ : ∃ n_, n_ = gb_g0 + 1 := ⟨_, rfl⟩
  have EH6 := Aside0.mk eh_
  have HSZ_ := Aside0.mk (show hi6 ≤ w6.heap.size by rw [eh_]; exact blk_lt BK_g0.out)
  have HO_t1_ := Aside0.mk (Kd.R_below HO_t1.out hbw)
  clear HO_t1
  have HO_t1 := HO_t1_
  clear HO_t1_
  have HO_w0__ := Aside0.mk (Kd.S_below HO_w0_.out hbw)
  clear HO_w0_
  have HO_w0_ := HO_w0__
  clear HO_w0__
  have HO_x0_ := Aside0.mk (Kd.R_below HO_x0.out hbw)
  clear HO_x0
  have HO_x0 := HO_x0_
  clear HO_x0_
  have HO_g0_ := Aside0.mk (Kd.S_below HO_g0.out hbw)
  clear HO_g0
  have HO_g0 := HO_g0_
  clear HO_g0_
  have BK_w0__ := Aside0.mk (blk_below BK_w0_.out hbw)
  clear BK_w0_
  have BK_w0_ := BK_w0__
  clear BK_w0__
  have HN_ := Aside0.mk (Nat.le_trans HN.out (Below.size hbw))
  clear HN
  have HN := HN_
  clear HN_
  have HB_ := Aside0.mk (below_step HB.out hbw)
  clear HB
  have HB := HB_
  clear HB_
  clear HN
  have HN := HSZ_
  clear HSZ_ hw hbw hgb_ eh_
  (try clear hcz_w0_)
  have hcz_w0_ : w6.cell? ⟨gb_w0_, 0, none⟩ = some (.slice A_w0_ w0_.length cc_w0_) := (blk_cell BK_w0_.out 0).trans rfl
  (try clear hcz_g0)
  have hcz_g0 : w6.cell? ⟨gb_g0, 0, none⟩ = some (.slice A_g0 g0.length cc_g0) := (blk_cell BK_g0.out 0).trans rfl
  refine (laws_eqRope.calls k _ _ g0 _ _ w0_ true _ (Kd.S_reads' HO_g0.out).2.2 (Kd.S_reads' HO_g0.out).2.1 (Kd.S_reads' HO_w0_.out).2.2 (Kd.S_reads' HO_w0_.out).2.1 e4_.out).mono ?_
  rintro e w7 ⟨rfl, hb⟩
  have HO_t1_ := Aside0.mk (Kd.R_below HO_t1.out hb)
  clear HO_t1
  have HO_t1 := HO_t1_
  clear HO_t1_
  have HO_w0__ := Aside0.mk (Kd.S_below HO_w0_.out hb)
  clear HO_w0_
  have HO_w0_ := HO_w0__
  clear HO_w0__
  have HO_x0_ := Aside0.mk (Kd.R_below HO_x0.out hb)
  clear HO_x0
  have HO_x0 := HO_x0_
  clear HO_x0_
  have HO_g0_ := Aside0.mk (Kd.S_below HO_g0.out hb)
  clear HO_g0
  have HO_g0 := HO_g0_
  clear HO_g0_
  have BK_w0__ := Aside0.mk (blk_below BK_w0_.out hb)
  clear BK_w0_
  have BK_w0_ := BK_w0__
  clear BK_w0__
  have BK_g0_ := Aside0.mk (blk_below BK_g0.out hb)
  clear BK_g0
  have BK_g0 := BK_g0_
  clear BK_g0_
  have HN_ := Aside0.mk (Nat.le_trans HN.out (Below.size hb))
  clear HN
  have HN := HN_
  clear HN_
  have HB_ := Aside0.mk (below_step HB.out hb)
  clear HB
  have HB := HB_
  clear HB_
  clear hb
  (try clear hcz_w0_)
  have hcz_w0_ : w7.cell? ⟨gb_w0_, 0, none⟩ = some (.slice A_w0_ w0_.length cc_w0_) := (blk_cell BK_w0_.out 0).trans rfl
  (try clear hcz_g0)
  have hcz_g0 : w7.cell? ⟨gb_g0, 0, none⟩ = some (.slice A_g0 g0.length cc_g0) := (blk_cell BK_g0.out 0).trans rfl
  go_wp2_with fail
  refine (laws_toByteS.calls k _ _ l0 t2 _ (Kd.C_below HR0.out HB.out) HC0.out e5_.out).mono ?_
  rintro e w8 ⟨v_t2, rfl, ho_t2, hb⟩
  obtain ⟨lo7, hi7, hn7, hl7, hh7, ho2_t2⟩ := Deep.R_new ho_t2 HB.out hb HN.out
  obtain ⟨A_t2, cc_t2, ev_⟩ := Kd.R_slice ho2_t2
  subst ev_
  have HO_t1_ := Aside0.mk (Kd.R_below HO_t1.out hb)
  clear HO_t1
  have HO_t1 := HO_t1_
  clear HO_t1_
  have HO_w0__ := Aside0.mk (Kd.S_below HO_w0_.out hb)
  clear HO_w0_
  have HO_w0_ := HO_w0__
  clear HO_w0__
  have HO_x0_ := Aside0.mk (Kd.R_below HO_x0.out hb)
  clear HO_x0
  have HO_x0 := HO_x0_
  clear HO_x0_
  have HO_g0_ := Aside0.mk (Kd.S_below HO_g0.out hb)
  clear HO_g0
  have HO_g0 := HO_g0_
  clear HO_g0_
  have BK_w0__ := Aside0.mk (blk_below BK_w0_.out hb)
  clear BK_w0_
  have BK_w0_ := BK_w0__
  clear BK_w0__
  have BK_g0_ := Aside0.mk (blk_below BK_g0.out hb)
  clear BK_g0
  have BK_g0 := BK_g0_
  clear BK_g0_
  have HN_ := Aside0.mk (Nat.le_trans HN.out (Below.size hb))
  clear HN
  have HN := HN_
  clear HN_
  have HB_ := Aside0.mk (below_step HB.out hb)
  clear HB
  have HB := HB_
  clear HB_
  have HO_t2 := Aside0.mk ho2_t2
  have HI7 := Aside0.mk (And.intro hn7 hl7)
  clear HN
  have HN := Aside0.mk hh7
  clear ho2_t2 hn7 hl7 hh7 ho_t2
  clear hb
  (try clear hcz_w0_)
  have hcz_w0_ : w8.cell? ⟨gb_w0_, 0, none⟩ = some (.slice A_w0_ w0_.length cc_w0_) := (blk_cell BK_w0_.out 0).trans rfl
  (try clear hcz_g0)
  have hcz_g0 : w8.cell? ⟨gb_g0, 0, none⟩ = some (.slice A_g0 g0.length cc_g0) := (blk_cell BK_g0.out 0).trans rfl
  go_wp2_with fail
  refine (laws_eqByteS.calls k _ _ x0 _ _ t2 true _ (Kd.R_reads' HO_x0.out).2.2 (Kd.R_reads' HO_x0.out).2.1 (Kd.R_reads' HO_t2.out).2.2 (Kd.R_reads' HO_t2.out).2.1 e6_.out).mono ?_
  rintro e w9 ⟨rfl, hd_⟩
  have hb : Below w8.heap.size w8 w9 := by obtain ⟨n_, hn_⟩ := hd_; rw [hn_]; exact pw_below_drewN (Below.refl _ _) n_
  clear hd_
  have HO_t1_ := Aside0.mk (Kd.R_below HO_t1.out hb)
  clear HO_t1
  have HO_t1 := HO_t1_
  clear HO_t1_
  have HO_w0__ := Aside0.mk (Kd.S_below HO_w0_.out hb)
  clear HO_w0_
  have HO_w0_ := HO_w0__
  clear HO_w0__
  have HO_x0_ := Aside0.mk (Kd.R_below HO_x0.out hb)
  clear HO_x0
  have HO_x0 := HO_x0_
  clear HO_x0_
  have HO_g0_ := Aside0.mk (Kd.S_below HO_g0.out hb)
  clear HO_g0
  have HO_g0 := HO_g0_
  clear HO_g0_
  have HO_t2_ := Aside0.mk (Kd.R_below HO_t2.out hb)
  clear HO_t2
  have HO_t2 := HO_t2_
  clear HO_t2_
  have BK_w0__ := Aside0.mk (blk_below BK_w0_.out hb)
  clear BK_w0_
  have BK_w0_ := BK_w0__
  clear BK_w0__
  have BK_g0_ := Aside0.mk (blk_below BK_g0.out hb)
  clear BK_g0
  have BK_g0 := BK_g0_
  clear BK_g0_
  have HN_ := Aside0.mk (Nat.le_trans HN.out (Below.size hb))
  clear HN
  have HN := HN_
  clear HN_
  have HB_ := Aside0.mk (below_step HB.out hb)
  clear HB
  have HB := HB_
  clear HB_
  clear hb
  (try clear hcz_w0_)
  have hcz_w0_ : w9.cell? ⟨gb_w0_, 0, none⟩ = some (.slice A_w0_ w0_.length cc_w0_) := (blk_cell BK_w0_.out 0).trans rfl
  (try clear hcz_g0)
  have hcz_g0 : w9.cell? ⟨gb_g0, 0, none⟩ = some (.slice A_g0 g0.length cc_g0) := (blk_cell BK_g0.out 0).trans rfl
  go_wp2_with fail
  refine (laws_markByteS.calls k (Deep.Rng lo4 hi4) _ x0 1 k1 x1 w _ HB.out HO_x0.out e7_.out).mono ?_
  rintro e w10 ⟨rfl, ho, hb, hk⟩
  have ho := Deep.R_mark rfl ho HO_x0.out
  have hl_ := (Kd.R_reads' ho).1
  rw [hl_] at ho
  rw [hl_]
  (try rw [hl_] at BK_w0_)
  (try rw [hl_] at BK_g0)
  have HO_t1_ := Aside0.mk (Kd.R_kept HO_t1.out hk (Deep.apart (by have i1 := HI1.out; have i2 := HI2.out; have i3 := HI3.out; have i4 := HI4.out; have i5 := HI5.out; have i6 := HI6.out; have i7 := HI7.out; have j3 := EH3.out; have j6 := EH6.out; omega)))
  clear HO_t1
  have HO_t1 := HO_t1_
  clear HO_t1_
  have HO_w0__ := Aside0.mk (Kd.S_kept HO_w0_.out hk (Deep.apart (by have i1 := HI1.out; have i2 := HI2.out; have i3 := HI3.out; have i4 := HI4.out; have i5 := HI5.out; have i6 := HI6.out; have i7 := HI7.out; have j3 := EH3.out; have j6 := EH6.out; omega)))
  clear HO_w0_
  have HO_w0_ := HO_w0__
  clear HO_w0__
  have HO_g0_ := Aside0.mk (Kd.S_kept HO_g0.out hk (Deep.apart (by have i1 := HI1.out; have i2 := HI2.out; have i3 := HI3.out; have i4 := HI4.out; have i5 := HI5.out; have i6 := HI6.out; have i7 := HI7.out; have j3 := EH3.out; have j6 := EH6.out; omega)))
  clear HO_g0
  have HO_g0 := HO_g0_
  clear HO_g0_
  have HO_t2_ := Aside0.mk (Kd.R_kept HO_t2.out hk (Deep.apart (by have i1 := HI1.out; have i2 := HI2.out; have i3 := HI3.out; have i4 := HI4.out; have i5 := HI5.out; have i6 := HI6.out; have i7 := HI7.out; have j3 := EH3.out; have j6 := EH6.out; omega)))
  clear HO_t2
  have HO_t2 := HO_t2_
  clear HO_t2_
  have BK_w0__ := Aside0.mk (Deep.blk_kept BK_w0_.out hk (by have i1 := HI1.out; have i2 := HI2.out; have i3 := HI3.out; have i4 := HI4.out; have i5 := HI5.out; have i6 := HI6.out; have i7 := HI7.out; have j3 := EH3.out; have j6 := EH6.out; omega))
  clear BK_w0_
  have BK_w0_ := BK_w0__
  clear BK_w0__
  have BK_g0_ := Aside0.mk (Deep.blk_kept BK_g0.out hk (by have i1 := HI1.out; have i2 := HI2.out; have i3 := HI3.out; have i4 := HI4.out; have i5 := HI5.out; have i6 := HI6.out; have i7 := HI7.out; have j3 := EH3.out; have j6 := EH6.out; omega))
  clear BK_g0
  have BK_g0 := BK_g0_
  clear BK_g0_
  have HN_ := Aside0.mk (Nat.le_trans HN.out hk.1)
  clear HN
  have HN := HN_
  clear HN_
  have HB_ := Aside0.mk (hb)
  clear HB
  have HB := HB_
  clear HB_
  have HO_x1 := Aside0.mk ho
  clear hl_ ho hb hk HO_x0
  (try clear hcz_w0_)
  have hcz_w0_ : w10.cell? ⟨gb_w0_, 0, none⟩ = some (.slice A_w0_ w0_.length cc_w0_) := (blk_cell BK_w0_.out 0).trans rfl
  (try clear hcz_g0)
  have hcz_g0 : w10.cell? ⟨gb_g0, 0, none⟩ = some (.slice A_g0 g0.length cc_g0) := (blk_cell BK_g0.out 0).trans rfl
  go_wp2_with fail
  refine (laws_eqRope.calls k _ _ g0 _ _ w0_ true _ (Kd.S_reads' HO_g0.out).2.2 (Kd.S_reads' HO_g0.out).2.1 (Kd.S_reads' HO_w0_.out).2.2 (Kd.S_reads' HO_w0_.out).2.1 e8_.out).mono ?_
  rintro e w11 ⟨rfl, hb⟩
  have HO_t1_ := Aside0.mk (Kd.R_below HO_t1.out hb)
  clear HO_t1
  have HO_t1 := HO_t1_
  clear HO_t1_
  have HO_w0__ := Aside0.mk (Kd.S_below HO_w0_.out hb)
  clear HO_w0_
  have HO_w0_ := HO_w0__
  clear HO_w0__
  have HO_x1_ := Aside0.mk (Kd.R_below HO_x1.out hb)
  clear HO_x1
  have HO_x1 := HO_x1_
  clear HO_x1_
  have HO_g0_ := Aside0.mk (Kd.S_below HO_g0.out hb)
  clear HO_g0
  have HO_g0 := HO_g0_
  clear HO_g0_
  have HO_t2_ := Aside0.mk (Kd.R_below HO_t2.out hb)
  clear HO_t2
  have HO_t2 := HO_t2_
  clear HO_t2_
  have BK_w0__ := Aside0.mk (blk_below BK_w0_.out hb)
  clear BK_w0_
  have BK_w0_ := BK_w0__
  clear BK_w0__
  have BK_g0_ := Aside0.mk (blk_below BK_g0.out hb)
  clear BK_g0
  have BK_g0 := BK_g0_
  clear BK_g0_
  have HN_ := Aside0.mk (Nat.le_trans HN.out (Below.size hb))
  clear HN
  have HN := HN_
  clear HN_
  have HB_ := Aside0.mk (below_step HB.out hb)
  clear HB
  have HB := HB_
  clear HB_
  clear hb
  (try clear hcz_w0_)
  have hcz_w0_ : w11.cell? ⟨gb_w0_, 0, none⟩ = some (.slice A_w0_ w0_.length cc_w0_) := (blk_cell BK_w0_.out 0).trans rfl
  (try clear hcz_g0)
  have hcz_g0 : w11.cell? ⟨gb_g0, 0, none⟩ = some (.slice A_g0 g0.length cc_g0) := (blk_cell BK_g0.out 0).trans rfl
  go_wp2_with fail
  refine (laws_markRope.calls k (Deep.Rng lo5 hi5) _ g0 1 m1 g1 w _ HB.out HO_g0.out e9_.out).mono ?_
  rintro e w12 ⟨rfl, ho, hb, hk⟩
  have hl_ := (Kd.S_reads' ho).1
  rw [hl_] at ho
  rw [hl_]
  (try rw [hl_] at BK_w0_)
  (try rw [hl_] at BK_g0)
  have HO_t1_ := Aside0.mk (Kd.R_kept HO_t1.out hk (Deep.apart (by have i1 := HI1.out; have i2 := HI2.out; have i3 := HI3.out; have i4 := HI4.out; have i5 := HI5.out; have i6 := HI6.out; have i7 := HI7.out; have j3 := EH3.out; have j6 := EH6.out; omega)))
  clear HO_t1
  have HO_t1 := HO_t1_
  clear HO_t1_
  have HO_w0__ := Aside0.mk (Kd.S_kept HO_w0_.out hk (Deep.apart (by have i1 := HI1.out; have i2 := HI2.out; have i3 := HI3.out; have i4 := HI4.out; have i5 := HI5.out; have i6 := HI6.out; have i7 := HI7.out; have j3 := EH3.out; have j6 := EH6.out; omega)))
  clear HO_w0_
  have HO_w0_ := HO_w0__
  clear HO_w0__
  have HO_x1_ := Aside0.mk (Kd.R_kept HO_x1.out hk (Deep.apart (by have i1 := HI1.out; have i2 := HI2.out; have i3 := HI3.out; have i4 := HI4.out; have i5 := HI5.out; have i6 := HI6.out; have i7 := HI7.out; have j3 := EH3.out; have j6 := EH6.out; omega)))
  clear HO_x1
  have HO_x1 := HO_x1_
  clear HO_x1_
  have HO_t2_ := Aside0.mk (Kd.R_kept HO_t2.out hk (Deep.apart (by have i1 := HI1.out; have i2 := HI2.out; have i3 := HI3.out; have i4 := HI4.out; have i5 := HI5.out; have i6 := HI6.out; have i7 := HI7.out; have j3 := EH3.out; have j6 := EH6.out; omega)))
  clear HO_t2
  have HO_t2 := HO_t2_
  clear HO_t2_
  have BK_w0__ := Aside0.mk (Deep.blk_kept BK_w0_.out hk (by have i1 := HI1.out; have i2 := HI2.out; have i3 := HI3.out; have i4 := HI4.out; have i5 := HI5.out; have i6 := HI6.out; have i7 := HI7.out; have j3 := EH3.out; have j6 := EH6.out; omega))
  clear BK_w0_
  have BK_w0_ := BK_w0__
  clear BK_w0__
  have BK_g0_ := Aside0.mk (Deep.blk_kept BK_g0.out hk (by have i1 := HI1.out; have i2 := HI2.out; have i3 := HI3.out; have i4 := HI4.out; have i5 := HI5.out; have i6 := HI6.out; have i7 := HI7.out; have j3 := EH3.out; have j6 := EH6.out; omega))
  clear BK_g0
  have BK_g0 := BK_g0_
  clear BK_g0_
  have HN_ := Aside0.mk (Nat.le_trans HN.out hk.1)
  clear HN
  have HN := HN_
  clear HN_
  have HB_ := Aside0.mk (hb)
  clear HB
  have HB := HB_
  clear HB_
  have HO_g1 := Aside0.mk ho
  clear hl_ ho hb hk HO_g0
  (try clear hcz_w0_)
  have hcz_w0_ : w12.cell? ⟨gb_w0_, 0, none⟩ = some (.slice A_w0_ w0_.length cc_w0_) := (blk_cell BK_w0_.out 0).trans rfl
  (try clear hcz_g0)
  have hcz_g0 : w12.cell? ⟨gb_g0, 0, none⟩ = some (.slice A_g0 g1.length cc_g0) := (blk_cell BK_g0.out 0).trans rfl
  go_wp2_with fail
  refine (laws_heldRope.calls k _ _ g1 1 m1 _ (Kd.S_reads' HO_g1.out).2.2 (Kd.S_reads' HO_g1.out).2.1 e10_.out).mono ?_
  rintro e w13 ⟨rfl, hb⟩
  have HO_t1_ := Aside0.mk (Kd.R_below HO_t1.out hb)
  clear HO_t1
  have HO_t1 := HO_t1_
  clear HO_t1_
  have HO_w0__ := Aside0.mk (Kd.S_below HO_w0_.out hb)
  clear HO_w0_
  have HO_w0_ := HO_w0__
  clear HO_w0__
  have HO_x1_ := Aside0.mk (Kd.R_below HO_x1.out hb)
  clear HO_x1
  have HO_x1 := HO_x1_
  clear HO_x1_
  have HO_g1_ := Aside0.mk (Kd.S_below HO_g1.out hb)
  clear HO_g1
  have HO_g1 := HO_g1_
  clear HO_g1_
  have HO_t2_ := Aside0.mk (Kd.R_below HO_t2.out hb)
  clear HO_t2
  have HO_t2 := HO_t2_
  clear HO_t2_
  have BK_w0__ := Aside0.mk (blk_below BK_w0_.out hb)
  clear BK_w0_
  have BK_w0_ := BK_w0__
  clear BK_w0__
  have BK_g0_ := Aside0.mk (blk_below BK_g0.out hb)
  clear BK_g0
  have BK_g0 := BK_g0_
  clear BK_g0_
  have HN_ := Aside0.mk (Nat.le_trans HN.out (Below.size hb))
  clear HN
  have HN := HN_
  clear HN_
  have HB_ := Aside0.mk (below_step HB.out hb)
  clear HB
  have HB := HB_
  clear HB_
  clear hb
  (try clear hcz_w0_)
  have hcz_w0_ : w13.cell? ⟨gb_w0_, 0, none⟩ = some (.slice A_w0_ w0_.length cc_w0_) := (blk_cell BK_w0_.out 0).trans rfl
  (try clear hcz_g0)
  have hcz_g0 : w13.cell? ⟨gb_g0, 0, none⟩ = some (.slice A_g0 g1.length cc_g0) := (blk_cell BK_g0.out 0).trans rfl
  go_wp2_with fail
  refine (laws_toByteS.calls k _ _ l0 t3 _ (Kd.C_below HR0.out HB.out) HC0.out e11_.out).mono ?_
  rintro e w14 ⟨v_t3, rfl, ho_t3, hb⟩
  obtain ⟨lo8, hi8, hn8, hl8, hh8, ho2_t3⟩ := Deep.R_new ho_t3 HB.out hb HN.out
  obtain ⟨A_t3, cc_t3, ev_⟩ := Kd.R_slice ho2_t3
  subst ev_
  have HO_t1_ := Aside0.mk (Kd.R_below HO_t1.out hb)
  clear HO_t1
  have HO_t1 := HO_t1_
  clear HO_t1_
  have HO_w0__ := Aside0.mk (Kd.S_below HO_w0_.out hb)
  clear HO_w0_
  have HO_w0_ := HO_w0__
  clear HO_w0__
  have HO_x1_ := Aside0.mk (Kd.R_below HO_x1.out hb)
  clear HO_x1
  have HO_x1 := HO_x1_
  clear HO_x1_
  have HO_g1_ := Aside0.mk (Kd.S_below HO_g1.out hb)
  clear HO_g1
  have HO_g1 := HO_g1_
  clear HO_g1_
  have HO_t2_ := Aside0.mk (Kd.R_below HO_t2.out hb)
  clear HO_t2
  have HO_t2 := HO_t2_
  clear HO_t2_
  have BK_w0__ := Aside0.mk (blk_below BK_w0_.out hb)
  clear BK_w0_
  have BK_w0_ := BK_w0__
  clear BK_w0__
  have BK_g0_ := Aside0.mk (blk_below BK_g0.out hb)
  clear BK_g0
  have BK_g0 := BK_g0_
  clear BK_g0_
  have HN_ := Aside0.mk (Nat.le_trans HN.out (Below.size hb))
  clear HN
  have HN := HN_
  clear HN_
  have HB_ := Aside0.mk (below_step HB.out hb)
  clear HB
  have HB := HB_
  clear HB_
  have HO_t3 := Aside0.mk ho2_t3
  have HI8 := Aside0.mk (And.intro hn8 hl8)
  clear HN
  have HN := Aside0.mk hh8
  clear ho2_t3 hn8 hl8 hh8 ho_t3
  clear hb
  (try clear hcz_w0_)
  have hcz_w0_ : w14.cell? ⟨gb_w0_, 0, none⟩ = some (.slice A_w0_ w0_.length cc_w0_) := (blk_cell BK_w0_.out 0).trans rfl
  (try clear hcz_g0)
  have hcz_g0 : w14.cell? ⟨gb_g0, 0, none⟩ = some (.slice A_g0 g1.length cc_g0) := (blk_cell BK_g0.out 0).trans rfl
  go_wp2_with fail
  refine (impl_RopeOf.calls k _ _ t3 h0 u0 _ (Kd.R_reads' HO_t3.out).2.2 (Kd.R_reads' HO_t3.out).2.1 (Utf8Tabs_below HT.out HB.out) e12_.out).mono ?_
  rintro e w15 ⟨v_h0, rfl, ho_h0, hb⟩
  obtain ⟨lo9, hi9, hn9, hl9, hh9, ho2_h0⟩ := Deep.S_new ho_h0 HB.out hb HN.out
  obtain ⟨A_h0, cc_h0, ev_⟩ := Kd.S_slice ho2_h0
  subst ev_
  have HO_t1_ := Aside0.mk (Kd.R_below HO_t1.out hb)
  clear HO_t1
  have HO_t1 := HO_t1_
  clear HO_t1_
  have HO_w0__ := Aside0.mk (Kd.S_below HO_w0_.out hb)
  clear HO_w0_
  have HO_w0_ := HO_w0__
  clear HO_w0__
  have HO_x1_ := Aside0.mk (Kd.R_below HO_x1.out hb)
  clear HO_x1
  have HO_x1 := HO_x1_
  clear HO_x1_
  have HO_g1_ := Aside0.mk (Kd.S_below HO_g1.out hb)
  clear HO_g1
  have HO_g1 := HO_g1_
  clear HO_g1_
  have HO_t2_ := Aside0.mk (Kd.R_below HO_t2.out hb)
  clear HO_t2
  have HO_t2 := HO_t2_
  clear HO_t2_
  have HO_t3_ := Aside0.mk (Kd.R_below HO_t3.out hb)
  clear HO_t3
  have HO_t3 := HO_t3_
  clear HO_t3_
  have BK_w0__ := Aside0.mk (blk_below BK_w0_.out hb)
  clear BK_w0_
  have BK_w0_ := BK_w0__
  clear BK_w0__
  have BK_g0_ := Aside0.mk (blk_below BK_g0.out hb)
  clear BK_g0
  have BK_g0 := BK_g0_
  clear BK_g0_
  have HN_ := Aside0.mk (Nat.le_trans HN.out (Below.size hb))
  clear HN
  have HN := HN_
  clear HN_
  have HB_ := Aside0.mk (below_step HB.out hb)
  clear HB
  have HB := HB_
  clear HB_
  have HO_h0 := Aside0.mk ho2_h0
  have HI9 := Aside0.mk (And.intro hn9 hl9)
  clear HN
  have HN := Aside0.mk hh9
  clear ho2_h0 hn9 hl9 hh9 ho_h0
  clear hb
  (try clear hcz_w0_)
  have hcz_w0_ : w15.cell? ⟨gb_w0_, 0, none⟩ = some (.slice A_w0_ w0_.length cc_w0_) := (blk_cell BK_w0_.out 0).trans rfl
  (try clear hcz_g0)
  have hcz_g0 : w15.cell? ⟨gb_g0, 0, none⟩ = some (.slice A_g0 g1.length cc_g0) := (blk_cell BK_g0.out 0).trans rfl
  have hcza_w0_ : ∀ o_, (w15.alloc o_).cell? ⟨gb_w0_, 0, none⟩ = some (.slice A_w0_ w0_.length cc_w0_) := fun o_ => (blk_cell (blk_alloc BK_w0_.out o_) 0).trans rfl
  have hcza_g0 : ∀ o_, (w15.alloc o_).cell? ⟨gb_g0, 0, none⟩ = some (.slice A_g0 g1.length cc_g0) := fun o_ => (blk_cell (blk_alloc BK_g0.out o_) 0).trans rfl
  go_wp2_with fail
  clear hcza_w0_
  clear hcza_g0
  refine Deep.named (Wi := w15) (by repeat (first | exact Below.refl _ _ | apply below_alloc | apply pw_below_drewN | apply below_drew1 | refine below_set ?_ (Nat.le_refl _))) ?_
  intro w16 hw hbw
  obtain ⟨gb_h0, hgb_⟩ : ∃ n_, n_ = w15.heap.size := ⟨_, rfl⟩
  rw [← hgb_]
  have BK_h0 := Aside0.mk (show w16.heap[gb_h0]? = some (.cells #[.slice A_h0 h0.length cc_h0] 37 (0, 0)) by rw [hw, hgb_]; first | exact blk_new _ _ | exact Deep.box_set _ _ _ _)
  have HI10 := Aside0.mk (And.intro (show hi9 ≤ gb_h0 by rw [hgb_]; exact HN.out) (Nat.le_succ gb_h0))
  obtain ⟨hi10, eh_⟩ : ∃ n_, n_ = gb_h0 + 1 := ⟨_, rfl⟩
  have EH10 := Aside0.mk eh_
  have HSZ_ := Aside0.mk (show hi10 ≤ w16.heap.size by rw [eh_]; exact blk_lt BK_h0.out)
  have HO_t1_ := Aside0.mk (Kd.R_below HO_t1.out hbw)
  clear HO_t1
  have HO_t1 := HO_t1_
  clear HO_t1_
  have HO_w0__ := Aside0.mk (Kd.S_below HO_w0_.out hbw)
  clear HO_w0_
  have HO_w0_ := HO_w0__
  clear HO_w0__
  have HO_x1_ := Aside0.mk (Kd.R_below HO_x1.out hbw)
  clear HO_x1
  have HO_x1 := HO_x1_
  clear HO_x1_
  have HO_g1_ := Aside0.mk (Kd.S_below HO_g1.out hbw)
  clear HO_g1
  have HO_g1 := HO_g1_
  clear HO_g1_
  have HO_t2_ := Aside0.mk (Kd.R_below HO_t2.out hbw)
  clear HO_t2
  have HO_t2 := HO_t2_
  clear HO_t2_
  have HO_t3_ := Aside0.mk (Kd.R_below HO_t3.out hbw)
  clear HO_t3
  have HO_t3 := HO_t3_
  clear HO_t3_
  have HO_h0_ := Aside0.mk (Kd.S_below HO_h0.out hbw)
  clear HO_h0
  have HO_h0 := HO_h0_
  clear HO_h0_
  have BK_w0__ := Aside0.mk (blk_below BK_w0_.out hbw)
  clear BK_w0_
  have BK_w0_ := BK_w0__
  clear BK_w0__
  have BK_g0_ := Aside0.mk (blk_below BK_g0.out hbw)
  clear BK_g0
  have BK_g0 := BK_g0_
  clear BK_g0_
  have HN_ := Aside0.mk (Nat.le_trans HN.out (Below.size hbw))
  clear HN
  have HN := HN_
  clear HN_
  have HB_ := Aside0.mk (below_step HB.out hbw)
  clear HB
  have HB := HB_
  clear HB_
  clear HN
  have HN := HSZ_
  clear HSZ_ hw hbw hgb_ eh_
  (try clear hcz_w0_)
  have hcz_w0_ : w16.cell? ⟨gb_w0_, 0, none⟩ = some (.slice A_w0_ w0_.length cc_w0_) := (blk_cell BK_w0_.out 0).trans rfl
  (try clear hcz_g0)
  have hcz_g0 : w16.cell? ⟨gb_g0, 0, none⟩ = some (.slice A_g0 g1.length cc_g0) := (blk_cell BK_g0.out 0).trans rfl
  (try clear hcz_h0)
  have hcz_h0 : w16.cell? ⟨gb_h0, 0, none⟩ = some (.slice A_h0 h0.length cc_h0) := (blk_cell BK_h0.out 0).trans rfl
  refine (laws_eqRope.calls k _ _ h0 _ _ w0_ true _ (Kd.S_reads' HO_h0.out).2.2 (Kd.S_reads' HO_h0.out).2.1 (Kd.S_reads' HO_w0_.out).2.2 (Kd.S_reads' HO_w0_.out).2.1 e13_.out).mono ?_
  rintro e w17 ⟨rfl, hb⟩
  have HO_t1_ := Aside0.mk (Kd.R_below HO_t1.out hb)
  clear HO_t1
  have HO_t1 := HO_t1_
  clear HO_t1_
  have HO_w0__ := Aside0.mk (Kd.S_below HO_w0_.out hb)
  clear HO_w0_
  have HO_w0_ := HO_w0__
  clear HO_w0__
  have HO_x1_ := Aside0.mk (Kd.R_below HO_x1.out hb)
  clear HO_x1
  have HO_x1 := HO_x1_
  clear HO_x1_
  have HO_g1_ := Aside0.mk (Kd.S_below HO_g1.out hb)
  clear HO_g1
  have HO_g1 := HO_g1_
  clear HO_g1_
  have HO_t2_ := Aside0.mk (Kd.R_below HO_t2.out hb)
  clear HO_t2
  have HO_t2 := HO_t2_
  clear HO_t2_
  have HO_t3_ := Aside0.mk (Kd.R_below HO_t3.out hb)
  clear HO_t3
  have HO_t3 := HO_t3_
  clear HO_t3_
  have HO_h0_ := Aside0.mk (Kd.S_below HO_h0.out hb)
  clear HO_h0
  have HO_h0 := HO_h0_
  clear HO_h0_
  have BK_w0__ := Aside0.mk (blk_below BK_w0_.out hb)
  clear BK_w0_
  have BK_w0_ := BK_w0__
  clear BK_w0__
  have BK_g0_ := Aside0.mk (blk_below BK_g0.out hb)
  clear BK_g0
  have BK_g0 := BK_g0_
  clear BK_g0_
  have BK_h0_ := Aside0.mk (blk_below BK_h0.out hb)
  clear BK_h0
  have BK_h0 := BK_h0_
  clear BK_h0_
  have HN_ := Aside0.mk (Nat.le_trans HN.out (Below.size hb))
  clear HN
  have HN := HN_
  clear HN_
  have HB_ := Aside0.mk (below_step HB.out hb)
  clear HB
  have HB := HB_
  clear HB_
  clear hb
  (try clear hcz_w0_)
  have hcz_w0_ : w17.cell? ⟨gb_w0_, 0, none⟩ = some (.slice A_w0_ w0_.length cc_w0_) := (blk_cell BK_w0_.out 0).trans rfl
  (try clear hcz_g0)
  have hcz_g0 : w17.cell? ⟨gb_g0, 0, none⟩ = some (.slice A_g0 g1.length cc_g0) := (blk_cell BK_g0.out 0).trans rfl
  (try clear hcz_h0)
  have hcz_h0 : w17.cell? ⟨gb_h0, 0, none⟩ = some (.slice A_h0 h0.length cc_h0) := (blk_cell BK_h0.out 0).trans rfl
  go_wp2_with fail
  refine (laws_heldRope.calls k _ _ g1 1 m1 _ (Kd.S_reads' HO_g1.out).2.2 (Kd.S_reads' HO_g1.out).2.1 e14_.out).mono ?_
  rintro e w18 ⟨rfl, hb⟩
  have HO_t1_ := Aside0.mk (Kd.R_below HO_t1.out hb)
  clear HO_t1
  have HO_t1 := HO_t1_
  clear HO_t1_
  have HO_w0__ := Aside0.mk (Kd.S_below HO_w0_.out hb)
  clear HO_w0_
  have HO_w0_ := HO_w0__
  clear HO_w0__
  have HO_x1_ := Aside0.mk (Kd.R_below HO_x1.out hb)
  clear HO_x1
  have HO_x1 := HO_x1_
  clear HO_x1_
  have HO_g1_ := Aside0.mk (Kd.S_below HO_g1.out hb)
  clear HO_g1
  have HO_g1 := HO_g1_
  clear HO_g1_
  have HO_t2_ := Aside0.mk (Kd.R_below HO_t2.out hb)
  clear HO_t2
  have HO_t2 := HO_t2_
  clear HO_t2_
  have HO_t3_ := Aside0.mk (Kd.R_below HO_t3.out hb)
  clear HO_t3
  have HO_t3 := HO_t3_
  clear HO_t3_
  have HO_h0_ := Aside0.mk (Kd.S_below HO_h0.out hb)
  clear HO_h0
  have HO_h0 := HO_h0_
  clear HO_h0_
  have BK_w0__ := Aside0.mk (blk_below BK_w0_.out hb)
  clear BK_w0_
  have BK_w0_ := BK_w0__
  clear BK_w0__
  have BK_g0_ := Aside0.mk (blk_below BK_g0.out hb)
  clear BK_g0
  have BK_g0 := BK_g0_
  clear BK_g0_
  have BK_h0_ := Aside0.mk (blk_below BK_h0.out hb)
  clear BK_h0
  have BK_h0 := BK_h0_
  clear BK_h0_
  have HN_ := Aside0.mk (Nat.le_trans HN.out (Below.size hb))
  clear HN
  have HN := HN_
  clear HN_
  have HB_ := Aside0.mk (below_step HB.out hb)
  clear HB
  have HB := HB_
  clear HB_
  clear hb
  (try clear hcz_w0_)
  have hcz_w0_ : w18.cell? ⟨gb_w0_, 0, none⟩ = some (.slice A_w0_ w0_.length cc_w0_) := (blk_cell BK_w0_.out 0).trans rfl
  (try clear hcz_g0)
  have hcz_g0 : w18.cell? ⟨gb_g0, 0, none⟩ = some (.slice A_g0 g1.length cc_g0) := (blk_cell BK_g0.out 0).trans rfl
  (try clear hcz_h0)
  have hcz_h0 : w18.cell? ⟨gb_h0, 0, none⟩ = some (.slice A_h0 h0.length cc_h0) := (blk_cell BK_h0.out 0).trans rfl
  go_wp2
  go_ret
  exact ⟨rfl, by repeat (first | exact HB.out | apply below_alloc | apply pw_below_drewN | apply below_drew1 | refine below_set ?_ HB.out.size)⟩

end Go.Proofs.YtedmjdjodpgdlaaDoor.PFnExactRopeOf
