-- Written by wip/xprint.py (the session's program over the kit's printer) for the claim of FnExactRopeSlice; Lean checks it.
import Derived.Test.YtedmjdjodpgdlaaDoorPFnExactRopeSlicex0
import Derived.Test.YtedmjdjodpgdlaaDoorPFnExactRopeSlicex1
import Derived.Test.YtedmjdjodpgdlaaDoorPFnExactRopeSlicex2
import Derived.Test.YtedmjdjodpgdlaaDoorPFnExactRopeSlicex4
import Derived.Test.YtedmjdjodpgdlaaDoorPFnExactRopeSlicex5
namespace Go.Proofs.YtedmjdjodpgdlaaDoor.PFnExactRopeSlice
open Go.RowKit Go.Proofs.YtedmjdjodpgdlaaDoorW.PrintWords Go.Proofs.YtedmjdjodpgdlaaDoorW.PrintLast Go.Proofs.YtedmjdjodpgdlaaDoorW.PrintMore
attribute [local go_sem] max2_int min2_int max_two min_two max_three min_three max_four min_four   -- for this text's walks alone
set_option linter.unusedVariables false
set_option linter.unusedSimpArgs false


/-! ### laws_FnExactRopeSlice: function 7 -/
def laws_FnExactRopeSlice.f (k : Nat) (l0_0 : List S69) (a1 : Int) (a2 : Int) : Option Bool := (laws_szRope.f k l0_0 1048576).bind fun (r0_ : Int) => if r0_ < 0 then some true else ((laws_toRope.f k l0_0).bind fun (r1_ : (List S66)) => (spec_RopeSlice.f k r1_ a1 a2).bind fun (r2_ : (List Int) × Bool) => (laws_toRope.f k l0_0).bind fun (r3_ : (List S66)) => (impl_RopeSlice.f k r3_ a1 a2).bind fun (r4_ : (List Int) × Bool) => (laws_eqByteS.f k r4_.1 r2_.1).bind fun (r5_ : Bool) => if r5_ = true then (if r4_.2 = r2_.2 then ((laws_toRope.f k l0_0).bind fun (r6_ : (List S66)) => (laws_eqRope.f k r3_ r6_).bind fun (r7_ : Bool) => if r7_ = true then ((laws_markRope.f k r3_ 1).bind fun (r8_ : Int × (List S66)) => if r8_.1 < 0 then none else ((laws_eqByteS.f k r4_.1 r2_.1).bind fun (r9_ : Bool) => if r9_ = true then ((laws_markByteS.f k r4_.1 1).bind fun (r10_ : Int × (List Int)) => (laws_heldByteS.f k r10_.2 1).bind fun (r11_ : Int) => if r11_ < 0 then none else (if r11_ = r10_.1 then ((laws_toRope.f k l0_0).bind fun (r12_ : (List S66)) => (impl_RopeSlice.f k r12_ a1 a2).bind fun (r13_ : (List Int) × Bool) => (laws_eqByteS.f k r13_.1 r2_.1).bind fun (r14_ : Bool) => if r14_ = true then (if r13_.2 = r2_.2 then ((laws_heldByteS.f k r10_.2 1).bind fun (r15_ : Int) => if r15_ < 0 then none else (if r15_ = r10_.1 then (some true) else none)) else none) else none) else none)) else none)) else none) else none) else none)
set_option maxHeartbeats 16000000 in
set_option maxRecDepth 1000000 in
/-- The law's own walk: its rows lie in ranges of blocks that do not meet. -/
theorem laws_FnExactRopeSlice.calls (k : Nat) (A0_0 : Option Addr) (c0_0 : Nat) (l0_0 : List S69) (a1 : Int) (a2 : Int) (r : Bool) (w : World) (hr0_0 : Kd.C k69 w A0_0 l0_0.length l0_0) (hc0_0 : l0_0.length ≤ c0_0) (hT : Lib.Utf8Tabs 0 1 w) (ht_ : r = true) (h : laws_FnExactRopeSlice.f k l0_0 a1 a2 = some r) :
    Calls Tryd.prog 7 #[.agg #[.slice A0_0 l0_0.length c0_0], .int .i64 a1, .int .i64 a2] w fun e w' => e = .returned (.bool r) ∧ Below w.heap.size w w' := by
  have HR0_0 := Aside0.mk hr0_0
  have HC0_0 := Aside0.mk hc0_0
  clear hr0_0 hc0_0
  have HT := Aside0.mk hT
  clear hT
  subst ht_
  have HB := Aside0.mk (Below.refl w.heap.size w)
  have HN := Aside0.mk (Nat.le_refl w.heap.size)
  unfold laws_FnExactRopeSlice.f at h
  replace h := Option.bind_eq_some_iff.1 h
  obtain ⟨left, e0_, h⟩ := h
  (try dsimp only at h)
  by_cases z_e : left < 0
  case pos =>
    clear h
    have zb_e : decide (left < 0) = true := decide_eq_true z_e
    go_enter Tryd.func7, Tryd.ntmps7
    go_wp2_with fail
    refine Deep.named (Wi := w) (by repeat (first | exact Below.refl _ _ | apply below_alloc | apply pw_below_drewN | apply below_drew1 | refine below_set ?_ (Nat.le_refl _))) ?_
    intro w0_ hw hbw
    refine (laws_szRope.calls k _ _ l0_0 1048576 left _ (Kd.C_below HR0_0.out hbw) HC0_0.out e0_).mono ?_
    rintro e w1 ⟨rfl, hb⟩
    have HBE := Aside0.mk (below_step hbw hb)
    clear hb hbw hw
    go_wp2
    go_ret
    exact ⟨rfl, HBE.out⟩
  rw [if_neg z_e] at h
  have zb_e : decide (left < 0) = false := decide_eq_false z_e
  clear z_e
  replace h := Option.bind_eq_some_iff.1 h
  obtain ⟨t1, e1_, h⟩ := h
  (try dsimp only at h)
  replace h := Option.bind_eq_some_iff.1 h
  obtain ⟨⟨w0_, u0⟩, e2_, h⟩ := h
  (try dsimp only at h)
  replace h := Option.bind_eq_some_iff.1 h
  obtain ⟨x0, e3_, h⟩ := h
  (try dsimp only at h)
  replace h := Option.bind_eq_some_iff.1 h
  obtain ⟨⟨g0, u1⟩, e4_, h⟩ := h
  (try dsimp only at h)
  replace h := Option.bind_eq_some_iff.1 h
  obtain ⟨b1, e5_, h⟩ := h
  (try dsimp only at h)
  have z_ : b1 = true := by cases b1 with | true => rfl | false => exact absurd h (by simp)
  subst z_
  rw [if_pos rfl] at h
  by_cases z_ : u1 = u0
  case neg => rw [if_neg z_] at h; cases h
  rw [if_pos z_] at h
  replace z_ := z_.symm
  subst z_
  replace h := Option.bind_eq_some_iff.1 h
  obtain ⟨t2, e6_, h⟩ := h
  (try dsimp only at h)
  replace h := Option.bind_eq_some_iff.1 h
  obtain ⟨b2, e7_, h⟩ := h
  (try dsimp only at h)
  have z_ : b2 = true := by cases b2 with | true => rfl | false => exact absurd h (by simp)
  subst z_
  rw [if_pos rfl] at h
  replace h := Option.bind_eq_some_iff.1 h
  obtain ⟨⟨k1, x1⟩, e8_, h⟩ := h
  (try dsimp only at h)
  by_cases z_k1 : k1 < 0
  case pos => rw [if_pos z_k1] at h; cases h
  rw [if_neg z_k1] at h
  have zb_k1 : decide (k1 < 0) = false := decide_eq_false z_k1
  clear z_k1
  replace h := Option.bind_eq_some_iff.1 h
  obtain ⟨b3, e9_, h⟩ := h
  (try dsimp only at h)
  have z_ : b3 = true := by cases b3 with | true => rfl | false => exact absurd h (by simp)
  subst z_
  rw [if_pos rfl] at h
  replace h := Option.bind_eq_some_iff.1 h
  obtain ⟨⟨m1, g1⟩, e10_, h⟩ := h
  (try dsimp only at h)
  replace h := Option.bind_eq_some_iff.1 h
  obtain ⟨q1, e11_, h⟩ := h
  (try dsimp only at h)
  by_cases z_q1 : q1 < 0
  case pos => rw [if_pos z_q1] at h; cases h
  rw [if_neg z_q1] at h
  have zb_q1 : decide (q1 < 0) = false := decide_eq_false z_q1
  clear z_q1
  by_cases z_ : q1 = m1
  case neg => rw [if_neg z_] at h; cases h
  rw [if_pos z_] at h
  replace z_ := z_.symm
  subst z_
  replace h := Option.bind_eq_some_iff.1 h
  obtain ⟨t3, e12_, h⟩ := h
  (try dsimp only at h)
  replace h := Option.bind_eq_some_iff.1 h
  obtain ⟨⟨h0, u2⟩, e13_, h⟩ := h
  (try dsimp only at h)
  replace h := Option.bind_eq_some_iff.1 h
  obtain ⟨b4, e14_, h⟩ := h
  (try dsimp only at h)
  have z_ : b4 = true := by cases b4 with | true => rfl | false => exact absurd h (by simp)
  subst z_
  rw [if_pos rfl] at h
  by_cases z_ : u2 = u0
  case neg => rw [if_neg z_] at h; cases h
  rw [if_pos z_] at h
  replace z_ := z_.symm
  subst z_
  replace h := Option.bind_eq_some_iff.1 h
  obtain ⟨q2, e15_, h⟩ := h
  (try dsimp only at h)
  by_cases z_q2 : q2 < 0
  case pos => rw [if_pos z_q2] at h; cases h
  rw [if_neg z_q2] at h
  have zb_q2 : decide (q2 < 0) = false := decide_eq_false z_q2
  clear z_q2
  by_cases z_ : q2 = m1
  case neg => rw [if_neg z_] at h; cases h
  rw [if_pos z_] at h
  replace z_ := z_.symm
  subst z_
  clear h
  replace e0_ := Aside0.mk e0_
  replace e1_ := Aside0.mk e1_
  replace e2_ := Aside0.mk e2_
  replace e3_ := Aside0.mk e3_
  replace e4_ := Aside0.mk e4_
  replace e5_ := Aside0.mk e5_
  replace e6_ := Aside0.mk e6_
  replace e7_ := Aside0.mk e7_
  replace e8_ := Aside0.mk e8_
  replace e9_ := Aside0.mk e9_
  replace e10_ := Aside0.mk e10_
  replace e11_ := Aside0.mk e11_
  replace e12_ := Aside0.mk e12_
  replace e13_ := Aside0.mk e13_
  replace e14_ := Aside0.mk e14_
  replace e15_ := Aside0.mk e15_
  go_enter Tryd.func7, Tryd.ntmps7
  go_wp2_with fail
  refine Deep.named (Wi := w) (by repeat (first | exact Below.refl _ _ | apply below_alloc | apply pw_below_drewN | apply below_drew1 | refine below_set ?_ (Nat.le_refl _))) ?_
  intro w1 hw hbw
  obtain ⟨gb_par, hgb_⟩ : ∃ n_, n_ = w.heap.size := ⟨_, rfl⟩
  rw [← hgb_]
  have BK_par := Aside0.mk (show w1.heap[gb_par]? = some (.cells #[.slice A0_0 l0_0.length c0_0] 43 (0, 0)) by rw [hw, hgb_]; exact blk_new _ _)
  have HI1 := Aside0.mk (And.intro (show w.heap.size ≤ gb_par by rw [hgb_]; exact Nat.le_refl _) (Nat.le_succ gb_par))
  obtain ⟨hi1, eh_⟩ : ∃ n_, n_ = gb_par + 1 := ⟨_, rfl⟩
  have EH1 := Aside0.mk eh_
  have HSZ_ := Aside0.mk (show hi1 ≤ w1.heap.size by rw [eh_]; exact blk_lt BK_par.out)
  have HN_ := Aside0.mk (Nat.le_trans HN.out (Below.size hbw))
  clear HN
  have HN := HN_
  clear HN_
  have HB_ := Aside0.mk (below_step HB.out hbw)
  clear HB
  have HB := HB_
  clear HB_
  clear HN
  have HN := HSZ_
  clear HSZ_ hw hbw hgb_ eh_
  (try clear hcz_par)
  have hcz_par : w1.cell? ⟨gb_par, 0, none⟩ = some (.slice A0_0 l0_0.length c0_0) := (blk_cell BK_par.out 0).trans rfl
  refine (laws_szRope.calls k _ _ l0_0 1048576 left _ (Kd.C_below HR0_0.out HB.out) HC0_0.out e0_.out).mono ?_
  rintro e w2 ⟨rfl, hb⟩
  have BK_par_ := Aside0.mk (blk_below BK_par.out hb)
  clear BK_par
  have BK_par := BK_par_
  clear BK_par_
  have HN_ := Aside0.mk (Nat.le_trans HN.out (Below.size hb))
  clear HN
  have HN := HN_
  clear HN_
  have HB_ := Aside0.mk (below_step HB.out hb)
  clear HB
  have HB := HB_
  clear HB_
  clear hb
  (try clear hcz_par)
  have hcz_par : w2.cell? ⟨gb_par, 0, none⟩ = some (.slice A0_0 l0_0.length c0_0) := (blk_cell BK_par.out 0).trans rfl
  go_wp2_with fail
  refine (laws_toRope.calls k _ _ l0_0 t1 _ (Kd.C_below HR0_0.out HB.out) HC0_0.out e1_.out).mono ?_
  rintro e w3 ⟨v_t1, rfl, ho_t1, hb⟩
  obtain ⟨lo2, hi2, hn2, hl2, hh2, ho2_t1⟩ := Deep.S_new ho_t1 HB.out hb HN.out
  obtain ⟨A_t1, cc_t1, ev_⟩ := Kd.S_slice ho2_t1
  subst ev_
  have BK_par_ := Aside0.mk (blk_below BK_par.out hb)
  clear BK_par
  have BK_par := BK_par_
  clear BK_par_
  have HN_ := Aside0.mk (Nat.le_trans HN.out (Below.size hb))
  clear HN
  have HN := HN_
  clear HN_
  have HB_ := Aside0.mk (below_step HB.out hb)
  clear HB
  have HB := HB_
  clear HB_
  have HO_t1 := Aside0.mk ho2_t1
  have HI2 := Aside0.mk (And.intro hn2 hl2)
  clear HN
  have HN := Aside0.mk hh2
  clear ho2_t1 hn2 hl2 hh2 ho_t1
  clear hb
  (try clear hcz_par)
  have hcz_par : w3.cell? ⟨gb_par, 0, none⟩ = some (.slice A0_0 l0_0.length c0_0) := (blk_cell BK_par.out 0).trans rfl
  go_wp2_with fail
  refine (spec_RopeSlice.calls k _ _ t1 a1 a2 w0_ u0 _ (Kd.S_reads' HO_t1.out).2.2 (Kd.S_reads' HO_t1.out).2.1 e2_.out).mono ?_
  rintro e w4 ⟨v_w0_, rfl, ho_w0_, hb⟩
  obtain ⟨lo3, hi3, hn3, hl3, hh3, ho2_w0_⟩ := Deep.R_new ho_w0_ HB.out hb HN.out
  obtain ⟨A_w0_, cc_w0_, ev_⟩ := Kd.R_slice ho2_w0_
  subst ev_
  have HO_t1_ := Aside0.mk (Kd.S_below HO_t1.out hb)
  clear HO_t1
  have HO_t1 := HO_t1_
  clear HO_t1_
  have BK_par_ := Aside0.mk (blk_below BK_par.out hb)
  clear BK_par
  have BK_par := BK_par_
  clear BK_par_
  have HN_ := Aside0.mk (Nat.le_trans HN.out (Below.size hb))
  clear HN
  have HN := HN_
  clear HN_
  have HB_ := Aside0.mk (below_step HB.out hb)
  clear HB
  have HB := HB_
  clear HB_
  have HO_w0_ := Aside0.mk ho2_w0_
  have HI3 := Aside0.mk (And.intro hn3 hl3)
  clear HN
  have HN := Aside0.mk hh3
  clear ho2_w0_ hn3 hl3 hh3 ho_w0_
  clear hb
  (try clear hcz_par)
  have hcz_par : w4.cell? ⟨gb_par, 0, none⟩ = some (.slice A0_0 l0_0.length c0_0) := (blk_cell BK_par.out 0).trans rfl
  go_wp2_with fail
  refine (laws_toRope.calls k _ _ l0_0 x0 _ (Kd.C_below HR0_0.out HB.out) HC0_0.out e3_.out).mono ?_
  rintro e w5 ⟨v_x0, rfl, ho_x0, hb⟩
  obtain ⟨lo4, hi4, hn4, hl4, hh4, ho2_x0⟩ := Deep.S_new ho_x0 HB.out hb HN.out
  obtain ⟨A_x0, cc_x0, ev_⟩ := Kd.S_slice ho2_x0
  subst ev_
  have HO_t1_ := Aside0.mk (Kd.S_below HO_t1.out hb)
  clear HO_t1
  have HO_t1 := HO_t1_
  clear HO_t1_
  have HO_w0__ := Aside0.mk (Kd.R_below HO_w0_.out hb)
  clear HO_w0_
  have HO_w0_ := HO_w0__
  clear HO_w0__
  have BK_par_ := Aside0.mk (blk_below BK_par.out hb)
  clear BK_par
  have BK_par := BK_par_
  clear BK_par_
  have HN_ := Aside0.mk (Nat.le_trans HN.out (Below.size hb))
  clear HN
  have HN := HN_
  clear HN_
  have HB_ := Aside0.mk (below_step HB.out hb)
  clear HB
  have HB := HB_
  clear HB_
  have HO_x0 := Aside0.mk ho2_x0
  have HI4 := Aside0.mk (And.intro hn4 hl4)
  clear HN
  have HN := Aside0.mk hh4
  clear ho2_x0 hn4 hl4 hh4 ho_x0
  clear hb
  (try clear hcz_par)
  have hcz_par : w5.cell? ⟨gb_par, 0, none⟩ = some (.slice A0_0 l0_0.length c0_0) := (blk_cell BK_par.out 0).trans rfl
  have hcza_par : ∀ o_, (w5.alloc o_).cell? ⟨gb_par, 0, none⟩ = some (.slice A0_0 l0_0.length c0_0) := fun o_ => (blk_cell (blk_alloc BK_par.out o_) 0).trans rfl
  go_wp2_with fail
  clear hcza_par
  refine Deep.named (Wi := w5) (by repeat (first | exact Below.refl _ _ | apply below_alloc | apply pw_below_drewN | apply below_drew1 | refine below_set ?_ (Nat.le_refl _))) ?_
  intro w6 hw hbw
  obtain ⟨gb_x0, hgb_⟩ : ∃ n_, n_ = w5.heap.size := ⟨_, rfl⟩
  rw [← hgb_]
  have BK_x0 := Aside0.mk (show w6.heap[gb_x0]? = some (.cells #[.slice A_x0 x0.length cc_x0] 37 (0, 0)) by rw [hw, hgb_]; first | exact blk_new _ _ | exact Deep.box_set _ _ _ _)
  have HI5 := Aside0.mk (And.intro (show hi4 ≤ gb_x0 by rw [hgb_]; exact HN.out) (Nat.le_succ gb_x0))
  obtain ⟨hi5, eh_⟩ : ∃ n_, n_ = gb_x0 + 1 := ⟨_, rfl⟩
  have EH5 := Aside0.mk eh_
  have HSZ_ := Aside0.mk (show hi5 ≤ w6.heap.size by rw [eh_]; exact blk_lt BK_x0.out)
  have HO_t1_ := Aside0.mk (Kd.S_below HO_t1.out hbw)
  clear HO_t1
  have HO_t1 := HO_t1_
  clear HO_t1_
  have HO_w0__ := Aside0.mk (Kd.R_below HO_w0_.out hbw)
  clear HO_w0_
  have HO_w0_ := HO_w0__
  clear HO_w0__
  have HO_x0_ := Aside0.mk (Kd.S_below HO_x0.out hbw)
  clear HO_x0
  have HO_x0 := HO_x0_
  clear HO_x0_
  have BK_par_ := Aside0.mk (blk_below BK_par.out hbw)
  clear BK_par
  have BK_par := BK_par_
  clear BK_par_
  have HN_ := Aside0.mk (Nat.le_trans HN.out (Below.size hbw))
  clear HN
  have HN := HN_
  clear HN_
  have HB_ := Aside0.mk (below_step HB.out hbw)
  clear HB
  have HB := HB_
  clear HB_
  clear HN
  have HN := HSZ_
  clear HSZ_ hw hbw hgb_ eh_
  (try clear hcz_par)
  have hcz_par : w6.cell? ⟨gb_par, 0, none⟩ = some (.slice A0_0 l0_0.length c0_0) := (blk_cell BK_par.out 0).trans rfl
  (try clear hcz_x0)
  have hcz_x0 : w6.cell? ⟨gb_x0, 0, none⟩ = some (.slice A_x0 x0.length cc_x0) := (blk_cell BK_x0.out 0).trans rfl
  refine (impl_RopeSlice.calls k _ _ x0 a1 a2 g0 u0 _ (Kd.S_reads' HO_x0.out).2.2 (Kd.S_reads' HO_x0.out).2.1 (Utf8Tabs_below HT.out HB.out) e4_.out).mono ?_
  rintro e w7 ⟨v_g0, rfl, ho_g0, hb⟩
  obtain ⟨lo6, hi6, hn6, hl6, hh6, ho2_g0⟩ := Deep.R_new ho_g0 HB.out hb HN.out
  obtain ⟨A_g0, cc_g0, ev_⟩ := Kd.R_slice ho2_g0
  subst ev_
  have HO_t1_ := Aside0.mk (Kd.S_below HO_t1.out hb)
  clear HO_t1
  have HO_t1 := HO_t1_
  clear HO_t1_
  have HO_w0__ := Aside0.mk (Kd.R_below HO_w0_.out hb)
  clear HO_w0_
  have HO_w0_ := HO_w0__
  clear HO_w0__
  have HO_x0_ := Aside0.mk (Kd.S_below HO_x0.out hb)
  clear HO_x0
  have HO_x0 := HO_x0_
  clear HO_x0_
  have BK_par_ := Aside0.mk (blk_below BK_par.out hb)
  clear BK_par
  have BK_par := BK_par_
  clear BK_par_
  have BK_x0_ := Aside0.mk (blk_below BK_x0.out hb)
  clear BK_x0
  have BK_x0 := BK_x0_
  clear BK_x0_
  have HN_ := Aside0.mk (Nat.le_trans HN.out (Below.size hb))
  clear HN
  have HN := HN_
  clear HN_
  have HB_ := Aside0.mk (below_step HB.out hb)
  clear HB
  have HB := HB_
  clear HB_
  have HO_g0 := Aside0.mk ho2_g0
  have HI6 := Aside0.mk (And.intro hn6 hl6)
  clear HN
  have HN := Aside0.mk hh6
  clear ho2_g0 hn6 hl6 hh6 ho_g0
  clear hb
  (try clear hcz_par)
  have hcz_par : w7.cell? ⟨gb_par, 0, none⟩ = some (.slice A0_0 l0_0.length c0_0) := (blk_cell BK_par.out 0).trans rfl
  (try clear hcz_x0)
  have hcz_x0 : w7.cell? ⟨gb_x0, 0, none⟩ = some (.slice A_x0 x0.length cc_x0) := (blk_cell BK_x0.out 0).trans rfl
  go_wp2_with fail
  refine (laws_eqByteS.calls k _ _ g0 _ _ w0_ true _ (Kd.R_reads' HO_g0.out).2.2 (Kd.R_reads' HO_g0.out).2.1 (Kd.R_reads' HO_w0_.out).2.2 (Kd.R_reads' HO_w0_.out).2.1 e5_.out).mono ?_
  rintro e w8 ⟨rfl, hd_⟩
  have hb : Below w7.heap.size w7 w8 := by obtain ⟨n_, hn_⟩ := hd_; rw [hn_]; exact pw_below_drewN (Below.refl _ _) n_
  clear hd_
  have HO_t1_ := Aside0.mk (Kd.S_below HO_t1.out hb)
  clear HO_t1
  have HO_t1 := HO_t1_
  clear HO_t1_
  have HO_w0__ := Aside0.mk (Kd.R_below HO_w0_.out hb)
  clear HO_w0_
  have HO_w0_ := HO_w0__
  clear HO_w0__
  have HO_x0_ := Aside0.mk (Kd.S_below HO_x0.out hb)
  clear HO_x0
  have HO_x0 := HO_x0_
  clear HO_x0_
  have HO_g0_ := Aside0.mk (Kd.R_below HO_g0.out hb)
  clear HO_g0
  have HO_g0 := HO_g0_
  clear HO_g0_
  have BK_par_ := Aside0.mk (blk_below BK_par.out hb)
  clear BK_par
  have BK_par := BK_par_
  clear BK_par_
  have BK_x0_ := Aside0.mk (blk_below BK_x0.out hb)
  clear BK_x0
  have BK_x0 := BK_x0_
  clear BK_x0_
  have HN_ := Aside0.mk (Nat.le_trans HN.out (Below.size hb))
  clear HN
  have HN := HN_
  clear HN_
  have HB_ := Aside0.mk (below_step HB.out hb)
  clear HB
  have HB := HB_
  clear HB_
  clear hb
  (try clear hcz_par)
  have hcz_par : w8.cell? ⟨gb_par, 0, none⟩ = some (.slice A0_0 l0_0.length c0_0) := (blk_cell BK_par.out 0).trans rfl
  (try clear hcz_x0)
  have hcz_x0 : w8.cell? ⟨gb_x0, 0, none⟩ = some (.slice A_x0 x0.length cc_x0) := (blk_cell BK_x0.out 0).trans rfl
  go_wp2_with fail
  (try clear hcz_par)
  (try clear hcz_x0)
  refine start_ (n := 5) (S := fun w' => w'.cell? ⟨gb_par, 0, none⟩ = some (.slice A0_0 l0_0.length c0_0) ∧ w'.cell? ⟨gb_x0, 0, none⟩ = some (.slice A_x0 x0.length cc_x0)) (ds := []) #[false, false, false, false, false] (by kernel_rfl) rfl rfl ⟨(blk_cell BK_par.out 0).trans rfl, (blk_cell BK_x0.out 0).trans rfl⟩ (fun hHeld => ?_)
  have hdr_ : Below w8.heap.size w8 w8.drew := below_drew1 (Below.refl _ _)
  generalize hwd_ : w8.drew = w9 at hdr_ hHeld ⊢
  clear hwd_
  have HO_t1_ := Aside0.mk (Kd.S_below HO_t1.out hdr_)
  clear HO_t1
  have HO_t1 := HO_t1_
  clear HO_t1_
  have HO_w0__ := Aside0.mk (Kd.R_below HO_w0_.out hdr_)
  clear HO_w0_
  have HO_w0_ := HO_w0__
  clear HO_w0__
  have HO_x0_ := Aside0.mk (Kd.S_below HO_x0.out hdr_)
  clear HO_x0
  have HO_x0 := HO_x0_
  clear HO_x0_
  have HO_g0_ := Aside0.mk (Kd.R_below HO_g0.out hdr_)
  clear HO_g0
  have HO_g0 := HO_g0_
  clear HO_g0_
  have BK_par_ := Aside0.mk (blk_below BK_par.out hdr_)
  clear BK_par
  have BK_par := BK_par_
  clear BK_par_
  have BK_x0_ := Aside0.mk (blk_below BK_x0.out hdr_)
  clear BK_x0
  have BK_x0 := BK_x0_
  clear BK_x0_
  have HN_ := Aside0.mk (Nat.le_trans HN.out (Below.size hdr_))
  clear HN
  have HN := HN_
  clear HN_
  have HB_ := Aside0.mk (below_step HB.out hdr_)
  clear HB
  have HB := HB_
  clear HB_
  clear hdr_
  refine take_ (i := 0) (N := some 49) (v := ?_) (a' := ?_) #[true, false, false, false, false] rfl rfl (by kernel_rfl) (fun _ _ _ h => h) (Or.inl ⟨by rfl, ?_⟩) hHeld ?_ ?_
  rotate_left
  · rintro w' ⟨s0, s1⟩
    go_simp
    with_reducible rfl
  rotate_left
  · simp only [Act.put, List.setIfInBounds_toArray, List.set_cons_zero, List.set_cons_succ, i64_w, i32_w]
    rfl
  refine take_ (i := 1) (N := some 50) (v := ?_) (a' := ?_) #[true, true, false, false, false] rfl rfl (by kernel_rfl) (fun _ _ _ h => h) (Or.inl ⟨by rfl, ?_⟩) hHeld ?_ ?_
  rotate_left
  · rintro w' ⟨s0, s1⟩
    go_simp
    with_reducible rfl
  rotate_left
  · simp only [Act.put, List.setIfInBounds_toArray, List.set_cons_zero, List.set_cons_succ, i64_w, i32_w]
    rfl
  refine one_ (i := 2) (N := some 51) #[true, true, true, false, false] rfl rfl (by kernel_rfl) (by decide) (fun K hK => ?_)
  refine goes_ Tryd.func30 (by kernel_rfl) rfl #[.agg #[.slice A0_0 l0_0.length c0_0]] (by rfl) rfl rfl (by (try simp only [List.map_toArray, List.map_cons, List.map_nil]); first | done | rfl) ?_
  refine (laws_toRope.calls k _ _ l0_0 t2 _ (Kd.C_below HR0_0.out HB.out) HC0_0.out e6_.out).mono ?_
  rintro e w10 ⟨v_t2, rfl, ho_t2, hb⟩
  refine ⟨_, rfl, ?_⟩
  obtain ⟨lo7, hi7, hn7, hl7, hh7, ho2_t2⟩ := Deep.S_new ho_t2 HB.out hb HN.out
  obtain ⟨A_t2, cc_t2, ev_⟩ := Kd.S_slice ho2_t2
  subst ev_
  have HO_t1_ := Aside0.mk (Kd.S_below HO_t1.out hb)
  clear HO_t1
  have HO_t1 := HO_t1_
  clear HO_t1_
  have HO_w0__ := Aside0.mk (Kd.R_below HO_w0_.out hb)
  clear HO_w0_
  have HO_w0_ := HO_w0__
  clear HO_w0__
  have HO_x0_ := Aside0.mk (Kd.S_below HO_x0.out hb)
  clear HO_x0
  have HO_x0 := HO_x0_
  clear HO_x0_
  have HO_g0_ := Aside0.mk (Kd.R_below HO_g0.out hb)
  clear HO_g0
  have HO_g0 := HO_g0_
  clear HO_g0_
  have BK_par_ := Aside0.mk (blk_below BK_par.out hb)
  clear BK_par
  have BK_par := BK_par_
  clear BK_par_
  have BK_x0_ := Aside0.mk (blk_below BK_x0.out hb)
  clear BK_x0
  have BK_x0 := BK_x0_
  clear BK_x0_
  have HN_ := Aside0.mk (Nat.le_trans HN.out (Below.size hb))
  clear HN
  have HN := HN_
  clear HN_
  have HB_ := Aside0.mk (below_step HB.out hb)
  clear HB
  have HB := HB_
  clear HB_
  have HO_t2 := Aside0.mk ho2_t2
  have HI7 := Aside0.mk (And.intro hn7 hl7)
  clear HN
  have HN := Aside0.mk hh7
  clear ho2_t2 hn7 hl7 hh7 ho_t2
  clear hb
  refine hK.out _ _ ⟨(blk_cell BK_par.out 0).trans rfl, (blk_cell BK_x0.out 0).trans rfl⟩ (fun hHeld => ?_)
  clear hK K
  refine norm_ (a' := ?_) ?_ ?_
  rotate_left
  · show Act.put _ (some 51) _ = _
    simp only [Act.put, List.setIfInBounds_toArray, List.set_cons_zero, List.set_cons_succ, i64_w, i32_w]
    rfl
  refine one_ (i := 3) (N := some 52) #[true, true, true, true, false] rfl rfl (by kernel_rfl) (by decide) (fun K hK => ?_)
  refine goes_ Tryd.func25 (by kernel_rfl) rfl #[.agg #[.slice A_x0 x0.length cc_x0], .agg #[.slice A_t2 t2.length cc_t2]] (by rfl) rfl rfl (by (try simp only [List.map_toArray, List.map_cons, List.map_nil]); first | done | rfl) ?_
  refine (laws_eqRope.calls k _ _ x0 _ _ t2 true _ (Kd.S_reads' HO_x0.out).2.2 (Kd.S_reads' HO_x0.out).2.1 (Kd.S_reads' HO_t2.out).2.2 (Kd.S_reads' HO_t2.out).2.1 e7_.out).mono ?_
  rintro e w11 ⟨rfl, hb⟩
  refine ⟨_, rfl, ?_⟩
  have HO_t1_ := Aside0.mk (Kd.S_below HO_t1.out hb)
  clear HO_t1
  have HO_t1 := HO_t1_
  clear HO_t1_
  have HO_w0__ := Aside0.mk (Kd.R_below HO_w0_.out hb)
  clear HO_w0_
  have HO_w0_ := HO_w0__
  clear HO_w0__
  have HO_x0_ := Aside0.mk (Kd.S_below HO_x0.out hb)
  clear HO_x0
  have HO_x0 := HO_x0_
  clear HO_x0_
  have HO_g0_ := Aside0.mk (Kd.R_below HO_g0.out hb)
  clear HO_g0
  have HO_g0 := HO_g0_
  clear HO_g0_
  have HO_t2_ := Aside0.mk (Kd.S_below HO_t2.out hb)
  clear HO_t2
  have HO_t2 := HO_t2_
  clear HO_t2_
  have BK_par_ := Aside0.mk (blk_below BK_par.out hb)
  clear BK_par
  have BK_par := BK_par_
  clear BK_par_
  have BK_x0_ := Aside0.mk (blk_below BK_x0.out hb)
  clear BK_x0
  have BK_x0 := BK_x0_
  clear BK_x0_
  have HN_ := Aside0.mk (Nat.le_trans HN.out (Below.size hb))
  clear HN
  have HN := HN_
  clear HN_
  have HB_ := Aside0.mk (below_step HB.out hb)
  clear HB
  have HB := HB_
  clear HB_
  clear hb
  refine hK.out _ _ ⟨(blk_cell BK_par.out 0).trans rfl, (blk_cell BK_x0.out 0).trans rfl⟩ (fun hHeld => ?_)
  clear hK K
  refine norm_ (a' := ?_) ?_ ?_
  rotate_left
  · show Act.put _ (some 52) _ = _
    simp only [Act.put, List.setIfInBounds_toArray, List.set_cons_zero, List.set_cons_succ, i64_w, i32_w]
    rfl
  refine pure_ (i := 4) (N := some 53) (v := ?_) (a' := ?_) #[true, true, true, true, true] rfl rfl (by kernel_rfl) (fun _ _ _ h => h) (Or.inl ⟨by rfl, ?_⟩) ?_ ?_
  rotate_left
  · intro w'
    go_simp
    with_reducible rfl
  rotate_left
  · simp only [Act.put, List.setIfInBounds_toArray, List.set_cons_zero, List.set_cons_succ, i64_w, i32_w]
    rfl
  refine done_ (by kernel_rfl) ?_
  (try clear hcz_par)
  have hcz_par : w11.cell? ⟨gb_par, 0, none⟩ = some (.slice A0_0 l0_0.length c0_0) := (blk_cell BK_par.out 0).trans rfl
  (try clear hcz_x0)
  have hcz_x0 : w11.cell? ⟨gb_x0, 0, none⟩ = some (.slice A_x0 x0.length cc_x0) := (blk_cell BK_x0.out 0).trans rfl
  go_wp2_with fail
  refine (laws_markRope.calls k (Deep.Rng lo4 hi4) _ x0 1 k1 x1 w _ HB.out HO_x0.out e8_.out).mono ?_
  rintro e w12 ⟨rfl, ho, hb, hk⟩
  have hl_ := (Kd.S_reads' ho).1
  rw [hl_] at ho
  rw [hl_]
  (try rw [hl_] at BK_par)
  (try rw [hl_] at BK_x0)
  have HO_t1_ := Aside0.mk (Kd.S_kept HO_t1.out hk (Deep.apart (by have i1 := HI1.out; have i2 := HI2.out; have i3 := HI3.out; have i4 := HI4.out; have i5 := HI5.out; have i6 := HI6.out; have i7 := HI7.out; have j1 := EH1.out; have j5 := EH5.out; omega)))
  clear HO_t1
  have HO_t1 := HO_t1_
  clear HO_t1_
  have HO_w0__ := Aside0.mk (Kd.R_kept HO_w0_.out hk (Deep.apart (by have i1 := HI1.out; have i2 := HI2.out; have i3 := HI3.out; have i4 := HI4.out; have i5 := HI5.out; have i6 := HI6.out; have i7 := HI7.out; have j1 := EH1.out; have j5 := EH5.out; omega)))
  clear HO_w0_
  have HO_w0_ := HO_w0__
  clear HO_w0__
  have HO_g0_ := Aside0.mk (Kd.R_kept HO_g0.out hk (Deep.apart (by have i1 := HI1.out; have i2 := HI2.out; have i3 := HI3.out; have i4 := HI4.out; have i5 := HI5.out; have i6 := HI6.out; have i7 := HI7.out; have j1 := EH1.out; have j5 := EH5.out; omega)))
  clear HO_g0
  have HO_g0 := HO_g0_
  clear HO_g0_
  have HO_t2_ := Aside0.mk (Kd.S_kept HO_t2.out hk (Deep.apart (by have i1 := HI1.out; have i2 := HI2.out; have i3 := HI3.out; have i4 := HI4.out; have i5 := HI5.out; have i6 := HI6.out; have i7 := HI7.out; have j1 := EH1.out; have j5 := EH5.out; omega)))
  clear HO_t2
  have HO_t2 := HO_t2_
  clear HO_t2_
  have BK_par_ := Aside0.mk (Deep.blk_kept BK_par.out hk (by have i1 := HI1.out; have i2 := HI2.out; have i3 := HI3.out; have i4 := HI4.out; have i5 := HI5.out; have i6 := HI6.out; have i7 := HI7.out; have j1 := EH1.out; have j5 := EH5.out; omega))
  clear BK_par
  have BK_par := BK_par_
  clear BK_par_
  have BK_x0_ := Aside0.mk (Deep.blk_kept BK_x0.out hk (by have i1 := HI1.out; have i2 := HI2.out; have i3 := HI3.out; have i4 := HI4.out; have i5 := HI5.out; have i6 := HI6.out; have i7 := HI7.out; have j1 := EH1.out; have j5 := EH5.out; omega))
  clear BK_x0
  have BK_x0 := BK_x0_
  clear BK_x0_
  have HN_ := Aside0.mk (Nat.le_trans HN.out hk.1)
  clear HN
  have HN := HN_
  clear HN_
  have HB_ := Aside0.mk (hb)
  clear HB
  have HB := HB_
  clear HB_
  have HO_x1 := Aside0.mk ho
  clear hl_ ho hb hk HO_x0
  (try clear hcz_par)
  have hcz_par : w12.cell? ⟨gb_par, 0, none⟩ = some (.slice A0_0 l0_0.length c0_0) := (blk_cell BK_par.out 0).trans rfl
  (try clear hcz_x0)
  have hcz_x0 : w12.cell? ⟨gb_x0, 0, none⟩ = some (.slice A_x0 x1.length cc_x0) := (blk_cell BK_x0.out 0).trans rfl
  go_wp2_with fail
  refine (laws_eqByteS.calls k _ _ g0 _ _ w0_ true _ (Kd.R_reads' HO_g0.out).2.2 (Kd.R_reads' HO_g0.out).2.1 (Kd.R_reads' HO_w0_.out).2.2 (Kd.R_reads' HO_w0_.out).2.1 e9_.out).mono ?_
  rintro e w13 ⟨rfl, hd_⟩
  have hb : Below w12.heap.size w12 w13 := by obtain ⟨n_, hn_⟩ := hd_; rw [hn_]; exact pw_below_drewN (Below.refl _ _) n_
  clear hd_
  have HO_t1_ := Aside0.mk (Kd.S_below HO_t1.out hb)
  clear HO_t1
  have HO_t1 := HO_t1_
  clear HO_t1_
  have HO_w0__ := Aside0.mk (Kd.R_below HO_w0_.out hb)
  clear HO_w0_
  have HO_w0_ := HO_w0__
  clear HO_w0__
  have HO_x1_ := Aside0.mk (Kd.S_below HO_x1.out hb)
  clear HO_x1
  have HO_x1 := HO_x1_
  clear HO_x1_
  have HO_g0_ := Aside0.mk (Kd.R_below HO_g0.out hb)
  clear HO_g0
  have HO_g0 := HO_g0_
  clear HO_g0_
  have HO_t2_ := Aside0.mk (Kd.S_below HO_t2.out hb)
  clear HO_t2
  have HO_t2 := HO_t2_
  clear HO_t2_
  have BK_par_ := Aside0.mk (blk_below BK_par.out hb)
  clear BK_par
  have BK_par := BK_par_
  clear BK_par_
  have BK_x0_ := Aside0.mk (blk_below BK_x0.out hb)
  clear BK_x0
  have BK_x0 := BK_x0_
  clear BK_x0_
  have HN_ := Aside0.mk (Nat.le_trans HN.out (Below.size hb))
  clear HN
  have HN := HN_
  clear HN_
  have HB_ := Aside0.mk (below_step HB.out hb)
  clear HB
  have HB := HB_
  clear HB_
  clear hb
  (try clear hcz_par)
  have hcz_par : w13.cell? ⟨gb_par, 0, none⟩ = some (.slice A0_0 l0_0.length c0_0) := (blk_cell BK_par.out 0).trans rfl
  (try clear hcz_x0)
  have hcz_x0 : w13.cell? ⟨gb_x0, 0, none⟩ = some (.slice A_x0 x1.length cc_x0) := (blk_cell BK_x0.out 0).trans rfl
  go_wp2_with fail
  refine (laws_markByteS.calls k (Deep.Rng lo6 hi6) _ g0 1 m1 g1 w _ HB.out HO_g0.out e10_.out).mono ?_
  rintro e w14 ⟨rfl, ho, hb, hk⟩
  have ho := Deep.R_mark rfl ho HO_g0.out
  have hl_ := (Kd.R_reads' ho).1
  rw [hl_] at ho
  rw [hl_]
  (try rw [hl_] at BK_par)
  (try rw [hl_] at BK_x0)
  have HO_t1_ := Aside0.mk (Kd.S_kept HO_t1.out hk (Deep.apart (by have i1 := HI1.out; have i2 := HI2.out; have i3 := HI3.out; have i4 := HI4.out; have i5 := HI5.out; have i6 := HI6.out; have i7 := HI7.out; have j1 := EH1.out; have j5 := EH5.out; omega)))
  clear HO_t1
  have HO_t1 := HO_t1_
  clear HO_t1_
  have HO_w0__ := Aside0.mk (Kd.R_kept HO_w0_.out hk (Deep.apart (by have i1 := HI1.out; have i2 := HI2.out; have i3 := HI3.out; have i4 := HI4.out; have i5 := HI5.out; have i6 := HI6.out; have i7 := HI7.out; have j1 := EH1.out; have j5 := EH5.out; omega)))
  clear HO_w0_
  have HO_w0_ := HO_w0__
  clear HO_w0__
  have HO_x1_ := Aside0.mk (Kd.S_kept HO_x1.out hk (Deep.apart (by have i1 := HI1.out; have i2 := HI2.out; have i3 := HI3.out; have i4 := HI4.out; have i5 := HI5.out; have i6 := HI6.out; have i7 := HI7.out; have j1 := EH1.out; have j5 := EH5.out; omega)))
  clear HO_x1
  have HO_x1 := HO_x1_
  clear HO_x1_
  have HO_t2_ := Aside0.mk (Kd.S_kept HO_t2.out hk (Deep.apart (by have i1 := HI1.out; have i2 := HI2.out; have i3 := HI3.out; have i4 := HI4.out; have i5 := HI5.out; have i6 := HI6.out; have i7 := HI7.out; have j1 := EH1.out; have j5 := EH5.out; omega)))
  clear HO_t2
  have HO_t2 := HO_t2_
  clear HO_t2_
  have BK_par_ := Aside0.mk (Deep.blk_kept BK_par.out hk (by have i1 := HI1.out; have i2 := HI2.out; have i3 := HI3.out; have i4 := HI4.out; have i5 := HI5.out; have i6 := HI6.out; have i7 := HI7.out; have j1 := EH1.out; have j5 := EH5.out; omega))
  clear BK_par
  have BK_par := BK_par_
  clear BK_par_
  have BK_x0_ := Aside0.mk (Deep.blk_kept BK_x0.out hk (by have i1 := HI1.out; have i2 := HI2.out; have i3 := HI3.out; have i4 := HI4.out; have i5 := HI5.out; have i6 := HI6.out; have i7 := HI7.out; have j1 := EH1.out; have j5 := EH5.out; omega))
  clear BK_x0
  have BK_x0 := BK_x0_
  clear BK_x0_
  have HN_ := Aside0.mk (Nat.le_trans HN.out hk.1)
  clear HN
  have HN := HN_
  clear HN_
  have HB_ := Aside0.mk (hb)
  clear HB
  have HB := HB_
  clear HB_
  have HO_g1 := Aside0.mk ho
  clear hl_ ho hb hk HO_g0
  (try clear hcz_par)
  have hcz_par : w14.cell? ⟨gb_par, 0, none⟩ = some (.slice A0_0 l0_0.length c0_0) := (blk_cell BK_par.out 0).trans rfl
  (try clear hcz_x0)
  have hcz_x0 : w14.cell? ⟨gb_x0, 0, none⟩ = some (.slice A_x0 x1.length cc_x0) := (blk_cell BK_x0.out 0).trans rfl
  go_wp2_with fail
  refine (laws_heldByteS.calls k _ _ g1 1 m1 _ (Kd.R_reads' HO_g1.out).2.2 (Kd.R_reads' HO_g1.out).2.1 e11_.out).mono ?_
  rintro e w15 ⟨rfl, hd_⟩
  have hb : Below w14.heap.size w14 w15 := by obtain ⟨n_, hn_⟩ := hd_; rw [hn_]; exact pw_below_drewN (Below.refl _ _) n_
  clear hd_
  have HO_t1_ := Aside0.mk (Kd.S_below HO_t1.out hb)
  clear HO_t1
  have HO_t1 := HO_t1_
  clear HO_t1_
  have HO_w0__ := Aside0.mk (Kd.R_below HO_w0_.out hb)
  clear HO_w0_
  have HO_w0_ := HO_w0__
  clear HO_w0__
  have HO_x1_ := Aside0.mk (Kd.S_below HO_x1.out hb)
  clear HO_x1
  have HO_x1 := HO_x1_
  clear HO_x1_
  have HO_g1_ := Aside0.mk (Kd.R_below HO_g1.out hb)
  clear HO_g1
  have HO_g1 := HO_g1_
  clear HO_g1_
  have HO_t2_ := Aside0.mk (Kd.S_below HO_t2.out hb)
  clear HO_t2
  have HO_t2 := HO_t2_
  clear HO_t2_
  have BK_par_ := Aside0.mk (blk_below BK_par.out hb)
  clear BK_par
  have BK_par := BK_par_
  clear BK_par_
  have BK_x0_ := Aside0.mk (blk_below BK_x0.out hb)
  clear BK_x0
  have BK_x0 := BK_x0_
  clear BK_x0_
  have HN_ := Aside0.mk (Nat.le_trans HN.out (Below.size hb))
  clear HN
  have HN := HN_
  clear HN_
  have HB_ := Aside0.mk (below_step HB.out hb)
  clear HB
  have HB := HB_
  clear HB_
  clear hb
  (try clear hcz_par)
  have hcz_par : w15.cell? ⟨gb_par, 0, none⟩ = some (.slice A0_0 l0_0.length c0_0) := (blk_cell BK_par.out 0).trans rfl
  (try clear hcz_x0)
  have hcz_x0 : w15.cell? ⟨gb_x0, 0, none⟩ = some (.slice A_x0 x1.length cc_x0) := (blk_cell BK_x0.out 0).trans rfl
  go_wp2_with fail
  refine (laws_toRope.calls k _ _ l0_0 t3 _ (Kd.C_below HR0_0.out HB.out) HC0_0.out e12_.out).mono ?_
  rintro e w16 ⟨v_t3, rfl, ho_t3, hb⟩
  obtain ⟨lo8, hi8, hn8, hl8, hh8, ho2_t3⟩ := Deep.S_new ho_t3 HB.out hb HN.out
  obtain ⟨A_t3, cc_t3, ev_⟩ := Kd.S_slice ho2_t3
  subst ev_
  have HO_t1_ := Aside0.mk (Kd.S_below HO_t1.out hb)
  clear HO_t1
  have HO_t1 := HO_t1_
  clear HO_t1_
  have HO_w0__ := Aside0.mk (Kd.R_below HO_w0_.out hb)
  clear HO_w0_
  have HO_w0_ := HO_w0__
  clear HO_w0__
  have HO_x1_ := Aside0.mk (Kd.S_below HO_x1.out hb)
  clear HO_x1
  have HO_x1 := HO_x1_
  clear HO_x1_
  have HO_g1_ := Aside0.mk (Kd.R_below HO_g1.out hb)
  clear HO_g1
  have HO_g1 := HO_g1_
  clear HO_g1_
  have HO_t2_ := Aside0.mk (Kd.S_below HO_t2.out hb)
  clear HO_t2
  have HO_t2 := HO_t2_
  clear HO_t2_
  have BK_par_ := Aside0.mk (blk_below BK_par.out hb)
  clear BK_par
  have BK_par := BK_par_
  clear BK_par_
  have BK_x0_ := Aside0.mk (blk_below BK_x0.out hb)
  clear BK_x0
  have BK_x0 := BK_x0_
  clear BK_x0_
  have HN_ := Aside0.mk (Nat.le_trans HN.out (Below.size hb))
  clear HN
  have HN := HN_
  clear HN_
  have HB_ := Aside0.mk (below_step HB.out hb)
  clear HB
  have HB := HB_
  clear HB_
  have HO_t3 := Aside0.mk ho2_t3
  have HI8 := Aside0.mk (And.intro hn8 hl8)
  clear HN
  have HN := Aside0.mk hh8
  clear ho2_t3 hn8 hl8 hh8 ho_t3
  clear hb
  (try clear hcz_par)
  have hcz_par : w16.cell? ⟨gb_par, 0, none⟩ = some (.slice A0_0 l0_0.length c0_0) := (blk_cell BK_par.out 0).trans rfl
  (try clear hcz_x0)
  have hcz_x0 : w16.cell? ⟨gb_x0, 0, none⟩ = some (.slice A_x0 x1.length cc_x0) := (blk_cell BK_x0.out 0).trans rfl
  go_wp2_with fail
  refine (impl_RopeSlice.calls k _ _ t3 a1 a2 h0 u0 _ (Kd.S_reads' HO_t3.out).2.2 (Kd.S_reads' HO_t3.out).2.1 (Utf8Tabs_below HT.out HB.out) e13_.out).mono ?_
  rintro e w17 ⟨v_h0, rfl, ho_h0, hb⟩
  obtain ⟨lo9, hi9, hn9, hl9, hh9, ho2_h0⟩ := Deep.R_new ho_h0 HB.out hb HN.out
  obtain ⟨A_h0, cc_h0, ev_⟩ := Kd.R_slice ho2_h0
  subst ev_
  have HO_t1_ := Aside0.mk (Kd.S_below HO_t1.out hb)
  clear HO_t1
  have HO_t1 := HO_t1_
  clear HO_t1_
  have HO_w0__ := Aside0.mk (Kd.R_below HO_w0_.out hb)
  clear HO_w0_
  have HO_w0_ := HO_w0__
  clear HO_w0__
  have HO_x1_ := Aside0.mk (Kd.S_below HO_x1.out hb)
  clear HO_x1
  have HO_x1 := HO_x1_
  clear HO_x1_
  have HO_g1_ := Aside0.mk (Kd.R_below HO_g1.out hb)
  clear HO_g1
  have HO_g1 := HO_g1_
  clear HO_g1_
  have HO_t2_ := Aside0.mk (Kd.S_below HO_t2.out hb)
  clear HO_t2
  have HO_t2 := HO_t2_
  clear HO_t2_
  have HO_t3_ := Aside0.mk (Kd.S_below HO_t3.out hb)
  clear HO_t3
  have HO_t3 := HO_t3_
  clear HO_t3_
  have BK_par_ := Aside0.mk (blk_below BK_par.out hb)
  clear BK_par
  have BK_par := BK_par_
  clear BK_par_
  have BK_x0_ := Aside0.mk (blk_below BK_x0.out hb)
  clear BK_x0
  have BK_x0 := BK_x0_
  clear BK_x0_
  have HN_ := Aside0.mk (Nat.le_trans HN.out (Below.size hb))
  clear HN
  have HN := HN_
  clear HN_
  have HB_ := Aside0.mk (below_step HB.out hb)
  clear HB
  have HB := HB_
  clear HB_
  have HO_h0 := Aside0.mk ho2_h0
  have HI9 := Aside0.mk (And.intro hn9 hl9)
  clear HN
  have HN := Aside0.mk hh9
  clear ho2_h0 hn9 hl9 hh9 ho_h0
  clear hb
  (try clear hcz_par)
  have hcz_par : w17.cell? ⟨gb_par, 0, none⟩ = some (.slice A0_0 l0_0.length c0_0) := (blk_cell BK_par.out 0).trans rfl
  (try clear hcz_x0)
  have hcz_x0 : w17.cell? ⟨gb_x0, 0, none⟩ = some (.slice A_x0 x1.length cc_x0) := (blk_cell BK_x0.out 0).trans rfl
  go_wp2_with fail
  refine (laws_eqByteS.calls k _ _ h0 _ _ w0_ true _ (Kd.R_reads' HO_h0.out).2.2 (Kd.R_reads' HO_h0.out).2.1 (Kd.R_reads' HO_w0_.out).2.2 (Kd.R_reads' HO_w0_.out).2.1 e14_.out).mono ?_
  rintro e w18 ⟨rfl, hd_⟩
  have hb : Below w17.heap.size w17 w18 := by obtain ⟨n_, hn_⟩ := hd_; rw [hn_]; exact pw_below_drewN (Below.refl _ _) n_
  clear hd_
  have HO_t1_ := Aside0.mk (Kd.S_below HO_t1.out hb)
  clear HO_t1
  have HO_t1 := HO_t1_
  clear HO_t1_
  have HO_w0__ := Aside0.mk (Kd.R_below HO_w0_.out hb)
  clear HO_w0_
  have HO_w0_ := HO_w0__
  clear HO_w0__
  have HO_x1_ := Aside0.mk (Kd.S_below HO_x1.out hb)
  clear HO_x1
  have HO_x1 := HO_x1_
  clear HO_x1_
  have HO_g1_ := Aside0.mk (Kd.R_below HO_g1.out hb)
  clear HO_g1
  have HO_g1 := HO_g1_
  clear HO_g1_
  have HO_t2_ := Aside0.mk (Kd.S_below HO_t2.out hb)
  clear HO_t2
  have HO_t2 := HO_t2_
  clear HO_t2_
  have HO_t3_ := Aside0.mk (Kd.S_below HO_t3.out hb)
  clear HO_t3
  have HO_t3 := HO_t3_
  clear HO_t3_
  have HO_h0_ := Aside0.mk (Kd.R_below HO_h0.out hb)
  clear HO_h0
  have HO_h0 := HO_h0_
  clear HO_h0_
  have BK_par_ := Aside0.mk (blk_below BK_par.out hb)
  clear BK_par
  have BK_par := BK_par_
  clear BK_par_
  have BK_x0_ := Aside0.mk (blk_below BK_x0.out hb)
  clear BK_x0
  have BK_x0 := BK_x0_
  clear BK_x0_
  have HN_ := Aside0.mk (Nat.le_trans HN.out (Below.size hb))
  clear HN
  have HN := HN_
  clear HN_
  have HB_ := Aside0.mk (below_step HB.out hb)
  clear HB
  have HB := HB_
  clear HB_
  clear hb
  (try clear hcz_par)
  have hcz_par : w18.cell? ⟨gb_par, 0, none⟩ = some (.slice A0_0 l0_0.length c0_0) := (blk_cell BK_par.out 0).trans rfl
  (try clear hcz_x0)
  have hcz_x0 : w18.cell? ⟨gb_x0, 0, none⟩ = some (.slice A_x0 x1.length cc_x0) := (blk_cell BK_x0.out 0).trans rfl
  go_wp2_with fail
  refine (laws_heldByteS.calls k _ _ g1 1 m1 _ (Kd.R_reads' HO_g1.out).2.2 (Kd.R_reads' HO_g1.out).2.1 e15_.out).mono ?_
  rintro e w19 ⟨rfl, hd_⟩
  have hb : Below w18.heap.size w18 w19 := by obtain ⟨n_, hn_⟩ := hd_; rw [hn_]; exact pw_below_drewN (Below.refl _ _) n_
  clear hd_
  have HO_t1_ := Aside0.mk (Kd.S_below HO_t1.out hb)
  clear HO_t1
  have HO_t1 := HO_t1_
  clear HO_t1_
  have HO_w0__ := Aside0.mk (Kd.R_below HO_w0_.out hb)
  clear HO_w0_
  have HO_w0_ := HO_w0__
  clear HO_w0__
  have HO_x1_ := Aside0.mk (Kd.S_below HO_x1.out hb)
  clear HO_x1
  have HO_x1 := HO_x1_
  clear HO_x1_
  have HO_g1_ := Aside0.mk (Kd.R_below HO_g1.out hb)
  clear HO_g1
  have HO_g1 := HO_g1_
  clear HO_g1_
  have HO_t2_ := Aside0.mk (Kd.S_below HO_t2.out hb)
  clear HO_t2
  have HO_t2 := HO_t2_
  clear HO_t2_
  have HO_t3_ := Aside0.mk (Kd.S_below HO_t3.out hb)
  clear HO_t3
  have HO_t3 := HO_t3_
  clear HO_t3_
  have HO_h0_ := Aside0.mk (Kd.R_below HO_h0.out hb)
  clear HO_h0
  have HO_h0 := HO_h0_
  clear HO_h0_
  have BK_par_ := Aside0.mk (blk_below BK_par.out hb)
  clear BK_par
  have BK_par := BK_par_
  clear BK_par_
  have BK_x0_ := Aside0.mk (blk_below BK_x0.out hb)
  clear BK_x0
  have BK_x0 := BK_x0_
  clear BK_x0_
  have HN_ := Aside0.mk (Nat.le_trans HN.out (Below.size hb))
  clear HN
  have HN := HN_
  clear HN_
  have HB_ := Aside0.mk (below_step HB.out hb)
  clear HB
  have HB := HB_
  clear HB_
  clear hb
  (try clear hcz_par)
  have hcz_par : w19.cell? ⟨gb_par, 0, none⟩ = some (.slice A0_0 l0_0.length c0_0) := (blk_cell BK_par.out 0).trans rfl
  (try clear hcz_x0)
  have hcz_x0 : w19.cell? ⟨gb_x0, 0, none⟩ = some (.slice A_x0 x1.length cc_x0) := (blk_cell BK_x0.out 0).trans rfl
  go_wp2
  go_ret
  exact ⟨rfl, by repeat (first | exact HB.out | apply below_alloc | apply pw_below_drewN | apply below_drew1 | refine below_set ?_ HB.out.size)⟩

end Go.Proofs.YtedmjdjodpgdlaaDoor.PFnExactRopeSlice
