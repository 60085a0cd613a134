-- Written by wip/xprint.py (the session's program over the kit's printer) for the claim of FnExactFramesOf; Lean checks it.
import Derived.Test.YtjgbfhdhffhimaaPFnExactFramesOfx0
import Derived.Test.YtjgbfhdhffhimaaPFnExactFramesOfx1
import Derived.Test.YtjgbfhdhffhimaaPFnExactFramesOfx2
import Derived.Test.YtjgbfhdhffhimaaPFnExactFramesOfx3
namespace Go.Proofs.Ytjgbfhdhffhimaa.PFnExactFramesOf
open Go.RowKit Go.Proofs.YtjgbfhdhffhimaaW.PrintWords Go.Proofs.YtjgbfhdhffhimaaW.PrintLast Go.Proofs.YtjgbfhdhffhimaaW.PrintMore
attribute [local go_sem] max2_int min2_int max_two min_two max_three min_three max_four min_four   -- for this text's walks alone
set_option linter.unusedVariables false
set_option linter.unusedSimpArgs false


/-! ### laws_FnExactFramesOf: function 5 -/
def laws_FnExactFramesOf.f (k : Nat) (l0 : List S56) : Option Bool := (laws_szPieceS.f k l0 1048576).bind fun (r0_ : Int) => if r0_ < 0 then some true else ((laws_toPieceS.f k l0).bind fun (r1_ : (List S49)) => (spec_FramesOf.f k r1_).bind fun (r2_ : (List Int)) => (laws_toPieceS.f k l0).bind fun (r3_ : (List S49)) => (impl_FramesOf.f k r3_).bind fun (r4_ : (List Int)) => (laws_eqByteS.f k r4_ r2_).bind fun (r5_ : Bool) => if r5_ = true then ((laws_toPieceS.f k l0).bind fun (r6_ : (List S49)) => (laws_eqPieceS.f k r3_ r6_).bind fun (r7_ : Bool) => if r7_ = true then ((laws_markPieceS.f k r3_ 1).bind fun (r8_ : Int × (List S49)) => if r8_.1 < 0 then none else ((laws_eqByteS.f k r4_ r2_).bind fun (r9_ : Bool) => if r9_ = true then ((laws_markByteS.f k r4_ 1).bind fun (r10_ : Int × (List Int)) => (laws_heldByteS.f k r10_.2 1).bind fun (r11_ : Int) => if r11_ < 0 then none else (if r11_ = r10_.1 then ((laws_toPieceS.f k l0).bind fun (r12_ : (List S49)) => (impl_FramesOf.f k r12_).bind fun (r13_ : (List Int)) => (laws_eqByteS.f k r13_ r2_).bind fun (r14_ : Bool) => if r14_ = true then ((laws_heldByteS.f k r10_.2 1).bind fun (r15_ : Int) => if r15_ < 0 then none else (if r15_ = r10_.1 then (some true) else none)) else none) else none)) else none)) else none) else none)
set_option maxHeartbeats 16000000 in
set_option maxRecDepth 1000000 in
/-- The law's own walk: its rows lie in ranges of blocks that do not meet. -/
theorem laws_FnExactFramesOf.calls (k : Nat) (A0 : Option Addr) (c0 : Nat) (l0 : List S56) (r : Bool) (w : World) (hr0 : Kd.C k56 w A0 l0.length l0) (hc0 : l0.length ≤ c0) (ht_ : r = true) (h : laws_FnExactFramesOf.f k l0 = some r) :
    Calls Try.prog 5 #[.slice A0 l0.length c0] w fun e w' => e = .returned (.bool r) ∧ Below w.heap.size w w' := by
  have HR0 := Aside0.mk hr0
  have HC0 := Aside0.mk hc0
  clear hr0 hc0
  subst ht_
  have HB := Aside0.mk (Below.refl w.heap.size w)
  have HN := Aside0.mk (Nat.le_refl w.heap.size)
  unfold laws_FnExactFramesOf.f at h
  replace h := Option.bind_eq_some_iff.1 h
  obtain ⟨left, e0_, h⟩ := h
  (try dsimp only at h)
  by_cases z_e : left < 0
  case pos =>
    clear h
    have zb_e : decide (left < 0) = true := decide_eq_true z_e
    go_enter Try.func5, Try.ntmps5
    go_wp2_with fail
    refine (laws_szPieceS.calls k _ _ l0 1048576 left _ HR0.out HC0.out e0_).mono ?_
    rintro e w1 ⟨rfl, hb⟩
    have HBE := Aside0.mk hb
    clear hb
    go_wp2
    go_ret
    exact ⟨rfl, HBE.out⟩
  rw [if_neg z_e] at h
  have zb_e : decide (left < 0) = false := decide_eq_false z_e
  clear z_e
  replace h := Option.bind_eq_some_iff.1 h
  obtain ⟨t1, e1_, h⟩ := h
  (try dsimp only at h)
  replace h := Option.bind_eq_some_iff.1 h
  obtain ⟨w0_, e2_, h⟩ := h
  (try dsimp only at h)
  replace h := Option.bind_eq_some_iff.1 h
  obtain ⟨x0, e3_, h⟩ := h
  (try dsimp only at h)
  replace h := Option.bind_eq_some_iff.1 h
  obtain ⟨g0, e4_, h⟩ := h
  (try dsimp only at h)
  replace h := Option.bind_eq_some_iff.1 h
  obtain ⟨b1, e5_, h⟩ := h
  (try dsimp only at h)
  have z_ : b1 = true := by cases b1 with | true => rfl | false => exact absurd h (by simp)
  subst z_
  rw [if_pos rfl] at h
  replace h := Option.bind_eq_some_iff.1 h
  obtain ⟨t2, e6_, h⟩ := h
  (try dsimp only at h)
  replace h := Option.bind_eq_some_iff.1 h
  obtain ⟨b2, e7_, h⟩ := h
  (try dsimp only at h)
  have z_ : b2 = true := by cases b2 with | true => rfl | false => exact absurd h (by simp)
  subst z_
  rw [if_pos rfl] at h
  replace h := Option.bind_eq_some_iff.1 h
  obtain ⟨⟨k1, x1⟩, e8_, h⟩ := h
  (try dsimp only at h)
  by_cases z_k1 : k1 < 0
  case pos => rw [if_pos z_k1] at h; cases h
  rw [if_neg z_k1] at h
  have zb_k1 : decide (k1 < 0) = false := decide_eq_false z_k1
  clear z_k1
  replace h := Option.bind_eq_some_iff.1 h
  obtain ⟨b3, e9_, h⟩ := h
  (try dsimp only at h)
  have z_ : b3 = true := by cases b3 with | true => rfl | false => exact absurd h (by simp)
  subst z_
  rw [if_pos rfl] at h
  replace h := Option.bind_eq_some_iff.1 h
  obtain ⟨⟨m1, g1⟩, e10_, h⟩ := h
  (try dsimp only at h)
  replace h := Option.bind_eq_some_iff.1 h
  obtain ⟨q1, e11_, h⟩ := h
  (try dsimp only at h)
  by_cases z_q1 : q1 < 0
  case pos => rw [if_pos z_q1] at h; cases h
  rw [if_neg z_q1] at h
  have zb_q1 : decide (q1 < 0) = false := decide_eq_false z_q1
  clear z_q1
  by_cases z_ : q1 = m1
  case neg => rw [if_neg z_] at h; cases h
  rw [if_pos z_] at h
  replace z_ := z_.symm
  subst z_
  replace h := Option.bind_eq_some_iff.1 h
  obtain ⟨t3, e12_, h⟩ := h
  (try dsimp only at h)
  replace h := Option.bind_eq_some_iff.1 h
  obtain ⟨h0, e13_, h⟩ := h
  (try dsimp only at h)
  replace h := Option.bind_eq_some_iff.1 h
  obtain ⟨b4, e14_, h⟩ := h
  (try dsimp only at h)
  have z_ : b4 = true := by cases b4 with | true => rfl | false => exact absurd h (by simp)
  subst z_
  rw [if_pos rfl] at h
  replace h := Option.bind_eq_some_iff.1 h
  obtain ⟨q2, e15_, h⟩ := h
  (try dsimp only at h)
  by_cases z_q2 : q2 < 0
  case pos => rw [if_pos z_q2] at h; cases h
  rw [if_neg z_q2] at h
  have zb_q2 : decide (q2 < 0) = false := decide_eq_false z_q2
  clear z_q2
  by_cases z_ : q2 = m1
  case neg => rw [if_neg z_] at h; cases h
  rw [if_pos z_] at h
  replace z_ := z_.symm
  subst z_
  clear h
  replace e0_ := Aside0.mk e0_
  replace e1_ := Aside0.mk e1_
  replace e2_ := Aside0.mk e2_
  replace e3_ := Aside0.mk e3_
  replace e4_ := Aside0.mk e4_
  replace e5_ := Aside0.mk e5_
  replace e6_ := Aside0.mk e6_
  replace e7_ := Aside0.mk e7_
  replace e8_ := Aside0.mk e8_
  replace e9_ := Aside0.mk e9_
  replace e10_ := Aside0.mk e10_
  replace e11_ := Aside0.mk e11_
  replace e12_ := Aside0.mk e12_
  replace e13_ := Aside0.mk e13_
  replace e14_ := Aside0.mk e14_
  replace e15_ := Aside0.mk e15_
  go_enter Try.func5, Try.ntmps5
  go_wp2_with fail
  refine (laws_szPieceS.calls k _ _ l0 1048576 left _ (Kd.C_below HR0.out HB.out) HC0.out e0_.out).mono ?_
  rintro e w1 ⟨rfl, hb⟩
  have HN_ := Aside0.mk (Nat.le_trans HN.out (Below.size hb))
  clear HN
  have HN := HN_
  clear HN_
  have HB_ := Aside0.mk (below_step HB.out hb)
  clear HB
  have HB := HB_
  clear HB_
  clear hb
  go_wp2_with fail
  refine (laws_toPieceS.calls k _ _ l0 t1 _ (Kd.C_below HR0.out HB.out) HC0.out e1_.out).mono ?_
  rintro e w2 ⟨v_t1, rfl, ho_t1, hb⟩
  obtain ⟨lo1, hi1, hn1, hl1, hh1, ho2_t1⟩ := Deep.S_new ho_t1 HB.out hb HN.out
  obtain ⟨A_t1, cc_t1, ev_⟩ := Kd.S_slice ho2_t1
  subst ev_
  have HN_ := Aside0.mk (Nat.le_trans HN.out (Below.size hb))
  clear HN
  have HN := HN_
  clear HN_
  have HB_ := Aside0.mk (below_step HB.out hb)
  clear HB
  have HB := HB_
  clear HB_
  have HO_t1 := Aside0.mk ho2_t1
  have HI1 := Aside0.mk (And.intro hn1 hl1)
  clear HN
  have HN := Aside0.mk hh1
  clear ho2_t1 hn1 hl1 hh1 ho_t1
  clear hb
  go_wp2_with fail
  refine (spec_FramesOf.calls k _ _ t1 w0_ _ (Kd.S_reads' HO_t1.out).2.2 (Kd.S_reads' HO_t1.out).2.1 e2_.out).mono ?_
  rintro e w3 ⟨v_w0_, rfl, ho_w0_, hb⟩
  obtain ⟨lo2, hi2, hn2, hl2, hh2, ho2_w0_⟩ := Deep.R_new ho_w0_ HB.out hb HN.out
  obtain ⟨A_w0_, cc_w0_, ev_⟩ := Kd.R_slice ho2_w0_
  subst ev_
  have HO_t1_ := Aside0.mk (Kd.S_below HO_t1.out hb)
  clear HO_t1
  have HO_t1 := HO_t1_
  clear HO_t1_
  have HN_ := Aside0.mk (Nat.le_trans HN.out (Below.size hb))
  clear HN
  have HN := HN_
  clear HN_
  have HB_ := Aside0.mk (below_step HB.out hb)
  clear HB
  have HB := HB_
  clear HB_
  have HO_w0_ := Aside0.mk ho2_w0_
  have HI2 := Aside0.mk (And.intro hn2 hl2)
  clear HN
  have HN := Aside0.mk hh2
  clear ho2_w0_ hn2 hl2 hh2 ho_w0_
  clear hb
  go_wp2_with fail
  refine (laws_toPieceS.calls k _ _ l0 x0 _ (Kd.C_below HR0.out HB.out) HC0.out e3_.out).mono ?_
  rintro e w4 ⟨v_x0, rfl, ho_x0, hb⟩
  obtain ⟨lo3, hi3, hn3, hl3, hh3, ho2_x0⟩ := Deep.S_new ho_x0 HB.out hb HN.out
  obtain ⟨A_x0, cc_x0, ev_⟩ := Kd.S_slice ho2_x0
  subst ev_
  have HO_t1_ := Aside0.mk (Kd.S_below HO_t1.out hb)
  clear HO_t1
  have HO_t1 := HO_t1_
  clear HO_t1_
  have HO_w0__ := Aside0.mk (Kd.R_below HO_w0_.out hb)
  clear HO_w0_
  have HO_w0_ := HO_w0__
  clear HO_w0__
  have HN_ := Aside0.mk (Nat.le_trans HN.out (Below.size hb))
  clear HN
  have HN := HN_
  clear HN_
  have HB_ := Aside0.mk (below_step HB.out hb)
  clear HB
  have HB := HB_
  clear HB_
  have HO_x0 := Aside0.mk ho2_x0
  have HI3 := Aside0.mk (And.intro hn3 hl3)
  clear HN
  have HN := Aside0.mk hh3
  clear ho2_x0 hn3 hl3 hh3 ho_x0
  clear hb
  go_wp2_with fail
  refine (impl_FramesOf.calls k _ _ _ x0 g0 _ (Kd.S_V HO_x0.out) e4_.out).mono ?_
  rintro e w5 ⟨v_g0, rfl, ho_g0, hb⟩
  replace ho_g0 := Kd.R_mono ho_g0 (ok' := fun _ => True) (fun _ _ => trivial)
  obtain ⟨lo4, hi4, hn4, hl4, hh4, ho2_g0⟩ := Deep.R_new ho_g0 HB.out hb HN.out
  obtain ⟨A_g0, cc_g0, ev_⟩ := Kd.R_slice ho2_g0
  subst ev_
  have HO_t1_ := Aside0.mk (Kd.S_below HO_t1.out hb)
  clear HO_t1
  have HO_t1 := HO_t1_
  clear HO_t1_
  have HO_w0__ := Aside0.mk (Kd.R_below HO_w0_.out hb)
  clear HO_w0_
  have HO_w0_ := HO_w0__
  clear HO_w0__
  have HO_x0_ := Aside0.mk (Kd.S_below HO_x0.out hb)
  clear HO_x0
  have HO_x0 := HO_x0_
  clear HO_x0_
  have HN_ := Aside0.mk (Nat.le_trans HN.out (Below.size hb))
  clear HN
  have HN := HN_
  clear HN_
  have HB_ := Aside0.mk (below_step HB.out hb)
  clear HB
  have HB := HB_
  clear HB_
  have HO_g0 := Aside0.mk ho2_g0
  have HI4 := Aside0.mk (And.intro hn4 hl4)
  clear HN
  have HN := Aside0.mk hh4
  clear ho2_g0 hn4 hl4 hh4 ho_g0
  clear hb
  go_wp2_with fail
  refine (laws_eqByteS.calls k _ _ g0 _ _ w0_ true _ (Kd.R_reads' HO_g0.out).2.2 (Kd.R_reads' HO_g0.out).2.1 (Kd.R_reads' HO_w0_.out).2.2 (Kd.R_reads' HO_w0_.out).2.1 e5_.out).mono ?_
  rintro e w6 ⟨rfl, hd_⟩
  have hb : Below w5.heap.size w5 w6 := by obtain ⟨n_, hn_⟩ := hd_; rw [hn_]; exact pw_below_drewN (Below.refl _ _) n_
  clear hd_
  have HO_t1_ := Aside0.mk (Kd.S_below HO_t1.out hb)
  clear HO_t1
  have HO_t1 := HO_t1_
  clear HO_t1_
  have HO_w0__ := Aside0.mk (Kd.R_below HO_w0_.out hb)
  clear HO_w0_
  have HO_w0_ := HO_w0__
  clear HO_w0__
  have HO_x0_ := Aside0.mk (Kd.S_below HO_x0.out hb)
  clear HO_x0
  have HO_x0 := HO_x0_
  clear HO_x0_
  have HO_g0_ := Aside0.mk (Kd.R_below HO_g0.out hb)
  clear HO_g0
  have HO_g0 := HO_g0_
  clear HO_g0_
  have HN_ := Aside0.mk (Nat.le_trans HN.out (Below.size hb))
  clear HN
  have HN := HN_
  clear HN_
  have HB_ := Aside0.mk (below_step HB.out hb)
  clear HB
  have HB := HB_
  clear HB_
  clear hb
  go_wp2_with fail
  refine (laws_toPieceS.calls k _ _ l0 t2 _ (Kd.C_below HR0.out HB.out) HC0.out e6_.out).mono ?_
  rintro e w7 ⟨v_t2, rfl, ho_t2, hb⟩
  obtain ⟨lo5, hi5, hn5, hl5, hh5, ho2_t2⟩ := Deep.S_new ho_t2 HB.out hb HN.out
  obtain ⟨A_t2, cc_t2, ev_⟩ := Kd.S_slice ho2_t2
  subst ev_
  have HO_t1_ := Aside0.mk (Kd.S_below HO_t1.out hb)
  clear HO_t1
  have HO_t1 := HO_t1_
  clear HO_t1_
  have HO_w0__ := Aside0.mk (Kd.R_below HO_w0_.out hb)
  clear HO_w0_
  have HO_w0_ := HO_w0__
  clear HO_w0__
  have HO_x0_ := Aside0.mk (Kd.S_below HO_x0.out hb)
  clear HO_x0
  have HO_x0 := HO_x0_
  clear HO_x0_
  have HO_g0_ := Aside0.mk (Kd.R_below HO_g0.out hb)
  clear HO_g0
  have HO_g0 := HO_g0_
  clear HO_g0_
  have HN_ := Aside0.mk (Nat.le_trans HN.out (Below.size hb))
  clear HN
  have HN := HN_
  clear HN_
  have HB_ := Aside0.mk (below_step HB.out hb)
  clear HB
  have HB := HB_
  clear HB_
  have HO_t2 := Aside0.mk ho2_t2
  have HI5 := Aside0.mk (And.intro hn5 hl5)
  clear HN
  have HN := Aside0.mk hh5
  clear ho2_t2 hn5 hl5 hh5 ho_t2
  clear hb
  go_wp2_with fail
  refine (laws_eqPieceS.calls k _ _ x0 _ _ t2 true _ (Kd.S_reads' HO_x0.out).2.2 (Kd.S_reads' HO_x0.out).2.1 (Kd.S_reads' HO_t2.out).2.2 (Kd.S_reads' HO_t2.out).2.1 e7_.out).mono ?_
  rintro e w8 ⟨rfl, hb⟩
  have HO_t1_ := Aside0.mk (Kd.S_below HO_t1.out hb)
  clear HO_t1
  have HO_t1 := HO_t1_
  clear HO_t1_
  have HO_w0__ := Aside0.mk (Kd.R_below HO_w0_.out hb)
  clear HO_w0_
  have HO_w0_ := HO_w0__
  clear HO_w0__
  have HO_x0_ := Aside0.mk (Kd.S_below HO_x0.out hb)
  clear HO_x0
  have HO_x0 := HO_x0_
  clear HO_x0_
  have HO_g0_ := Aside0.mk (Kd.R_below HO_g0.out hb)
  clear HO_g0
  have HO_g0 := HO_g0_
  clear HO_g0_
  have HO_t2_ := Aside0.mk (Kd.S_below HO_t2.out hb)
  clear HO_t2
  have HO_t2 := HO_t2_
  clear HO_t2_
  have HN_ := Aside0.mk (Nat.le_trans HN.out (Below.size hb))
  clear HN
  have HN := HN_
  clear HN_
  have HB_ := Aside0.mk (below_step HB.out hb)
  clear HB
  have HB := HB_
  clear HB_
  clear hb
  go_wp2_with fail
  refine (laws_markPieceS.calls k (Deep.Rng lo3 hi3) _ x0 1 k1 x1 w _ HB.out HO_x0.out e8_.out).mono ?_
  rintro e w9 ⟨rfl, ho, hb, hk⟩
  have hl_ := (Kd.S_reads' ho).1
  rw [hl_] at ho
  rw [hl_]
  have HO_t1_ := Aside0.mk (Kd.S_kept HO_t1.out hk (Deep.apart (by have i1 := HI1.out; have i2 := HI2.out; have i3 := HI3.out; have i4 := HI4.out; have i5 := HI5.out; omega)))
  clear HO_t1
  have HO_t1 := HO_t1_
  clear HO_t1_
  have HO_w0__ := Aside0.mk (Kd.R_kept HO_w0_.out hk (Deep.apart (by have i1 := HI1.out; have i2 := HI2.out; have i3 := HI3.out; have i4 := HI4.out; have i5 := HI5.out; omega)))
  clear HO_w0_
  have HO_w0_ := HO_w0__
  clear HO_w0__
  have HO_g0_ := Aside0.mk (Kd.R_kept HO_g0.out hk (Deep.apart (by have i1 := HI1.out; have i2 := HI2.out; have i3 := HI3.out; have i4 := HI4.out; have i5 := HI5.out; omega)))
  clear HO_g0
  have HO_g0 := HO_g0_
  clear HO_g0_
  have HO_t2_ := Aside0.mk (Kd.S_kept HO_t2.out hk (Deep.apart (by have i1 := HI1.out; have i2 := HI2.out; have i3 := HI3.out; have i4 := HI4.out; have i5 := HI5.out; omega)))
  clear HO_t2
  have HO_t2 := HO_t2_
  clear HO_t2_
  have HN_ := Aside0.mk (Nat.le_trans HN.out hk.1)
  clear HN
  have HN := HN_
  clear HN_
  have HB_ := Aside0.mk (hb)
  clear HB
  have HB := HB_
  clear HB_
  have HO_x1 := Aside0.mk ho
  clear hl_ ho hb hk HO_x0
  go_wp2_with fail
  refine (laws_eqByteS.calls k _ _ g0 _ _ w0_ true _ (Kd.R_reads' HO_g0.out).2.2 (Kd.R_reads' HO_g0.out).2.1 (Kd.R_reads' HO_w0_.out).2.2 (Kd.R_reads' HO_w0_.out).2.1 e9_.out).mono ?_
  rintro e w10 ⟨rfl, hd_⟩
  have hb : Below w9.heap.size w9 w10 := by obtain ⟨n_, hn_⟩ := hd_; rw [hn_]; exact pw_below_drewN (Below.refl _ _) n_
  clear hd_
  have HO_t1_ := Aside0.mk (Kd.S_below HO_t1.out hb)
  clear HO_t1
  have HO_t1 := HO_t1_
  clear HO_t1_
  have HO_w0__ := Aside0.mk (Kd.R_below HO_w0_.out hb)
  clear HO_w0_
  have HO_w0_ := HO_w0__
  clear HO_w0__
  have HO_x1_ := Aside0.mk (Kd.S_below HO_x1.out hb)
  clear HO_x1
  have HO_x1 := HO_x1_
  clear HO_x1_
  have HO_g0_ := Aside0.mk (Kd.R_below HO_g0.out hb)
  clear HO_g0
  have HO_g0 := HO_g0_
  clear HO_g0_
  have HO_t2_ := Aside0.mk (Kd.S_below HO_t2.out hb)
  clear HO_t2
  have HO_t2 := HO_t2_
  clear HO_t2_
  have HN_ := Aside0.mk (Nat.le_trans HN.out (Below.size hb))
  clear HN
  have HN := HN_
  clear HN_
  have HB_ := Aside0.mk (below_step HB.out hb)
  clear HB
  have HB := HB_
  clear HB_
  clear hb
  go_wp2_with fail
  refine (laws_markByteS.calls k (Deep.Rng lo4 hi4) _ g0 1 m1 g1 w _ HB.out HO_g0.out e10_.out).mono ?_
  rintro e w11 ⟨rfl, ho, hb, hk⟩
  have ho := Deep.R_mark rfl ho HO_g0.out
  have hl_ := (Kd.R_reads' ho).1
  rw [hl_] at ho
  rw [hl_]
  have HO_t1_ := Aside0.mk (Kd.S_kept HO_t1.out hk (Deep.apart (by have i1 := HI1.out; have i2 := HI2.out; have i3 := HI3.out; have i4 := HI4.out; have i5 := HI5.out; omega)))
  clear HO_t1
  have HO_t1 := HO_t1_
  clear HO_t1_
  have HO_w0__ := Aside0.mk (Kd.R_kept HO_w0_.out hk (Deep.apart (by have i1 := HI1.out; have i2 := HI2.out; have i3 := HI3.out; have i4 := HI4.out; have i5 := HI5.out; omega)))
  clear HO_w0_
  have HO_w0_ := HO_w0__
  clear HO_w0__
  have HO_x1_ := Aside0.mk (Kd.S_kept HO_x1.out hk (Deep.apart (by have i1 := HI1.out; have i2 := HI2.out; have i3 := HI3.out; have i4 := HI4.out; have i5 := HI5.out; omega)))
  clear HO_x1
  have HO_x1 := HO_x1_
  clear HO_x1_
  have HO_t2_ := Aside0.mk (Kd.S_kept HO_t2.out hk (Deep.apart (by have i1 := HI1.out; have i2 := HI2.out; have i3 := HI3.out; have i4 := HI4.out; have i5 := HI5.out; omega)))
  clear HO_t2
  have HO_t2 := HO_t2_
  clear HO_t2_
  have HN_ := Aside0.mk (Nat.le_trans HN.out hk.1)
  clear HN
  have HN := HN_
  clear HN_
  have HB_ := Aside0.mk (hb)
  clear HB
  have HB := HB_
  clear HB_
  have HO_g1 := Aside0.mk ho
  clear hl_ ho hb hk HO_g0
  go_wp2_with fail
  refine (laws_heldByteS.calls k _ _ g1 1 m1 _ (Kd.R_reads' HO_g1.out).2.2 (Kd.R_reads' HO_g1.out).2.1 e11_.out).mono ?_
  rintro e w12 ⟨rfl, hd_⟩
  have hb : Below w11.heap.size w11 w12 := by obtain ⟨n_, hn_⟩ := hd_; rw [hn_]; exact pw_below_drewN (Below.refl _ _) n_
  clear hd_
  have HO_t1_ := Aside0.mk (Kd.S_below HO_t1.out hb)
  clear HO_t1
  have HO_t1 := HO_t1_
  clear HO_t1_
  have HO_w0__ := Aside0.mk (Kd.R_below HO_w0_.out hb)
  clear HO_w0_
  have HO_w0_ := HO_w0__
  clear HO_w0__
  have HO_x1_ := Aside0.mk (Kd.S_below HO_x1.out hb)
  clear HO_x1
  have HO_x1 := HO_x1_
  clear HO_x1_
  have HO_g1_ := Aside0.mk (Kd.R_below HO_g1.out hb)
  clear HO_g1
  have HO_g1 := HO_g1_
  clear HO_g1_
  have HO_t2_ := Aside0.mk (Kd.S_below HO_t2.out hb)
  clear HO_t2
  have HO_t2 := HO_t2_
  clear HO_t2_
  have HN_ := Aside0.mk (Nat.le_trans HN.out (Below.size hb))
  clear HN
  have HN := HN_
  clear HN_
  have HB_ := Aside0.mk (below_step HB.out hb)
  clear HB
  have HB := HB_
  clear HB_
  clear hb
  go_wp2_with fail
  refine (laws_toPieceS.calls k _ _ l0 t3 _ (Kd.C_below HR0.out HB.out) HC0.out e12_.out).mono ?_
  rintro e w13 ⟨v_t3, rfl, ho_t3, hb⟩
  obtain ⟨lo6, hi6, hn6, hl6, hh6, ho2_t3⟩ := Deep.S_new ho_t3 HB.out hb HN.out
  obtain ⟨A_t3, cc_t3, ev_⟩ := Kd.S_slice ho2_t3
  subst ev_
  have HO_t1_ := Aside0.mk (Kd.S_below HO_t1.out hb)
  clear HO_t1
  have HO_t1 := HO_t1_
  clear HO_t1_
  have HO_w0__ := Aside0.mk (Kd.R_below HO_w0_.out hb)
  clear HO_w0_
  have HO_w0_ := HO_w0__
  clear HO_w0__
  have HO_x1_ := Aside0.mk (Kd.S_below HO_x1.out hb)
  clear HO_x1
  have HO_x1 := HO_x1_
  clear HO_x1_
  have HO_g1_ := Aside0.mk (Kd.R_below HO_g1.out hb)
  clear HO_g1
  have HO_g1 := HO_g1_
  clear HO_g1_
  have HO_t2_ := Aside0.mk (Kd.S_below HO_t2.out hb)
  clear HO_t2
  have HO_t2 := HO_t2_
  clear HO_t2_
  have HN_ := Aside0.mk (Nat.le_trans HN.out (Below.size hb))
  clear HN
  have HN := HN_
  clear HN_
  have HB_ := Aside0.mk (below_step HB.out hb)
  clear HB
  have HB := HB_
  clear HB_
  have HO_t3 := Aside0.mk ho2_t3
  have HI6 := Aside0.mk (And.intro hn6 hl6)
  clear HN
  have HN := Aside0.mk hh6
  clear ho2_t3 hn6 hl6 hh6 ho_t3
  clear hb
  go_wp2_with fail
  refine (impl_FramesOf.calls k _ _ _ t3 h0 _ (Kd.S_V HO_t3.out) e13_.out).mono ?_
  rintro e w14 ⟨v_h0, rfl, ho_h0, hb⟩
  replace ho_h0 := Kd.R_mono ho_h0 (ok' := fun _ => True) (fun _ _ => trivial)
  obtain ⟨lo7, hi7, hn7, hl7, hh7, ho2_h0⟩ := Deep.R_new ho_h0 HB.out hb HN.out
  obtain ⟨A_h0, cc_h0, ev_⟩ := Kd.R_slice ho2_h0
  subst ev_
  have HO_t1_ := Aside0.mk (Kd.S_below HO_t1.out hb)
  clear HO_t1
  have HO_t1 := HO_t1_
  clear HO_t1_
  have HO_w0__ := Aside0.mk (Kd.R_below HO_w0_.out hb)
  clear HO_w0_
  have HO_w0_ := HO_w0__
  clear HO_w0__
  have HO_x1_ := Aside0.mk (Kd.S_below HO_x1.out hb)
  clear HO_x1
  have HO_x1 := HO_x1_
  clear HO_x1_
  have HO_g1_ := Aside0.mk (Kd.R_below HO_g1.out hb)
  clear HO_g1
  have HO_g1 := HO_g1_
  clear HO_g1_
  have HO_t2_ := Aside0.mk (Kd.S_below HO_t2.out hb)
  clear HO_t2
  have HO_t2 := HO_t2_
  clear HO_t2_
  have HO_t3_ := Aside0.mk (Kd.S_below HO_t3.out hb)
  clear HO_t3
  have HO_t3 := HO_t3_
  clear HO_t3_
  have HN_ := Aside0.mk (Nat.le_trans HN.out (Below.size hb))
  clear HN
  have HN := HN_
  clear HN_
  have HB_ := Aside0.mk (below_step HB.out hb)
  clear HB
  have HB := HB_
  clear HB_
  have HO_h0 := Aside0.mk ho2_h0
  have HI7 := Aside0.mk (And.intro hn7 hl7)
  clear HN
  have HN := Aside0.mk hh7
  clear ho2_h0 hn7 hl7 hh7 ho_h0
  clear hb
  go_wp2_with fail
  refine (laws_eqByteS.calls k _ _ h0 _ _ w0_ true _ (Kd.R_reads' HO_h0.out).2.2 (Kd.R_reads' HO_h0.out).2.1 (Kd.R_reads' HO_w0_.out).2.2 (Kd.R_reads' HO_w0_.out).2.1 e14_.out).mono ?_
  rintro e w15 ⟨rfl, hd_⟩
  have hb : Below w14.heap.size w14 w15 := by obtain ⟨n_, hn_⟩ := hd_; rw [hn_]; exact pw_below_drewN (Below.refl _ _) n_
  clear hd_
  have HO_t1_ := Aside0.mk (Kd.S_below HO_t1.out hb)
  clear HO_t1
  have HO_t1 := HO_t1_
  clear HO_t1_
  have HO_w0__ := Aside0.mk (Kd.R_below HO_w0_.out hb)
  clear HO_w0_
  have HO_w0_ := HO_w0__
  clear HO_w0__
  have HO_x1_ := Aside0.mk (Kd.S_below HO_x1.out hb)
  clear HO_x1
  have HO_x1 := HO_x1_
  clear HO_x1_
  have HO_g1_ := Aside0.mk (Kd.R_below HO_g1.out hb)
  clear HO_g1
  have HO_g1 := HO_g1_
  clear HO_g1_
  have HO_t2_ := Aside0.mk (Kd.S_below HO_t2.out hb)
  clear HO_t2
  have HO_t2 := HO_t2_
  clear HO_t2_
  have HO_t3_ := Aside0.mk (Kd.S_below HO_t3.out hb)
  clear HO_t3
  have HO_t3 := HO_t3_
  clear HO_t3_
  have HO_h0_ := Aside0.mk (Kd.R_below HO_h0.out hb)
  clear HO_h0
  have HO_h0 := HO_h0_
  clear HO_h0_
  have HN_ := Aside0.mk (Nat.le_trans HN.out (Below.size hb))
  clear HN
  have HN := HN_
  clear HN_
  have HB_ := Aside0.mk (below_step HB.out hb)
  clear HB
  have HB := HB_
  clear HB_
  clear hb
  go_wp2_with fail
  refine (laws_heldByteS.calls k _ _ g1 1 m1 _ (Kd.R_reads' HO_g1.out).2.2 (Kd.R_reads' HO_g1.out).2.1 e15_.out).mono ?_
  rintro e w16 ⟨rfl, hd_⟩
  have hb : Below w15.heap.size w15 w16 := by obtain ⟨n_, hn_⟩ := hd_; rw [hn_]; exact pw_below_drewN (Below.refl _ _) n_
  clear hd_
  have HO_t1_ := Aside0.mk (Kd.S_below HO_t1.out hb)
  clear HO_t1
  have HO_t1 := HO_t1_
  clear HO_t1_
  have HO_w0__ := Aside0.mk (Kd.R_below HO_w0_.out hb)
  clear HO_w0_
  have HO_w0_ := HO_w0__
  clear HO_w0__
  have HO_x1_ := Aside0.mk (Kd.S_below HO_x1.out hb)
  clear HO_x1
  have HO_x1 := HO_x1_
  clear HO_x1_
  have HO_g1_ := Aside0.mk (Kd.R_below HO_g1.out hb)
  clear HO_g1
  have HO_g1 := HO_g1_
  clear HO_g1_
  have HO_t2_ := Aside0.mk (Kd.S_below HO_t2.out hb)
  clear HO_t2
  have HO_t2 := HO_t2_
  clear HO_t2_
  have HO_t3_ := Aside0.mk (Kd.S_below HO_t3.out hb)
  clear HO_t3
  have HO_t3 := HO_t3_
  clear HO_t3_
  have HO_h0_ := Aside0.mk (Kd.R_below HO_h0.out hb)
  clear HO_h0
  have HO_h0 := HO_h0_
  clear HO_h0_
  have HN_ := Aside0.mk (Nat.le_trans HN.out (Below.size hb))
  clear HN
  have HN := HN_
  clear HN_
  have HB_ := Aside0.mk (below_step HB.out hb)
  clear HB
  have HB := HB_
  clear HB_
  clear hb
  go_wp2
  go_ret
  exact ⟨rfl, by repeat (first | exact HB.out | apply below_alloc | apply pw_below_drewN | apply below_drew1 | refine below_set ?_ HB.out.size)⟩

end Go.Proofs.Ytjgbfhdhffhimaa.PFnExactFramesOf
