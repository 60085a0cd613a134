-- Written by wip/xprint.py (the session's program over the kit's printer) for the claim of FnExactFramesCut; Lean checks it.
import Derived.Test.YtjgbfhdhffhimaaPFnExactFramesCutx0
import Derived.Test.YtjgbfhdhffhimaaPFnExactFramesCutx1
import Derived.Test.YtjgbfhdhffhimaaPFnExactFramesCutx2
namespace Go.Proofs.Ytjgbfhdhffhimaa.PFnExactFramesCut
open Go.RowKit Go.Proofs.YtjgbfhdhffhimaaW.PrintWords Go.Proofs.YtjgbfhdhffhimaaW.PrintLast Go.Proofs.YtjgbfhdhffhimaaW.PrintMore
attribute [local go_sem] max2_int min2_int max_two min_two max_three min_three max_four min_four   -- for this text's walks alone
set_option linter.unusedVariables false
set_option linter.unusedSimpArgs false

/-! ### laws_heldPieceS: function 13 -/
def laws_heldPieceS.l0 : Nat → List (S49) → Int → Int → Option (Int)
  | 0, _, _, _ => none
  | k + 1, x0, x1, x5 => if x5 < (x0.length : Int) then (if 0 ≤ x5 then ((laws_heldByteS.f k ((rd_T49 x0 x5).f0) x1).bind fun t151 => (if t151 < 0 then (some (-1)) else (laws_heldPieceS.l0 k x0 t151 (wrap64 (x5 + 1))))) else (none)) else (some x1)
def laws_heldPieceS.f (k : Nat) (l0 : List (S49)) (a1 : Int) : Option (Int) := laws_heldPieceS.l0 k l0 a1 0
theorem laws_heldPieceS.mono_l : ∀ k, (∀ y0 y1 y2, LeO (laws_heldPieceS.l0 k y0 y1 y2) (laws_heldPieceS.l0 (k + 1) y0 y1 y2))
  | 0 => fun _ _ _ r h => by simp [laws_heldPieceS.l0] at h
  | k + 1 => by
    have ih0 := laws_heldPieceS.mono_l k
    · intro y0 y1 y2
      unfold laws_heldPieceS.l0
      repeat' first
      | (with_reducible exact ih0 _ _ _)
      | (with_reducible exact laws_heldByteS.mono _ _ _)
      | (with_reducible exact LeO.refl _)
      | (with_reducible exact LeO.none _)
      | (with_reducible refine LeO.ite ?_ ?_)
      | (with_reducible refine LeO.bind ?_ (fun _ => ?_))
      | exact ih0 _ _ _
      | exact laws_heldByteS.mono _ _ _
      | exact LeO.none _
      | refine LeO.ite ?_ ?_
      | refine LeO.bind ?_ (fun _ => ?_)
theorem laws_heldPieceS.mono : ∀ a0 a1 k, LeO (laws_heldPieceS.f k a0 a1) (laws_heldPieceS.f (k + 1) a0 a1) := by
  intro a0 a1 k
  have ih0 := laws_heldPieceS.mono_l k
  unfold laws_heldPieceS.f
  repeat' first
      | (with_reducible exact ih0 _ _ _)
      | (with_reducible exact laws_heldByteS.mono _ _ _)
      | (with_reducible exact LeO.refl _)
      | (with_reducible exact LeO.none _)
      | (with_reducible refine LeO.ite ?_ ?_)
      | (with_reducible refine LeO.bind ?_ (fun _ => ?_))
      | exact ih0 _ _ _
      | exact laws_heldByteS.mono _ _ _
      | exact LeO.none _
      | refine LeO.ite ?_ ?_
      | refine LeO.bind ?_ (fun _ => ?_)
set_option maxHeartbeats 8000000 in
set_option maxRecDepth 100000 in
theorem laws_heldPieceS.calls (k : Nat) (A0 : Option Addr) (c0 : Nat) (l0 : List (S49)) (a1 : Int) (r : Int) (w : World) (hr0 : Kd.C k49 w A0 l0.length l0) (hc0 : l0.length ≤ c0) (h : laws_heldPieceS.f k l0 a1 = some r) :
    Calls Try.prog 13 #[.slice A0 l0.length c0, .int .i64 a1] w fun e w' => e = .returned (.int .i64 r) ∧ Drawn0 w w' := by
  have HR0 := Aside0.mk hr0
  have HC0 := Aside0.mk hc0
  clear hr0 hc0
  have H : (laws_heldPieceS.l0 k l0 a1 0) = some r := h
  clear h
  have H' := Aside0.mk H
  clear H
  go_enter Try.func13, Try.ntmps13
  go_wp2
  go_loopg [1, 5] k (fun kq v1 v5 w' => ∃ (x1_1 : Int) (x5_1 : Int), v1 = .int .i64 x1_1 ∧ v5 = .int .i64 x5_1 ∧ Aside0 (laws_heldPieceS.l0 kq l0 x1_1 x5_1 = some r) ∧ Aside0 (kq ≤ k) ∧ Drawn0 w w')
  case atStart => exact ⟨(a1), (0), (by first | rfl | (simp; done) | (simp [*]; done)), (by first | rfl | (simp; done) | (simp [*]; done)), H', ⟨Nat.le_refl _⟩, by repeat (first | exact Drawn0.refl _ | apply Drawn0.step)⟩
  case round =>
    clear H'
    try clear c1
    try clear p2
    obtain ⟨x1_1, x5_1, rfl, rfl, HA, HK1, ⟨m1, rfl⟩⟩ := hrel
    cases gk with
    | zero => exact absurd HA.out (by simp [laws_heldPieceS.l0])
    | succ k1 =>
      have H := HA.out
      clear HA
      simp only [laws_heldPieceS.l0] at H
      by_cases c3 : x5_1 < (l0.length : Int)
      · rw [if_pos c3] at H
        have c3b0 : decide (x5_1 < (l0.length : Int)) = true := decide_eq_true c3
        clear c3
        by_cases c4 : 0 ≤ x5_1
        · rw [if_pos c4] at H
          have c4b0 : decide (0 ≤ x5_1) = true := decide_eq_true c4
          clear c4
          replace H := Option.bind_eq_some_iff.mp H
          obtain ⟨t151, A50, H⟩ := H
          replace H : (if t151 < 0 then (some (-1)) else (laws_heldPieceS.l0 k1 l0 t151 (wrap64 (x5_1 + 1)))) = some r := H
          have A5 := Aside0.mk A50
          clear A50
          by_cases c6 : t151 < 0
          · rw [if_pos c6] at H
            have c6b0 : decide (t151 < 0) = true := decide_eq_true c6
            clear c6
            obtain rfl := Option.some.inj H
            have p150 : 0 ≤ (x5_1 : Int) := of_decide_eq_true (by first | (with_reducible assumption) | assumption)
            have q150 : x5_1 < (l0.length : Int) := of_decide_eq_true (by first | (with_reducible assumption) | assumption)
            obtain ⟨ad150, A150_0, c150_0, e150, hx150_0, hl150_0, hi150_0⟩ := at_T49 HR0.out x5_1 p150 q150
            cases e150
            have HR150_0 := Aside0.mk hi150_0
            have HC150_0 := Aside0.mk hl150_0
            clear hi150_0 hl150_0
            replace p150 := eq_true p150
            replace q150 := eq_true q150
            go_wp2_with (first | ((with_reducible refine gate_callee (f := 23) rfl ?_); refine goesL_ (some 18) rfl rfl Try.func23 (by kernel_rfl) rfl #[.slice A150_0 ((rd_T49 l0 x5_1).f0).length c150_0, .int .i64 x1_1] rfl (by (try simp only [List.map_toArray, List.map_cons, List.map_nil]); first | done | rfl | (simp only [List.length_drop, List.length_take]; rfl)) ?_; (with_reducible refine (laws_heldByteS.calls k1 _ _ ((rd_T49 l0 x5_1).f0) x1_1 t151 _ ?side1 ?side2 A5.out).mono ?_); (case side1 => repeat (first | exact HR150_0.out | (with_reducible refine Kd.C_alloc ?_ _) | (with_reducible refine Kd.C_drewN ?_ _) | (with_reducible refine Kd.C_drew ?_))); (case side2 => exact HC150_0.out); rintro e w' ⟨rfl, ⟨nd, rfl⟩⟩; refine ⟨_, rfl, ?_⟩))
            go_ret
            exact ⟨by first | rfl | (simp; done) | (simp [*]; done), by repeat (first | exact Drawn0.refl _ | apply Drawn0.step)⟩
          · rw [if_neg c6] at H
            have c6b0 : decide (t151 < 0) = false := decide_eq_false c6
            clear c6
            have H' := Aside0.mk H
            clear H
            have p150 : 0 ≤ (x5_1 : Int) := of_decide_eq_true (by first | (with_reducible assumption) | assumption)
            have q150 : x5_1 < (l0.length : Int) := of_decide_eq_true (by first | (with_reducible assumption) | assumption)
            obtain ⟨ad150, A150_0, c150_0, e150, hx150_0, hl150_0, hi150_0⟩ := at_T49 HR0.out x5_1 p150 q150
            cases e150
            have HR150_0 := Aside0.mk hi150_0
            have HC150_0 := Aside0.mk hl150_0
            clear hi150_0 hl150_0
            replace p150 := eq_true p150
            replace q150 := eq_true q150
            go_wp2_with (first | ((with_reducible refine gate_callee (f := 23) rfl ?_); refine goesL_ (some 18) rfl rfl Try.func23 (by kernel_rfl) rfl #[.slice A150_0 ((rd_T49 l0 x5_1).f0).length c150_0, .int .i64 x1_1] rfl (by (try simp only [List.map_toArray, List.map_cons, List.map_nil]); first | done | rfl | (simp only [List.length_drop, List.length_take]; rfl)) ?_; (with_reducible refine (laws_heldByteS.calls k1 _ _ ((rd_T49 l0 x5_1).f0) x1_1 t151 _ ?side1 ?side2 A5.out).mono ?_); (case side1 => repeat (first | exact HR150_0.out | (with_reducible refine Kd.C_alloc ?_ _) | (with_reducible refine Kd.C_drewN ?_ _) | (with_reducible refine Kd.C_drew ?_))); (case side2 => exact HC150_0.out); rintro e w' ⟨rfl, ⟨nd, rfl⟩⟩; refine ⟨_, rfl, ?_⟩))
            go_roundg k1
            case measure => have := HK1.out; omega
            case rel => exact ⟨(t151), (wrap64 (x5_1 + 1)), (by first | rfl | (simp; done) | (simp [*]; done)), (by first | rfl | (simp; done) | (simp [*]; done)), H', ⟨by have := HK1.out; omega⟩, by repeat (first | exact Drawn0.refl _ | apply Drawn0.step)⟩
        · rw [if_neg c4] at H
          exact absurd H (by simp)
      · rw [if_neg c3] at H
        have c3b0 : decide (x5_1 < (l0.length : Int)) = false := decide_eq_false c3
        clear c3
        obtain rfl := Option.some.inj H
        go_wp2
        go_ret
        exact ⟨by first | rfl | (simp; done) | (simp [*]; done), by repeat (first | exact Drawn0.refl _ | apply Drawn0.step)⟩


/-! ### laws_FnExactFramesCut: function 3 -/
def laws_FnExactFramesCut.f (k : Nat) (l0 : List Int) : Option Bool := if (l0.length : Int) > 1048576 then some true else (laws_toByteS.f k l0).bind fun (r0_ : (List Int)) => (spec_FramesCut.f k r0_).bind fun (r1_ : (List S49) × Int) => (laws_toByteS.f k l0).bind fun (r2_ : (List Int)) => (impl_FramesCut.f k r2_).bind fun (r3_ : (List S49) × Int) => (laws_eqPieceS.f k r3_.1 r1_.1).bind fun (r4_ : Bool) => if r4_ = true then (if r3_.2 = r1_.2 then ((laws_toByteS.f k l0).bind fun (r5_ : (List Int)) => (laws_eqByteS.f k r2_ r5_).bind fun (r6_ : Bool) => if r6_ = true then ((laws_markByteS.f k r2_ 1).bind fun (r7_ : Int × (List Int)) => if r7_.1 < 0 then none else ((laws_eqPieceS.f k r3_.1 r1_.1).bind fun (r8_ : Bool) => if r8_ = true then ((laws_markPieceS.f k r3_.1 1).bind fun (r9_ : Int × (List S49)) => (laws_heldPieceS.f k r9_.2 1).bind fun (r10_ : Int) => if r10_ < 0 then none else (if r10_ = r9_.1 then ((laws_toByteS.f k l0).bind fun (r11_ : (List Int)) => (impl_FramesCut.f k r11_).bind fun (r12_ : (List S49) × Int) => (laws_eqPieceS.f k r12_.1 r1_.1).bind fun (r13_ : Bool) => if r13_ = true then (if r12_.2 = r1_.2 then ((laws_heldPieceS.f k r9_.2 1).bind fun (r14_ : Int) => if r14_ < 0 then none else (if r14_ = r9_.1 then (some true) else none)) else none) else none) else none)) else none)) else none) else none) else none
set_option maxHeartbeats 16000000 in
set_option maxRecDepth 1000000 in
/-- The law's own walk: its rows lie in ranges of blocks that do not meet. -/
theorem laws_FnExactFramesCut.calls (k : Nat) (A0 : Option Addr) (c0 : Nat) (l0 : List Int) (r : Bool) (w : World) (hr0 : Kd.C (Kd.int .u8) w A0 l0.length l0) (hc0 : l0.length ≤ c0) (ht_ : r = true) (h : laws_FnExactFramesCut.f k l0 = some r) :
    Calls Try.prog 3 #[.slice A0 l0.length c0] w fun e w' => e = .returned (.bool r) ∧ Below w.heap.size w w' := by
  have HR0 := Aside0.mk hr0
  have HC0 := Aside0.mk hc0
  clear hr0 hc0
  subst ht_
  have HB := Aside0.mk (Below.refl w.heap.size w)
  have HN := Aside0.mk (Nat.le_refl w.heap.size)
  unfold laws_FnExactFramesCut.f at h
  by_cases cg : (l0.length : Int) > 1048576
  · clear h
    have cgb : decide (1048576 < (l0.length : Int)) = true := decide_eq_true (by omega)
    clear cg
    go_enter Try.func3, Try.ntmps3
    go_wp2
    go_ret
    exact ⟨rfl, by repeat (first | exact HB.out | apply below_alloc | apply pw_below_drewN | apply below_drew1)⟩
  rw [if_neg cg] at h
  have cgb : decide (1048576 < (l0.length : Int)) = false := decide_eq_false (by omega)
  clear cg
  replace h := Option.bind_eq_some_iff.1 h
  obtain ⟨t1, e0_, h⟩ := h
  (try dsimp only at h)
  replace h := Option.bind_eq_some_iff.1 h
  obtain ⟨⟨w0_, u0⟩, e1_, h⟩ := h
  (try dsimp only at h)
  replace h := Option.bind_eq_some_iff.1 h
  obtain ⟨x0, e2_, h⟩ := h
  (try dsimp only at h)
  replace h := Option.bind_eq_some_iff.1 h
  obtain ⟨⟨g0, u1⟩, e3_, h⟩ := h
  (try dsimp only at h)
  replace h := Option.bind_eq_some_iff.1 h
  obtain ⟨b1, e4_, h⟩ := h
  (try dsimp only at h)
  have z_ : b1 = true := by cases b1 with | true => rfl | false => exact absurd h (by simp)
  subst z_
  rw [if_pos rfl] at h
  by_cases z_ : u1 = u0
  case neg => rw [if_neg z_] at h; cases h
  rw [if_pos z_] at h
  replace z_ := z_.symm
  subst z_
  replace h := Option.bind_eq_some_iff.1 h
  obtain ⟨t2, e5_, h⟩ := h
  (try dsimp only at h)
  replace h := Option.bind_eq_some_iff.1 h
  obtain ⟨b2, e6_, h⟩ := h
  (try dsimp only at h)
  have z_ : b2 = true := by cases b2 with | true => rfl | false => exact absurd h (by simp)
  subst z_
  rw [if_pos rfl] at h
  replace h := Option.bind_eq_some_iff.1 h
  obtain ⟨⟨k1, x1⟩, e7_, h⟩ := h
  (try dsimp only at h)
  by_cases z_k1 : k1 < 0
  case pos => rw [if_pos z_k1] at h; cases h
  rw [if_neg z_k1] at h
  have zb_k1 : decide (k1 < 0) = false := decide_eq_false z_k1
  clear z_k1
  replace h := Option.bind_eq_some_iff.1 h
  obtain ⟨b3, e8_, h⟩ := h
  (try dsimp only at h)
  have z_ : b3 = true := by cases b3 with | true => rfl | false => exact absurd h (by simp)
  subst z_
  rw [if_pos rfl] at h
  replace h := Option.bind_eq_some_iff.1 h
  obtain ⟨⟨m1, g1⟩, e9_, h⟩ := h
  (try dsimp only at h)
  replace h := Option.bind_eq_some_iff.1 h
  obtain ⟨q1, e10_, h⟩ := h
  (try dsimp only at h)
  by_cases z_q1 : q1 < 0
  case pos => rw [if_pos z_q1] at h; cases h
  rw [if_neg z_q1] at h
  have zb_q1 : decide (q1 < 0) = false := decide_eq_false z_q1
  clear z_q1
  by_cases z_ : q1 = m1
  case neg => rw [if_neg z_] at h; cases h
  rw [if_pos z_] at h
  replace z_ := z_.symm
  subst z_
  replace h := Option.bind_eq_some_iff.1 h
  obtain ⟨t3, e11_, h⟩ := h
  (try dsimp only at h)
  replace h := Option.bind_eq_some_iff.1 h
  obtain ⟨⟨h0, u2⟩, e12_, h⟩ := h
  (try dsimp only at h)
  replace h := Option.bind_eq_some_iff.1 h
  obtain ⟨b4, e13_, h⟩ := h
  (try dsimp only at h)
  have z_ : b4 = true := by cases b4 with | true => rfl | false => exact absurd h (by simp)
  subst z_
  rw [if_pos rfl] at h
  by_cases z_ : u2 = u0
  case neg => rw [if_neg z_] at h; cases h
  rw [if_pos z_] at h
  replace z_ := z_.symm
  subst z_
  replace h := Option.bind_eq_some_iff.1 h
  obtain ⟨q2, e14_, h⟩ := h
  (try dsimp only at h)
  by_cases z_q2 : q2 < 0
  case pos => rw [if_pos z_q2] at h; cases h
  rw [if_neg z_q2] at h
  have zb_q2 : decide (q2 < 0) = false := decide_eq_false z_q2
  clear z_q2
  by_cases z_ : q2 = m1
  case neg => rw [if_neg z_] at h; cases h
  rw [if_pos z_] at h
  replace z_ := z_.symm
  subst z_
  clear h
  replace e0_ := Aside0.mk e0_
  replace e1_ := Aside0.mk e1_
  replace e2_ := Aside0.mk e2_
  replace e3_ := Aside0.mk e3_
  replace e4_ := Aside0.mk e4_
  replace e5_ := Aside0.mk e5_
  replace e6_ := Aside0.mk e6_
  replace e7_ := Aside0.mk e7_
  replace e8_ := Aside0.mk e8_
  replace e9_ := Aside0.mk e9_
  replace e10_ := Aside0.mk e10_
  replace e11_ := Aside0.mk e11_
  replace e12_ := Aside0.mk e12_
  replace e13_ := Aside0.mk e13_
  replace e14_ := Aside0.mk e14_
  go_enter Try.func3, Try.ntmps3
  go_wp2_with fail
  refine (laws_toByteS.calls k _ _ l0 t1 _ (Kd.C_below HR0.out HB.out) HC0.out e0_.out).mono ?_
  rintro e w1 ⟨v_t1, rfl, ho_t1, hb⟩
  obtain ⟨lo1, hi1, hn1, hl1, hh1, ho2_t1⟩ := Deep.R_new ho_t1 HB.out hb HN.out
  obtain ⟨A_t1, cc_t1, ev_⟩ := Kd.R_slice ho2_t1
  subst ev_
  have HN_ := Aside0.mk (Nat.le_trans HN.out (Below.size hb))
  clear HN
  have HN := HN_
  clear HN_
  have HB_ := Aside0.mk (below_step HB.out hb)
  clear HB
  have HB := HB_
  clear HB_
  have HO_t1 := Aside0.mk ho2_t1
  have HI1 := Aside0.mk (And.intro hn1 hl1)
  clear HN
  have HN := Aside0.mk hh1
  clear ho2_t1 hn1 hl1 hh1 ho_t1
  clear hb
  go_wp2_with fail
  refine (spec_FramesCut.calls k _ _ t1 w0_ u0 _ (Kd.R_reads' HO_t1.out).2.2 (Kd.R_reads' HO_t1.out).2.1 e1_.out).mono ?_
  rintro e w2 ⟨v_w0_, rfl, ho_w0_, hb⟩
  obtain ⟨lo2, hi2, hn2, hl2, hh2, ho2_w0_⟩ := Deep.S_new ho_w0_ HB.out hb HN.out
  obtain ⟨A_w0_, cc_w0_, ev_⟩ := Kd.S_slice ho2_w0_
  subst ev_
  have HO_t1_ := Aside0.mk (Kd.R_below HO_t1.out hb)
  clear HO_t1
  have HO_t1 := HO_t1_
  clear HO_t1_
  have HN_ := Aside0.mk (Nat.le_trans HN.out (Below.size hb))
  clear HN
  have HN := HN_
  clear HN_
  have HB_ := Aside0.mk (below_step HB.out hb)
  clear HB
  have HB := HB_
  clear HB_
  have HO_w0_ := Aside0.mk ho2_w0_
  have HI2 := Aside0.mk (And.intro hn2 hl2)
  clear HN
  have HN := Aside0.mk hh2
  clear ho2_w0_ hn2 hl2 hh2 ho_w0_
  clear hb
  go_wp2_with fail
  refine (laws_toByteS.calls k _ _ l0 x0 _ (Kd.C_below HR0.out HB.out) HC0.out e2_.out).mono ?_
  rintro e w3 ⟨v_x0, rfl, ho_x0, hb⟩
  obtain ⟨lo3, hi3, hn3, hl3, hh3, ho2_x0⟩ := Deep.R_new ho_x0 HB.out hb HN.out
  obtain ⟨A_x0, cc_x0, ev_⟩ := Kd.R_slice ho2_x0
  subst ev_
  have HO_t1_ := Aside0.mk (Kd.R_below HO_t1.out hb)
  clear HO_t1
  have HO_t1 := HO_t1_
  clear HO_t1_
  have HO_w0__ := Aside0.mk (Kd.S_below HO_w0_.out hb)
  clear HO_w0_
  have HO_w0_ := HO_w0__
  clear HO_w0__
  have HN_ := Aside0.mk (Nat.le_trans HN.out (Below.size hb))
  clear HN
  have HN := HN_
  clear HN_
  have HB_ := Aside0.mk (below_step HB.out hb)
  clear HB
  have HB := HB_
  clear HB_
  have HO_x0 := Aside0.mk ho2_x0
  have HI3 := Aside0.mk (And.intro hn3 hl3)
  clear HN
  have HN := Aside0.mk hh3
  clear ho2_x0 hn3 hl3 hh3 ho_x0
  clear hb
  go_wp2_with fail
  refine (impl_FramesCut.calls k _ _ x0 g0 u0 _ (Kd.R_reads' HO_x0.out).2.2 (Kd.R_reads' HO_x0.out).2.1 e3_.out).mono ?_
  rintro e w4 ⟨v_g0, rfl, ho_g0, hb⟩
  obtain ⟨lo4, hi4, hn4, hl4, hh4, ho2_g0⟩ := Deep.S_new ho_g0 HB.out hb HN.out
  obtain ⟨A_g0, cc_g0, ev_⟩ := Kd.S_slice ho2_g0
  subst ev_
  have HO_t1_ := Aside0.mk (Kd.R_below HO_t1.out hb)
  clear HO_t1
  have HO_t1 := HO_t1_
  clear HO_t1_
  have HO_w0__ := Aside0.mk (Kd.S_below HO_w0_.out hb)
  clear HO_w0_
  have HO_w0_ := HO_w0__
  clear HO_w0__
  have HO_x0_ := Aside0.mk (Kd.R_below HO_x0.out hb)
  clear HO_x0
  have HO_x0 := HO_x0_
  clear HO_x0_
  have HN_ := Aside0.mk (Nat.le_trans HN.out (Below.size hb))
  clear HN
  have HN := HN_
  clear HN_
  have HB_ := Aside0.mk (below_step HB.out hb)
  clear HB
  have HB := HB_
  clear HB_
  have HO_g0 := Aside0.mk ho2_g0
  have HI4 := Aside0.mk (And.intro hn4 hl4)
  clear HN
  have HN := Aside0.mk hh4
  clear ho2_g0 hn4 hl4 hh4 ho_g0
  clear hb
  go_wp2_with fail
  refine (laws_eqPieceS.calls k _ _ g0 _ _ w0_ true _ (Kd.S_reads' HO_g0.out).2.2 (Kd.S_reads' HO_g0.out).2.1 (Kd.S_reads' HO_w0_.out).2.2 (Kd.S_reads' HO_w0_.out).2.1 e4_.out).mono ?_
  rintro e w5 ⟨rfl, hb⟩
  have HO_t1_ := Aside0.mk (Kd.R_below HO_t1.out hb)
  clear HO_t1
  have HO_t1 := HO_t1_
  clear HO_t1_
  have HO_w0__ := Aside0.mk (Kd.S_below HO_w0_.out hb)
  clear HO_w0_
  have HO_w0_ := HO_w0__
  clear HO_w0__
  have HO_x0_ := Aside0.mk (Kd.R_below HO_x0.out hb)
  clear HO_x0
  have HO_x0 := HO_x0_
  clear HO_x0_
  have HO_g0_ := Aside0.mk (Kd.S_below HO_g0.out hb)
  clear HO_g0
  have HO_g0 := HO_g0_
  clear HO_g0_
  have HN_ := Aside0.mk (Nat.le_trans HN.out (Below.size hb))
  clear HN
  have HN := HN_
  clear HN_
  have HB_ := Aside0.mk (below_step HB.out hb)
  clear HB
  have HB := HB_
  clear HB_
  clear hb
  go_wp2_with fail
  refine (laws_toByteS.calls k _ _ l0 t2 _ (Kd.C_below HR0.out HB.out) HC0.out e5_.out).mono ?_
  rintro e w6 ⟨v_t2, rfl, ho_t2, hb⟩
  obtain ⟨lo5, hi5, hn5, hl5, hh5, ho2_t2⟩ := Deep.R_new ho_t2 HB.out hb HN.out
  obtain ⟨A_t2, cc_t2, ev_⟩ := Kd.R_slice ho2_t2
  subst ev_
  have HO_t1_ := Aside0.mk (Kd.R_below HO_t1.out hb)
  clear HO_t1
  have HO_t1 := HO_t1_
  clear HO_t1_
  have HO_w0__ := Aside0.mk (Kd.S_below HO_w0_.out hb)
  clear HO_w0_
  have HO_w0_ := HO_w0__
  clear HO_w0__
  have HO_x0_ := Aside0.mk (Kd.R_below HO_x0.out hb)
  clear HO_x0
  have HO_x0 := HO_x0_
  clear HO_x0_
  have HO_g0_ := Aside0.mk (Kd.S_below HO_g0.out hb)
  clear HO_g0
  have HO_g0 := HO_g0_
  clear HO_g0_
  have HN_ := Aside0.mk (Nat.le_trans HN.out (Below.size hb))
  clear HN
  have HN := HN_
  clear HN_
  have HB_ := Aside0.mk (below_step HB.out hb)
  clear HB
  have HB := HB_
  clear HB_
  have HO_t2 := Aside0.mk ho2_t2
  have HI5 := Aside0.mk (And.intro hn5 hl5)
  clear HN
  have HN := Aside0.mk hh5
  clear ho2_t2 hn5 hl5 hh5 ho_t2
  clear hb
  go_wp2_with fail
  refine (laws_eqByteS.calls k _ _ x0 _ _ t2 true _ (Kd.R_reads' HO_x0.out).2.2 (Kd.R_reads' HO_x0.out).2.1 (Kd.R_reads' HO_t2.out).2.2 (Kd.R_reads' HO_t2.out).2.1 e6_.out).mono ?_
  rintro e w7 ⟨rfl, hd_⟩
  have hb : Below w6.heap.size w6 w7 := by obtain ⟨n_, hn_⟩ := hd_; rw [hn_]; exact pw_below_drewN (Below.refl _ _) n_
  clear hd_
  have HO_t1_ := Aside0.mk (Kd.R_below HO_t1.out hb)
  clear HO_t1
  have HO_t1 := HO_t1_
  clear HO_t1_
  have HO_w0__ := Aside0.mk (Kd.S_below HO_w0_.out hb)
  clear HO_w0_
  have HO_w0_ := HO_w0__
  clear HO_w0__
  have HO_x0_ := Aside0.mk (Kd.R_below HO_x0.out hb)
  clear HO_x0
  have HO_x0 := HO_x0_
  clear HO_x0_
  have HO_g0_ := Aside0.mk (Kd.S_below HO_g0.out hb)
  clear HO_g0
  have HO_g0 := HO_g0_
  clear HO_g0_
  have HO_t2_ := Aside0.mk (Kd.R_below HO_t2.out hb)
  clear HO_t2
  have HO_t2 := HO_t2_
  clear HO_t2_
  have HN_ := Aside0.mk (Nat.le_trans HN.out (Below.size hb))
  clear HN
  have HN := HN_
  clear HN_
  have HB_ := Aside0.mk (below_step HB.out hb)
  clear HB
  have HB := HB_
  clear HB_
  clear hb
  go_wp2_with fail
  refine (laws_markByteS.calls k (Deep.Rng lo3 hi3) _ x0 1 k1 x1 w _ HB.out HO_x0.out e7_.out).mono ?_
  rintro e w8 ⟨rfl, ho, hb, hk⟩
  have ho := Deep.R_mark rfl ho HO_x0.out
  have hl_ := (Kd.R_reads' ho).1
  rw [hl_] at ho
  rw [hl_]
  have HO_t1_ := Aside0.mk (Kd.R_kept HO_t1.out hk (Deep.apart (by have i1 := HI1.out; have i2 := HI2.out; have i3 := HI3.out; have i4 := HI4.out; have i5 := HI5.out; omega)))
  clear HO_t1
  have HO_t1 := HO_t1_
  clear HO_t1_
  have HO_w0__ := Aside0.mk (Kd.S_kept HO_w0_.out hk (Deep.apart (by have i1 := HI1.out; have i2 := HI2.out; have i3 := HI3.out; have i4 := HI4.out; have i5 := HI5.out; omega)))
  clear HO_w0_
  have HO_w0_ := HO_w0__
  clear HO_w0__
  have HO_g0_ := Aside0.mk (Kd.S_kept HO_g0.out hk (Deep.apart (by have i1 := HI1.out; have i2 := HI2.out; have i3 := HI3.out; have i4 := HI4.out; have i5 := HI5.out; omega)))
  clear HO_g0
  have HO_g0 := HO_g0_
  clear HO_g0_
  have HO_t2_ := Aside0.mk (Kd.R_kept HO_t2.out hk (Deep.apart (by have i1 := HI1.out; have i2 := HI2.out; have i3 := HI3.out; have i4 := HI4.out; have i5 := HI5.out; omega)))
  clear HO_t2
  have HO_t2 := HO_t2_
  clear HO_t2_
  have HN_ := Aside0.mk (Nat.le_trans HN.out hk.1)
  clear HN
  have HN := HN_
  clear HN_
  have HB_ := Aside0.mk (hb)
  clear HB
  have HB := HB_
  clear HB_
  have HO_x1 := Aside0.mk ho
  clear hl_ ho hb hk HO_x0
  go_wp2_with fail
  refine (laws_eqPieceS.calls k _ _ g0 _ _ w0_ true _ (Kd.S_reads' HO_g0.out).2.2 (Kd.S_reads' HO_g0.out).2.1 (Kd.S_reads' HO_w0_.out).2.2 (Kd.S_reads' HO_w0_.out).2.1 e8_.out).mono ?_
  rintro e w9 ⟨rfl, hb⟩
  have HO_t1_ := Aside0.mk (Kd.R_below HO_t1.out hb)
  clear HO_t1
  have HO_t1 := HO_t1_
  clear HO_t1_
  have HO_w0__ := Aside0.mk (Kd.S_below HO_w0_.out hb)
  clear HO_w0_
  have HO_w0_ := HO_w0__
  clear HO_w0__
  have HO_x1_ := Aside0.mk (Kd.R_below HO_x1.out hb)
  clear HO_x1
  have HO_x1 := HO_x1_
  clear HO_x1_
  have HO_g0_ := Aside0.mk (Kd.S_below HO_g0.out hb)
  clear HO_g0
  have HO_g0 := HO_g0_
  clear HO_g0_
  have HO_t2_ := Aside0.mk (Kd.R_below HO_t2.out hb)
  clear HO_t2
  have HO_t2 := HO_t2_
  clear HO_t2_
  have HN_ := Aside0.mk (Nat.le_trans HN.out (Below.size hb))
  clear HN
  have HN := HN_
  clear HN_
  have HB_ := Aside0.mk (below_step HB.out hb)
  clear HB
  have HB := HB_
  clear HB_
  clear hb
  go_wp2_with fail
  refine (laws_markPieceS.calls k (Deep.Rng lo4 hi4) _ g0 1 m1 g1 w _ HB.out HO_g0.out e9_.out).mono ?_
  rintro e w10 ⟨rfl, ho, hb, hk⟩
  have hl_ := (Kd.S_reads' ho).1
  rw [hl_] at ho
  rw [hl_]
  have HO_t1_ := Aside0.mk (Kd.R_kept HO_t1.out hk (Deep.apart (by have i1 := HI1.out; have i2 := HI2.out; have i3 := HI3.out; have i4 := HI4.out; have i5 := HI5.out; omega)))
  clear HO_t1
  have HO_t1 := HO_t1_
  clear HO_t1_
  have HO_w0__ := Aside0.mk (Kd.S_kept HO_w0_.out hk (Deep.apart (by have i1 := HI1.out; have i2 := HI2.out; have i3 := HI3.out; have i4 := HI4.out; have i5 := HI5.out; omega)))
  clear HO_w0_
  have HO_w0_ := HO_w0__
  clear HO_w0__
  have HO_x1_ := Aside0.mk (Kd.R_kept HO_x1.out hk (Deep.apart (by have i1 := HI1.out; have i2 := HI2.out; have i3 := HI3.out; have i4 := HI4.out; have i5 := HI5.out; omega)))
  clear HO_x1
  have HO_x1 := HO_x1_
  clear HO_x1_
  have HO_t2_ := Aside0.mk (Kd.R_kept HO_t2.out hk (Deep.apart (by have i1 := HI1.out; have i2 := HI2.out; have i3 := HI3.out; have i4 := HI4.out; have i5 := HI5.out; omega)))
  clear HO_t2
  have HO_t2 := HO_t2_
  clear HO_t2_
  have HN_ := Aside0.mk (Nat.le_trans HN.out hk.1)
  clear HN
  have HN := HN_
  clear HN_
  have HB_ := Aside0.mk (hb)
  clear HB
  have HB := HB_
  clear HB_
  have HO_g1 := Aside0.mk ho
  clear hl_ ho hb hk HO_g0
  go_wp2_with fail
  refine (laws_heldPieceS.calls k _ _ g1 1 m1 _ (Kd.S_reads' HO_g1.out).2.2 (Kd.S_reads' HO_g1.out).2.1 e10_.out).mono ?_
  rintro e w11 ⟨rfl, hd_⟩
  have hb : Below w10.heap.size w10 w11 := by obtain ⟨n_, hn_⟩ := hd_; rw [hn_]; exact pw_below_drewN (Below.refl _ _) n_
  clear hd_
  have HO_t1_ := Aside0.mk (Kd.R_below HO_t1.out hb)
  clear HO_t1
  have HO_t1 := HO_t1_
  clear HO_t1_
  have HO_w0__ := Aside0.mk (Kd.S_below HO_w0_.out hb)
  clear HO_w0_
  have HO_w0_ := HO_w0__
  clear HO_w0__
  have HO_x1_ := Aside0.mk (Kd.R_below HO_x1.out hb)
  clear HO_x1
  have HO_x1 := HO_x1_
  clear HO_x1_
  have HO_g1_ := Aside0.mk (Kd.S_below HO_g1.out hb)
  clear HO_g1
  have HO_g1 := HO_g1_
  clear HO_g1_
  have HO_t2_ := Aside0.mk (Kd.R_below HO_t2.out hb)
  clear HO_t2
  have HO_t2 := HO_t2_
  clear HO_t2_
  have HN_ := Aside0.mk (Nat.le_trans HN.out (Below.size hb))
  clear HN
  have HN := HN_
  clear HN_
  have HB_ := Aside0.mk (below_step HB.out hb)
  clear HB
  have HB := HB_
  clear HB_
  clear hb
  go_wp2_with fail
  refine (laws_toByteS.calls k _ _ l0 t3 _ (Kd.C_below HR0.out HB.out) HC0.out e11_.out).mono ?_
  rintro e w12 ⟨v_t3, rfl, ho_t3, hb⟩
  obtain ⟨lo6, hi6, hn6, hl6, hh6, ho2_t3⟩ := Deep.R_new ho_t3 HB.out hb HN.out
  obtain ⟨A_t3, cc_t3, ev_⟩ := Kd.R_slice ho2_t3
  subst ev_
  have HO_t1_ := Aside0.mk (Kd.R_below HO_t1.out hb)
  clear HO_t1
  have HO_t1 := HO_t1_
  clear HO_t1_
  have HO_w0__ := Aside0.mk (Kd.S_below HO_w0_.out hb)
  clear HO_w0_
  have HO_w0_ := HO_w0__
  clear HO_w0__
  have HO_x1_ := Aside0.mk (Kd.R_below HO_x1.out hb)
  clear HO_x1
  have HO_x1 := HO_x1_
  clear HO_x1_
  have HO_g1_ := Aside0.mk (Kd.S_below HO_g1.out hb)
  clear HO_g1
  have HO_g1 := HO_g1_
  clear HO_g1_
  have HO_t2_ := Aside0.mk (Kd.R_below HO_t2.out hb)
  clear HO_t2
  have HO_t2 := HO_t2_
  clear HO_t2_
  have HN_ := Aside0.mk (Nat.le_trans HN.out (Below.size hb))
  clear HN
  have HN := HN_
  clear HN_
  have HB_ := Aside0.mk (below_step HB.out hb)
  clear HB
  have HB := HB_
  clear HB_
  have HO_t3 := Aside0.mk ho2_t3
  have HI6 := Aside0.mk (And.intro hn6 hl6)
  clear HN
  have HN := Aside0.mk hh6
  clear ho2_t3 hn6 hl6 hh6 ho_t3
  clear hb
  go_wp2_with fail
  refine (impl_FramesCut.calls k _ _ t3 h0 u0 _ (Kd.R_reads' HO_t3.out).2.2 (Kd.R_reads' HO_t3.out).2.1 e12_.out).mono ?_
  rintro e w13 ⟨v_h0, rfl, ho_h0, hb⟩
  obtain ⟨lo7, hi7, hn7, hl7, hh7, ho2_h0⟩ := Deep.S_new ho_h0 HB.out hb HN.out
  obtain ⟨A_h0, cc_h0, ev_⟩ := Kd.S_slice ho2_h0
  subst ev_
  have HO_t1_ := Aside0.mk (Kd.R_below HO_t1.out hb)
  clear HO_t1
  have HO_t1 := HO_t1_
  clear HO_t1_
  have HO_w0__ := Aside0.mk (Kd.S_below HO_w0_.out hb)
  clear HO_w0_
  have HO_w0_ := HO_w0__
  clear HO_w0__
  have HO_x1_ := Aside0.mk (Kd.R_below HO_x1.out hb)
  clear HO_x1
  have HO_x1 := HO_x1_
  clear HO_x1_
  have HO_g1_ := Aside0.mk (Kd.S_below HO_g1.out hb)
  clear HO_g1
  have HO_g1 := HO_g1_
  clear HO_g1_
  have HO_t2_ := Aside0.mk (Kd.R_below HO_t2.out hb)
  clear HO_t2
  have HO_t2 := HO_t2_
  clear HO_t2_
  have HO_t3_ := Aside0.mk (Kd.R_below HO_t3.out hb)
  clear HO_t3
  have HO_t3 := HO_t3_
  clear HO_t3_
  have HN_ := Aside0.mk (Nat.le_trans HN.out (Below.size hb))
  clear HN
  have HN := HN_
  clear HN_
  have HB_ := Aside0.mk (below_step HB.out hb)
  clear HB
  have HB := HB_
  clear HB_
  have HO_h0 := Aside0.mk ho2_h0
  have HI7 := Aside0.mk (And.intro hn7 hl7)
  clear HN
  have HN := Aside0.mk hh7
  clear ho2_h0 hn7 hl7 hh7 ho_h0
  clear hb
  go_wp2_with fail
  refine (laws_eqPieceS.calls k _ _ h0 _ _ w0_ true _ (Kd.S_reads' HO_h0.out).2.2 (Kd.S_reads' HO_h0.out).2.1 (Kd.S_reads' HO_w0_.out).2.2 (Kd.S_reads' HO_w0_.out).2.1 e13_.out).mono ?_
  rintro e w14 ⟨rfl, hb⟩
  have HO_t1_ := Aside0.mk (Kd.R_below HO_t1.out hb)
  clear HO_t1
  have HO_t1 := HO_t1_
  clear HO_t1_
  have HO_w0__ := Aside0.mk (Kd.S_below HO_w0_.out hb)
  clear HO_w0_
  have HO_w0_ := HO_w0__
  clear HO_w0__
  have HO_x1_ := Aside0.mk (Kd.R_below HO_x1.out hb)
  clear HO_x1
  have HO_x1 := HO_x1_
  clear HO_x1_
  have HO_g1_ := Aside0.mk (Kd.S_below HO_g1.out hb)
  clear HO_g1
  have HO_g1 := HO_g1_
  clear HO_g1_
  have HO_t2_ := Aside0.mk (Kd.R_below HO_t2.out hb)
  clear HO_t2
  have HO_t2 := HO_t2_
  clear HO_t2_
  have HO_t3_ := Aside0.mk (Kd.R_below HO_t3.out hb)
  clear HO_t3
  have HO_t3 := HO_t3_
  clear HO_t3_
  have HO_h0_ := Aside0.mk (Kd.S_below HO_h0.out hb)
  clear HO_h0
  have HO_h0 := HO_h0_
  clear HO_h0_
  have HN_ := Aside0.mk (Nat.le_trans HN.out (Below.size hb))
  clear HN
  have HN := HN_
  clear HN_
  have HB_ := Aside0.mk (below_step HB.out hb)
  clear HB
  have HB := HB_
  clear HB_
  clear hb
  go_wp2_with fail
  refine (laws_heldPieceS.calls k _ _ g1 1 m1 _ (Kd.S_reads' HO_g1.out).2.2 (Kd.S_reads' HO_g1.out).2.1 e14_.out).mono ?_
  rintro e w15 ⟨rfl, hd_⟩
  have hb : Below w14.heap.size w14 w15 := by obtain ⟨n_, hn_⟩ := hd_; rw [hn_]; exact pw_below_drewN (Below.refl _ _) n_
  clear hd_
  have HO_t1_ := Aside0.mk (Kd.R_below HO_t1.out hb)
  clear HO_t1
  have HO_t1 := HO_t1_
  clear HO_t1_
  have HO_w0__ := Aside0.mk (Kd.S_below HO_w0_.out hb)
  clear HO_w0_
  have HO_w0_ := HO_w0__
  clear HO_w0__
  have HO_x1_ := Aside0.mk (Kd.R_below HO_x1.out hb)
  clear HO_x1
  have HO_x1 := HO_x1_
  clear HO_x1_
  have HO_g1_ := Aside0.mk (Kd.S_below HO_g1.out hb)
  clear HO_g1
  have HO_g1 := HO_g1_
  clear HO_g1_
  have HO_t2_ := Aside0.mk (Kd.R_below HO_t2.out hb)
  clear HO_t2
  have HO_t2 := HO_t2_
  clear HO_t2_
  have HO_t3_ := Aside0.mk (Kd.R_below HO_t3.out hb)
  clear HO_t3
  have HO_t3 := HO_t3_
  clear HO_t3_
  have HO_h0_ := Aside0.mk (Kd.S_below HO_h0.out hb)
  clear HO_h0
  have HO_h0 := HO_h0_
  clear HO_h0_
  have HN_ := Aside0.mk (Nat.le_trans HN.out (Below.size hb))
  clear HN
  have HN := HN_
  clear HN_
  have HB_ := Aside0.mk (below_step HB.out hb)
  clear HB
  have HB := HB_
  clear HB_
  clear hb
  go_wp2
  go_ret
  exact ⟨rfl, by repeat (first | exact HB.out | apply below_alloc | apply pw_below_drewN | apply below_drew1 | refine below_set ?_ HB.out.size)⟩

end Go.Proofs.Ytjgbfhdhffhimaa.PFnExactFramesCut
