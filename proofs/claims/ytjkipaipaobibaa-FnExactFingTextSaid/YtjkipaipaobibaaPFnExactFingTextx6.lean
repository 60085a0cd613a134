-- Written by wip/xprint.py (the session's program over the kit's printer) for the claim of FnExactFingText; Lean checks it.
import Derived.Test.YtjkipaipaobibaaPFnExactFingTextx0
import Derived.Test.YtjkipaipaobibaaPFnExactFingTextx5
namespace Go.Proofs.Ytjkipaipaobibaa.PFnExactFingText
open Go.RowKit Go.Proofs.YtjkipaipaobibaaW.PrintWords Go.Proofs.YtjkipaipaobibaaW.PrintLast Go.Proofs.YtjkipaipaobibaaW.PrintMore
attribute [local go_sem] max2_int min2_int max_two min_two max_three min_three max_four min_four   -- for this text's walks alone
set_option linter.unusedVariables false
set_option linter.unusedSimpArgs false

/-! ### impl_nodeEnd: function 50 -/
mutual
def impl_nodeEnd.l0 : Nat → ByteArray → Int → Int → Int → Option (Int)
  | 0, _, _, _, _ => none
  | k + 1, x0, x1, x2, x7 => if x1 < (x0.size : Int) then (if 0 ≤ x1 then (impl_nodeEnd.j1 k x0 x1 x2 x7 ((bt x0 x1) != 41)) else (none)) else (impl_nodeEnd.j1 k x0 x1 x2 x7 false)
def impl_nodeEnd.j1 : Nat → ByteArray → Int → Int → Int → Bool → Option (Int)
  | 0, _, _, _, _, _ => none
  | k + 1, x0, x1, x2, x7, x32 => if x32 = true then ((impl_nodeEnd.f k x0 x1 (wrap64 (x2 - 1))).bind fun t179 => (if t179 < 0 then (some (-1)) else (impl_nodeEnd.l0 k x0 t179 x2 (wrap64 (x7 + 1))))) else (if x1 = (x0.size : Int) then (some (-1)) else ((impl_in.f x7 2 3).bind fun t180 => (if t180 = true then (some (wrap64 (x1 + 1))) else (some (-1)))))
def impl_nodeEnd.f : Nat → ByteArray → Int → Int → Option (Int)
  | 0, _, _, _ => none
  | k + 1, a0, a1, a2 => if a2 = 0 then (if 0 ≤ a1 then (if a1 ≤ (a0.size : Int) then ((strings_HasPrefix.f (a0.extract (a1 : Int).toNat a0.size) (⟨#[120]⟩ : ByteArray)).bind fun t177 => (if t177 = true then (some (wrap64 (a1 + 1))) else (some (-1)))) else (none)) else (none)) else (if 0 ≤ a1 then (if a1 ≤ (a0.size : Int) then ((strings_HasPrefix.f (a0.extract (a1 : Int).toNat a0.size) (⟨#[40]⟩ : ByteArray)).bind fun t178 => (if t178 = true then (impl_nodeEnd.l0 k a0 (wrap64 (a1 + 1)) a2 0) else (some (-1)))) else (none)) else (none))
end
theorem impl_nodeEnd.mono_l : ∀ k, (∀ y0 y1 y2, LeO (impl_nodeEnd.f k y0 y1 y2) (impl_nodeEnd.f (k + 1) y0 y1 y2)) ∧ (∀ y0 y1 y2 y3, LeO (impl_nodeEnd.l0 k y0 y1 y2 y3) (impl_nodeEnd.l0 (k + 1) y0 y1 y2 y3)) ∧ (∀ y0 y1 y2 y3 y4, LeO (impl_nodeEnd.j1 k y0 y1 y2 y3 y4) (impl_nodeEnd.j1 (k + 1) y0 y1 y2 y3 y4))
  | 0 => ⟨fun _ _ _ r h => by simp [impl_nodeEnd.f] at h, fun _ _ _ _ r h => by simp [impl_nodeEnd.l0] at h, fun _ _ _ _ _ r h => by simp [impl_nodeEnd.j1] at h⟩
  | k + 1 => by
    obtain ⟨ih0, ih1, ih2⟩ := impl_nodeEnd.mono_l k
    refine ⟨?_, ?_, ?_⟩
    · intro y0 y1 y2
      unfold impl_nodeEnd.f
      repeat' first
      | (with_reducible exact ih0 _ _ _)
      | (with_reducible exact ih1 _ _ _ _)
      | (with_reducible exact ih2 _ _ _ _ _)
      | (with_reducible exact LeO.refl _)
      | (with_reducible exact LeO.none _)
      | (with_reducible refine LeO.ite ?_ ?_)
      | (with_reducible refine LeO.bind ?_ (fun _ => ?_))
      | exact ih0 _ _ _
      | exact ih1 _ _ _ _
      | exact ih2 _ _ _ _ _
      | exact LeO.none _
      | refine LeO.ite ?_ ?_
      | refine LeO.bind ?_ (fun _ => ?_)
    · intro y0 y1 y2 y3
      unfold impl_nodeEnd.l0
      repeat' first
      | (with_reducible exact ih0 _ _ _)
      | (with_reducible exact ih1 _ _ _ _)
      | (with_reducible exact ih2 _ _ _ _ _)
      | (with_reducible exact LeO.refl _)
      | (with_reducible exact LeO.none _)
      | (with_reducible refine LeO.ite ?_ ?_)
      | (with_reducible refine LeO.bind ?_ (fun _ => ?_))
      | exact ih0 _ _ _
      | exact ih1 _ _ _ _
      | exact ih2 _ _ _ _ _
      | exact LeO.none _
      | refine LeO.ite ?_ ?_
      | refine LeO.bind ?_ (fun _ => ?_)
    · intro y0 y1 y2 y3 y4
      unfold impl_nodeEnd.j1
      repeat' first
      | (with_reducible exact ih0 _ _ _)
      | (with_reducible exact ih1 _ _ _ _)
      | (with_reducible exact ih2 _ _ _ _ _)
      | (with_reducible exact LeO.refl _)
      | (with_reducible exact LeO.none _)
      | (with_reducible refine LeO.ite ?_ ?_)
      | (with_reducible refine LeO.bind ?_ (fun _ => ?_))
      | exact ih0 _ _ _
      | exact ih1 _ _ _ _
      | exact ih2 _ _ _ _ _
      | exact LeO.none _
      | refine LeO.ite ?_ ?_
      | refine LeO.bind ?_ (fun _ => ?_)
theorem impl_nodeEnd.mono : ∀ a0 a1 a2 k, LeO (impl_nodeEnd.f k a0 a1 a2) (impl_nodeEnd.f (k + 1) a0 a1 a2) := by
  intro a0 a1 a2 k
  obtain ⟨ih0, ih1, ih2⟩ := impl_nodeEnd.mono_l k
  exact ih0 a0 a1 a2
set_option maxHeartbeats 8000000 in
set_option maxRecDepth 100000 in
theorem impl_nodeEnd.calls (k : Nat) : ∀ (a0 : ByteArray) (a1 : Int) (a2 : Int) (r : Int) (w : World) (h : impl_nodeEnd.f k a0 a1 a2 = some r),
    Calls Try.prog 50 #[.string a0, .int .i64 a1, .int .i64 a2] w fun e w' => e = .returned (.int .i64 r) ∧ Drawn0 w w' := by
  induction k using Nat.strongRecOn with
  | _ k ih =>
  intro a0 a1 a2 r w h
  cases k with
  | zero => exact absurd h (by simp [impl_nodeEnd.f])
  | succ k =>
  simp only [impl_nodeEnd.f] at h
  have H : (if a2 = 0 then (if 0 ≤ a1 then (if a1 ≤ (a0.size : Int) then ((strings_HasPrefix.f (a0.extract (a1 : Int).toNat a0.size) (⟨#[120]⟩ : ByteArray)).bind fun t177 => (if t177 = true then (some (wrap64 (a1 + 1))) else (some (-1)))) else (none)) else (none)) else (if 0 ≤ a1 then (if a1 ≤ (a0.size : Int) then ((strings_HasPrefix.f (a0.extract (a1 : Int).toNat a0.size) (⟨#[40]⟩ : ByteArray)).bind fun t178 => (if t178 = true then (impl_nodeEnd.l0 k a0 (wrap64 (a1 + 1)) a2 0) else (some (-1)))) else (none)) else (none))) = some r := h
  clear h
  by_cases c4 : a2 = 0
  · rw [if_pos c4] at H
    have c4b0 : (a2 == 0) = true := beq_iff_eq.mpr c4
    have c4b1 : (a2 != 0) = false := bne_eq_false_iff_eq.mpr c4
    clear c4
    by_cases c5 : 0 ≤ a1
    · rw [if_pos c5] at H
      have c5b0 := eq_true c5
      have c5b1 : decide (0 ≤ a1) = true := decide_eq_true c5
      clear c5
      by_cases c6 : a1 ≤ (a0.size : Int)
      · rw [if_pos c6] at H
        have c6b0 := eq_true c6
        have c6b1 : decide (a1 ≤ (a0.size : Int)) = true := decide_eq_true c6
        clear c6
        replace H := Option.bind_eq_some_iff.mp H
        obtain ⟨t177, A70, H⟩ := H
        replace H : (if t177 = true then (some (wrap64 (a1 + 1))) else (some (-1))) = some r := H
        have A7 := Aside0.mk A70
        clear A70
        by_cases c8 : t177 = true
        · subst c8
          have H1 : (some (wrap64 (a1 + 1))) = some r := by rw [if_pos rfl] at H; exact H
          clear H
          have H := H1
          clear H1
          obtain rfl := Option.some.inj H
          go_enter Try.func50, Try.ntmps50
          go_wp2_with (first | ((with_reducible refine gate_callee (f := 63) rfl ?_); refine goesL_ (some 13) rfl rfl Try.func63 (by kernel_rfl) rfl #[.string (a0.extract (a1 : Int).toNat a0.size), .string (⟨#[120]⟩ : ByteArray)] rfl (by (try simp only [List.map_toArray, List.map_cons, List.map_nil]); first | done | rfl | (simp only [List.length_drop, List.length_take]; rfl)) ?_; (with_reducible refine (strings_HasPrefix.calls (a0.extract (a1 : Int).toNat a0.size) (⟨#[120]⟩ : ByteArray) true _ A7.out).mono ?_); rintro e w' ⟨rfl, ⟨nd, rfl⟩⟩; refine ⟨_, rfl, ?_⟩))
          go_ret
          exact ⟨by first | rfl | (simp; done) | (simp [*]; done), by repeat (first | exact Drawn0.refl _ | apply Drawn0.step)⟩
        · replace c8 := Bool.eq_false_iff.mpr c8
          subst c8
          have H1 : (some (-1)) = some r := by rw [if_neg (show ¬ (false = true) by decide)] at H; exact H
          clear H
          have H := H1
          clear H1
          obtain rfl := Option.some.inj H
          go_enter Try.func50, Try.ntmps50
          go_wp2_with (first | ((with_reducible refine gate_callee (f := 63) rfl ?_); refine goesL_ (some 13) rfl rfl Try.func63 (by kernel_rfl) rfl #[.string (a0.extract (a1 : Int).toNat a0.size), .string (⟨#[120]⟩ : ByteArray)] rfl (by (try simp only [List.map_toArray, List.map_cons, List.map_nil]); first | done | rfl | (simp only [List.length_drop, List.length_take]; rfl)) ?_; (with_reducible refine (strings_HasPrefix.calls (a0.extract (a1 : Int).toNat a0.size) (⟨#[120]⟩ : ByteArray) false _ A7.out).mono ?_); rintro e w' ⟨rfl, ⟨nd, rfl⟩⟩; refine ⟨_, rfl, ?_⟩))
          go_ret
          exact ⟨by first | rfl | (simp; done) | (simp [*]; done), by repeat (first | exact Drawn0.refl _ | apply Drawn0.step)⟩
      · rw [if_neg c6] at H
        exact absurd H (by simp)
    · rw [if_neg c5] at H
      exact absurd H (by simp)
  · rw [if_neg c4] at H
    have c4b0 : (a2 == 0) = false := beq_eq_false_iff_ne.mpr c4
    have c4b1 : (a2 != 0) = true := bne_iff_ne.mpr c4
    by_cases c9 : 0 ≤ a1
    · rw [if_pos c9] at H
      have c9b0 := eq_true c9
      have c9b1 : decide (0 ≤ a1) = true := decide_eq_true c9
      clear c9
      by_cases c10 : a1 ≤ (a0.size : Int)
      · rw [if_pos c10] at H
        have c10b0 := eq_true c10
        have c10b1 : decide (a1 ≤ (a0.size : Int)) = true := decide_eq_true c10
        clear c10
        replace H := Option.bind_eq_some_iff.mp H
        obtain ⟨t178, A110, H⟩ := H
        replace H : (if t178 = true then (impl_nodeEnd.l0 k a0 (wrap64 (a1 + 1)) a2 0) else (some (-1))) = some r := H
        have A11 := Aside0.mk A110
        clear A110
        by_cases c12 : t178 = true
        · subst c12
          have H1 : (impl_nodeEnd.l0 k a0 (wrap64 (a1 + 1)) a2 0) = some r := by rw [if_pos rfl] at H; exact H
          clear H
          have H := H1
          clear H1
          have H' := Aside0.mk H
          clear H
          go_enter Try.func50, Try.ntmps50
          go_wp2_with (first | ((with_reducible refine gate_callee (f := 63) rfl ?_); refine goesL_ (some 19) rfl rfl Try.func63 (by kernel_rfl) rfl #[.string (a0.extract (a1 : Int).toNat a0.size), .string (⟨#[40]⟩ : ByteArray)] rfl (by (try simp only [List.map_toArray, List.map_cons, List.map_nil]); first | done | rfl | (simp only [List.length_drop, List.length_take]; rfl)) ?_; (with_reducible refine (strings_HasPrefix.calls (a0.extract (a1 : Int).toNat a0.size) (⟨#[40]⟩ : ByteArray) true _ A11.out).mono ?_); rintro e w' ⟨rfl, ⟨nd, rfl⟩⟩; refine ⟨_, rfl, ?_⟩))
          go_loopg [1, 7] k (fun kq v1 v7 w' => ∃ (x1_1 : Int) (x7_1 : Int), v1 = .int .i64 x1_1 ∧ v7 = .int .i64 x7_1 ∧ Aside0 (impl_nodeEnd.l0 kq a0 x1_1 a2 x7_1 = some r) ∧ Aside0 (kq ≤ k) ∧ Drawn0 w w')
          case atStart => exact ⟨(wrap64 (a1 + 1)), (0), (by first | rfl | (simp; done) | (simp [*]; done)), (by first | rfl | (simp; done) | (simp [*]; done)), H', ⟨Nat.le_refl _⟩, by repeat (first | exact Drawn0.refl _ | apply Drawn0.step)⟩
          case round =>
            clear H'
            try clear c1
            try clear p2
            try clear c4
            try clear c4b0
            try clear c4b1
            try clear c5
            try clear c5b0
            try clear c5b1
            try clear c6
            try clear c6b0
            try clear c6b1
            try clear p6
            try clear c8
            try clear c9
            try clear c9b0
            try clear c9b1
            try clear c10
            try clear c10b0
            try clear c10b1
            try clear c12
            obtain ⟨x1_1, x7_1, rfl, rfl, HA, HK1, ⟨m1, rfl⟩⟩ := hrel
            cases gk with
            | zero => exact absurd HA.out (by simp [impl_nodeEnd.l0])
            | succ k1 =>
              have H := HA.out
              clear HA
              simp only [impl_nodeEnd.l0] at H
              have HC13 := Aside0.mk H
              clear H
              go_upto_region 9 with (fail)
              go_cut [32] (fun v32 wc => ∃ (kq : Nat) (x32_12 : Bool), v32 = .bool x32_12 ∧ Aside0 (impl_nodeEnd.j1 kq a0 x1_1 a2 x7_1 x32_12 = some r) ∧ Aside0 (kq ≤ k1) ∧ Drawn0 w wc)
              case first =>
                have H := HC13.out
                clear HC13
                by_cases c14 : x1_1 < (a0.size : Int)
                · rw [if_pos c14] at H
                  have c14b0 : decide (x1_1 < (a0.size : Int)) = true := decide_eq_true c14
                  clear c14
                  (first | rw [c14b0] | (simp only [i64_w, i32_w]; rw [c14b0]) | skip)
                  by_cases c15 : 0 ≤ x1_1
                  · rw [if_pos c15] at H
                    have c15b0 : decide (0 ≤ x1_1) = true := decide_eq_true c15
                    clear c15
                    have H' := Aside0.mk H
                    clear H
                    have p16 : 0 ≤ (x1_1 : Int) := of_decide_eq_true (by first | (with_reducible assumption) | assumption)
                    have q16 : x1_1 < (a0.size : Int) := of_decide_eq_true (by first | (with_reducible assumption) | assumption)
                    have hx16 := bt_at a0 x1_1
                    replace p16 := eq_true p16
                    replace q16 := eq_true q16
                    go_wp2
                    go_meet
                    case rel => exact ⟨_, (((bt a0 x1_1) != 41)), (by first | rfl | (simp; done) | (simp [*]; done)), H', ⟨by have := HK1.out; first | omega | exact Nat.le_refl _⟩, by repeat (first | exact Drawn0.refl _ | apply Drawn0.step)⟩
                  · rw [if_neg c15] at H
                    exact absurd H (by simp)
                · rw [if_neg c14] at H
                  have c14b0 : decide (x1_1 < (a0.size : Int)) = false := decide_eq_false c14
                  clear c14
                  (first | rw [c14b0] | (simp only [i64_w, i32_w]; rw [c14b0]) | skip)
                  have H' := Aside0.mk H
                  clear H
                  go_wp2
                  go_meet
                  case rel => exact ⟨_, (false), (by first | rfl | (simp; done) | (simp [*]; done)), H', ⟨by have := HK1.out; first | omega | exact Nat.le_refl _⟩, by repeat (first | exact Drawn0.refl _ | apply Drawn0.step)⟩
              case rest =>
                clear HC13
                try clear c1
                try clear p1
                try clear q1
                try clear hx1
                try clear p2
                try clear c4
                try clear c4b0
                try clear c4b1
                try clear c5
                try clear c5b0
                try clear c5b1
                try clear c6
                try clear c6b0
                try clear c6b1
                try clear p6
                try clear c8
                try clear c9
                try clear c9b0
                try clear c9b1
                try clear c10
                try clear c10b0
                try clear c10b1
                try clear c12
                try clear c14
                try clear c14b0
                try clear c15
                try clear c15b0
                try clear p16
                try clear q16
                try clear hx16
                try clear p16
                try clear p2
                try clear p6
                try clear q16
                obtain ⟨kq, x32_12, rfl, HA, HJ12, ⟨mc12, rfl⟩⟩ := hcut
                cases kq with
                | zero => exact absurd HA.out (by simp [impl_nodeEnd.j1])
                | succ kj12 =>
                  have H := HA.out
                  clear HA
                  simp only [impl_nodeEnd.j1] at H
                  by_cases c17 : x32_12 = true
                  · subst c17
                    have H1 : ((impl_nodeEnd.f kj12 a0 x1_1 (wrap64 (a2 - 1))).bind fun t179 => (if t179 < 0 then (some (-1)) else (impl_nodeEnd.l0 kj12 a0 t179 a2 (wrap64 (x7_1 + 1))))) = some r := by rw [if_pos rfl] at H; exact H
                    clear H
                    have H := H1
                    clear H1
                    replace H := Option.bind_eq_some_iff.mp H
                    obtain ⟨t179, A180, H⟩ := H
                    replace H : (if t179 < 0 then (some (-1)) else (impl_nodeEnd.l0 kj12 a0 t179 a2 (wrap64 (x7_1 + 1)))) = some r := H
                    have A18 := Aside0.mk A180
                    clear A180
                    by_cases c19 : t179 < 0
                    · rw [if_pos c19] at H
                      have c19b0 : decide (t179 < 0) = true := decide_eq_true c19
                      clear c19
                      obtain rfl := Option.some.inj H
                      go_wp2_with (first | ((with_reducible refine gate_callee (f := 50) rfl ?_); refine goesL_ (some 39) rfl rfl Try.func50 (by kernel_rfl) rfl #[.string a0, .int .i64 x1_1, .int .i64 (wrap64 (a2 - 1))] rfl (by (try simp only [List.map_toArray, List.map_cons, List.map_nil]); first | done | rfl | (simp only [List.length_drop, List.length_take]; rfl)) ?_; (with_reducible refine (ih kj12 (by have := HK1.out; have := HJ12.out; omega) a0 x1_1 (wrap64 (a2 - 1)) t179 _ A18.out).mono ?_); rintro e w' ⟨rfl, ⟨nd, rfl⟩⟩; refine ⟨_, rfl, ?_⟩))
                      go_ret
                      exact ⟨by first | rfl | (simp; done) | (simp [*]; done), by repeat (first | exact Drawn0.refl _ | apply Drawn0.step)⟩
                    · rw [if_neg c19] at H
                      have c19b0 : decide (t179 < 0) = false := decide_eq_false c19
                      clear c19
                      have H' := Aside0.mk H
                      clear H
                      go_wp2_with (first | ((with_reducible refine gate_callee (f := 50) rfl ?_); refine goesL_ (some 39) rfl rfl Try.func50 (by kernel_rfl) rfl #[.string a0, .int .i64 x1_1, .int .i64 (wrap64 (a2 - 1))] rfl (by (try simp only [List.map_toArray, List.map_cons, List.map_nil]); first | done | rfl | (simp only [List.length_drop, List.length_take]; rfl)) ?_; (with_reducible refine (ih kj12 (by have := HK1.out; have := HJ12.out; omega) a0 x1_1 (wrap64 (a2 - 1)) t179 _ A18.out).mono ?_); rintro e w' ⟨rfl, ⟨nd, rfl⟩⟩; refine ⟨_, rfl, ?_⟩))
                      go_roundg kj12
                      case measure => have := HK1.out; have := HJ12.out; omega
                      case rel => exact ⟨(t179), (wrap64 (x7_1 + 1)), (by first | rfl | (simp; done) | (simp [*]; done)), (by first | rfl | (simp; done) | (simp [*]; done)), H', ⟨by have := HK1.out; have := HJ12.out; omega⟩, by repeat (first | exact Drawn0.refl _ | apply Drawn0.step)⟩
                  · replace c17 := Bool.eq_false_iff.mpr c17
                    subst c17
                    have H1 : (if x1_1 = (a0.size : Int) then (some (-1)) else ((impl_in.f x7_1 2 3).bind fun t180 => (if t180 = true then (some (wrap64 (x1_1 + 1))) else (some (-1))))) = some r := by rw [if_neg (show ¬ (false = true) by decide)] at H; exact H
                    clear H
                    have H := H1
                    clear H1
                    by_cases c20 : x1_1 = (a0.size : Int)
                    · rw [if_pos c20] at H
                      have c20b0 : (x1_1 == (a0.size : Int)) = true := beq_iff_eq.mpr c20
                      have c20b1 : (x1_1 != (a0.size : Int)) = false := bne_eq_false_iff_eq.mpr c20
                      clear c20
                      obtain rfl := Option.some.inj H
                      go_wp2
                      go_ret
                      exact ⟨by first | rfl | (simp; done) | (simp [*]; done), by repeat (first | exact Drawn0.refl _ | apply Drawn0.step)⟩
                    · rw [if_neg c20] at H
                      have c20b0 : (x1_1 == (a0.size : Int)) = false := beq_eq_false_iff_ne.mpr c20
                      have c20b1 : (x1_1 != (a0.size : Int)) = true := bne_iff_ne.mpr c20
                      replace H := Option.bind_eq_some_iff.mp H
                      obtain ⟨t180, A210, H⟩ := H
                      replace H : (if t180 = true then (some (wrap64 (x1_1 + 1))) else (some (-1))) = some r := H
                      have A21 := Aside0.mk A210
                      clear A210
                      by_cases c22 : t180 = true
                      · subst c22
                        have H1 : (some (wrap64 (x1_1 + 1))) = some r := by rw [if_pos rfl] at H; exact H
                        clear H
                        have H := H1
                        clear H1
                        obtain rfl := Option.some.inj H
                        go_wp2_with (first | (go_at_call 34; (with_reducible refine (impl_in.calls x7_1 2 3 true _ A21.out).mono ?_); rintro e w' ⟨rfl, ⟨nd, rfl⟩⟩))
                        go_ret
                        exact ⟨by first | rfl | (simp; done) | (simp [*]; done), by repeat (first | exact Drawn0.refl _ | apply Drawn0.step)⟩
                      · replace c22 := Bool.eq_false_iff.mpr c22
                        subst c22
                        have H1 : (some (-1)) = some r := by rw [if_neg (show ¬ (false = true) by decide)] at H; exact H
                        clear H
                        have H := H1
                        clear H1
                        obtain rfl := Option.some.inj H
                        go_wp2_with (first | (go_at_call 34; (with_reducible refine (impl_in.calls x7_1 2 3 false _ A21.out).mono ?_); rintro e w' ⟨rfl, ⟨nd, rfl⟩⟩))
                        go_ret
                        exact ⟨by first | rfl | (simp; done) | (simp [*]; done), by repeat (first | exact Drawn0.refl _ | apply Drawn0.step)⟩
        · replace c12 := Bool.eq_false_iff.mpr c12
          subst c12
          have H1 : (some (-1)) = some r := by rw [if_neg (show ¬ (false = true) by decide)] at H; exact H
          clear H
          have H := H1
          clear H1
          obtain rfl := Option.some.inj H
          go_enter Try.func50, Try.ntmps50
          go_wp2_with (first | ((with_reducible refine gate_callee (f := 63) rfl ?_); refine goesL_ (some 19) rfl rfl Try.func63 (by kernel_rfl) rfl #[.string (a0.extract (a1 : Int).toNat a0.size), .string (⟨#[40]⟩ : ByteArray)] rfl (by (try simp only [List.map_toArray, List.map_cons, List.map_nil]); first | done | rfl | (simp only [List.length_drop, List.length_take]; rfl)) ?_; (with_reducible refine (strings_HasPrefix.calls (a0.extract (a1 : Int).toNat a0.size) (⟨#[40]⟩ : ByteArray) false _ A11.out).mono ?_); rintro e w' ⟨rfl, ⟨nd, rfl⟩⟩; refine ⟨_, rfl, ?_⟩))
          go_ret
          exact ⟨by first | rfl | (simp; done) | (simp [*]; done), by repeat (first | exact Drawn0.refl _ | apply Drawn0.step)⟩
      · rw [if_neg c10] at H
        exact absurd H (by simp)
    · rw [if_neg c9] at H
      exact absurd H (by simp)


/-! ### strings_Count: function 64 -/
/-- strings.Count at a text of one byte. -/
def strings_Count.f (s t : ByteArray) : Option Int := if t.size = 1 then some (Lib.countByte s.data.toList (t.data.toList.getD 0 0) : Int) else none
set_option maxHeartbeats 2000000 in
set_option maxRecDepth 1000000 in
theorem strings_Count.calls (s t : ByteArray) (r : Int) (w : World) (h : strings_Count.f s t = some r) :
    Calls Try.prog 64 #[.string s, .string t] w fun e w' => e = .returned (.int .i64 r) ∧ Drawn0 w w' := by
  unfold strings_Count.f at h
  by_cases h1 : t.size = 1
  case neg => rw [if_neg h1] at h; cases h
  rw [if_pos h1] at h
  obtain rfl := Option.some.inj h
  obtain ⟨c, rfl⟩ : ∃ c : UInt8, t = ⟨#[c]⟩ := by
    obtain ⟨d⟩ := t
    have h2 : d.size = 1 := h1
    refine ⟨d[0]'(by omega), ?_⟩
    congr 1
    apply Array.ext
    · simp [h2]
    · intro i h3 h4
      have : i = 0 := by simp at h4; exact h4
      subst this
      rfl
  clear h h1
  go_enter Try.func64, Try.ntmps64
  go_wp2
  rw [run_callFunc_extern Try.func70 (by kernel_rfl) (by kernel_rfl) (by kernel_rfl) (e := Extern.BytealgCount.count) (by kernel_rfl), Lib.run_countString]
  simp only [Result.andThen]
  rw [Oper.upon_value]
  go_wp2
  go_ret
  exact ⟨rfl, ⟨0, rfl⟩⟩

/-! ### impl_leavesOf: function 51 -/
def impl_leavesOf.f (a0 : ByteArray) : Option (Int) := (strings_Count.f a0 (⟨#[120]⟩ : ByteArray)).bind fun t181 => (some t181)
set_option maxHeartbeats 8000000 in
set_option maxRecDepth 100000 in
theorem impl_leavesOf.calls (a0 : ByteArray) (r : Int) (w : World) (h : impl_leavesOf.f a0 = some r) :
    Calls Try.prog 51 #[.string a0] w fun e w' => e = .returned (.int .i64 r) ∧ Drawn0 w w' := by
  have H : ((strings_Count.f a0 (⟨#[120]⟩ : ByteArray)).bind fun t181 => (some t181)) = some r := h
  clear h
  replace H := Option.bind_eq_some_iff.mp H
  obtain ⟨t181, A20, H⟩ := H
  replace H : (some t181) = some r := H
  have A2 := Aside0.mk A20
  clear A20
  obtain rfl := Option.some.inj H
  go_enter Try.func51, Try.ntmps51
  go_wp2_with (first | ((with_reducible refine gate_callee (f := 64) rfl ?_); refine goesL_ (some 4) rfl rfl Try.func64 (by kernel_rfl) rfl #[.string a0, .string (⟨#[120]⟩ : ByteArray)] rfl (by (try simp only [List.map_toArray, List.map_cons, List.map_nil]); first | done | rfl | (simp only [List.length_drop, List.length_take]; rfl)) ?_; (with_reducible refine (strings_Count.calls a0 (⟨#[120]⟩ : ByteArray) t181 _ A2.out).mono ?_); rintro e w' ⟨rfl, ⟨nd, rfl⟩⟩; refine ⟨_, rfl, ?_⟩))
  go_ret
  exact ⟨by first | rfl | (simp; done) | (simp [*]; done), by repeat (first | exact Drawn0.refl _ | apply Drawn0.step)⟩

/-! ### impl_isNode: function 31 -/
def impl_isNode.f (k : Nat) (a0 : ByteArray) (a1 : Int) : Option (Bool) := (impl_in.f a1 0 8).bind fun t182 => (if t182 = true then ((impl_nodeEnd.f k a0 0 a1).bind fun t183 => (if t183 = (a0.size : Int) then ((impl_leavesOf.f a0).bind fun t184 => (some (decide (t184 ≤ 200)))) else (some false))) else (some false))
theorem impl_isNode.mono : ∀ a0 a1 k, LeO (impl_isNode.f k a0 a1) (impl_isNode.f (k + 1) a0 a1) := by
  intro a0 a1 k
  unfold impl_isNode.f
  repeat' first
      | (with_reducible exact impl_nodeEnd.mono _ _ _ _)
      | (with_reducible exact LeO.refl _)
      | (with_reducible exact LeO.none _)
      | (with_reducible refine LeO.ite ?_ ?_)
      | (with_reducible refine LeO.bind ?_ (fun _ => ?_))
      | exact impl_nodeEnd.mono _ _ _ _
      | exact LeO.none _
      | refine LeO.ite ?_ ?_
      | refine LeO.bind ?_ (fun _ => ?_)
set_option maxHeartbeats 8000000 in
set_option maxRecDepth 100000 in
theorem impl_isNode.calls (k : Nat) (a0 : ByteArray) (a1 : Int) (r : Bool) (w : World) (h : impl_isNode.f k a0 a1 = some r) :
    Calls Try.prog 31 #[.string a0, .int .i64 a1] w fun e w' => e = .returned (.bool r) ∧ Drawn0 w w' := by
  have H : ((impl_in.f a1 0 8).bind fun t182 => (if t182 = true then ((impl_nodeEnd.f k a0 0 a1).bind fun t183 => (if t183 = (a0.size : Int) then ((impl_leavesOf.f a0).bind fun t184 => (some (decide (t184 ≤ 200)))) else (some false))) else (some false))) = some r := h
  clear h
  replace H := Option.bind_eq_some_iff.mp H
  obtain ⟨t182, A30, H⟩ := H
  replace H : (if t182 = true then ((impl_nodeEnd.f k a0 0 a1).bind fun t183 => (if t183 = (a0.size : Int) then ((impl_leavesOf.f a0).bind fun t184 => (some (decide (t184 ≤ 200)))) else (some false))) else (some false)) = some r := H
  have A3 := Aside0.mk A30
  clear A30
  by_cases c4 : t182 = true
  · subst c4
    have H1 : ((impl_nodeEnd.f k a0 0 a1).bind fun t183 => (if t183 = (a0.size : Int) then ((impl_leavesOf.f a0).bind fun t184 => (some (decide (t184 ≤ 200)))) else (some false))) = some r := by rw [if_pos rfl] at H; exact H
    clear H
    have H := H1
    clear H1
    replace H := Option.bind_eq_some_iff.mp H
    obtain ⟨t183, A50, H⟩ := H
    replace H : (if t183 = (a0.size : Int) then ((impl_leavesOf.f a0).bind fun t184 => (some (decide (t184 ≤ 200)))) else (some false)) = some r := H
    have A5 := Aside0.mk A50
    clear A50
    by_cases c6 : t183 = (a0.size : Int)
    · rw [if_pos c6] at H
      have c6b0 : (t183 == (a0.size : Int)) = true := beq_iff_eq.mpr c6
      have c6b1 : (t183 != (a0.size : Int)) = false := bne_eq_false_iff_eq.mpr c6
      clear c6
      replace H := Option.bind_eq_some_iff.mp H
      obtain ⟨t184, A70, H⟩ := H
      replace H : (some (decide (t184 ≤ 200))) = some r := H
      have A7 := Aside0.mk A70
      clear A70
      obtain rfl := Option.some.inj H
      go_enter Try.func31, Try.ntmps31
      go_wp2_with (first | ((with_reducible refine gate_callee (f := 34) rfl ?_); refine goesL_ (some 6) rfl rfl Try.func34 (by kernel_rfl) rfl #[.int .i64 a1, .int .i64 0, .int .i64 8] rfl (by (try simp only [List.map_toArray, List.map_cons, List.map_nil]); first | done | rfl | (simp only [List.length_drop, List.length_take]; rfl)) ?_; (with_reducible refine (impl_in.calls a1 0 8 true _ A3.out).mono ?_); rintro e w' ⟨rfl, ⟨nd, rfl⟩⟩; refine ⟨_, rfl, ?_⟩) | (go_at_call 50; (with_reducible refine (impl_nodeEnd.calls k a0 0 a1 t183 _ A5.out).mono ?_); rintro e w' ⟨rfl, ⟨nd, rfl⟩⟩) | (go_at_call 51; (with_reducible refine (impl_leavesOf.calls a0 t184 _ A7.out).mono ?_); rintro e w' ⟨rfl, ⟨nd, rfl⟩⟩))
      go_ret
      exact ⟨by first | rfl | (simp; done) | (simp [*]; done), by repeat (first | exact Drawn0.refl _ | apply Drawn0.step)⟩
    · rw [if_neg c6] at H
      have c6b0 : (t183 == (a0.size : Int)) = false := beq_eq_false_iff_ne.mpr c6
      have c6b1 : (t183 != (a0.size : Int)) = true := bne_iff_ne.mpr c6
      obtain rfl := Option.some.inj H
      go_enter Try.func31, Try.ntmps31
      go_wp2_with (first | ((with_reducible refine gate_callee (f := 34) rfl ?_); refine goesL_ (some 6) rfl rfl Try.func34 (by kernel_rfl) rfl #[.int .i64 a1, .int .i64 0, .int .i64 8] rfl (by (try simp only [List.map_toArray, List.map_cons, List.map_nil]); first | done | rfl | (simp only [List.length_drop, List.length_take]; rfl)) ?_; (with_reducible refine (impl_in.calls a1 0 8 true _ A3.out).mono ?_); rintro e w' ⟨rfl, ⟨nd, rfl⟩⟩; refine ⟨_, rfl, ?_⟩) | (go_at_call 50; (with_reducible refine (impl_nodeEnd.calls k a0 0 a1 t183 _ A5.out).mono ?_); rintro e w' ⟨rfl, ⟨nd, rfl⟩⟩))
      go_ret
      exact ⟨by first | rfl | (simp; done) | (simp [*]; done), by repeat (first | exact Drawn0.refl _ | apply Drawn0.step)⟩
  · replace c4 := Bool.eq_false_iff.mpr c4
    subst c4
    have H1 : (some false) = some r := by rw [if_neg (show ¬ (false = true) by decide)] at H; exact H
    clear H
    have H := H1
    clear H1
    obtain rfl := Option.some.inj H
    go_enter Try.func31, Try.ntmps31
    go_wp2_with (first | ((with_reducible refine gate_callee (f := 34) rfl ?_); refine goesL_ (some 6) rfl rfl Try.func34 (by kernel_rfl) rfl #[.int .i64 a1, .int .i64 0, .int .i64 8] rfl (by (try simp only [List.map_toArray, List.map_cons, List.map_nil]); first | done | rfl | (simp only [List.length_drop, List.length_take]; rfl)) ?_; (with_reducible refine (impl_in.calls a1 0 8 false _ A3.out).mono ?_); rintro e w' ⟨rfl, ⟨nd, rfl⟩⟩; refine ⟨_, rfl, ?_⟩))
    go_ret
    exact ⟨by first | rfl | (simp; done) | (simp [*]; done), by repeat (first | exact Drawn0.refl _ | apply Drawn0.step)⟩


/-! ### slices_Concat_string_string: function 44 -/
def slices_Concat_string_string.f (l0 : List (List ByteArray)) : Option (List ByteArray) := if l0.length ≤ 1048576 ∧ (l0.map List.length).sum ≤ 4294967296 then some l0.flatten else none
set_option maxHeartbeats 4000000 in
set_option maxRecDepth 1000000 in
/-- slices.Grow of no elements at all: an empty row of the call's own. -/
theorem slices_Concat_string_string.grow (n : Int) (w : World) (h0 : 0 ≤ n) (h1 : n ≤ 4294967296) :
    Calls Try.prog 59 #[.slice none 0 0, .int .i64 n] w fun e w' => ∃ v : Value, e = .returned v ∧ Kd.R Kd.string 9 w' w.heap.size (fun _ => True) v [] ∧ Below w.heap.size w w' := by
  have c0 : decide (n < 0) = false := decide_eq_false (by omega)
  obtain ⟨i0, hi0, _, hsz, _⟩ := info_parts info9
  have hcut : ∀ W : World, (Instr.slice 41 (.slice none 0 0) none (some (.int .i64 0)) none).run Try.prog W = .ok (.slice none 0 0) W := (print_take_of (P := Try.prog) (Value.string) (⟨#[]⟩ : ByteArray) 41 9 .i64 Try.underlying41 hi0 hsz none 0 ([] : List ByteArray) 0 (by decide) (by decide) (by decide)).1
  by_cases hn : n = 0
  · subst hn
    go_enter Try.func59, Try.ntmps59
    go_wp2
    go_ret
    exact ⟨_, rfl, Kd.R_nil _ _ _ _ _, Below.refl _ _⟩
  · have c1 : decide (n > 0) = true := decide_eq_true (by omega)
    have c2 : decide (0 < n) = true := decide_eq_true (by omega)
    have HN := Aside0.mk h1
    have HP := Aside0.mk h0
    clear h0 h1 hn
    have hwn : wrap64 n = n := by have := HN.out; have := HP.out; unfold wrap64; omega
    go_enter Try.func59, Try.ntmps59
    go_wp2_with (first | ((with_reducible refine gate_builtin (b := .append) (xs := #[.tmp 20, .tmp 21]) rfl ?_); at_builtin; refine Kd.R_append_zeros Kd.string (kx := .i64) (w0 := w) w.heap.size rfl (.tmp 20) (.tmp 21) 41 3 9 (.string ⟨#[]⟩) 16 rfl Try.underlying41 Try.underlying3 info9 rfl (by decide) (by decide) (.slice none 0 0) ([] : List ByteArray) (⟨#[]⟩ : ByteArray) n (fun _ => True) rfl ?hx rfl (fun _ _ => trivial) (Kd.R_nil _ _ _ _ _) HP.out ?hB ?hS ?hL ?_; (case hx => first | rfl | (rw [hwn]; rfl) | (simp only [hwn]; rfl)); (case hB => repeat (first | exact Below.refl _ _ | apply pw_below_drewN | apply below_drew1)); (case hS => exact Nat.le_refl _); (case hL => have := HN.out; simp only [List.length_nil]; omega); intro v1 w1 ho hb hg hat; obtain ⟨A1, c1, ev⟩ := Kd.R_slice ho; subst ev; have HO := Aside0.mk (Kd.R_take (m := 0) ho (Nat.zero_le _)); have HB := Aside0.mk hb; have hcut2 : ∀ W : World, (Instr.slice 41 (.slice A1 ([] ++ List.replicate n.toNat (⟨#[]⟩ : ByteArray) : List ByteArray).length c1) none (some (.int .i64 0)) none).run Try.prog W = .ok (.slice A1 0 c1) W := (print_take_of (P := Try.prog) (Value.string) (⟨#[]⟩ : ByteArray) 41 9 .i64 Try.underlying41 hi0 hsz A1 c1 ([] ++ List.replicate n.toNat (⟨#[]⟩ : ByteArray) : List ByteArray) 0 (by decide) (by omega) (Kd.R_reads' ho).2.1).1; clear ho hb hg hat))
    repeat (go_quiet (fail); try go_wp2)
    go_ret
    exact ⟨_, rfl, HO.out, HB.out⟩
set_option maxHeartbeats 8000000 in
set_option maxRecDepth 1000000 in
/-- slices.Concat: all of them, one behind the other. -/
theorem slices_Concat_string_string.calls (A0 : Option Addr) (c0 : Nat) (l0 : List (List ByteArray)) (r : List ByteArray) (w : World) (hr0 : Kd.C (Kd.slice 9 Kd.string) w A0 l0.length l0) (hc0 : l0.length ≤ c0) (h : slices_Concat_string_string.f l0 = some r) :
    Calls Try.prog 44 #[.slice A0 l0.length c0] w fun e w' => ∃ v0_ : Value, e = .returned (v0_) ∧ Kd.R Kd.string 9 w' w.heap.size (fun _ => True) v0_ r ∧ Below w.heap.size w w' := by
  unfold slices_Concat_string_string.f at h
  by_cases hs : l0.length ≤ 1048576 ∧ (l0.map List.length).sum ≤ 4294967296
  case neg => rw [if_neg hs] at h; cases h
  rw [if_pos hs] at h
  obtain rfl := Option.some.inj h
  clear h
  have HS := Aside0.mk hs
  have HR := Aside0.mk hr0
  clear hs hr0
  have hsum : ∀ i, i < l0.length → ((l0.take (i + 1)).map List.length).sum = ((l0.take i).map List.length).sum + (rd_L1 l0 (i : Int)).length := by
    intro i hi
    unfold rd_L1
    rw [Int.toNat_natCast, List.getD_eq_getElem?_getD, List.getElem?_eq_getElem hi, List.take_add_one, List.getElem?_eq_getElem hi, List.map_append, List.sum_append]
    simp only [Option.toList_some, List.map_cons, List.map_nil, List.sum_cons, List.sum_nil, Option.getD_some, Nat.add_zero]
  have hle : ∀ i, ((l0.take i).map List.length).sum ≤ (l0.map List.length).sum := by
    intro i
    have h := congrArg (fun x => (x.map List.length).sum) (List.take_append_drop i l0)
    simp only [List.map_append, List.sum_append] at h
    omega
  have hfl : ∀ i, i < l0.length → (l0.take (i + 1)).flatten = (l0.take i).flatten ++ rd_L1 l0 (i : Int) := by
    intro i hi
    unfold rd_L1
    rw [Int.toNat_natCast, List.getD_eq_getElem?_getD, List.getElem?_eq_getElem hi, List.take_add_one, List.getElem?_eq_getElem hi, List.flatten_append]
    simp only [Option.toList_some, List.flatten_cons, List.flatten_nil, Option.getD_some, List.append_nil]
  have hfn : ∀ i, (l0.take i).flatten.length = ((l0.take i).map List.length).sum := fun i => List.length_flatten
  obtain ⟨S, hS⟩ : ∃ S : Nat → Nat, S = fun i => ((l0.take i).map List.length).sum := ⟨_, rfl⟩
  obtain ⟨Fl, hFl⟩ : ∃ Fl : Nat → List ByteArray, Fl = fun i => (l0.take i).flatten := ⟨_, rfl⟩
  have hS0 : S 0 = 0 := by rw [hS]; rfl
  have hF0 : Fl 0 = [] := by rw [hFl]; rfl
  have hFe : Fl l0.length = l0.flatten := by rw [hFl]; simp only [List.take_length]
  have hsum : ∀ i, i < l0.length → S (i + 1) = S i + (rd_L1 l0 (i : Int)).length := by intro i hi; simp only [hS]; exact hsum i hi
  have hfl : ∀ i, i < l0.length → Fl (i + 1) = Fl i ++ rd_L1 l0 (i : Int) := by intro i hi; simp only [hFl]; exact hfl i hi
  have hle : ∀ i, S i ≤ 4294967296 := by intro i; have := hle i; have := HS.out.2; simp only [hS]; omega
  have hfn : ∀ i, (Fl i).length = S i := by intro i; simp only [hFl, hS]; exact hfn i
  rw [← hFe]
  clear hFe hS hFl
  have HQ := Aside0.mk (And.intro hsum (And.intro hle (And.intro hfl (And.intro hfn hF0))))
  clear hsum hle hfl hfn hF0
  have HZ := Aside0.mk hS0
  clear hS0
  go_enter Try.func44, Try.ntmps44
  go_wp2
  go_loopg [3, 11] (l0.length + 1) (fun kx v3 v11 w' => ∃ i : Nat, v3 = .int .i64 (S i : Int) ∧ v11 = .int .i64 (i : Int) ∧ Aside0 (i ≤ l0.length) ∧ Aside0 (l0.length - i < kx) ∧ Aside0 (Below w.heap.size w w'))
  case atStart => exact ⟨0, by rw [HZ.out]; rfl, rfl, ⟨Nat.zero_le _⟩, ⟨by omega⟩, ⟨by repeat (first | exact Below.refl _ _ | apply pw_below_drewN | apply below_drew1)⟩⟩
  case round =>
    obtain ⟨i, rfl, rfl, HI, HK, HB⟩ := hrel
    by_cases hi : i < l0.length
    · have c3 : decide ((i : Int) < (l0.length : Int)) = true := decide_eq_true (by omega)
      obtain ⟨ad, Ai, ci, e1, hx, hl, hi2⟩ := at_L1 HR.out (i : Int) (by omega) (by omega)
      subst e1
      rw [Int.toNat_natCast] at hx
      replace hx := (HB.out.cell (World.block_lt_of_cell? w _ hx)).trans hx
      have p0 : 0 ≤ (i : Int) := by omega
      have q0 : (i : Int) < (l0.length : Int) := by omega
      have hw1 : wrap64 ((S i : Int) + ((rd_L1 l0 (i : Int)).length : Int)) = (S (i + 1) : Int) := by
        have hq := HQ.out.1 i hi
        have hq2 := HQ.out.2.1 (i + 1)
        unfold wrap64; omega
      have hw2 : decide ((S (i + 1) : Int) < 0) = false := decide_eq_false (by omega)
      have hw3 : wrap64 ((i : Int) + 1) = ((i + 1 : Nat) : Int) := by unfold wrap64; have := HS.out.1; omega
      have HW := Aside0.mk hi
      clear hi hi2 hl
      go_wp2
      repeat (go_quiet (fail); try go_wp2)
      go_roundg (gk - 1)
      case measure => have := HK.out; omega
      case rel => exact ⟨i + 1, by first | rfl | (simp only [hw1]; done) | (simp [*]; done), by first | rfl | (simp only [hw3]; done) | (simp [*]; done), ⟨HW.out⟩, ⟨by have := HK.out; have := HW.out; omega⟩, ⟨by repeat (first | exact HB.out | apply pw_below_drewN | apply below_drew1)⟩⟩
    · have hil : i = l0.length := by have := HI.out; omega
      subst hil
      have c3 : decide ((l0.length : Int) < (l0.length : Int)) = false := decide_eq_false (by omega)
      clear hi
      go_wp2_with (first | (go_at_call 59; (with_reducible refine (slices_Concat_string_string.grow (S l0.length : Int) _ ?side1 ?side2).mono ?_); (case side1 => omega); (case side2 => have := HQ.out.2.1 l0.length; omega); rintro e w5 ⟨v5, rfl, ho5, hb5⟩; have n0_ := Aside0.mk (Kd.R_lower ho5 (below_size (by repeat (first | exact HB.out | apply pw_below_drewN | apply below_drew1)))); have n1_ := Aside0.mk (below_step (by repeat (first | exact HB.out | apply pw_below_drewN | apply below_drew1)) hb5); clear HB ho5 hb5; have HO := n0_; have HB := n1_; clear n0_ n1_))
      repeat (go_quiet (fail); try go_wp2)
      clear HK
      go_loopg [6, 27] (l0.length + 1) (fun kx v6 v27 w' => ∃ i : Nat, v27 = .int .i64 (i : Int) ∧ Aside0 (i ≤ l0.length) ∧ Aside0 (l0.length - i < kx) ∧ Aside0 (Kd.R Kd.string 9 w' w.heap.size (fun _ => True) v6 (Fl i)) ∧ Aside0 (Below w.heap.size w w'))
      case atStart => exact ⟨0, rfl, ⟨Nat.zero_le _⟩, ⟨by omega⟩, ⟨by rw [HQ.out.2.2.2.2]; (with_reducible repeat (first | apply Kd.R_alloc | apply Kd.R_drewN | apply Kd.R_drew)); exact HO.out⟩, ⟨by repeat (first | exact HB.out | apply pw_below_drewN | apply below_drew1)⟩⟩
      case round =>
        rename_i u6_
        clear HO HB
        obtain ⟨i, rfl, HI, HK, HO, HB⟩ := hrel
        by_cases hi : i < l0.length
        · have c4 : decide ((i : Int) < (l0.length : Int)) = true := decide_eq_true (by omega)
          obtain ⟨ad, Ai, ci, e1, hx, hl, hi2⟩ := at_L1 HR.out (i : Int) (by omega) (by omega)
          subst e1
          rw [Int.toNat_natCast] at hx
          replace hx := (HB.out.cell (World.block_lt_of_cell? w _ hx)).trans hx
          have p0 : 0 ≤ (i : Int) := by omega
          have q0 : (i : Int) < (l0.length : Int) := by omega
          have hw3 : wrap64 ((i : Int) + 1) = ((i + 1 : Nat) : Int) := by unfold wrap64; have := HS.out.1; omega
          have HW := Aside0.mk hi
          have HE := Aside0.mk hi2
          have HL := Aside0.mk hl
          clear hi hi2 hl
          go_wp2_with (first | ((with_reducible refine gate_builtin (b := .append) (xs := #[.tmp 31, .tmp 32]) rfl ?_); at_builtin; refine Kd.R_append_rows Kd.string (w0 := w) w.heap.size rfl (.tmp 31) (.tmp 32) 41 9 (.string ⟨#[]⟩) 16 rfl Try.underlying41 info9 rfl (by decide) (by omega) _ (Fl i) (rd_L1 l0 (i : Int)) _ _ _ (fun _ => True) (fun _ => False) rfl rfl ?aO ?aR (fun _ _ h => h) (fun _ h => h.elim) (fun _ _ => trivial) ?aB ?aS ?aL ?_; (case aR => repeat (first | exact (Kd.C_below HE.out HB.out) | (with_reducible refine Kd.C_alloc ?_ _) | (with_reducible refine Kd.C_drewN ?_ _) | (with_reducible refine Kd.C_drew ?_))); (case aB => repeat (first | exact HB.out | apply pw_below_drewN | apply below_drew1)); (case aO => (with_reducible repeat (first | apply Kd.R_alloc | apply Kd.R_drewN | apply Kd.R_drew)); exact HO.out); (case aS => exact (below_size (by repeat (first | exact HB.out | apply pw_below_drewN | apply below_drew1)))); (case aL => have := HQ.out.1 i HW.out; have := HQ.out.2.1 (i + 1); have := HQ.out.2.2.2.1 i; omega); intro v7 w7 ho hb hg hat; rw [← HQ.out.2.2.1 i HW.out] at ho; have HO7 := Aside0.mk ho; have HB7 := Aside0.mk hb; clear ho hb hg hat))
          repeat (go_quiet (fail); try go_wp2)
          go_roundg (gk - 1)
          case measure => have := HK.out; omega
          case rel => exact ⟨i + 1, by first | rfl | (simp only [hw3]; done) | (simp [*]; done), ⟨HW.out⟩, ⟨by have := HK.out; have := HW.out; omega⟩, ⟨by (with_reducible repeat (first | apply Kd.R_alloc | apply Kd.R_drewN | apply Kd.R_drew)); exact HO7.out⟩, ⟨by repeat (first | exact HB7.out | apply pw_below_drewN | apply below_drew1)⟩⟩
        · have hil : i = l0.length := by have := HI.out; omega
          subst hil
          have c4 : decide ((l0.length : Int) < (l0.length : Int)) = false := decide_eq_false (by omega)
          clear hi
          go_wp2
          go_ret
          exact ⟨_, rfl, by (with_reducible repeat (first | apply Kd.R_alloc | apply Kd.R_drewN | apply Kd.R_drew)); exact HO.out, by repeat (first | exact HB.out | apply pw_below_drewN | apply below_drew1)⟩


/-! ### impl_Fing_leaves: function 40 -/
/-- A literal row of two cells. -/
theorem CC.event {P : Program} {ops : Array Oper} {rest : List Oper} {o : Oper} {a : Act} {Q : Exit → Act → World → Prop} {W : World} (hgd : o.guard = none) {cs : Array Value} {t : TypeId} (n : Nat)
    (hrun : (execOp a.eval o).run P W = .ok (.value (.slice (some ⟨W.heap.size, 0, none⟩) n n)) (W.alloc (.cells cs t (0, 0))))
    (h : ∀ g w1, W.heap.size ≤ g → w1.heap[g]? = some (.cells cs t (0, 0)) → Below W.heap.size W w1 → wpList P ops Q rest (a.put o.dst (.slice (some ⟨g, 0, none⟩) n n)) w1) : wpList P ops Q (o :: rest) a W :=
  Kd.event_run hgd hrun (h _ _ (Nat.le_refl _) (blk_new W _) (below_alloc (Below.refl _ _) _))
/-- Two rows in a literal row. -/
theorem CC.pair {w : World} {g : Nat} {t : TypeId} {A0 A1 : Option Addr} {c0 c1 : Nat} {x0 x1 : List ByteArray} (hb : w.heap[g]? = some (.cells #[.slice A0 x0.length c0, .slice A1 x1.length c1] t (0, 0))) (l0 : x0.length ≤ c0) (h0 : Kd.C Kd.string w A0 x0.length x0) (l1 : x1.length ≤ c1) (h1 : Kd.C Kd.string w A1 x1.length x1) :
    Kd.C (Kd.slice 9 Kd.string) w (some ⟨g, 0, none⟩) 2 [x0, x1] := by
  refine ⟨rfl, by decide, fun _ => ⟨_, rfl, fun j p hj => ?_⟩⟩
  match j, hj with
  | 0, hj =>
    obtain rfl := Option.some.inj hj
    refine ⟨[.slice A0 x0.length c0], rfl, ⟨A0, c0, rfl, l0, h0⟩, fun i u hu => ?_⟩
    match i, hu with
    | 0, hu =>
      obtain rfl := Option.some.inj hu
      exact (blk_cell hb 0).trans rfl
    | i + 1, hu => simp at hu
  | 1, hj =>
    obtain rfl := Option.some.inj hj
    refine ⟨[.slice A1 x1.length c1], rfl, ⟨A1, c1, rfl, l1, h1⟩, fun i u hu => ?_⟩
    match i, hu with
    | 0, hu =>
      obtain rfl := Option.some.inj hu
      exact (blk_cell hb 1).trans rfl
    | i + 1, hu => simp at hu
  | j + 2, hj => simp at hj
theorem CC.cat (x0 x1 : List ByteArray) (h : x0.length + x1.length ≤ 1048576) : slices_Concat_string_string.f [x0, x1] = some (x0 ++ x1) := by
  unfold slices_Concat_string_string.f
  have e : ([x0, x1].map List.length).sum = x0.length + x1.length := by simp
  rw [if_pos ⟨by simp, by rw [e]; omega⟩]
  simp
def FL.cnt (s : ByteArray) : Nat := Lib.countByte s.data.toList 120
def FL.sum (l : List ByteArray) : Nat := (l.map FL.cnt).sum
def FL.tot (l : List S43) : Nat := (l.map fun x => FL.sum (x.f0 ++ x.f1)).sum
def impl_Fing_leaves.f (l0_0 : List S43) : Option Int := if l0_0.length ≤ 1048576 ∧ (∀ x ∈ l0_0, x.f0.length + x.f1.length ≤ 1048576) ∧ FL.tot l0_0 ≤ 4294967296 then some (FL.tot l0_0 : Int) else none
theorem FL.leaf (s : ByteArray) : impl_leavesOf.f s = some (FL.cnt s : Int) := by
  have h : strings_Count.f s (⟨#[120]⟩ : ByteArray) = some (FL.cnt s : Int) := by
    unfold strings_Count.f
    exact if_pos rfl
  unfold impl_leavesOf.f
  rw [h]
  rfl
theorem FL.sum_le {l : List ByteArray} (j : Nat) : FL.sum (l.take j) ≤ FL.sum l := by
  have h := congrArg FL.sum (List.take_append_drop j l)
  unfold FL.sum at *
  rw [List.map_append, List.sum_append] at h
  omega
theorem FL.sum_step {l : List ByteArray} {j : Nat} (hj : j < l.length) : FL.sum (l.take (j + 1)) = FL.sum (l.take j) + FL.cnt (rdOf ByteArray.empty l (j : Int)) := by
  unfold FL.sum rdOf
  rw [Int.toNat_natCast, List.getD_eq_getElem?_getD, List.getElem?_eq_getElem hj, List.take_add_one, List.getElem?_eq_getElem hj, List.map_append, List.sum_append]
  simp
theorem FL.tot_le {l : List S43} (j : Nat) : FL.tot (l.take j) ≤ FL.tot l := by
  have h := congrArg FL.tot (List.take_append_drop j l)
  unfold FL.tot at *
  rw [List.map_append, List.sum_append] at h
  omega
theorem FL.tot_step {l : List S43} {j : Nat} (hj : j < l.length) : FL.tot (l.take (j + 1)) = FL.tot (l.take j) + FL.sum ((rd_T43 l (j : Int)).f0 ++ (rd_T43 l (j : Int)).f1) := by
  unfold FL.tot rd_T43
  rw [Int.toNat_natCast, List.getD_eq_getElem?_getD, List.getElem?_eq_getElem hj, List.take_add_one, List.getElem?_eq_getElem hj, List.map_append, List.sum_append]
  simp
theorem FL.mem {l : List S43} {j : Nat} (hj : j < l.length) : rd_T43 l (j : Int) ∈ l := by
  unfold rd_T43
  rw [Int.toNat_natCast, List.getD_eq_getElem?_getD, List.getElem?_eq_getElem hj]
  exact List.getElem_mem hj
set_option maxHeartbeats 8000000 in
set_option maxRecDepth 1000000 in
/-- The leaves of a tree. -/
theorem impl_Fing_leaves.calls (A0_0 : Option Addr) (c0_0 : Nat) (l0_0 : List S43) (r : Int) (w : World) (hr0_0 : Kd.C k43 w A0_0 l0_0.length l0_0) (hc0_0 : l0_0.length ≤ c0_0) (h : impl_Fing_leaves.f l0_0 = some r) :
    Calls Try.prog 40 #[.agg #[.slice A0_0 l0_0.length c0_0]] w fun e w' => e = .returned (.int .i64 r) ∧ Below w.heap.size w w' := by
  have hu_ := Try.underlying43
  have hv_ := Try.underlying29
  unfold impl_Fing_leaves.f at h
  by_cases hs : l0_0.length ≤ 1048576 ∧ (∀ x ∈ l0_0, x.f0.length + x.f1.length ≤ 1048576) ∧ FL.tot l0_0 ≤ 4294967296
  case neg => rw [if_neg hs] at h; cases h
  rw [if_pos hs] at h
  obtain rfl := Option.some.inj h
  clear h
  have HS := Aside0.mk hs
  have HR := Aside0.mk hr0_0
  clear hs hr0_0
  obtain ⟨T, hT⟩ : ∃ T : Nat → Nat, T = fun i => FL.tot (l0_0.take i) := ⟨_, rfl⟩
  have hT0 : T 0 = 0 := by rw [hT]; rfl
  have hTe : T l0_0.length = FL.tot l0_0 := by rw [hT]; simp only [List.take_length]
  have hTs : ∀ i, i < l0_0.length → T (i + 1) = T i + FL.sum ((rd_T43 l0_0 (i : Int)).f0 ++ (rd_T43 l0_0 (i : Int)).f1) := by intro i hi; rw [hT]; exact FL.tot_step hi
  have hTl : ∀ i, T i ≤ 4294967296 := by intro i; have := FL.tot_le (l := l0_0) i; have := HS.out.2.2; rw [hT]; simp only []; omega
  rw [← hTe]
  clear hTe hT
  have HT := Aside0.mk (And.intro hT0 (And.intro hTs hTl))
  clear hT0 hTs hTl
  have HB := Aside0.mk (Below.refl w.heap.size w)
  go_enter Try.func40, Try.ntmps40
  go_wp2_with (first | ((with_reducible refine gate_dst (N := 1) rfl ?_); refine box_event ?hg (N := 1) ?hd (cs := #[.slice A0_0 l0_0.length c0_0]) (t := 29) ?hr ?_; (case hd => rfl); (case hg => rfl); (case hr => first | (go_simp; done) | (go_simp; rfl)); intro gb hg w3 hbox hb; have n0_ := Aside0.mk (below_step (by repeat (first | exact HB.out | apply below_alloc | apply pw_below_drewN | apply below_drew1)) hb); have BK := Aside0.mk hbox; clear HB hb hbox; have HB := n0_; clear n0_ hg; have hcz : w3.cell? ⟨gb, 0, none⟩ = some (.slice A0_0 l0_0.length c0_0) := (blk_cell BK.out 0).trans rfl; have hfz := blk_frozen BK.out 0))
  repeat (go_quiet (fail); try go_wp2)
  go_loopg [3, 11] (l0_0.length + 1) (fun kx v3 v11 w' => ∃ i : Nat, v3 = .int .i64 (T i : Int) ∧ v11 = .int .i64 (i : Int) ∧ Aside0 (i ≤ l0_0.length) ∧ Aside0 (l0_0.length - i < kx) ∧ Aside0 (Below w.heap.size w w'))
  case atStart => exact ⟨0, by rw [HT.out.1]; rfl, rfl, ⟨Nat.zero_le _⟩, ⟨by omega⟩, ⟨by repeat (first | exact HB.out | apply below_alloc | apply pw_below_drewN | apply below_drew1)⟩⟩
  case round =>
    clear HB BK hcz hfz
    obtain ⟨i, rfl, rfl, HI, HK, HB⟩ := hrel
    by_cases hi : i < l0_0.length
    · have c3 : decide ((i : Int) < (l0_0.length : Int)) = true := decide_eq_true (by omega)
      have p0 : 0 ≤ (i : Int) := by omega
      have q0 : (i : Int) < (l0_0.length : Int) := by omega
      obtain ⟨ad, A1, c1, A2, c2, e1, hx0, hx1, hl1, hi1, hl2, hi2⟩ := at_T43 HR.out (i : Int) p0 q0
      subst e1
      rw [Int.toNat_natCast] at hx0 hx1
      (try replace hx0 := (HB.out.cell (World.block_lt_of_cell? w _ hx0)).trans hx0)
      (try replace hx1 := (HB.out.cell (World.block_lt_of_cell? w _ hx1)).trans hx1)
      have hm := HS.out.2.1 _ (FL.mem hi)
      have hst := HT.out.2.1 i hi
      obtain ⟨L, hL⟩ : ∃ L : List ByteArray, L = (rd_T43 l0_0 (i : Int)).f0 ++ (rd_T43 l0_0 (i : Int)).f1 := ⟨_, rfl⟩
      have hcat := CC.cat _ _ hm
      rw [← hL] at hst hcat
      have hLn : L.length ≤ 1048576 := by rw [hL, List.length_append]; exact hm
      have HLn := Aside0.mk hLn
      clear hLn
      have hw3 : wrap64 ((i : Int) + 1) = ((i + 1 : Nat) : Int) := by unfold wrap64; have := HS.out.1; omega
      have HW := Aside0.mk hi
      generalize hrd : rd_T43 l0_0 (i : Int) = x at *
      have HX1 := Aside0.mk hi1
      have HX2 := Aside0.mk hi2
      have HL1 := Aside0.mk hl1
      have HL2 := Aside0.mk hl2
      have HM := Aside0.mk hcat
      obtain ⟨S, hS⟩ : ∃ S : Nat → Nat, S = fun j => T i + FL.sum (L.take j) := ⟨_, rfl⟩
      have hS0 : S 0 = T i := by rw [hS]; rfl
      have hSe : S L.length = T (i + 1) := by rw [hS, hst]; simp only [List.take_length]
      have hSs : ∀ j, j < L.length → S (j + 1) = S j + FL.cnt (rdOf ByteArray.empty L (j : Int)) := by intro j hj; rw [hS]; simp only []; rw [FL.sum_step hj]; omega
      have hSl : ∀ j, S j ≤ 4294967296 := by intro j; have := FL.sum_le (l := L) j; have := HT.out.2.2 (i + 1); rw [hS]; simp only []; omega
      have HZ := Aside0.mk (And.intro hS0 (And.intro hSe (And.intro hSs hSl)))
      clear hrd hi hi1 hi2 hl1 hl2 hm hst hcat hS hS0 hSe hSs hSl hL
      go_wp2_with (first | ((with_reducible refine gate_dst (N := 5) rfl ?_); refine box_event ?hg (N := 5) ?hd (cs := #[.slice none 0 0, .slice none 0 0]) (t := 43) ?hr ?_; (case hd => rfl); (case hg => rfl); (case hr => first | (go_simp; done) | (go_simp; rfl)); intro gb hg w5 hbox hb; have n0_ := Aside0.mk (below_step (by repeat (first | exact HB.out | apply below_alloc | apply pw_below_drewN | apply below_drew1)) hb); have BK := Aside0.mk hbox; have GE := Aside0.mk ((by rw [hg]; exact (below_size (by repeat (first | exact HB.out | apply below_alloc | apply pw_below_drewN | apply below_drew1)))) : w.heap.size ≤ gb); clear HB hb hbox; have HB := n0_; clear n0_ hg; have hcz0 : w5.cell? ⟨gb, 0, none⟩ = some (.slice none 0 0) := (blk_cell BK.out 0).trans rfl; have hcz1 : w5.cell? ⟨gb, 1, none⟩ = some (.slice none 0 0) := (blk_cell BK.out 1).trans rfl; have hfz0 := blk_frozen BK.out 0; have hfz1 := blk_frozen BK.out 1) | ((with_reducible refine gate_dst (N := 19) rfl ?_); refine CC.event ?hg (cs := #[.slice A1 x.f0.length c1, .slice A2 x.f1.length c2]) (t := 41) 2 ?hr ?_; (case hg => rfl); (case hr => first | (go_simp; done) | (go_simp; rfl)); intro ga w6 hga hrow hb; have n0_ := Aside0.mk (below_step (by repeat (first | exact HB.out | apply below_alloc | apply pw_below_drewN | apply below_drew1 | refine below_set ?_ GE.out)) hb); have RK := Aside0.mk hrow; clear HB hb hrow hga; have HB := n0_; clear n0_) | (go_at_call 44; refine (slices_Concat_string_string.calls (some ⟨ga, 0, none⟩) 2 [x.f0, x.f1] L w6 (CC.pair RK.out HL1.out (Kd.C_below HX1.out HB.out) HL2.out (Kd.C_below HX2.out HB.out)) (Nat.le_refl _) HM.out).mono ?_; rintro e w7 ⟨v7, rfl, ho7, hb7⟩; obtain ⟨A7, c7, ev⟩ := Kd.R_slice ho7; subst ev; have HO := Aside0.mk ho7; have n0_ := Aside0.mk (below_step HB.out hb7); clear HB ho7 hb7; have HB := n0_; clear n0_))
      repeat (go_quiet (fail); try go_wp2)
      obtain ⟨gk0, hgk0⟩ : ∃ g_ : Nat, g_ = gk := ⟨_, rfl⟩
      have HG := Aside0.mk hgk0
      have HK0 := Aside0.mk HK.out
      clear HK BK RK hgk0
      go_loopg [3, 22] (L.length + 1) (fun kx v3 v22 w' => ∃ j : Nat, v3 = .int .i64 (S j : Int) ∧ v22 = .int .i64 (j : Int) ∧ Aside0 (j ≤ L.length) ∧ Aside0 (L.length - j < kx) ∧ Aside0 (Kd.R Kd.string 9 w' w6.heap.size (fun _ => True) (.slice A7 L.length c7) L) ∧ Aside0 (Below w.heap.size w w'))
      case atStart => exact ⟨0, by rw [HZ.out.1], rfl, ⟨Nat.zero_le _⟩, ⟨by omega⟩, ⟨by (with_reducible repeat (first | apply Kd.R_alloc | apply Kd.R_drewN | apply Kd.R_drew)); exact HO.out⟩, ⟨by repeat (first | exact HB.out | apply below_alloc | apply pw_below_drewN | apply below_drew1)⟩⟩
      case round =>
        clear HO HB
        obtain ⟨j, rfl, rfl, HJ, HK, HO, HB⟩ := hrel
        by_cases hj : j < L.length
        · have c4 : decide ((j : Int) < (L.length : Int)) = true := decide_eq_true (by omega)
          have p1 : 0 ≤ (j : Int) := by omega
          have q1 : (j : Int) < (L.length : Int) := by omega
          obtain ⟨ae, e2, hxs⟩ := Kd.at_string (Kd.R_reads' HO.out).2.2 (j : Int) p1 q1
          subst e2
          rw [Int.toNat_natCast] at hxs
          have hsj := HZ.out.2.2.1 j hj
          have hw4 : wrap64 ((j : Int) + 1) = ((j + 1 : Nat) : Int) := by have := HLn.out; unfold wrap64; omega
          generalize rdOf ByteArray.empty L (j : Int) = s at *
          have hw5 : wrap64 ((S j : Int) + (FL.cnt s : Int)) = (S (j + 1) : Int) := by have := HZ.out.2.2.2 (j + 1); unfold wrap64; omega
          have HW2 := Aside0.mk hj
          clear hj hsj
          go_wp2_with (first | (go_at_call 51; refine (impl_leavesOf.calls s (FL.cnt s : Int) _ (FL.leaf s)).mono ?_; rintro e w8 ⟨rfl, hd_⟩; obtain ⟨n_, hn_⟩ := hd_; subst hn_))
          repeat (go_quiet (fail); try go_wp2)
          go_roundg (gk - 1)
          case measure => have := HK.out; omega
          case rel => exact ⟨j + 1, by first | rfl | (simp only [hw5]; done) | (simp [*]; done), by first | rfl | (simp only [hw4]; done) | (simp [*]; done), ⟨HW2.out⟩, ⟨by have := HK.out; have := HW2.out; omega⟩, ⟨by (with_reducible repeat (first | apply Kd.R_alloc | apply Kd.R_drewN | apply Kd.R_drew)); exact HO.out⟩, ⟨by repeat (first | exact HB.out | apply below_alloc | apply pw_below_drewN | apply below_drew1)⟩⟩
        · have hjl : j = L.length := by have := HJ.out; omega
          subst hjl
          have c4 : decide ((L.length : Int) < (L.length : Int)) = false := decide_eq_false (by omega)
          clear hj
          go_wp2
          go_roundg (gk0 - 1)
          case measure => have := HK0.out; have := HG.out; omega
          case rel => exact ⟨i + 1, by rw [HZ.out.2.1], by first | rfl | (simp only [hw3]; done) | (simp [*]; done), ⟨HW.out⟩, ⟨by have := HK0.out; have := HG.out; have := HW.out; omega⟩, ⟨by repeat (first | exact HB.out | apply below_alloc | apply pw_below_drewN | apply below_drew1)⟩⟩
    · have hil : i = l0_0.length := by have := HI.out; omega
      subst hil
      have c3 : decide ((l0_0.length : Int) < (l0_0.length : Int)) = false := decide_eq_false (by omega)
      clear hi
      go_wp2
      go_ret
      exact ⟨rfl, by repeat (first | exact HB.out | apply below_alloc | apply pw_below_drewN | apply below_drew1)⟩

/-! ### impl_Level_isSingle: function 43 -/
def impl_Level_isSingle.f (l0_0 : List ByteArray) (l0_1 : List ByteArray) : Option (Bool) := if (l0_0.length : Int) = 1 then (some ((l0_1.length : Int) == 0)) else (some false)
set_option maxHeartbeats 8000000 in
set_option maxRecDepth 100000 in
theorem impl_Level_isSingle.calls (A0_0 : Option Addr) (c0_0 : Nat) (l0_0 : List ByteArray) (A0_1 : Option Addr) (c0_1 : Nat) (l0_1 : List ByteArray) (r : Bool) (w : World) (hr0_0 : Kd.C Kd.string w A0_0 l0_0.length l0_0) (hc0_0 : l0_0.length ≤ c0_0) (hr0_1 : Kd.C Kd.string w A0_1 l0_1.length l0_1) (hc0_1 : l0_1.length ≤ c0_1) (h : impl_Level_isSingle.f l0_0 l0_1 = some r) :
    Calls Try.prog 43 #[.agg #[.slice A0_0 l0_0.length c0_0, .slice A0_1 l0_1.length c0_1]] w fun e w' => e = .returned (.bool r) ∧ Below w.heap.size w w' := by
  have hu43 := Try.underlying43
  have HR0_0 := Aside0.mk hr0_0
  have HC0_0 := Aside0.mk hc0_0
  clear hr0_0 hc0_0
  have HR0_1 := Aside0.mk hr0_1
  have HC0_1 := Aside0.mk hc0_1
  clear hr0_1 hc0_1
  have HB := Aside0.mk (Below.refl w.heap.size w)
  have H : (if (l0_0.length : Int) = 1 then (some ((l0_1.length : Int) == 0)) else (some false)) = some r := h
  clear h
  by_cases c2 : (l0_0.length : Int) = 1
  · rw [if_pos c2] at H
    have c2b0 : ((l0_0.length : Int) == 1) = true := beq_iff_eq.mpr c2
    have c2b1 : ((l0_0.length : Int) != 1) = false := bne_eq_false_iff_eq.mpr c2
    clear c2
    obtain rfl := Option.some.inj H
    go_enter Try.func43, Try.ntmps43
    go_wp2_with (first | ((with_reducible refine gate_dst (N := 1) rfl ?_); (try (refine gate_guard (by rfl) ?_; dsimp only)); refine box_event ?hg (N := 1) ?hd (cs := #[.slice A0_0 l0_0.length c0_0, .slice A0_1 l0_1.length c0_1]) (t := 43) ?hr ?_; (case hd => rfl); (case hg => rfl); (case hr => first | (go_simp; done) | (go_simp; rfl)); intro gb185 hg w3 hbox hb; have n0_ := Aside0.mk (below_step (by repeat (first | (with_reducible first | exact HB.out | apply below_alloc | apply pw_below_drewN | apply below_drew1) | exact HB.out)) hb); have n1_ := Aside0.mk (hbox); have n2_ := Aside0.mk ((by rw [hg]; exact (below_size (by repeat (first | (with_reducible first | exact HB.out | apply below_alloc | apply pw_below_drewN | apply below_drew1) | exact HB.out))) : w.heap.size ≤ gb185)); have n3_ := Aside0.mk ((by rw [hg]; exact (below_size (by repeat (first | (with_reducible first | exact HB.out | apply below_alloc | apply pw_below_drewN | apply below_drew1) | exact HB.out))) : w.heap.size ≤ gb185)); clear HB; have HB := n0_; have BK185 := n1_; have GW185 := n2_; have GE185 := n3_; clear n0_ n1_ n2_ n3_; clear hb hbox hg; have hcz4_0 : w3.cell? ⟨gb185, 0, none⟩ = some (.slice A0_0 l0_0.length c0_0) := (blk_cell BK185.out 0).trans rfl; have hcz4_1 : w3.cell? ⟨gb185, 1, none⟩ = some (.slice A0_1 l0_1.length c0_1) := (blk_cell BK185.out 1).trans rfl; have hfz4_0 := blk_frozen BK185.out 0; have hfz4_1 := blk_frozen BK185.out 1))
    go_ret
    exact ⟨by first | rfl | (simp [errW_none, errW_some] <;> rfl) | (simp [*, errW_none, errW_some] <;> rfl), by repeat (first | (with_reducible first | exact HB.out | apply below_alloc | apply pw_below_drewN | apply below_drew1 | refine below_set ?_ GE185.out) | exact HB.out)⟩
  · rw [if_neg c2] at H
    have c2b0 : ((l0_0.length : Int) == 1) = false := beq_eq_false_iff_ne.mpr c2
    have c2b1 : ((l0_0.length : Int) != 1) = true := bne_iff_ne.mpr c2
    obtain rfl := Option.some.inj H
    go_enter Try.func43, Try.ntmps43
    go_wp2_with (first | ((with_reducible refine gate_dst (N := 1) rfl ?_); (try (refine gate_guard (by rfl) ?_; dsimp only)); refine box_event ?hg (N := 1) ?hd (cs := #[.slice A0_0 l0_0.length c0_0, .slice A0_1 l0_1.length c0_1]) (t := 43) ?hr ?_; (case hd => rfl); (case hg => rfl); (case hr => first | (go_simp; done) | (go_simp; rfl)); intro gb185 hg w5 hbox hb; have n0_ := Aside0.mk (below_step (by repeat (first | (with_reducible first | exact HB.out | apply below_alloc | apply pw_below_drewN | apply below_drew1) | exact HB.out)) hb); have n1_ := Aside0.mk (hbox); have n2_ := Aside0.mk ((by rw [hg]; exact (below_size (by repeat (first | (with_reducible first | exact HB.out | apply below_alloc | apply pw_below_drewN | apply below_drew1) | exact HB.out))) : w.heap.size ≤ gb185)); have n3_ := Aside0.mk ((by rw [hg]; exact (below_size (by repeat (first | (with_reducible first | exact HB.out | apply below_alloc | apply pw_below_drewN | apply below_drew1) | exact HB.out))) : w.heap.size ≤ gb185)); clear HB; have HB := n0_; have BK185 := n1_; have GW185 := n2_; have GE185 := n3_; clear n0_ n1_ n2_ n3_; clear hb hbox hg; have hcz6_0 : w5.cell? ⟨gb185, 0, none⟩ = some (.slice A0_0 l0_0.length c0_0) := (blk_cell BK185.out 0).trans rfl; have hcz6_1 : w5.cell? ⟨gb185, 1, none⟩ = some (.slice A0_1 l0_1.length c0_1) := (blk_cell BK185.out 1).trans rfl; have hfz6_0 := blk_frozen BK185.out 0; have hfz6_1 := blk_frozen BK185.out 1))
    go_ret
    exact ⟨by first | rfl | (simp [errW_none, errW_some] <;> rfl) | (simp [*, errW_none, errW_some] <;> rfl), by repeat (first | (with_reducible first | exact HB.out | apply below_alloc | apply pw_below_drewN | apply below_drew1 | refine below_set ?_ GE185.out) | exact HB.out)⟩

end Go.Proofs.Ytjkipaipaobibaa.PFnExactFingText
