-- Written by wip/xprint.py (the session's program over the kit's printer) for the claim of FnExactFingNew; Lean checks it.
import Derived.Test.YtgginlfbdhkepaaPFnExactFingNewx0
namespace Go.Proofs.Ytgginlfbdhkepaa.PFnExactFingNew
open Go.RowKit Go.Proofs.YtgginlfbdhkepaaW.PrintWords Go.Proofs.YtgginlfbdhkepaaW.PrintLast Go.Proofs.YtgginlfbdhkepaaW.PrintMore
attribute [local go_sem] max2_int min2_int max_two min_two max_three min_three max_four min_four   -- for this text's walks alone
set_option linter.unusedVariables false
set_option linter.unusedSimpArgs false

/-! ### spec_l03Single: function 16 -/
def spec_l03Single.f (l0_0 : List ByteArray) (l0_1 : List ByteArray) : Option (Bool) := if (l0_0.length : Int) = 1 then (some ((l0_1.length : Int) == 0)) else (some false)
set_option maxHeartbeats 8000000 in
set_option maxRecDepth 100000 in
theorem spec_l03Single.calls (A0_0 : Option Addr) (c0_0 : Nat) (l0_0 : List ByteArray) (A0_1 : Option Addr) (c0_1 : Nat) (l0_1 : List ByteArray) (r : Bool) (w : World) (hr0_0 : Kd.C Kd.string w A0_0 l0_0.length l0_0) (hc0_0 : l0_0.length ≤ c0_0) (hr0_1 : Kd.C Kd.string w A0_1 l0_1.length l0_1) (hc0_1 : l0_1.length ≤ c0_1) (h : spec_l03Single.f l0_0 l0_1 = some r) :
    Calls Try.prog 16 #[.agg #[.slice A0_0 l0_0.length c0_0, .slice A0_1 l0_1.length c0_1]] w fun e w' => e = .returned (.bool r) ∧ Below w.heap.size w w' := by
  have hu37 := Try.underlying37
  have HR0_0 := Aside0.mk hr0_0
  have HC0_0 := Aside0.mk hc0_0
  clear hr0_0 hc0_0
  have HR0_1 := Aside0.mk hr0_1
  have HC0_1 := Aside0.mk hc0_1
  clear hr0_1 hc0_1
  have HB := Aside0.mk (Below.refl w.heap.size w)
  have H : (if (l0_0.length : Int) = 1 then (some ((l0_1.length : Int) == 0)) else (some false)) = some r := h
  clear h
  by_cases c2 : (l0_0.length : Int) = 1
  · rw [if_pos c2] at H
    have c2b0 : ((l0_0.length : Int) == 1) = true := beq_iff_eq.mpr c2
    have c2b1 : ((l0_0.length : Int) != 1) = false := bne_eq_false_iff_eq.mpr c2
    clear c2
    obtain rfl := Option.some.inj H
    go_enter Try.func16, Try.ntmps16
    go_wp2_with (first | ((with_reducible refine gate_dst (N := 1) rfl ?_); (try (refine gate_guard (by rfl) ?_; dsimp only)); refine box_event ?hg (N := 1) ?hd (cs := #[.slice A0_0 l0_0.length c0_0, .slice A0_1 l0_1.length c0_1]) (t := 37) ?hr ?_; (case hd => rfl); (case hg => rfl); (case hr => first | (go_simp; done) | (go_simp; rfl)); intro gb101 hg w3 hbox hb; have n0_ := Aside0.mk (below_step (by repeat (first | (with_reducible first | exact HB.out | apply below_alloc | apply pw_below_drewN | apply below_drew1) | exact HB.out)) hb); have n1_ := Aside0.mk (hbox); have n2_ := Aside0.mk ((by rw [hg]; exact (below_size (by repeat (first | (with_reducible first | exact HB.out | apply below_alloc | apply pw_below_drewN | apply below_drew1) | exact HB.out))) : w.heap.size ≤ gb101)); have n3_ := Aside0.mk ((by rw [hg]; exact (below_size (by repeat (first | (with_reducible first | exact HB.out | apply below_alloc | apply pw_below_drewN | apply below_drew1) | exact HB.out))) : w.heap.size ≤ gb101)); clear HB; have HB := n0_; have BK101 := n1_; have GW101 := n2_; have GE101 := n3_; clear n0_ n1_ n2_ n3_; clear hb hbox hg; have hcz4_0 : w3.cell? ⟨gb101, 0, none⟩ = some (.slice A0_0 l0_0.length c0_0) := (blk_cell BK101.out 0).trans rfl; have hcz4_1 : w3.cell? ⟨gb101, 1, none⟩ = some (.slice A0_1 l0_1.length c0_1) := (blk_cell BK101.out 1).trans rfl; have hfz4_0 := blk_frozen BK101.out 0; have hfz4_1 := blk_frozen BK101.out 1))
    go_ret
    exact ⟨by first | rfl | (simp [errW_none, errW_some] <;> rfl) | (simp [*, errW_none, errW_some] <;> rfl), by repeat (first | (with_reducible first | exact HB.out | apply below_alloc | apply pw_below_drewN | apply below_drew1 | refine below_set ?_ GE101.out) | exact HB.out)⟩
  · rw [if_neg c2] at H
    have c2b0 : ((l0_0.length : Int) == 1) = false := beq_eq_false_iff_ne.mpr c2
    have c2b1 : ((l0_0.length : Int) != 1) = true := bne_iff_ne.mpr c2
    obtain rfl := Option.some.inj H
    go_enter Try.func16, Try.ntmps16
    go_wp2_with (first | ((with_reducible refine gate_dst (N := 1) rfl ?_); (try (refine gate_guard (by rfl) ?_; dsimp only)); refine box_event ?hg (N := 1) ?hd (cs := #[.slice A0_0 l0_0.length c0_0, .slice A0_1 l0_1.length c0_1]) (t := 37) ?hr ?_; (case hd => rfl); (case hg => rfl); (case hr => first | (go_simp; done) | (go_simp; rfl)); intro gb101 hg w5 hbox hb; have n0_ := Aside0.mk (below_step (by repeat (first | (with_reducible first | exact HB.out | apply below_alloc | apply pw_below_drewN | apply below_drew1) | exact HB.out)) hb); have n1_ := Aside0.mk (hbox); have n2_ := Aside0.mk ((by rw [hg]; exact (below_size (by repeat (first | (with_reducible first | exact HB.out | apply below_alloc | apply pw_below_drewN | apply below_drew1) | exact HB.out))) : w.heap.size ≤ gb101)); have n3_ := Aside0.mk ((by rw [hg]; exact (below_size (by repeat (first | (with_reducible first | exact HB.out | apply below_alloc | apply pw_below_drewN | apply below_drew1) | exact HB.out))) : w.heap.size ≤ gb101)); clear HB; have HB := n0_; have BK101 := n1_; have GW101 := n2_; have GE101 := n3_; clear n0_ n1_ n2_ n3_; clear hb hbox hg; have hcz6_0 : w5.cell? ⟨gb101, 0, none⟩ = some (.slice A0_0 l0_0.length c0_0) := (blk_cell BK101.out 0).trans rfl; have hcz6_1 : w5.cell? ⟨gb101, 1, none⟩ = some (.slice A0_1 l0_1.length c0_1) := (blk_cell BK101.out 1).trans rfl; have hfz6_0 := blk_frozen BK101.out 0; have hfz6_1 := blk_frozen BK101.out 1))
    go_ret
    exact ⟨by first | rfl | (simp [errW_none, errW_some] <;> rfl) | (simp [*, errW_none, errW_some] <;> rfl), by repeat (first | (with_reducible first | exact HB.out | apply below_alloc | apply pw_below_drewN | apply below_drew1 | refine below_set ?_ GE101.out) | exact HB.out)⟩

/-! ### spec_l03Join: function 23 -/
def spec_l03Join.l0 : Nat → List ByteArray → ByteArray → ByteArray → Int → Option (ByteArray)
  | 0, _, _, _, _ => none
  | k + 1, x0, x1, x5, x6 => if x6 < (x0.length : Int) then (if x6 > 0 then (if x5.size + x1.size ≤ 9223372036854775807 then (if 0 ≤ x6 then (if (x5 ++ x1).size + (rdOf ByteArray.empty x0 x6).size ≤ 9223372036854775807 then (spec_l03Join.l0 k x0 x1 ((x5 ++ x1) ++ (rdOf ByteArray.empty x0 x6)) (wrap64 (x6 + 1))) else (none)) else (none)) else (none)) else (if 0 ≤ x6 then (if x5.size + (rdOf ByteArray.empty x0 x6).size ≤ 9223372036854775807 then (spec_l03Join.l0 k x0 x1 (x5 ++ (rdOf ByteArray.empty x0 x6)) (wrap64 (x6 + 1))) else (none)) else (none))) else (some x5)
def spec_l03Join.f (k : Nat) (l0 : List ByteArray) (a1 : ByteArray) : Option (ByteArray) := spec_l03Join.l0 k l0 a1 (⟨#[]⟩ : ByteArray) 0
theorem spec_l03Join.mono_l : ∀ k, (∀ y0 y1 y2 y3, LeO (spec_l03Join.l0 k y0 y1 y2 y3) (spec_l03Join.l0 (k + 1) y0 y1 y2 y3))
  | 0 => fun _ _ _ _ r h => by simp [spec_l03Join.l0] at h
  | k + 1 => by
    have ih0 := spec_l03Join.mono_l k
    · intro y0 y1 y2 y3
      unfold spec_l03Join.l0
      repeat' first
      | (with_reducible exact ih0 _ _ _ _)
      | (with_reducible exact LeO.refl _)
      | (with_reducible exact LeO.none _)
      | (with_reducible refine LeO.ite ?_ ?_)
      | (with_reducible refine LeO.bind ?_ (fun _ => ?_))
      | exact ih0 _ _ _ _
      | exact LeO.none _
      | refine LeO.ite ?_ ?_
      | refine LeO.bind ?_ (fun _ => ?_)
theorem spec_l03Join.mono : ∀ a0 a1 k, LeO (spec_l03Join.f k a0 a1) (spec_l03Join.f (k + 1) a0 a1) := by
  intro a0 a1 k
  have ih0 := spec_l03Join.mono_l k
  unfold spec_l03Join.f
  repeat' first
      | (with_reducible exact ih0 _ _ _ _)
      | (with_reducible exact LeO.refl _)
      | (with_reducible exact LeO.none _)
      | (with_reducible refine LeO.ite ?_ ?_)
      | (with_reducible refine LeO.bind ?_ (fun _ => ?_))
      | exact ih0 _ _ _ _
      | exact LeO.none _
      | refine LeO.ite ?_ ?_
      | refine LeO.bind ?_ (fun _ => ?_)
set_option maxHeartbeats 8000000 in
set_option maxRecDepth 100000 in
theorem spec_l03Join.calls (k : Nat) (A0 : Option Addr) (c0 : Nat) (l0 : List ByteArray) (a1 : ByteArray) (r : ByteArray) (w : World) (hr0 : Kd.C Kd.string w A0 l0.length l0) (hc0 : l0.length ≤ c0) (h : spec_l03Join.f k l0 a1 = some r) :
    Calls Try.prog 23 #[.slice A0 l0.length c0, .string a1] w fun e w' => e = .returned (.string r) ∧ Drawn0 w w' := by
  have HR0 := Aside0.mk hr0
  have HC0 := Aside0.mk hc0
  clear hr0 hc0
  have H : (spec_l03Join.l0 k l0 a1 (⟨#[]⟩ : ByteArray) 0) = some r := h
  clear h
  have H' := Aside0.mk H
  clear H
  go_enter Try.func23, Try.ntmps23
  go_wp2
  go_loopg [5, 6] k (fun kq v5 v6 w' => ∃ (x5_1 : ByteArray) (x6_1 : Int), v5 = .string x5_1 ∧ v6 = .int .i64 x6_1 ∧ Aside0 (spec_l03Join.l0 kq l0 a1 x5_1 x6_1 = some r) ∧ Aside0 (kq ≤ k) ∧ Drawn0 w w')
  case atStart => exact ⟨((⟨#[]⟩ : ByteArray)), (0), (by first | rfl | (simp; done) | (simp [*]; done)), (by first | rfl | (simp; done) | (simp [*]; done)), H', ⟨Nat.le_refl _⟩, by repeat (first | exact Drawn0.refl _ | apply Drawn0.step)⟩
  case round =>
    clear H'
    try clear c2
    try clear p2
    obtain ⟨x5_1, x6_1, rfl, rfl, HA, HK1, ⟨m1, rfl⟩⟩ := hrel
    cases gk with
    | zero => exact absurd HA.out (by simp [spec_l03Join.l0])
    | succ k1 =>
      have H := HA.out
      clear HA
      simp only [spec_l03Join.l0] at H
      by_cases c3 : x6_1 < (l0.length : Int)
      · rw [if_pos c3] at H
        have c3b0 : decide (x6_1 < (l0.length : Int)) = true := decide_eq_true c3
        clear c3
        by_cases c4 : x6_1 > 0
        · rw [if_pos c4] at H
          have c4b0 : decide (0 < x6_1) = true := decide_eq_true c4
          clear c4
          by_cases c5 : x5_1.size + a1.size ≤ 9223372036854775807
          · rw [if_pos c5] at H
            have c5b0 := eq_true c5
            have c5b1 : decide (x5_1.size + a1.size ≤ 9223372036854775807) = true := decide_eq_true c5
            try have c5b2 : (9223372036854775807 < x5_1.size + a1.size) = False := eq_false (Nat.not_lt.2 c5)
            by_cases c6 : 0 ≤ x6_1
            · rw [if_pos c6] at H
              have c6b0 : decide (0 ≤ x6_1) = true := decide_eq_true c6
              clear c6
              by_cases c7 : (x5_1 ++ a1).size + (rdOf ByteArray.empty l0 x6_1).size ≤ 9223372036854775807
              · rw [if_pos c7] at H
                have c7b0 := eq_true c7
                have c7b1 : decide ((x5_1 ++ a1).size + (rdOf ByteArray.empty l0 x6_1).size ≤ 9223372036854775807) = true := decide_eq_true c7
                try have c7b2 : (9223372036854775807 < (x5_1 ++ a1).size + (rdOf ByteArray.empty l0 x6_1).size) = False := eq_false (Nat.not_lt.2 c7)
                (try (have c7m : x5_1.size + a1.size + rdOf ByteArray.empty l0 x6_1.size ≤ 9223372036854775807 := (by have h_ := c7; rw [ByteArray.size_append] at h_; exact h_); have c7mf := eq_false (Nat.not_lt.2 c7m); have c7mt := eq_true c7m))
                have H' := Aside0.mk H
                clear H
                have p102 : 0 ≤ (x6_1 : Int) := of_decide_eq_true (by first | (with_reducible assumption) | assumption)
                have q102 : x6_1 < (l0.length : Int) := of_decide_eq_true (by first | (with_reducible assumption) | assumption)
                obtain ⟨ad102, e102, hx102_0⟩ := Kd.at_string HR0.out x6_1 p102 q102
                cases e102
                replace p102 := eq_true p102
                replace q102 := eq_true q102
                go_wp2
                go_roundg k1
                case measure => have := HK1.out; omega
                case rel => exact ⟨((x5_1 ++ a1) ++ (rdOf ByteArray.empty l0 x6_1)), (wrap64 (x6_1 + 1)), (by first | rfl | (simp; done) | (simp [*]; done)), (by first | rfl | (simp; done) | (simp [*]; done)), H', ⟨by have := HK1.out; omega⟩, by repeat (first | exact Drawn0.refl _ | apply Drawn0.step)⟩
              · rw [if_neg c7] at H
                exact absurd H (by simp)
            · rw [if_neg c6] at H
              exact absurd H (by simp)
          · rw [if_neg c5] at H
            exact absurd H (by simp)
        · rw [if_neg c4] at H
          have c4b0 : decide (0 < x6_1) = false := decide_eq_false c4
          clear c4
          by_cases c8 : 0 ≤ x6_1
          · rw [if_pos c8] at H
            have c8b0 : decide (0 ≤ x6_1) = true := decide_eq_true c8
            clear c8
            by_cases c9 : x5_1.size + (rdOf ByteArray.empty l0 x6_1).size ≤ 9223372036854775807
            · rw [if_pos c9] at H
              have c9b0 := eq_true c9
              have c9b1 : decide (x5_1.size + (rdOf ByteArray.empty l0 x6_1).size ≤ 9223372036854775807) = true := decide_eq_true c9
              try have c9b2 : (9223372036854775807 < x5_1.size + (rdOf ByteArray.empty l0 x6_1).size) = False := eq_false (Nat.not_lt.2 c9)
              have H' := Aside0.mk H
              clear H
              have p103 : 0 ≤ (x6_1 : Int) := of_decide_eq_true (by first | (with_reducible assumption) | assumption)
              have q103 : x6_1 < (l0.length : Int) := of_decide_eq_true (by first | (with_reducible assumption) | assumption)
              obtain ⟨ad103, e103, hx103_0⟩ := Kd.at_string HR0.out x6_1 p103 q103
              cases e103
              replace p103 := eq_true p103
              replace q103 := eq_true q103
              go_wp2
              go_roundg k1
              case measure => have := HK1.out; omega
              case rel => exact ⟨(x5_1 ++ (rdOf ByteArray.empty l0 x6_1)), (wrap64 (x6_1 + 1)), (by first | rfl | (simp; done) | (simp [*]; done)), (by first | rfl | (simp; done) | (simp [*]; done)), H', ⟨by have := HK1.out; omega⟩, by repeat (first | exact Drawn0.refl _ | apply Drawn0.step)⟩
            · rw [if_neg c9] at H
              exact absurd H (by simp)
          · rw [if_neg c8] at H
            exact absurd H (by simp)
      · rw [if_neg c3] at H
        have c3b0 : decide (x6_1 < (l0.length : Int)) = false := decide_eq_false c3
        clear c3
        obtain rfl := Option.some.inj H
        go_wp2
        go_ret
        exact ⟨by first | rfl | (simp; done) | (simp [*]; done), by repeat (first | exact Drawn0.refl _ | apply Drawn0.step)⟩

/-! ### spec_l03Node: function 17 -/
def spec_l03Node.f (k : Nat) (l0 : List ByteArray) : Option (ByteArray) := (spec_l03Join.f k l0 (⟨#[]⟩ : ByteArray)).bind fun t104 => (if 1 + t104.size ≤ 9223372036854775807 then (if ((⟨#[40]⟩ : ByteArray) ++ t104).size + 1 ≤ 9223372036854775807 then (some (((⟨#[40]⟩ : ByteArray) ++ t104) ++ (⟨#[41]⟩ : ByteArray))) else (none)) else (none))
theorem spec_l03Node.mono : ∀ a0 k, LeO (spec_l03Node.f k a0) (spec_l03Node.f (k + 1) a0) := by
  intro a0 k
  unfold spec_l03Node.f
  repeat' first
      | (with_reducible exact spec_l03Join.mono _ _ _)
      | (with_reducible exact LeO.refl _)
      | (with_reducible exact LeO.none _)
      | (with_reducible refine LeO.ite ?_ ?_)
      | (with_reducible refine LeO.bind ?_ (fun _ => ?_))
      | exact spec_l03Join.mono _ _ _
      | exact LeO.none _
      | refine LeO.ite ?_ ?_
      | refine LeO.bind ?_ (fun _ => ?_)
set_option maxHeartbeats 8000000 in
set_option maxRecDepth 100000 in
theorem spec_l03Node.calls (k : Nat) (A0 : Option Addr) (c0 : Nat) (l0 : List ByteArray) (r : ByteArray) (w : World) (hr0 : Kd.C Kd.string w A0 l0.length l0) (hc0 : l0.length ≤ c0) (h : spec_l03Node.f k l0 = some r) :
    Calls Try.prog 17 #[.slice A0 l0.length c0] w fun e w' => e = .returned (.string r) ∧ Drawn0 w w' := by
  have HR0 := Aside0.mk hr0
  have HC0 := Aside0.mk hc0
  clear hr0 hc0
  have H : ((spec_l03Join.f k l0 (⟨#[]⟩ : ByteArray)).bind fun t104 => (if 1 + t104.size ≤ 9223372036854775807 then (if ((⟨#[40]⟩ : ByteArray) ++ t104).size + 1 ≤ 9223372036854775807 then (some (((⟨#[40]⟩ : ByteArray) ++ t104) ++ (⟨#[41]⟩ : ByteArray))) else (none)) else (none))) = some r := h
  clear h
  replace H := Option.bind_eq_some_iff.mp H
  obtain ⟨t104, A20, H⟩ := H
  replace H : (if 1 + t104.size ≤ 9223372036854775807 then (if ((⟨#[40]⟩ : ByteArray) ++ t104).size + 1 ≤ 9223372036854775807 then (some (((⟨#[40]⟩ : ByteArray) ++ t104) ++ (⟨#[41]⟩ : ByteArray))) else (none)) else (none)) = some r := H
  have A2 := Aside0.mk A20
  clear A20
  by_cases c3 : 1 + t104.size ≤ 9223372036854775807
  · rw [if_pos c3] at H
    have c3b0 := eq_true c3
    have c3b1 : decide (1 + t104.size ≤ 9223372036854775807) = true := decide_eq_true c3
    try have c3b2 : (9223372036854775807 < 1 + t104.size) = False := eq_false (Nat.not_lt.2 c3)
    by_cases c4 : ((⟨#[40]⟩ : ByteArray) ++ t104).size + 1 ≤ 9223372036854775807
    · rw [if_pos c4] at H
      have c4b0 := eq_true c4
      have c4b1 : decide (((⟨#[40]⟩ : ByteArray) ++ t104).size + 1 ≤ 9223372036854775807) = true := decide_eq_true c4
      try have c4b2 : (9223372036854775807 < ((⟨#[40]⟩ : ByteArray) ++ t104).size + 1) = False := eq_false (Nat.not_lt.2 c4)
      (try (have c4m : 1 + t104.size + 1 ≤ 9223372036854775807 := (by have h_ := c4; rw [ByteArray.size_append] at h_; exact h_); have c4mf := eq_false (Nat.not_lt.2 c4m); have c4mt := eq_true c4m))
      obtain rfl := Option.some.inj H
      go_enter Try.func17, Try.ntmps17
      go_wp2_with (first | ((with_reducible refine gate_callee (f := 23) rfl ?_); refine goesL_ (some 4) rfl rfl Try.func23 (by kernel_rfl) rfl #[.slice A0 l0.length c0, .string (⟨#[]⟩ : ByteArray)] rfl (by (try simp only [List.map_toArray, List.map_cons, List.map_nil]); first | done | rfl | (simp only [List.length_drop, List.length_take]; rfl)) ?_; (with_reducible refine (spec_l03Join.calls k _ _ l0 (⟨#[]⟩ : ByteArray) t104 _ ?side1 ?side2 A2.out).mono ?_); (case side1 => repeat (first | exact HR0.out | (with_reducible refine Kd.C_alloc ?_ _) | (with_reducible refine Kd.C_drewN ?_ _) | (with_reducible refine Kd.C_drew ?_))); (case side2 => exact HC0.out); rintro e w' ⟨rfl, ⟨nd, rfl⟩⟩; refine ⟨_, rfl, ?_⟩))
      go_ret
      exact ⟨by first | rfl | (simp; done) | (simp [*]; done), by repeat (first | exact Drawn0.refl _ | apply Drawn0.step)⟩
    · rw [if_neg c4] at H
      exact absurd H (by simp)
  · rw [if_neg c3] at H
    exact absurd H (by simp)


/-! ### spec_l03Behind: function 9 -/
/-- Elements as they read in a world, told by the blocks that they lead to (OK). -/
def LB.kd (V : World) (OK : Nat → Prop) : Kd S37 where
  sz := 2
  E := []
  K := fun _ x cs => Kd.FK k37 V OK x cs
  M := fun _ _ _ x cs => Kd.FK k37 V OK x cs
  K_len := fun h => k37.K_len (Foot.now h)
  K_one := fun h => k37.K_one (Foot.now h)
  K_below := fun _ h => h
  K_of_M := fun h => h
  M_mono := fun _ h => h
  M_bound := fun h => h
  M_move := fun _ h => h
  M_lower := fun _ h => h
theorem LB.C_of {V : World} {OK : Nat → Prop} {A : Option Addr} {n : Nat} {xs : List S37} (h : Kd.F k37 V OK A n xs) : Kd.C (LB.kd V OK) V A n xs := Kd.F_rows h
/-- A new row of such elements, told by its blocks. -/
theorem LB.F_to {V W : World} {OK ok : Nat → Prop} {e n c : Nat} {A : Option Addr} {xs : List S37} (h : Kd.R (LB.kd V OK) e W V.heap.size ok (.slice A n c) xs) (hb : Below V.heap.size V W) (hOK : ∀ k, V.heap.size ≤ k → OK k) : Kd.F k37 W OK A xs.length xs := fun W' hW => by
  have h2 := Kd.R_step (Kd.R_bound h) (w1 := W') (fun k hk hlt => hW k (hOK k hk.2.1) hlt)
  exact ReadsRow.imp_ (Kd.R_reads' h2).2.2 (Below.refl _ _) (fun x cs hp => hp W' (fun k hk hlt => (hW k hk (Nat.lt_of_lt_of_le hlt hb.size)).trans (hb.block k hlt)))
theorem LB.F_own {α : Type} {d : Kd α} {W : World} {OK ok : Nat → Prop} {e base n c : Nat} {A : Option Addr} {xs : List α} (h : d.R e W base ok (.slice A n c) xs) (hOK : ∀ k, base ≤ k → OK k) : Kd.F d W OK A xs.length xs := fun W' hW => (Kd.R_reads' (Kd.R_step (Kd.R_bound h) (w1 := W') (fun k hk hlt => hW k (hOK k hk.2.1) hlt))).2.2
theorem LB.openF {W : World} {ok : Nat → Prop} {x : S37} {cs : List Value} (h : Kd.FK k37 W ok x cs) : ∃ A0 c0 A1 c1, cs = [.slice A0 x.f0.length c0, .slice A1 x.f1.length c1] ∧ x.f0.length ≤ c0 ∧ Kd.F Kd.string W ok A0 x.f0.length x.f0 ∧ x.f1.length ≤ c1 ∧ Kd.F Kd.string W ok A1 x.f1.length x.f1 := by
  obtain ⟨A0, c0, A1, c1, rfl, l0, _, l1, _⟩ := k37_open (Kd.FK_now h)
  exact ⟨A0, c0, A1, c1, rfl, l0, (fun W' hW => by obtain ⟨A0_, c0_, A1_, c1_, he, l0_, g0_, l1_, g1_⟩ := k37_open (h W' hW); injection (Option.some.inj (show some (Value.slice A0 x.f0.length c0) = some (Value.slice A0_ x.f0.length c0_) from congrArg (fun l => l[0]?) he)) with ha_ _ _; rw [ha_]; exact g0_), l1, (fun W' hW => by obtain ⟨A0_, c0_, A1_, c1_, he, l0_, g0_, l1_, g1_⟩ := k37_open (h W' hW); injection (Option.some.inj (show some (Value.slice A1 x.f1.length c1) = some (Value.slice A1_ x.f1.length c1_) from congrArg (fun l => l[1]?) he)) with ha_ _ _; rw [ha_]; exact g1_)⟩
theorem LB.mkF (W : World) (ok : Nat → Prop) (x : S37) {A0 : Option Addr} {c0 : Nat} (l0 : x.f0.length ≤ c0) (g0 : Kd.F Kd.string W ok A0 x.f0.length x.f0) {A1 : Option Addr} {c1 : Nat} (l1 : x.f1.length ≤ c1) (g1 : Kd.F Kd.string W ok A1 x.f1.length x.f1) : Kd.FK k37 W ok x [.slice A0 x.f0.length c0, .slice A1 x.f1.length c1] := fun W2 hW => k37_mk W2 x l0 (g0 W2 hW) l1 (g1 W2 hW)
def spec_l03Behind.f : Nat → List S37 → ByteArray → Option (List S37)
  | 0, _, _ => none
  | k + 1, ls, s => if ls.length ≤ 1048576 then (if ls.length = 0 then some [⟨[s], []⟩] else (spec_l03Single.f (rd_T37 ls 0).f0 (rd_T37 ls 0).f1).bind fun b => if b = true then some (⟨(rd_T37 ls 0).f0, [s]⟩ :: ls.drop 1) else if (rd_T37 ls 0).f1.length < 4 then some (⟨(rd_T37 ls 0).f0, (rd_T37 ls 0).f1 ++ [s]⟩ :: ls.drop 1) else (spec_l03Node.f k ((rd_T37 ls 0).f1.take 3)).bind fun t => (spec_l03Behind.f k (ls.drop 1) t).bind fun q => if q.length ≤ 1048576 then some (⟨(rd_T37 ls 0).f0, [rdOf ByteArray.empty (rd_T37 ls 0).f1 3, s]⟩ :: q) else none) else none
set_option maxHeartbeats 8000000 in
set_option maxRecDepth 1000000 in
/-- Levels with a node put behind: what comes back reads so; nothing elder is written. -/
theorem spec_l03Behind.calls (k : Nat) : ∀ (s : ByteArray) (P : Nat → Prop) (A0 : Option Addr) (c0 : Nat) (ls r : List S37) (w : World) (hr0 : Kd.F k37 w P A0 ls.length ls) (hc0 : ls.length ≤ c0) (h : spec_l03Behind.f k ls s = some r),
    Calls Try.prog 9 #[.slice A0 ls.length c0, .string s] w fun e w' => ∃ (A' : Option Addr) (c' : Nat), e = .returned (.slice A' r.length c') ∧ Kd.F k37 w' (fun k_ => P k_ ∨ w.heap.size ≤ k_) A' r.length r ∧ r.length ≤ c' ∧ Below w.heap.size w w' := by
  induction k with
  | zero =>
    intro s P A0 c0 ls r w hr0 hc0 h
    cases h
  | succ k ih =>
    intro s P A0 c0 ls r w hr0 hc0 h
    have hu37 := Try.underlying37
    simp only [spec_l03Behind.f] at h
    by_cases hl : ls.length ≤ 1048576
    case neg => rw [if_neg hl] at h; cases h
    rw [if_pos hl] at h
    have LM := Aside0.mk hl
    have HR := Aside0.mk hr0
    have HC := Aside0.mk hc0
    clear hl hr0 hc0
    by_cases h0 : ls.length = 0
    · rw [if_pos h0] at h
      obtain rfl := Option.some.inj h
      clear h
      have c1 : ((ls.length : Int) == 0) = true := beq_iff_eq.2 (by omega)
      obtain ⟨y, hy⟩ : ∃ y : List ByteArray, y = [s] := ⟨_, rfl⟩
      have NY := Aside0.mk hy
      rw [← hy]
      clear hy h0
      go_enter Try.func9, Try.ntmps9
      go_wp2_with (first | ((with_reducible refine gate_dst (N := 11) rfl ?_); refine Kd.R_lit Kd.string _ 9 ?hg (N := 11) ?hd (xs := [s]) (inner := [.string s]) (ok := fun _ => True) (okp := fun _ => True) ?hr ?hp (fun _ hk => hk) trivial (Below.refl _ _) (Nat.le_refl _) (by simp) ?_; (case hd => rfl); (case hg => rfl); (case hr => first | (go_simp; done) | (go_simp; rfl)); (case hp => exact (Reps.one (show Kd.M Kd.string _ _ _ s [.string s] from rfl) (Reps.none _ _))); intro v11 w11 ho hb hg_ hnew_; clear hg_ hnew_; rw [← NY.out] at ho; have H11 := Aside0.mk ho; have B11 := Aside0.mk hb; clear ho hb; obtain ⟨A11, c11, e11⟩ := Kd.R_slice H11.out; subst e11) | ((with_reducible refine gate_dst (N := 13) rfl ?_); refine Kd.R_lit (LB.kd w11 (fun k_ => P k_ ∨ w.heap.size ≤ k_)) _ 37 ?hg (N := 13) ?hd (xs := [(⟨y, []⟩ : S37)]) (inner := [.slice A11 y.length c11, .slice none 0 0]) (ok := fun _ => True) (okp := fun _ => True) ?hr ?hp (fun _ hk => hk) trivial (Below.refl _ _) (Nat.le_refl _) (by simp) ?_; (case hd => rfl); (case hg => rfl); (case hr => first | (go_simp; done) | (go_simp; rfl)); (case hp => exact (Reps.snoc (Reps.none _ _) (show Kd.M (LB.kd w11 (fun k_ => P k_ ∨ w.heap.size ≤ k_)) _ _ _ (⟨y, []⟩ : S37) [.slice A11 y.length c11, .slice none 0 0] from LB.mkF w11 _ ⟨y, []⟩ (Kd.R_reads' H11.out).2.1 (LB.F_own H11.out (fun k_ hk_ => .inr hk_)) (Nat.le_refl _) (Kd.F_nil _ _ _)) rfl)); intro v13 w13 ho hb hg_ hnew_; clear hg_ hnew_; have H13 := Aside0.mk ho; have Q13 := Aside0.mk hb; have B13 := Aside0.mk (below_step B11.out hb); clear ho hb; obtain ⟨A13, c13, e13⟩ := Kd.R_slice H13.out; subst e13))
      go_ret
      exact ⟨A13, c13, rfl, LB.F_to H13.out Q13.out (fun k_ hk_ => .inr (Nat.le_trans (below_size B11.out) hk_)), (Kd.R_reads' H13.out).2.1, B13.out⟩
    · rw [if_neg h0] at h
      have c1 : ((ls.length : Int) == 0) = false := beq_eq_false_iff_ne.2 (by omega)
      have q0 : (0 : Int) < (ls.length : Int) := by omega
      obtain ⟨ad, cs_, e1, _, hFK, hcc, _⟩ := Kd.F_get HR.out z37 0 (Int.le_refl 0) q0
      subst e1
      replace hFK : Kd.FK k37 w P (rd_T37 ls 0) cs_ := hFK
      obtain ⟨A0e, c0e, A1e, c1e, rfl, hl0, hf0, hl1, hf1⟩ := LB.openF hFK
      have hx0 : w.cell? ad = some (.slice A0e (rd_T37 ls 0).f0.length c0e) := hcc 0 _ rfl
      have hx1 : w.cell? ⟨ad.block, ad.off + 1, none⟩ = some (.slice A1e (rd_T37 ls 0).f1.length c1e) := (congrArg w.cell? (add_field ad 0 1 (by decide))).symm.trans (hcc 1 _ rfl)
      have hi0 := Kd.F_now hf0
      have hi1 := Kd.F_now hf1
      clear hcc hFK
      obtain ⟨i0, hi0_, _, hsz0, _⟩ := info_parts info37
      have hcut := cut_from (P := Try.prog) 22 37 .i64 Try.underlying22 hi0_ 2 hsz0 (some ad) ls.length c0 1 (by decide) (by omega)
      have hrd := Kd.F_cut (m := 1) HR.out (by omega) HC.out
      have HCD := Aside0.mk (show (ls.drop 1).length ≤ c0 - 1 by have := HC.out; rw [List.length_drop]; omega)
      have hln : (ls.drop 1).length = ls.length - 1 := List.length_drop
      replace hcut : ∀ W : World, (Instr.slice 22 (.slice (some ad) ls.length c0) (some (.int .i64 1)) none none).run Try.prog W = .ok (.slice (if c0 = 1 then some ad else (some ad).map (·.add (1 * 2))) (ls.drop 1).length (c0 - 1)) W := fun W => by rw [hln]; exact hcut W
      replace hrd : Kd.F k37 w P (if c0 = 1 then some ad else (some ad).map (·.add (1 * 2))) (ls.drop 1).length (ls.drop 1) := hrd
      generalize (if c0 = 1 then some ad else (some ad).map (·.add (1 * 2))) = Ar at hcut hrd
      have HRD := Aside0.mk hrd
      have HLD := Aside0.mk (show (ls.drop 1).length ≤ 1048576 by have := LM.out; omega)
      clear hi0_ hsz0 hrd h0 hln
      generalize ls.drop 1 = rest at *
      generalize rd_T37 ls 0 = x at *
      have HX0 := Aside0.mk hi0
      have HX1 := Aside0.mk hi1
      have HL0 := Aside0.mk hl0
      have HL1 := Aside0.mk hl1
      have FX0 := Aside0.mk hf0
      have FX1 := Aside0.mk hf1
      clear hi0 hi1 hl0 hl1 hf0 hf1
      obtain ⟨b, hs, h⟩ := Option.bind_eq_some_iff.1 h
      have HSG := Aside0.mk hs
      clear hs
      cases b with
      | true =>
        rw [if_pos rfl] at h
        obtain rfl := Option.some.inj h
        clear h
        obtain ⟨y, hy⟩ : ∃ y : List ByteArray, y = [s] := ⟨_, rfl⟩
        have NY := Aside0.mk hy
        rw [← hy]
        clear hy
        go_enter Try.func9, Try.ntmps9
        go_wp2_with (first | ((with_reducible refine gate_dst (N := 5) rfl ?_); refine box_event ?hg (N := 5) ?hd (cs := #[.slice none 0 0, .slice none 0 0]) (t := 37) ?hr ?_; (case hd => rfl); (case hg => rfl); (case hr => first | (go_simp; done) | (go_simp; rfl)); intro gb hg w1 hbox hb; have B1 := Aside0.mk hb; have K1 := Aside0.mk hbox; have GE := Aside0.mk ((by rw [hg]; exact Nat.le_refl _) : w.heap.size ≤ gb); clear hg hbox hb; have hz1_0 : w1.cell? ⟨gb, 0, none⟩ = some (.slice none 0 0) := (blk_cell K1.out 0).trans rfl; have hz1_1 : w1.cell? ⟨gb, 1, none⟩ = some (.slice none 0 0) := (blk_cell K1.out 1).trans rfl; have hy1_0 : w1.frozen? ⟨gb, 0, none⟩ = false := blk_frozen K1.out 0; have hy1_1 : w1.frozen? ⟨gb, 1, none⟩ = false := blk_frozen K1.out 1) | ((with_reducible refine gate_store (t := 37) (p := 5) rfl ?_); refine store_event (t := 37) (p := 5) (v := ?voa) (w1 := ((w1.setCell ⟨gb, 0, none⟩ (.slice A0e x.f0.length c0e)).setCell ⟨gb, 1, none⟩ (.slice A1e x.f1.length c1e))) ?hg ?ho ?hn ?hr ?_; (case ho => rfl); (case hg => rfl); (case hn => rfl); (case hr => first | (go_simp; done) | (go_simp; rfl)); intro w2 hw; have K2 : Aside0 (w2.heap[gb]? = some (.cells #[.slice A0e x.f0.length c0e, .slice A1e x.f1.length c1e] 37 (0, 0))) := ⟨by rw [hw]; refine blk_put (cs := #[.slice A0e x.f0.length c0e, .slice none 0 0]) ?_ 1 _ rfl; refine blk_put (cs := #[.slice none 0 0, .slice none 0 0]) ?_ 0 _ rfl; exact K1.out⟩; have B2 : Aside0 (Below w.heap.size w w2) := ⟨by rw [hw]; exact below_set (below_set B1.out GE.out) GE.out⟩; clear hw; have hz2_0 : w2.cell? ⟨gb, 0, none⟩ = some (.slice A0e x.f0.length c0e) := (blk_cell K2.out 0).trans rfl; have hz2_1 : w2.cell? ⟨gb, 1, none⟩ = some (.slice A1e x.f1.length c1e) := (blk_cell K2.out 1).trans rfl; have hy2_0 : w2.frozen? ⟨gb, 0, none⟩ = false := blk_frozen K2.out 0; have hy2_1 : w2.frozen? ⟨gb, 1, none⟩ = false := blk_frozen K2.out 1) | (go_at_call 16; refine (spec_l03Single.calls A0e c0e x.f0 A1e c1e x.f1 true _ (Kd.C_below HX0.out B2.out) HL0.out (Kd.C_below HX1.out B2.out) HL1.out HSG.out).mono ?_; rintro e w3 ⟨rfl, hb⟩; have B3 := Aside0.mk (below_step B2.out hb); have K3 := Aside0.mk (blk_below K2.out hb); clear hb; have hz3_0 : w3.cell? ⟨gb, 0, none⟩ = some (.slice A0e x.f0.length c0e) := (blk_cell K3.out 0).trans rfl; have hz3_1 : w3.cell? ⟨gb, 1, none⟩ = some (.slice A1e x.f1.length c1e) := (blk_cell K3.out 1).trans rfl; have hy3_0 : w3.frozen? ⟨gb, 0, none⟩ = false := blk_frozen K3.out 0; have hy3_1 : w3.frozen? ⟨gb, 1, none⟩ = false := blk_frozen K3.out 1) | ((with_reducible refine gate_dst (N := 40) rfl ?_); refine Kd.R_lit Kd.string _ 9 ?hg (N := 40) ?hd (xs := [s]) (inner := [.string s]) (ok := fun _ => True) (okp := fun _ => True) ?hr ?hp (fun _ hk => hk) trivial (Below.refl _ _) (Nat.le_refl _) (by simp) ?_; (case hd => rfl); (case hg => rfl); (case hr => first | (go_simp; done) | (go_simp; rfl)); (case hp => exact (Reps.one (show Kd.M Kd.string _ _ _ s [.string s] from rfl) (Reps.none _ _))); intro v40 w4 ho hb hg_ hnew_; clear hg_ hnew_; rw [← NY.out] at ho; have H40 := Aside0.mk (Kd.R_bound ho); have B4 := Aside0.mk (below_step B3.out hb); have K4 := Aside0.mk (blk_below K3.out hb); have GL := Aside0.mk (blk_lt K3.out); clear ho hb; obtain ⟨A40, c40, e40⟩ := Kd.R_slice H40.out; subst e40; have hz4_0 : w4.cell? ⟨gb, 0, none⟩ = some (.slice A0e x.f0.length c0e) := (blk_cell K4.out 0).trans rfl; have hz4_1 : w4.cell? ⟨gb, 1, none⟩ = some (.slice A1e x.f1.length c1e) := (blk_cell K4.out 1).trans rfl; have hy4_0 : w4.frozen? ⟨gb, 0, none⟩ = false := blk_frozen K4.out 0; have hy4_1 : w4.frozen? ⟨gb, 1, none⟩ = false := blk_frozen K4.out 1) | ((with_reducible refine gate_store (t := 37) (p := 5) rfl ?_); refine store_event (t := 37) (p := 5) (v := ?vob) (w1 := ((w4.setCell ⟨gb, 0, none⟩ (.slice A0e x.f0.length c0e)).setCell ⟨gb, 1, none⟩ (.slice A40 y.length c40))) ?hg ?ho ?hn ?hr ?_; (case ho => rfl); (case hg => rfl); (case hn => rfl); (case hr => first | (go_simp; done) | (go_simp; rfl)); intro w5 hw; have K5 : Aside0 (w5.heap[gb]? = some (.cells #[.slice A0e x.f0.length c0e, .slice A40 y.length c40] 37 (0, 0))) := ⟨by rw [hw]; refine blk_put (cs := #[.slice A0e x.f0.length c0e, .slice A1e x.f1.length c1e]) ?_ 1 _ rfl; refine blk_put (cs := #[.slice A0e x.f0.length c0e, .slice A1e x.f1.length c1e]) ?_ 0 _ rfl; exact K4.out⟩; have B5 : Aside0 (Below w.heap.size w w5) := ⟨by rw [hw]; exact below_set (below_set B4.out GE.out) GE.out⟩; have H5 : Aside0 (Kd.string.R 9 w5 w3.heap.size (fun _ => True) (.slice A40 y.length c40) y) := ⟨by rw [hw]; exact Kd.R_mono (Kd.R_far (p := ⟨gb, 1, none⟩) (Kd.R_far (p := ⟨gb, 0, none⟩) H40.out (fun k_ hk_ => Nat.ne_of_gt (Nat.lt_of_lt_of_le GL.out hk_.2.1)) _) (fun k_ hk_ => Nat.ne_of_gt (Nat.lt_of_lt_of_le GL.out hk_.2.1)) _) (fun _ _ => trivial)⟩; clear hw; have hz5_0 : w5.cell? ⟨gb, 0, none⟩ = some (.slice A0e x.f0.length c0e) := (blk_cell K5.out 0).trans rfl; have hz5_1 : w5.cell? ⟨gb, 1, none⟩ = some (.slice A40 y.length c40) := (blk_cell K5.out 1).trans rfl; have hy5_0 : w5.frozen? ⟨gb, 0, none⟩ = false := blk_frozen K5.out 0; have hy5_1 : w5.frozen? ⟨gb, 1, none⟩ = false := blk_frozen K5.out 1) | ((with_reducible refine gate_dst (N := 58) rfl ?_); refine Kd.R_lit (LB.kd w5 (fun k_ => P k_ ∨ w.heap.size ≤ k_)) _ 37 ?hg (N := 58) ?hd (xs := [(⟨x.f0, y⟩ : S37)]) (inner := [.slice A0e x.f0.length c0e, .slice A40 y.length c40]) (ok := fun _ => True) (okp := fun _ => True) ?hr ?hp (fun _ hk => hk) trivial (Below.refl _ _) (Nat.le_refl _) (by simp) ?_; (case hd => rfl); (case hg => rfl); (case hr => first | (go_simp; done) | (go_simp; rfl)); (case hp => exact (Reps.snoc (Reps.none _ _) (show Kd.M (LB.kd w5 (fun k_ => P k_ ∨ w.heap.size ≤ k_)) _ _ _ (⟨x.f0, y⟩ : S37) [.slice A0e x.f0.length c0e, .slice A40 y.length c40] from LB.mkF w5 _ ⟨x.f0, y⟩ HL0.out (Kd.F_mono (Kd.F_below FX0.out B5.out) (fun _ h_ => .inl h_)) (Kd.R_reads' H5.out).2.1 (LB.F_own H5.out (fun k_ hk_ => .inr (Nat.le_trans (below_size B3.out) hk_)))) rfl)); intro v58 w58 ho hb hg_ hnew_; clear hg_ hnew_; have H58 := Aside0.mk ho; have Q58 := Aside0.mk hb; clear ho hb; obtain ⟨A58, c58, e58⟩ := Kd.R_slice H58.out; subst e58) | ((with_reducible refine gate_builtin (b := .append) (xs := #[.tmp 58, .tmp 59]) rfl ?_); at_builtin; refine Kd.R_append_rows (LB.kd w5 (fun k_ => P k_ ∨ w.heap.size ≤ k_)) (w0 := w5) w5.heap.size rfl (.tmp 58) (.tmp 59) 22 37 (.agg #[(.slice none 0 0), (.slice none 0 0)]) 48 rfl Try.underlying22 info37 rfl (Nat.zero_lt_succ 1) (by omega) (.slice A58 [(⟨x.f0, y⟩ : S37)].length c58) [(⟨x.f0, y⟩ : S37)] rest _ _ _ (fun _ => True) (fun _ => False) rfl rfl ?aO ?aR (fun _ _ h => h) (fun _ h => h.elim) ?aF ?aB ?aS ?aL ?_; (case aO => exact H58.out); (case aR => exact Kd.C_below (LB.C_of (Kd.F_mono (Kd.F_below HRD.out B5.out) (fun _ h_ => .inl h_))) Q58.out); (case aF => exact fun _ _ => trivial); (case aB => exact Q58.out); (case aS => exact below_size Q58.out); (case aL => have h_ := HLD.out; simp only [List.length_cons, List.length_nil]; omega); intro v60 w60 ho hb hgr hat; have H60 := Aside0.mk ho; have Q60 := Aside0.mk hb; have B60 := Aside0.mk (below_step B5.out hb); clear ho hb hgr hat; obtain ⟨A60, c60, e60⟩ := Kd.R_slice H60.out; subst e60))
        go_ret
        exact ⟨A60, c60, rfl, LB.F_to H60.out Q60.out (fun k_ hk_ => .inr (Nat.le_trans (below_size B5.out) hk_)), (Kd.R_reads' H60.out).2.1, B60.out⟩
      | false =>
        rw [if_neg (by decide)] at h
        by_cases h4 : x.f1.length < 4
        · rw [if_pos h4] at h
          obtain rfl := Option.some.inj h
          clear h
          have c2 : decide ((x.f1.length : Int) < 4) = true := decide_eq_true (by omega)
          have H4 := Aside0.mk h4
          clear h4
          obtain ⟨y, hy⟩ : ∃ y : List ByteArray, y = [s] := ⟨_, rfl⟩
          have NY := Aside0.mk hy
          rw [← hy]
          clear hy
          obtain ⟨z, hz⟩ : ∃ z : List ByteArray, z = x.f1 ++ y := ⟨_, rfl⟩
          have NZ := Aside0.mk hz
          rw [← hz]
          clear hz
          go_enter Try.func9, Try.ntmps9
          go_wp2_with (first | ((with_reducible refine gate_dst (N := 5) rfl ?_); refine box_event ?hg (N := 5) ?hd (cs := #[.slice none 0 0, .slice none 0 0]) (t := 37) ?hr ?_; (case hd => rfl); (case hg => rfl); (case hr => first | (go_simp; done) | (go_simp; rfl)); intro gb hg w1 hbox hb; have B1 := Aside0.mk hb; have K1 := Aside0.mk hbox; have GE := Aside0.mk ((by rw [hg]; exact Nat.le_refl _) : w.heap.size ≤ gb); clear hg hbox hb; have hz1_0 : w1.cell? ⟨gb, 0, none⟩ = some (.slice none 0 0) := (blk_cell K1.out 0).trans rfl; have hz1_1 : w1.cell? ⟨gb, 1, none⟩ = some (.slice none 0 0) := (blk_cell K1.out 1).trans rfl; have hy1_0 : w1.frozen? ⟨gb, 0, none⟩ = false := blk_frozen K1.out 0; have hy1_1 : w1.frozen? ⟨gb, 1, none⟩ = false := blk_frozen K1.out 1) | ((with_reducible refine gate_store (t := 37) (p := 5) rfl ?_); refine store_event (t := 37) (p := 5) (v := ?voa) (w1 := ((w1.setCell ⟨gb, 0, none⟩ (.slice A0e x.f0.length c0e)).setCell ⟨gb, 1, none⟩ (.slice A1e x.f1.length c1e))) ?hg ?ho ?hn ?hr ?_; (case ho => rfl); (case hg => rfl); (case hn => rfl); (case hr => first | (go_simp; done) | (go_simp; rfl)); intro w2 hw; have K2 : Aside0 (w2.heap[gb]? = some (.cells #[.slice A0e x.f0.length c0e, .slice A1e x.f1.length c1e] 37 (0, 0))) := ⟨by rw [hw]; refine blk_put (cs := #[.slice A0e x.f0.length c0e, .slice none 0 0]) ?_ 1 _ rfl; refine blk_put (cs := #[.slice none 0 0, .slice none 0 0]) ?_ 0 _ rfl; exact K1.out⟩; have B2 : Aside0 (Below w.heap.size w w2) := ⟨by rw [hw]; exact below_set (below_set B1.out GE.out) GE.out⟩; clear hw; have hz2_0 : w2.cell? ⟨gb, 0, none⟩ = some (.slice A0e x.f0.length c0e) := (blk_cell K2.out 0).trans rfl; have hz2_1 : w2.cell? ⟨gb, 1, none⟩ = some (.slice A1e x.f1.length c1e) := (blk_cell K2.out 1).trans rfl; have hy2_0 : w2.frozen? ⟨gb, 0, none⟩ = false := blk_frozen K2.out 0; have hy2_1 : w2.frozen? ⟨gb, 1, none⟩ = false := blk_frozen K2.out 1) | (go_at_call 16; refine (spec_l03Single.calls A0e c0e x.f0 A1e c1e x.f1 false _ (Kd.C_below HX0.out B2.out) HL0.out (Kd.C_below HX1.out B2.out) HL1.out HSG.out).mono ?_; rintro e w3 ⟨rfl, hb⟩; have B3 := Aside0.mk (below_step B2.out hb); have K3 := Aside0.mk (blk_below K2.out hb); clear hb; have hz3_0 : w3.cell? ⟨gb, 0, none⟩ = some (.slice A0e x.f0.length c0e) := (blk_cell K3.out 0).trans rfl; have hz3_1 : w3.cell? ⟨gb, 1, none⟩ = some (.slice A1e x.f1.length c1e) := (blk_cell K3.out 1).trans rfl; have hy3_0 : w3.frozen? ⟨gb, 0, none⟩ = false := blk_frozen K3.out 0; have hy3_1 : w3.frozen? ⟨gb, 1, none⟩ = false := blk_frozen K3.out 1))
          try go_wp2
          refine start_ (n := 11) (S := fun w' => w'.cell? ⟨gb, 0, none⟩ = some (.slice A0e x.f0.length c0e) ∧ w'.cell? ⟨gb, 1, none⟩ = some (.slice A1e x.f1.length c1e)) (ds := [10]) #[false, false, false, false, false, false, false, false, false, false, false] (by kernel_rfl) rfl rfl ⟨hz3_0, hz3_1⟩ (fun hHeld => ?_)
          have B6 := Aside0.mk (below_drew1 B3.out)
          have K6 : Aside0 (w3.drew.heap[gb]? = some (.cells #[.slice A0e x.f0.length c0e, .slice A1e x.f1.length c1e] 37 (0, 0))) := ⟨K3.out⟩
          generalize w3.drew = w6 at B6 K6 hHeld ⊢
          refine pure_ (i := 0) (N := some 47) (v := ?_) (a' := ?_) #[true, false, false, false, false, false, false, false, false, false, false] rfl rfl (by kernel_rfl) (fun _ _ _ h => h) (Or.inl ⟨by rfl, ?_⟩) ?_ ?_
          rotate_left
          · intro w'; go_simp; with_reducible rfl
          rotate_left
          · simp only [Act.put, List.setIfInBounds_toArray, List.set_cons_zero, List.set_cons_succ, i64_w, i32_w]
            rfl
          refine pure_ (i := 3) (N := some 50) (v := ?_) (a' := ?_) #[true, false, false, true, false, false, false, false, false, false, false] rfl rfl (by kernel_rfl) (fun _ _ _ h => h) (Or.inl ⟨by rfl, ?_⟩) ?_ ?_
          rotate_left
          · intro w'; go_simp; with_reducible rfl
          rotate_left
          · simp only [Act.put, List.setIfInBounds_toArray, List.set_cons_zero, List.set_cons_succ, i64_w, i32_w]
            rfl
          refine pure_ (i := 6) (N := some 53) (v := ?_) (a' := ?_) #[true, false, false, true, false, false, true, false, false, false, false] rfl rfl (by kernel_rfl) (fun _ _ _ h => h) (Or.inl ⟨by rfl, ?_⟩) ?_ ?_
          rotate_left
          · intro w'; go_simp; with_reducible rfl
          rotate_left
          · simp only [Act.put, List.setIfInBounds_toArray, List.set_cons_zero, List.set_cons_succ, i64_w, i32_w]
            rfl
          refine take_ (i := 1) (N := some 48) (v := ?_) (a' := ?_) #[true, true, false, true, false, false, true, false, false, false, false] rfl rfl (by kernel_rfl) (fun _ _ _ h => h) (Or.inl ⟨by rfl, ?_⟩) hHeld ?_ ?_
          rotate_left
          · rintro w' ⟨s0, s1⟩; go_simp; with_reducible rfl
          rotate_left
          · simp only [Act.put, List.setIfInBounds_toArray, List.set_cons_zero, List.set_cons_succ, i64_w, i32_w]
            rfl
          refine take_ (i := 4) (N := some 51) (v := ?_) (a' := ?_) #[true, true, false, true, true, false, true, false, false, false, false] rfl rfl (by kernel_rfl) (fun _ _ _ h => h) (Or.inl ⟨by rfl, ?_⟩) hHeld ?_ ?_
          rotate_left
          · rintro w' ⟨s0, s1⟩; go_simp; with_reducible rfl
          rotate_left
          · simp only [Act.put, List.setIfInBounds_toArray, List.set_cons_zero, List.set_cons_succ, i64_w, i32_w]
            rfl
          refine join_ (σ := Value × Value × Value × Value) 2 #[true, true, true, true, true, true, true, true, true, false, false] (fun s_ => [(49, s_.1), (54, s_.2.1), (52, s_.2.2.1), (55, s_.2.2.2)]) (fun s_ w' => Below w6.heap.size w6 w' ∧ Kd.string.R 9 w' w6.heap.size (fun _ => True) s_.2.2.2 z) ?_ ?_
          rotate_left
          · intro hCont
            refine two_ (i := 2) (j := 7) (Ni := some 49) (Nj := some 54) #[true, true, true, true, true, false, true, false, false, false, false] #[true, true, false, true, true, false, true, true, false, false, false] rfl rfl rfl rfl (by kernel_rfl) (by decide) (by decide) (fun K hK => ?_) (fun K hK => ?_)
            · skip
              refine Kd.R_lit_step Kd.string _ 9 ?hg (N := 49) ?hd (xs := ([] : List ByteArray)) (inner := []) (ok := fun _ => True) (okp := fun _ => True) ?hr ?hp (fun _ hk => hk) trivial (Below.refl _ _) (Nat.le_refl _) (by simp) ?_; (case hd => rfl); (case hg => rfl); (case hr => first | (go_simp; done) | (go_simp; rfl)); (case hp => exact (Reps.none _ _))
              intro e49_1 u1 ho hb hg_ hnew_
              clear hg_ hnew_
              have E1 := Aside0.mk (Kd.R_lower ho (Nat.le_refl _))
              have Q1 := Aside0.mk hb
              clear ho hb
              refine hK.out _ _ ⟨(blk_cell (blk_below K6.out Q1.out) 0).trans rfl, (blk_cell (blk_below K6.out Q1.out) 1).trans rfl⟩ (fun hHeld => ?_)
              clear hK K
              refine norm_ (a' := ?_) ?_ ?_
              rotate_left
              · show Act.put _ (some 49) _ = _
                simp only [Act.put, List.setIfInBounds_toArray, List.set_cons_zero, List.set_cons_succ, i64_w, i32_w]
                rfl
              refine two_ (i := 5) (j := 7) (Ni := some 52) (Nj := some 54) #[true, true, true, true, true, true, true, false, false, false, false] #[true, true, true, true, true, false, true, true, false, false, false] rfl rfl rfl rfl (by kernel_rfl) (by decide) (by decide) (fun K hK => ?_) (fun K hK => ?_)
              · skip
                refine Kd.R_append_rows_step Kd.string (w0 := w6) w6.heap.size (by rfl) (.tmp 49) (.tmp 51) 35 9 (.string ⟨#[]⟩) 16 rfl Try.underlying35 info9 rfl (by decide) (by omega) e49_1 ([] : List ByteArray) x.f1 _ _ _ (fun _ => True) (fun _ => False) rfl rfl ?aO ?aR (fun _ _ h => h) (fun _ h => h.elim) ?aF ?aB ?aS ?aL ?_
                (case aO => exact E1.out); (case aR => exact Kd.C_below HX1.out (below_step B6.out Q1.out)); (case aF => exact fun _ _ => trivial); (case aB => exact Q1.out); (case aS => exact below_size Q1.out); (case aL => have h_ := H4.out; simp only [List.length_nil]; omega)
                intro f52_2 u2 ho hb hgr hat
                have E2 : Aside0 (Kd.string.R 9 u2 w6.heap.size (fun _ => True) f52_2 x.f1) := ⟨ho⟩
                have Q2 := Aside0.mk hb
                clear ho hb hgr hat
                refine hK.out _ _ ⟨(blk_cell (blk_below K6.out Q2.out) 0).trans rfl, (blk_cell (blk_below K6.out Q2.out) 1).trans rfl⟩ (fun hHeld => ?_)
                clear hK K
                refine norm_ (a' := ?_) ?_ ?_
                rotate_left
                · show Act.put _ (some 52) _ = _
                  simp only [Act.put, List.setIfInBounds_toArray, List.set_cons_zero, List.set_cons_succ, i64_w, i32_w]
                  rfl
                refine one_ (i := 7) (N := some 54) #[true, true, true, true, true, true, true, true, false, false, false] rfl rfl (by kernel_rfl) (by decide) (fun K hK => ?_)
                refine Kd.R_lit_step Kd.string _ 9 ?hg (N := 54) ?hd (xs := [s]) (inner := [.string s]) (ok := fun _ => True) (okp := fun _ => True) ?hr ?hp (fun _ hk => hk) trivial (Below.refl _ _) (Nat.le_refl _) (by simp) ?_; (case hd => rfl); (case hg => rfl); (case hr => first | (go_simp; done) | (go_simp; rfl)); (case hp => exact (Reps.one (show Kd.M Kd.string _ _ _ s [.string s] from rfl) (Reps.none _ _)))
                intro l54_3 u3 ho hb hg_ hnew_
                clear hg_ hnew_
                rw [← NY.out] at ho
                have L3 := Aside0.mk (Kd.R_lower ho (below_size Q2.out))
                have E3 := Aside0.mk (Kd.R_below E2.out hb)
                obtain ⟨A54_3, c54_3, e54_3⟩ := Kd.R_slice L3.out
                subst e54_3
                have Q3 := Aside0.mk (below_step Q2.out hb)
                clear ho hb
                refine hK.out _ _ ⟨(blk_cell (blk_below K6.out Q3.out) 0).trans rfl, (blk_cell (blk_below K6.out Q3.out) 1).trans rfl⟩ (fun hHeld => ?_)
                clear hK K
                refine norm_ (a' := ?_) ?_ ?_
                rotate_left
                · show Act.put _ (some 54) _ = _
                  simp only [Act.put, List.setIfInBounds_toArray, List.set_cons_zero, List.set_cons_succ, i64_w, i32_w]
                  rfl
                refine one_ (i := 8) (N := some 55) #[true, true, true, true, true, true, true, true, true, false, false] rfl rfl (by kernel_rfl) (by decide) (fun K hK => ?_)
                refine Kd.R_append_rows_step Kd.string (w0 := w6) w6.heap.size (by rfl) (.tmp 52) (.tmp 54) 35 9 (.string ⟨#[]⟩) 16 rfl Try.underlying35 info9 rfl (by decide) (by omega) f52_2 x.f1 y _ _ _ (fun _ => True) (fun _ => False) rfl rfl ?aO ?aR (fun _ _ h => h) (fun _ h => h.elim) ?aF ?aB ?aS ?aL ?_
                (case aO => exact E3.out); (case aR => exact (Kd.R_reads' L3.out).2.2); (case aF => exact fun _ _ => trivial); (case aB => exact Q3.out); (case aS => exact below_size Q3.out); (case aL => have h_ := H4.out; have h2_ : y.length = 1 := (by rw [NY.out]; rfl); omega)
                intro g55_4 u4 ho hb hgr hat
                rw [← NZ.out] at ho
                have G4 := Aside0.mk ho
                have Q4 := Aside0.mk hb
                clear ho hb hgr hat
                refine hK.out _ _ ⟨(blk_cell (blk_below K6.out Q4.out) 0).trans rfl, (blk_cell (blk_below K6.out Q4.out) 1).trans rfl⟩ (fun hHeld => ?_)
                clear hK K
                refine norm_ (a' := ?_) ?_ ?_
                rotate_left
                · show Act.put _ (some 55) _ = _
                  simp only [Act.put, List.setIfInBounds_toArray, List.set_cons_zero, List.set_cons_succ, i64_w, i32_w]
                  rfl
                exact norm_ (by simp only [putAll, Act.put, List.setIfInBounds_toArray, List.set_cons_zero, List.set_cons_succ]) (hCont (e49_1, .slice A54_3 y.length c54_3, f52_2, g55_4) _ ⟨Q4.out, G4.out⟩)
              · skip
                refine Kd.R_lit_step Kd.string _ 9 ?hg (N := 54) ?hd (xs := [s]) (inner := [.string s]) (ok := fun _ => True) (okp := fun _ => True) ?hr ?hp (fun _ hk => hk) trivial (Below.refl _ _) (Nat.le_refl _) (by simp) ?_; (case hd => rfl); (case hg => rfl); (case hr => first | (go_simp; done) | (go_simp; rfl)); (case hp => exact (Reps.one (show Kd.M Kd.string _ _ _ s [.string s] from rfl) (Reps.none _ _)))
                intro l54_5 u5 ho hb hg_ hnew_
                clear hg_ hnew_
                rw [← NY.out] at ho
                have L5 := Aside0.mk (Kd.R_lower (Kd.R_new' ho (Kd.R_lt E1.out)) (below_size Q1.out))
                have E5 := Aside0.mk (Kd.R_below E1.out hb)
                obtain ⟨A54_5, c54_5, e54_5⟩ := Kd.R_slice L5.out
                subst e54_5
                have Q5 := Aside0.mk (below_step Q1.out hb)
                clear ho hb
                refine hK.out _ _ ⟨(blk_cell (blk_below K6.out Q5.out) 0).trans rfl, (blk_cell (blk_below K6.out Q5.out) 1).trans rfl⟩ (fun hHeld => ?_)
                clear hK K
                refine norm_ (a' := ?_) ?_ ?_
                rotate_left
                · show Act.put _ (some 54) _ = _
                  simp only [Act.put, List.setIfInBounds_toArray, List.set_cons_zero, List.set_cons_succ, i64_w, i32_w]
                  rfl
                refine one_ (i := 5) (N := some 52) #[true, true, true, true, true, true, true, true, false, false, false] rfl rfl (by kernel_rfl) (by decide) (fun K hK => ?_)
                refine Kd.R_append_rows_step Kd.string (w0 := w6) w6.heap.size (by rfl) (.tmp 49) (.tmp 51) 35 9 (.string ⟨#[]⟩) 16 rfl Try.underlying35 info9 rfl (by decide) (by omega) e49_1 ([] : List ByteArray) x.f1 _ _ _ (fun _ => True) (fun _ => False) rfl rfl ?aO ?aR (fun _ _ h => h) (fun _ h => h.elim) ?aF ?aB ?aS ?aL ?_
                (case aO => exact E5.out); (case aR => exact Kd.C_below HX1.out (below_step B6.out Q5.out)); (case aF => exact fun _ _ => trivial); (case aB => exact Q5.out); (case aS => exact below_size Q5.out); (case aL => have h_ := H4.out; simp only [List.length_nil]; omega)
                intro f52_6 u6 ho hb hgr hat
                have E6 : Aside0 (Kd.string.R 9 u6 w6.heap.size (fun _ => True) f52_6 x.f1) := ⟨ho⟩
                have L6 := Aside0.mk (Kd.R_grown L5.out hgr (fun _ hk_ => hk_.2))
                have Q6 := Aside0.mk hb
                clear ho hb hgr hat
                refine hK.out _ _ ⟨(blk_cell (blk_below K6.out Q6.out) 0).trans rfl, (blk_cell (blk_below K6.out Q6.out) 1).trans rfl⟩ (fun hHeld => ?_)
                clear hK K
                refine norm_ (a' := ?_) ?_ ?_
                rotate_left
                · show Act.put _ (some 52) _ = _
                  simp only [Act.put, List.setIfInBounds_toArray, List.set_cons_zero, List.set_cons_succ, i64_w, i32_w]
                  rfl
                refine one_ (i := 8) (N := some 55) #[true, true, true, true, true, true, true, true, true, false, false] rfl rfl (by kernel_rfl) (by decide) (fun K hK => ?_)
                refine Kd.R_append_rows_step Kd.string (w0 := w6) w6.heap.size (by rfl) (.tmp 52) (.tmp 54) 35 9 (.string ⟨#[]⟩) 16 rfl Try.underlying35 info9 rfl (by decide) (by omega) f52_6 x.f1 y _ _ _ (fun _ => True) (fun _ => False) rfl rfl ?aO ?aR (fun _ _ h => h) (fun _ h => h.elim) ?aF ?aB ?aS ?aL ?_
                (case aO => exact E6.out); (case aR => exact (Kd.R_reads' L6.out).2.2); (case aF => exact fun _ _ => trivial); (case aB => exact Q6.out); (case aS => exact below_size Q6.out); (case aL => have h_ := H4.out; have h2_ : y.length = 1 := (by rw [NY.out]; rfl); omega)
                intro g55_7 u7 ho hb hgr hat
                rw [← NZ.out] at ho
                have G7 := Aside0.mk ho
                have Q7 := Aside0.mk hb
                clear ho hb hgr hat
                refine hK.out _ _ ⟨(blk_cell (blk_below K6.out Q7.out) 0).trans rfl, (blk_cell (blk_below K6.out Q7.out) 1).trans rfl⟩ (fun hHeld => ?_)
                clear hK K
                refine norm_ (a' := ?_) ?_ ?_
                rotate_left
                · show Act.put _ (some 55) _ = _
                  simp only [Act.put, List.setIfInBounds_toArray, List.set_cons_zero, List.set_cons_succ, i64_w, i32_w]
                  rfl
                exact norm_ (by simp only [putAll, Act.put, List.setIfInBounds_toArray, List.set_cons_zero, List.set_cons_succ]) (hCont (e49_1, .slice A54_5 y.length c54_5, f52_6, g55_7) _ ⟨Q7.out, G7.out⟩)
            · skip
              refine Kd.R_lit_step Kd.string _ 9 ?hg (N := 54) ?hd (xs := [s]) (inner := [.string s]) (ok := fun _ => True) (okp := fun _ => True) ?hr ?hp (fun _ hk => hk) trivial (Below.refl _ _) (Nat.le_refl _) (by simp) ?_; (case hd => rfl); (case hg => rfl); (case hr => first | (go_simp; done) | (go_simp; rfl)); (case hp => exact (Reps.one (show Kd.M Kd.string _ _ _ s [.string s] from rfl) (Reps.none _ _)))
              intro l54_8 u8 ho hb hg_ hnew_
              clear hg_ hnew_
              rw [← NY.out] at ho
              have L8 := Aside0.mk (Kd.R_lower ho (Nat.le_refl _))
              obtain ⟨A54_8, c54_8, e54_8⟩ := Kd.R_slice L8.out
              subst e54_8
              have Q8 := Aside0.mk hb
              clear ho hb
              refine hK.out _ _ ⟨(blk_cell (blk_below K6.out Q8.out) 0).trans rfl, (blk_cell (blk_below K6.out Q8.out) 1).trans rfl⟩ (fun hHeld => ?_)
              clear hK K
              refine norm_ (a' := ?_) ?_ ?_
              rotate_left
              · show Act.put _ (some 54) _ = _
                simp only [Act.put, List.setIfInBounds_toArray, List.set_cons_zero, List.set_cons_succ, i64_w, i32_w]
                rfl
              refine one_ (i := 2) (N := some 49) #[true, true, true, true, true, false, true, true, false, false, false] rfl rfl (by kernel_rfl) (by decide) (fun K hK => ?_)
              refine Kd.R_lit_step Kd.string _ 9 ?hg (N := 49) ?hd (xs := ([] : List ByteArray)) (inner := []) (ok := fun _ => True) (okp := fun _ => True) ?hr ?hp (fun _ hk => hk) trivial (Below.refl _ _) (Nat.le_refl _) (by simp) ?_; (case hd => rfl); (case hg => rfl); (case hr => first | (go_simp; done) | (go_simp; rfl)); (case hp => exact (Reps.none _ _))
              intro e49_9 u9 ho hb hg_ hnew_
              clear hg_ hnew_
              have L9 := Aside0.mk (Kd.R_elder' L8.out (Kd.R_base ho) hb)
              have E9 := Aside0.mk (Kd.R_lower ho (below_size Q8.out))
              have Q9 := Aside0.mk (below_step Q8.out hb)
              clear ho hb
              refine hK.out _ _ ⟨(blk_cell (blk_below K6.out Q9.out) 0).trans rfl, (blk_cell (blk_below K6.out Q9.out) 1).trans rfl⟩ (fun hHeld => ?_)
              clear hK K
              refine norm_ (a' := ?_) ?_ ?_
              rotate_left
              · show Act.put _ (some 49) _ = _
                simp only [Act.put, List.setIfInBounds_toArray, List.set_cons_zero, List.set_cons_succ, i64_w, i32_w]
                rfl
              refine one_ (i := 5) (N := some 52) #[true, true, true, true, true, true, true, true, false, false, false] rfl rfl (by kernel_rfl) (by decide) (fun K hK => ?_)
              refine Kd.R_append_rows_step Kd.string (w0 := w6) w6.heap.size (by rfl) (.tmp 49) (.tmp 51) 35 9 (.string ⟨#[]⟩) 16 rfl Try.underlying35 info9 rfl (by decide) (by omega) e49_9 ([] : List ByteArray) x.f1 _ _ _ (fun _ => True) (fun _ => False) rfl rfl ?aO ?aR (fun _ _ h => h) (fun _ h => h.elim) ?aF ?aB ?aS ?aL ?_
              (case aO => exact E9.out); (case aR => exact Kd.C_below HX1.out (below_step B6.out Q9.out)); (case aF => exact fun _ _ => trivial); (case aB => exact Q9.out); (case aS => exact below_size Q9.out); (case aL => have h_ := H4.out; simp only [List.length_nil]; omega)
              intro f52_10 u10 ho hb hgr hat
              have E10 : Aside0 (Kd.string.R 9 u10 w6.heap.size (fun _ => True) f52_10 x.f1) := ⟨ho⟩
              have L10 := Aside0.mk (Kd.R_grown L9.out hgr (fun _ hk_ => hk_.2))
              have Q10 := Aside0.mk hb
              clear ho hb hgr hat
              refine hK.out _ _ ⟨(blk_cell (blk_below K6.out Q10.out) 0).trans rfl, (blk_cell (blk_below K6.out Q10.out) 1).trans rfl⟩ (fun hHeld => ?_)
              clear hK K
              refine norm_ (a' := ?_) ?_ ?_
              rotate_left
              · show Act.put _ (some 52) _ = _
                simp only [Act.put, List.setIfInBounds_toArray, List.set_cons_zero, List.set_cons_succ, i64_w, i32_w]
                rfl
              refine one_ (i := 8) (N := some 55) #[true, true, true, true, true, true, true, true, true, false, false] rfl rfl (by kernel_rfl) (by decide) (fun K hK => ?_)
              refine Kd.R_append_rows_step Kd.string (w0 := w6) w6.heap.size (by rfl) (.tmp 52) (.tmp 54) 35 9 (.string ⟨#[]⟩) 16 rfl Try.underlying35 info9 rfl (by decide) (by omega) f52_10 x.f1 y _ _ _ (fun _ => True) (fun _ => False) rfl rfl ?aO ?aR (fun _ _ h => h) (fun _ h => h.elim) ?aF ?aB ?aS ?aL ?_
              (case aO => exact E10.out); (case aR => exact (Kd.R_reads' L10.out).2.2); (case aF => exact fun _ _ => trivial); (case aB => exact Q10.out); (case aS => exact below_size Q10.out); (case aL => have h_ := H4.out; have h2_ : y.length = 1 := (by rw [NY.out]; rfl); omega)
              intro g55_11 u11 ho hb hgr hat
              rw [← NZ.out] at ho
              have G11 := Aside0.mk ho
              have Q11 := Aside0.mk hb
              clear ho hb hgr hat
              refine hK.out _ _ ⟨(blk_cell (blk_below K6.out Q11.out) 0).trans rfl, (blk_cell (blk_below K6.out Q11.out) 1).trans rfl⟩ (fun hHeld => ?_)
              clear hK K
              refine norm_ (a' := ?_) ?_ ?_
              rotate_left
              · show Act.put _ (some 55) _ = _
                simp only [Act.put, List.setIfInBounds_toArray, List.set_cons_zero, List.set_cons_succ, i64_w, i32_w]
                rfl
              exact norm_ (by simp only [putAll, Act.put, List.setIfInBounds_toArray, List.set_cons_zero, List.set_cons_succ]) (hCont (e49_9, .slice A54_8 y.length c54_8, f52_10, g55_11) _ ⟨Q11.out, G11.out⟩)
          rintro ⟨v49, v54, v52, v55⟩ w7 ⟨hb, ho⟩
          have Q7 := Aside0.mk hb
          have H7 : Aside0 (Kd.string.R 9 w7 w6.heap.size (fun _ => True) v55 z) := ⟨ho⟩
          clear hb ho
          have K7 := Aside0.mk (blk_below K6.out Q7.out)
          have GL := Aside0.mk (blk_lt K6.out)
          obtain ⟨A55, c55, e55⟩ := Kd.R_slice H7.out
          subst e55
          refine norm_ (a' := ?_) ?_ ?_
          rotate_left
          · simp only [putAll, Act.put, List.setIfInBounds_toArray, List.set_cons_zero, List.set_cons_succ]
            rfl
          refine pure_ (i := 9) (N := some 56) (v := ?_) (a' := ?_) #[true, true, true, true, true, true, true, true, true, true, false] rfl rfl (by kernel_rfl) (fun _ _ _ h => h) (Or.inl ⟨by rfl, ?_⟩) ?_ ?_
          rotate_left
          · intro w'; go_simp; with_reducible rfl
          rotate_left
          · simp only [Act.put, List.setIfInBounds_toArray, List.set_cons_zero, List.set_cons_succ, i64_w, i32_w]
            rfl
          have hz7_0 : w7.cell? ⟨gb, 0, none⟩ = some (.slice A0e x.f0.length c0e) := (blk_cell K7.out 0).trans rfl
          have hz7_1 : w7.cell? ⟨gb, 1, none⟩ = some (.slice A1e x.f1.length c1e) := (blk_cell K7.out 1).trans rfl
          have hy7_0 : w7.frozen? ⟨gb, 0, none⟩ = false := blk_frozen K7.out 0
          have hy7_1 : w7.frozen? ⟨gb, 1, none⟩ = false := blk_frozen K7.out 1
          refine last_ (i := 10) (N := none) #[true, true, true, true, true, true, true, true, true, true, true] rfl rfl (by kernel_rfl) (by decide) (fun K hK => ?_)
          refine skip_ (w1 := ((w7.setCell ⟨gb, 0, none⟩ (.slice A0e x.f0.length c0e)).setCell ⟨gb, 1, none⟩ (.slice A55 z.length c55))) (by rfl) rfl ?_ ?_
          · go_simp
            first | done | rfl
          refine hK.out _ _ ?_
          clear hK K
          refine done_ (by kernel_rfl) ?_
          obtain ⟨w8, hw⟩ : ∃ w8, w8 = ((w7.setCell ⟨gb, 0, none⟩ (.slice A0e x.f0.length c0e)).setCell ⟨gb, 1, none⟩ (.slice A55 z.length c55)) := ⟨_, rfl⟩
          rw [← hw]
          have K8 : Aside0 (w8.heap[gb]? = some (.cells #[.slice A0e x.f0.length c0e, .slice A55 z.length c55] 37 (0, 0))) := ⟨by rw [hw]; refine blk_put (cs := #[.slice A0e x.f0.length c0e, .slice A1e x.f1.length c1e]) ?_ 1 _ rfl; refine blk_put (cs := #[.slice A0e x.f0.length c0e, .slice A1e x.f1.length c1e]) ?_ 0 _ rfl; exact K7.out⟩
          have B8 : Aside0 (Below w.heap.size w w8) := ⟨by rw [hw]; exact below_set (below_set (below_step B6.out Q7.out) GE.out) GE.out⟩
          have H8 : Aside0 (Kd.string.R 9 w8 w6.heap.size (fun _ => True) (.slice A55 z.length c55) z) := ⟨by rw [hw]; exact Kd.R_mono (Kd.R_far (p := ⟨gb, 1, none⟩) (Kd.R_far (p := ⟨gb, 0, none⟩) (Kd.R_bound H7.out) (fun k_ hk_ => Nat.ne_of_gt (Nat.lt_of_lt_of_le GL.out hk_.2.1)) _) (fun k_ hk_ => Nat.ne_of_gt (Nat.lt_of_lt_of_le GL.out hk_.2.1)) _) (fun _ _ => trivial)⟩
          clear hw hz7_0 hz7_1 hy7_0 hy7_1 hHeld
          have hz8_0 : w8.cell? ⟨gb, 0, none⟩ = some (.slice A0e x.f0.length c0e) := (blk_cell K8.out 0).trans rfl
          have hz8_1 : w8.cell? ⟨gb, 1, none⟩ = some (.slice A55 z.length c55) := (blk_cell K8.out 1).trans rfl
          have hy8_0 : w8.frozen? ⟨gb, 0, none⟩ = false := blk_frozen K8.out 0
          have hy8_1 : w8.frozen? ⟨gb, 1, none⟩ = false := blk_frozen K8.out 1
          go_wp2_with (first | ((with_reducible refine gate_dst (N := 58) rfl ?_); refine Kd.R_lit (LB.kd w8 (fun k_ => P k_ ∨ w.heap.size ≤ k_)) _ 37 ?hg (N := 58) ?hd (xs := [(⟨x.f0, z⟩ : S37)]) (inner := [.slice A0e x.f0.length c0e, .slice A55 z.length c55]) (ok := fun _ => True) (okp := fun _ => True) ?hr ?hp (fun _ hk => hk) trivial (Below.refl _ _) (Nat.le_refl _) (by simp) ?_; (case hd => rfl); (case hg => rfl); (case hr => first | (go_simp; done) | (go_simp; rfl)); (case hp => exact (Reps.snoc (Reps.none _ _) (show Kd.M (LB.kd w8 (fun k_ => P k_ ∨ w.heap.size ≤ k_)) _ _ _ (⟨x.f0, z⟩ : S37) [.slice A0e x.f0.length c0e, .slice A55 z.length c55] from LB.mkF w8 _ ⟨x.f0, z⟩ HL0.out (Kd.F_mono (Kd.F_below FX0.out B8.out) (fun _ h_ => .inl h_)) (Kd.R_reads' H8.out).2.1 (LB.F_own H8.out (fun k_ hk_ => .inr (Nat.le_trans (below_size B6.out) hk_)))) rfl)); intro v58 w58 ho hb hg_ hnew_; clear hg_ hnew_; have H58 := Aside0.mk ho; have Q58 := Aside0.mk hb; clear ho hb; obtain ⟨A58, c58, e58⟩ := Kd.R_slice H58.out; subst e58) | ((with_reducible refine gate_builtin (b := .append) (xs := #[.tmp 58, .tmp 59]) rfl ?_); at_builtin; refine Kd.R_append_rows (LB.kd w8 (fun k_ => P k_ ∨ w.heap.size ≤ k_)) (w0 := w8) w8.heap.size rfl (.tmp 58) (.tmp 59) 22 37 (.agg #[(.slice none 0 0), (.slice none 0 0)]) 48 rfl Try.underlying22 info37 rfl (Nat.zero_lt_succ 1) (by omega) (.slice A58 [(⟨x.f0, z⟩ : S37)].length c58) [(⟨x.f0, z⟩ : S37)] rest _ _ _ (fun _ => True) (fun _ => False) rfl rfl ?aO ?aR (fun _ _ h => h) (fun _ h => h.elim) ?aF ?aB ?aS ?aL ?_; (case aO => exact H58.out); (case aR => exact Kd.C_below (LB.C_of (Kd.F_mono (Kd.F_below HRD.out B8.out) (fun _ h_ => .inl h_))) Q58.out); (case aF => exact fun _ _ => trivial); (case aB => exact Q58.out); (case aS => exact below_size Q58.out); (case aL => have h_ := HLD.out; simp only [List.length_cons, List.length_nil]; omega); intro v60 w60 ho hb hgr hat; have H60 := Aside0.mk ho; have Q60 := Aside0.mk hb; have B60 := Aside0.mk (below_step B8.out hb); clear ho hb hgr hat; obtain ⟨A60, c60, e60⟩ := Kd.R_slice H60.out; subst e60))
          go_ret
          exact ⟨A60, c60, rfl, LB.F_to H60.out Q60.out (fun k_ hk_ => .inr (Nat.le_trans (below_size B8.out) hk_)), (Kd.R_reads' H60.out).2.1, B60.out⟩
        · rw [if_neg h4] at h
          have c2 : decide ((x.f1.length : Int) < 4) = false := decide_eq_false (by omega)
          obtain ⟨t, ht, h⟩ := Option.bind_eq_some_iff.1 h
          obtain ⟨q, hq, h⟩ := Option.bind_eq_some_iff.1 h
          by_cases hql : q.length ≤ 1048576
          case neg => rw [if_neg hql] at h; cases h
          rw [if_pos hql] at h
          obtain rfl := Option.some.inj h
          clear h
          have HT := Aside0.mk ht
          have HQ := Aside0.mk hq
          have HQL := Aside0.mk hql
          clear ht hq hql
          obtain ⟨z, hz⟩ : ∃ z : List ByteArray, z = [rdOf ByteArray.empty x.f1 3, s] := ⟨_, rfl⟩
          have NZ := Aside0.mk hz
          rw [← hz]
          clear hz
          have q3 : (3 : Int) < (x.f1.length : Int) := by omega
          have p3 : (0 : Int) ≤ 3 := by decide
          obtain ⟨ae, e2, hxs⟩ := Kd.at_string HX1.out 3 p3 q3
          subst e2
          have hxs3 : w.cell? ⟨ae.block, ae.off + 3, none⟩ = some (.string (rdOf ByteArray.empty x.f1 3)) := (congrArg w.cell? (add_field ae 0 3 (by decide))).symm.trans hxs
          obtain ⟨i9, hi9, _, hsz9, _⟩ := info_parts info9
          obtain ⟨hcut3, hA3, hC3⟩ := print_take_of (P := Try.prog) Value.string ByteArray.empty 35 9 .i64 Try.underlying35 hi9 hsz9 (some ae) c1e x.f1 3 p3 (by omega) HL1.out
          have HR3 := Aside0.mk (Kd.C_of_reads (h1 := fun _ => rfl) (hA3 _ (Kd.reads_of_C HX1.out)))
          have HC3 := Aside0.mk hC3
          clear hxs hA3 hC3 hi9 hsz9 h4
          go_enter Try.func9, Try.ntmps9
          go_wp2_with (first | ((with_reducible refine gate_dst (N := 5) rfl ?_); refine box_event ?hg (N := 5) ?hd (cs := #[.slice none 0 0, .slice none 0 0]) (t := 37) ?hr ?_; (case hd => rfl); (case hg => rfl); (case hr => first | (go_simp; done) | (go_simp; rfl)); intro gb hg w1 hbox hb; have B1 := Aside0.mk hb; have K1 := Aside0.mk hbox; have GE := Aside0.mk ((by rw [hg]; exact Nat.le_refl _) : w.heap.size ≤ gb); clear hg hbox hb; have hz1_0 : w1.cell? ⟨gb, 0, none⟩ = some (.slice none 0 0) := (blk_cell K1.out 0).trans rfl; have hz1_1 : w1.cell? ⟨gb, 1, none⟩ = some (.slice none 0 0) := (blk_cell K1.out 1).trans rfl; have hy1_0 : w1.frozen? ⟨gb, 0, none⟩ = false := blk_frozen K1.out 0; have hy1_1 : w1.frozen? ⟨gb, 1, none⟩ = false := blk_frozen K1.out 1) | ((with_reducible refine gate_store (t := 37) (p := 5) rfl ?_); refine store_event (t := 37) (p := 5) (v := ?voa) (w1 := ((w1.setCell ⟨gb, 0, none⟩ (.slice A0e x.f0.length c0e)).setCell ⟨gb, 1, none⟩ (.slice (some ae) x.f1.length c1e))) ?hg ?ho ?hn ?hr ?_; (case ho => rfl); (case hg => rfl); (case hn => rfl); (case hr => first | (go_simp; done) | (go_simp; rfl)); intro w2 hw; have K2 : Aside0 (w2.heap[gb]? = some (.cells #[.slice A0e x.f0.length c0e, .slice (some ae) x.f1.length c1e] 37 (0, 0))) := ⟨by rw [hw]; refine blk_put (cs := #[.slice A0e x.f0.length c0e, .slice none 0 0]) ?_ 1 _ rfl; refine blk_put (cs := #[.slice none 0 0, .slice none 0 0]) ?_ 0 _ rfl; exact K1.out⟩; have B2 : Aside0 (Below w.heap.size w w2) := ⟨by rw [hw]; exact below_set (below_set B1.out GE.out) GE.out⟩; clear hw; have hz2_0 : w2.cell? ⟨gb, 0, none⟩ = some (.slice A0e x.f0.length c0e) := (blk_cell K2.out 0).trans rfl; have hz2_1 : w2.cell? ⟨gb, 1, none⟩ = some (.slice (some ae) x.f1.length c1e) := (blk_cell K2.out 1).trans rfl; have hy2_0 : w2.frozen? ⟨gb, 0, none⟩ = false := blk_frozen K2.out 0; have hy2_1 : w2.frozen? ⟨gb, 1, none⟩ = false := blk_frozen K2.out 1) | (go_at_call 16; refine (spec_l03Single.calls A0e c0e x.f0 (some ae) c1e x.f1 false _ (Kd.C_below HX0.out B2.out) HL0.out (Kd.C_below HX1.out B2.out) HL1.out HSG.out).mono ?_; rintro e w3 ⟨rfl, hb⟩; have B3 := Aside0.mk (below_step B2.out hb); have K3 := Aside0.mk (blk_below K2.out hb); clear hb; have hz3_0 : w3.cell? ⟨gb, 0, none⟩ = some (.slice A0e x.f0.length c0e) := (blk_cell K3.out 0).trans rfl; have hz3_1 : w3.cell? ⟨gb, 1, none⟩ = some (.slice (some ae) x.f1.length c1e) := (blk_cell K3.out 1).trans rfl; have hy3_0 : w3.frozen? ⟨gb, 0, none⟩ = false := blk_frozen K3.out 0; have hy3_1 : w3.frozen? ⟨gb, 1, none⟩ = false := blk_frozen K3.out 1) | (go_at_call 17; rw [show min 3 x.f1.length = (x.f1.take 3).length from List.length_take.symm]; refine (spec_l03Node.calls k _ _ (x.f1.take 3) t _ (Kd.C_below HR3.out B3.out) HC3.out HT.out).mono ?_; rintro e w4 ⟨rfl, hd_⟩; have B4 := Aside0.mk (below_step B3.out hd_.below); have K4 := Aside0.mk (blk_below K3.out hd_.below); have GL4 := Aside0.mk (blk_lt (blk_below K3.out hd_.below)); clear hd_) | (go_at_call 9; refine (ih t (fun k_ => P k_ ∧ k_ < w.heap.size) Ar (c0 - 1) rest q w4 (Kd.F_old HRD.out B4.out) HCD.out HQ.out).mono ?_; rintro e w5 ⟨Aq, cq, rfl, hfq, hlq, hb⟩; have FQ := Aside0.mk hfq; have B5 := Aside0.mk (below_step B4.out hb); have K5 := Aside0.mk (blk_below K4.out hb); clear hfq hb; have hz5_0 : w5.cell? ⟨gb, 0, none⟩ = some (.slice A0e x.f0.length c0e) := (blk_cell K5.out 0).trans rfl; have hz5_1 : w5.cell? ⟨gb, 1, none⟩ = some (.slice (some ae) x.f1.length c1e) := (blk_cell K5.out 1).trans rfl; have hy5_0 : w5.frozen? ⟨gb, 0, none⟩ = false := blk_frozen K5.out 0; have hy5_1 : w5.frozen? ⟨gb, 1, none⟩ = false := blk_frozen K5.out 1))
          try go_wp2
          refine start_ (n := 10) (S := fun w' => w'.cell? ⟨gb, 0, none⟩ = some (.slice A0e x.f0.length c0e) ∧ w'.cell? ⟨gb, 1, none⟩ = some (.slice (some ae) x.f1.length c1e) ∧ w'.cell? ⟨ae.block, ae.off + 3, none⟩ = some (.string (rdOf ByteArray.empty x.f1 3))) (ds := [9]) #[false, false, false, false, false, false, false, false, false, false] (by kernel_rfl) rfl rfl ⟨hz5_0, hz5_1, pw_cell_below (below_drew1 B5.out) hxs3⟩ (fun hHeld => ?_)
          have B6 := Aside0.mk (below_drew1 B5.out)
          have K6 : Aside0 (w5.drew.heap[gb]? = some (.cells #[.slice A0e x.f0.length c0e, .slice (some ae) x.f1.length c1e] 37 (0, 0))) := ⟨K5.out⟩
          have D6 : Aside0 (Below w5.heap.size w5 w5.drew) := ⟨below_drew1 (Below.refl _ _)⟩
          generalize w5.drew = w6 at B6 K6 D6 hHeld ⊢
          refine pure_ (i := 0) (N := some 25) (v := ?_) (a' := ?_) #[true, false, false, false, false, false, false, false, false, false] rfl rfl (by kernel_rfl) (fun _ _ _ h => h) (Or.inl ⟨by rfl, ?_⟩) ?_ ?_
          rotate_left
          · intro w'; go_simp; with_reducible rfl
          rotate_left
          · simp only [Act.put, List.setIfInBounds_toArray, List.set_cons_zero, List.set_cons_succ, i64_w, i32_w]
            rfl
          refine pure_ (i := 2) (N := some 27) (v := ?_) (a' := ?_) #[true, false, true, false, false, false, false, false, false, false] rfl rfl (by kernel_rfl) (fun _ _ _ h => h) (Or.inl ⟨by rfl, ?_⟩) ?_ ?_
          rotate_left
          · intro w'; go_simp; with_reducible rfl
          rotate_left
          · simp only [Act.put, List.setIfInBounds_toArray, List.set_cons_zero, List.set_cons_succ, i64_w, i32_w]
            rfl
          refine pure_ (i := 6) (N := some 31) (v := ?_) (a' := ?_) #[true, false, true, false, false, false, true, false, false, false] rfl rfl (by kernel_rfl) (fun _ _ _ h => h) (Or.inl ⟨by rfl, ?_⟩) ?_ ?_
          rotate_left
          · intro w'; go_simp; with_reducible rfl
          rotate_left
          · simp only [Act.put, List.setIfInBounds_toArray, List.set_cons_zero, List.set_cons_succ, i64_w, i32_w]
            rfl
          refine take_ (i := 1) (N := some 26) (v := ?_) (a' := ?_) #[true, true, true, false, false, false, true, false, false, false] rfl rfl (by kernel_rfl) (fun _ _ _ h => h) (Or.inl ⟨by rfl, ?_⟩) hHeld ?_ ?_
          rotate_left
          · rintro w' ⟨s0, s1, s2⟩; go_simp; with_reducible rfl
          rotate_left
          · simp only [Act.put, List.setIfInBounds_toArray, List.set_cons_zero, List.set_cons_succ, i64_w, i32_w]
            rfl
          refine take_ (i := 3) (N := some 28) (v := ?_) (a' := ?_) #[true, true, true, true, false, false, true, false, false, false] rfl rfl (by kernel_rfl) (fun _ _ _ h => h) (Or.inl ⟨by rfl, ?_⟩) hHeld ?_ ?_
          rotate_left
          · rintro w' ⟨s0, s1, s2⟩; go_simp; with_reducible rfl
          rotate_left
          · simp only [Act.put, List.setIfInBounds_toArray, List.set_cons_zero, List.set_cons_succ, i64_w, i32_w]
            rfl
          refine pure_ (i := 4) (N := some 29) (v := ?_) (a' := ?_) #[true, true, true, true, true, false, true, false, false, false] rfl rfl (by kernel_rfl) (fun _ _ _ h => h) (Or.inl ⟨by rfl, ?_⟩) ?_ ?_
          rotate_left
          · intro w'; go_simp; with_reducible rfl
          rotate_left
          · simp only [Act.put, List.setIfInBounds_toArray, List.set_cons_zero, List.set_cons_succ, i64_w, i32_w]
            rfl
          refine take_ (i := 5) (N := some 30) (v := ?_) (a' := ?_) #[true, true, true, true, true, true, true, false, false, false] rfl rfl (by kernel_rfl) (fun _ _ _ h => h) (Or.inl ⟨by rfl, ?_⟩) hHeld ?_ ?_
          rotate_left
          · rintro w' ⟨s0, s1, s2⟩; go_simp; with_reducible rfl
          rotate_left
          · simp only [Act.put, List.setIfInBounds_toArray, List.set_cons_zero, List.set_cons_succ, i64_w, i32_w]
            rfl
          refine one_ (i := 7) (N := some 32) #[true, true, true, true, true, true, true, true, false, false] rfl rfl (by kernel_rfl) (by decide) (fun K hK => ?_)
          refine Kd.R_lit_step Kd.string _ 9 ?hg (N := 32) ?hd (xs := [rdOf ByteArray.empty x.f1 3, s]) (inner := [.string (rdOf ByteArray.empty x.f1 3), .string s]) (ok := fun _ => True) (okp := fun _ => True) ?hr ?hp (fun _ hk => hk) trivial (Below.refl _ _) (Nat.le_refl _) (by simp) ?_; (case hd => rfl); (case hg => rfl); (case hr => first | (go_simp; done) | (go_simp; rfl)); (case hp => exact (Reps.one (show Kd.M Kd.string _ _ _ (rdOf ByteArray.empty x.f1 3) [.string (rdOf ByteArray.empty x.f1 3)] from rfl) (Reps.one (show Kd.M Kd.string _ _ _ s [.string s] from rfl) (Reps.none _ _))))
          intro v32 w7 ho hb hg_ hnew_
          clear hg_ hnew_
          rw [← NZ.out] at ho
          have H7 := Aside0.mk ho
          have Q7 := Aside0.mk hb
          clear ho hb
          obtain ⟨A55, c55, e55⟩ := Kd.R_slice H7.out
          subst e55
          refine hK.out _ _ ⟨(blk_cell (blk_below K6.out Q7.out) 0).trans rfl, (blk_cell (blk_below K6.out Q7.out) 1).trans rfl, pw_cell_below (below_step B6.out Q7.out) hxs3⟩ (fun hHeld => ?_)
          clear hK K
          refine norm_ (a' := ?_) ?_ ?_
          rotate_left
          · show Act.put _ (some 32) _ = _
            simp only [Act.put, List.setIfInBounds_toArray, List.set_cons_zero, List.set_cons_succ, i64_w, i32_w]
            rfl
          have K7 := Aside0.mk (blk_below K6.out Q7.out)
          have GL := Aside0.mk (blk_lt K6.out)
          refine pure_ (i := 8) (N := some 33) (v := ?_) (a' := ?_) #[true, true, true, true, true, true, true, true, true, false] rfl rfl (by kernel_rfl) (fun _ _ _ h => h) (Or.inl ⟨by rfl, ?_⟩) ?_ ?_
          rotate_left
          · intro w'; go_simp; with_reducible rfl
          rotate_left
          · simp only [Act.put, List.setIfInBounds_toArray, List.set_cons_zero, List.set_cons_succ, i64_w, i32_w]
            rfl
          have hz7_0 : w7.cell? ⟨gb, 0, none⟩ = some (.slice A0e x.f0.length c0e) := (blk_cell K7.out 0).trans rfl
          have hz7_1 : w7.cell? ⟨gb, 1, none⟩ = some (.slice (some ae) x.f1.length c1e) := (blk_cell K7.out 1).trans rfl
          have hy7_0 : w7.frozen? ⟨gb, 0, none⟩ = false := blk_frozen K7.out 0
          have hy7_1 : w7.frozen? ⟨gb, 1, none⟩ = false := blk_frozen K7.out 1
          refine last_ (i := 9) (N := none) #[true, true, true, true, true, true, true, true, true, true] rfl rfl (by kernel_rfl) (by decide) (fun K hK => ?_)
          refine skip_ (w1 := ((w7.setCell ⟨gb, 0, none⟩ (.slice A0e x.f0.length c0e)).setCell ⟨gb, 1, none⟩ (.slice A55 z.length c55))) (by rfl) rfl ?_ ?_
          · go_simp
            first | done | rfl
          refine hK.out _ _ ?_
          clear hK K
          refine done_ (by kernel_rfl) ?_
          obtain ⟨w8, hw⟩ : ∃ w8, w8 = ((w7.setCell ⟨gb, 0, none⟩ (.slice A0e x.f0.length c0e)).setCell ⟨gb, 1, none⟩ (.slice A55 z.length c55)) := ⟨_, rfl⟩
          rw [← hw]
          have K8 : Aside0 (w8.heap[gb]? = some (.cells #[.slice A0e x.f0.length c0e, .slice A55 z.length c55] 37 (0, 0))) := ⟨by rw [hw]; refine blk_put (cs := #[.slice A0e x.f0.length c0e, .slice (some ae) x.f1.length c1e]) ?_ 1 _ rfl; refine blk_put (cs := #[.slice A0e x.f0.length c0e, .slice (some ae) x.f1.length c1e]) ?_ 0 _ rfl; exact K7.out⟩
          have B8 : Aside0 (Below w.heap.size w w8) := ⟨by rw [hw]; exact below_set (below_set (below_step B6.out Q7.out) GE.out) GE.out⟩
          have H8 : Aside0 (Kd.string.R 9 w8 w6.heap.size (fun _ => True) (.slice A55 z.length c55) z) := ⟨by rw [hw]; exact Kd.R_mono (Kd.R_far (p := ⟨gb, 1, none⟩) (Kd.R_far (p := ⟨gb, 0, none⟩) (Kd.R_bound H7.out) (fun k_ hk_ => Nat.ne_of_gt (Nat.lt_of_lt_of_le GL.out hk_.2.1)) _) (fun k_ hk_ => Nat.ne_of_gt (Nat.lt_of_lt_of_le GL.out hk_.2.1)) _) (fun _ _ => trivial)⟩
          have FQ8 : Aside0 (Kd.F k37 w8 (fun k_ => P k_ ∨ w.heap.size ≤ k_) Aq q.length q) := ⟨by rw [hw]; exact Kd.F_mono (Kd.F_far (p := ⟨gb, 1, none⟩) (Kd.F_far (p := ⟨gb, 0, none⟩) (Kd.F_below (Kd.F_below FQ.out D6.out) Q7.out) (fun k_ hk_ => hk_.elim (fun h_ => Nat.ne_of_lt (Nat.lt_of_lt_of_le h_.2 GE.out)) (fun h_ => Nat.ne_of_gt (Nat.lt_of_lt_of_le GL4.out h_))) _) (fun k_ hk_ => hk_.elim (fun h_ => Nat.ne_of_lt (Nat.lt_of_lt_of_le h_.2 GE.out)) (fun h_ => Nat.ne_of_gt (Nat.lt_of_lt_of_le GL4.out h_))) _) (fun k_ hk_ => hk_.elim (fun h_ => .inl h_.1) (fun h_ => .inr (Nat.le_trans (below_size B4.out) h_)))⟩
          clear hw hz7_0 hz7_1 hy7_0 hy7_1 hHeld
          have hz8_0 : w8.cell? ⟨gb, 0, none⟩ = some (.slice A0e x.f0.length c0e) := (blk_cell K8.out 0).trans rfl
          have hz8_1 : w8.cell? ⟨gb, 1, none⟩ = some (.slice A55 z.length c55) := (blk_cell K8.out 1).trans rfl
          have hy8_0 : w8.frozen? ⟨gb, 0, none⟩ = false := blk_frozen K8.out 0
          have hy8_1 : w8.frozen? ⟨gb, 1, none⟩ = false := blk_frozen K8.out 1
          go_wp2_with (first | ((with_reducible refine gate_dst (N := 58) rfl ?_); refine Kd.R_lit (LB.kd w8 (fun k_ => P k_ ∨ w.heap.size ≤ k_)) _ 37 ?hg (N := 58) ?hd (xs := [(⟨x.f0, z⟩ : S37)]) (inner := [.slice A0e x.f0.length c0e, .slice A55 z.length c55]) (ok := fun _ => True) (okp := fun _ => True) ?hr ?hp (fun _ hk => hk) trivial (Below.refl _ _) (Nat.le_refl _) (by simp) ?_; (case hd => rfl); (case hg => rfl); (case hr => first | (go_simp; done) | (go_simp; rfl)); (case hp => exact (Reps.snoc (Reps.none _ _) (show Kd.M (LB.kd w8 (fun k_ => P k_ ∨ w.heap.size ≤ k_)) _ _ _ (⟨x.f0, z⟩ : S37) [.slice A0e x.f0.length c0e, .slice A55 z.length c55] from LB.mkF w8 _ ⟨x.f0, z⟩ HL0.out (Kd.F_mono (Kd.F_below FX0.out B8.out) (fun _ h_ => .inl h_)) (Kd.R_reads' H8.out).2.1 (LB.F_own H8.out (fun k_ hk_ => .inr (Nat.le_trans (below_size B6.out) hk_)))) rfl)); intro v58 w58 ho hb hg_ hnew_; clear hg_ hnew_; have H58 := Aside0.mk ho; have Q58 := Aside0.mk hb; clear ho hb; obtain ⟨A58, c58, e58⟩ := Kd.R_slice H58.out; subst e58) | ((with_reducible refine gate_builtin (b := .append) (xs := #[.tmp 58, .tmp 59]) rfl ?_); at_builtin; refine Kd.R_append_rows (LB.kd w8 (fun k_ => P k_ ∨ w.heap.size ≤ k_)) (w0 := w8) w8.heap.size rfl (.tmp 58) (.tmp 59) 22 37 (.agg #[(.slice none 0 0), (.slice none 0 0)]) 48 rfl Try.underlying22 info37 rfl (Nat.zero_lt_succ 1) (by omega) (.slice A58 [(⟨x.f0, z⟩ : S37)].length c58) [(⟨x.f0, z⟩ : S37)] q _ _ _ (fun _ => True) (fun _ => False) rfl rfl ?aO ?aR (fun _ _ h => h) (fun _ h => h.elim) ?aF ?aB ?aS ?aL ?_; (case aO => exact H58.out); (case aR => exact Kd.C_below (LB.C_of FQ8.out) Q58.out); (case aF => exact fun _ _ => trivial); (case aB => exact Q58.out); (case aS => exact below_size Q58.out); (case aL => have h_ := HQL.out; simp only [List.length_cons, List.length_nil]; omega); intro v60 w60 ho hb hgr hat; have H60 := Aside0.mk ho; have Q60 := Aside0.mk hb; have B60 := Aside0.mk (below_step B8.out hb); clear ho hb hgr hat; obtain ⟨A60, c60, e60⟩ := Kd.R_slice H60.out; subst e60))
          go_ret
          exact ⟨A60, c60, rfl, LB.F_to H60.out Q60.out (fun k_ hk_ => .inr (Nat.le_trans (below_size B8.out) hk_)), (Kd.R_reads' H60.out).2.1, B60.out⟩

end Go.Proofs.Ytgginlfbdhkepaa.PFnExactFingNew
