-- Written by wip/xprint.py (the session's program over the kit's printer) for the claim of FnExactChunksOf; Lean checks it.
import Derived.Test.YtedmjdjodpgdlaaDoorPFnExactChunksOfx0
import Derived.Test.YtedmjdjodpgdlaaDoorPFnExactChunksOfx2
import Derived.Test.YtedmjdjodpgdlaaDoorPFnExactChunksOfx3
namespace Go.Proofs.YtedmjdjodpgdlaaDoor.PFnExactChunksOf
open Go.RowKit Go.Proofs.YtedmjdjodpgdlaaDoorW.PrintWords Go.Proofs.YtedmjdjodpgdlaaDoorW.PrintLast Go.Proofs.YtedmjdjodpgdlaaDoorW.PrintMore
attribute [local go_sem] max2_int min2_int max_two min_two max_three min_three max_four min_four   -- for this text's walks alone
set_option linter.unusedVariables false
set_option linter.unusedSimpArgs false

/-! ### laws_markByteS: function 15 -/
def laws_markByteS.l0 : Nat → List Int → Int → Int → Option (Int × List Int)
  | 0, _, _, _ => none
  | k + 1, x0, x1, x5 => if x5 < (x0.length : Int) then (if 0 ≤ x5 then (laws_markByteS.l0 k (x0.set (x5 : Int).toNat ((x1) % 256)) (wrap64 (x1 + 1)) (wrap64 (x5 + 1))) else (none)) else (some (x1, x0))
def laws_markByteS.f (k : Nat) (l0 : List Int) (a1 : Int) : Option (Int × List Int) := laws_markByteS.l0 k l0 a1 0
theorem laws_markByteS.mono_l : ∀ k, (∀ y0 y1 y2, LeO (laws_markByteS.l0 k y0 y1 y2) (laws_markByteS.l0 (k + 1) y0 y1 y2))
  | 0 => fun _ _ _ r h => by simp [laws_markByteS.l0] at h
  | k + 1 => by
    have ih0 := laws_markByteS.mono_l k
    · intro y0 y1 y2
      unfold laws_markByteS.l0
      repeat' first
      | (with_reducible exact ih0 _ _ _)
      | (with_reducible exact LeO.refl _)
      | (with_reducible exact LeO.none _)
      | (with_reducible refine LeO.ite ?_ ?_)
      | (with_reducible refine LeO.bind ?_ (fun _ => ?_))
      | exact ih0 _ _ _
      | exact LeO.none _
      | refine LeO.ite ?_ ?_
      | refine LeO.bind ?_ (fun _ => ?_)
theorem laws_markByteS.mono : ∀ a0 a1 k, LeO (laws_markByteS.f k a0 a1) (laws_markByteS.f (k + 1) a0 a1) := by
  intro a0 a1 k
  have ih0 := laws_markByteS.mono_l k
  unfold laws_markByteS.f
  repeat' first
      | (with_reducible exact ih0 _ _ _)
      | (with_reducible exact LeO.refl _)
      | (with_reducible exact LeO.none _)
      | (with_reducible refine LeO.ite ?_ ?_)
      | (with_reducible refine LeO.bind ?_ (fun _ => ?_))
      | exact ih0 _ _ _
      | exact LeO.none _
      | refine LeO.ite ?_ ?_
      | refine LeO.bind ?_ (fun _ => ?_)
set_option maxHeartbeats 8000000 in
set_option maxRecDepth 100000 in
theorem laws_markByteS.calls (k : Nat) (P0_ : Nat → Prop) (u9000_ : Value) (l0 : List Int) (a1 : Int) (r1 : Int) (r2 : List Int) (w0 w : World) (hB : Below w0.heap.size w0 w) (ho0 : Kd.R (Kd.int .u8) 5 w w0.heap.size P0_ u9000_ l0) (h : laws_markByteS.f k l0 a1 = some (r1, r2)) :
    Calls Tryd.prog 15 #[u9000_, .int .i64 a1] w fun e w' => e = .returned (.int .i64 r1) ∧ Kd.R (Kd.int .u8) 5 w' w0.heap.size (fun k_ => (P0_ k_ ∨ w.heap.size ≤ k_)) u9000_ r2 ∧ Below w0.heap.size w0 w' ∧ Kept w w' (fun k_ => P0_ k_) := by
  have HO0 := Aside0.mk (show Kd.R (Kd.int .u8) 5 w w0.heap.size (fun k_ => (P0_ k_ ∨ w.heap.size ≤ k_)) u9000_ l0 from Kd.R_mono ho0 (fun k_ hk => (.inl hk)))
  have HK := Aside0.mk (Kept.refl w (fun k_ => P0_ k_))
  have HW0 := Aside0.mk hB.size
  have HB := Aside0.mk hB
  clear hB
  have H : (laws_markByteS.l0 k l0 a1 0) = some (r1, r2) := h
  clear h
  have H' := Aside0.mk H
  clear H
  go_enter Tryd.func15, Tryd.ntmps15
  go_wp2
  go_loopg [1, 5] k (fun kq v1 v5 w' => ∃ (x0_1 : List Int) (x1_1 : Int) (x5_1 : Int), v1 = .int .i64 x1_1 ∧ v5 = .int .i64 x5_1 ∧ Aside0 (laws_markByteS.l0 kq x0_1 x1_1 x5_1 = some (r1, r2)) ∧ Aside0 (kq ≤ k) ∧ Aside0 (Kd.R (Kd.int .u8) 5 w' w0.heap.size (fun k_ => (P0_ k_ ∨ w.heap.size ≤ k_)) u9000_ x0_1) ∧ Aside0 (Kept w w' (fun k_ => P0_ k_)) ∧ Aside0 (Below w0.heap.size w0 w'))
  case atStart => exact ⟨(l0), (a1), (0), (by first | rfl | (simp; done) | (simp [*]; done)), (by first | rfl | (simp; done) | (simp [*]; done)), H', ⟨Nat.le_refl _⟩, ⟨by (with_reducible repeat (first | apply Kd.R_alloc | apply Kd.R_drewN | apply Kd.R_drew)); exact HO0.out⟩, ⟨by repeat (first | (with_reducible first | exact HK.out | apply Kept.alloc | apply Kept.drewN | apply Kept.drew) | exact HK.out)⟩, ⟨by repeat (first | (with_reducible first | exact HB.out | apply below_alloc | apply pw_below_drewN | apply below_drew1) | exact HB.out)⟩⟩
  case round =>
    clear H'
    try clear c1
    try clear p2
    obtain ⟨x0_1, x1_1, x5_1, rfl, rfl, HA, HK1, HO_0, HK, HB⟩ := hrel
    cases gk with
    | zero => exact absurd HA.out (by simp [laws_markByteS.l0])
    | succ k1 =>
      have H := HA.out
      clear HA
      simp only [laws_markByteS.l0] at H
      by_cases c3 : x5_1 < (x0_1.length : Int)
      · rw [if_pos c3] at H
        have c3b0 : decide (x5_1 < (x0_1.length : Int)) = true := decide_eq_true c3
        clear c3
        by_cases c4 : 0 ≤ x5_1
        · rw [if_pos c4] at H
          have c4b0 : decide (0 ≤ x5_1) = true := decide_eq_true c4
          clear c4
          obtain ⟨y201, hy201⟩ : ∃ y_ : List Int, y_ = (x0_1.set (x5_1 : Int).toNat ((x1_1) % 256)) := ⟨_, rfl⟩
          replace H : (laws_markByteS.l0 k1 y201 (wrap64 (x1_1 + 1)) (wrap64 (x5_1 + 1))) = some (r1, r2) := by first | (rw [hy201]; with_reducible exact H) | (have H2_ := (Option.bind_some _ _).symm.trans H; rw [hy201]; with_reducible exact H2_) | (have H2_ := (Option.bind_some _ _).symm.trans H; with_reducible exact H2_) | with_reducible exact H | (rw [hy201]; exact H) | exact H
          have Ny201 := Aside0.mk hy201
          clear hy201
          have H' := Aside0.mk H
          clear H
          obtain ⟨Ao6, co6, eo6⟩ := Kd.R_slice HO_0.out
          subst eo6
          have p5 : 0 ≤ (x5_1 : Int) := of_decide_eq_true (by first | (with_reducible assumption) | assumption)
          have q5 : (x5_1 : Int) < ((x0_1.length : Int) : Int) := of_decide_eq_true (by first | (with_reducible assumption) | assumption)
          obtain ⟨go5, co5, eo5, gb5, gl5, cl5, HG5⟩ := Kd.R_form HO_0.out (by omega)
          (first | cases eo5 | (injection eo5 with ea_ en_ ec_; (first | subst ea_ | (injection ea_ with ea_; subst ea_)); subst ec_; clear en_))
          have GB5 := Aside0.mk gb5
          have GG5 := Aside0.mk HG5
          clear gb5 gl5 HG5
          have HMgo5 := Aside0.mk (show (P0_ go5 ∨ w.heap.size ≤ go5) from (HO_0.out.1 _ rfl))
          obtain ⟨hx5_0, hf5_0⟩ := Kd.R_celln 0 HO_0.out (x5_1 : Int) p5 q5
          replace p5 := eq_true p5
          replace q5 := eq_true q5
          have HP7 := Kd.R_putg HO_0.out (x5_1 : Int) ((x1_1) % 256)
          go_wp2_with (first | ((with_reducible refine gate_store (t := 5) (p := 16) rfl ?_); refine store_event (t := 5) (p := 16) (v := ?vo_w8) (w1 := (wr.setCell ⟨go5, (x5_1 : Int).toNat, none⟩ (.int .u8 ((x1_1) % 256)))) ?hg ?ho ?hn ?hr ?_; (case ho => rfl); (case hg => rfl); (case hn => rfl); (case hr => first | (go_simp; done) | (go_simp; rfl)); intro w8 hw; have hg : wr.grownBy w8 (some go5) := (by rw [hw]; exact HP7.2); have hp_ : Kd.R (Kd.int .u8) 5 w8 w0.heap.size (fun k_ => (P0_ k_ ∨ w.heap.size ≤ k_)) (.slice (some ⟨go5, 0, none⟩) x0_1.length co6) y201 := (by rw [hw, Ny201.out]; exact HP7.1); clear HP7; have n0_ := Aside0.mk (hp_); have n1_ := Aside0.mk ((by rw [hw]; exact below_set (HB.out) GB5.out : Below w0.heap.size w0 w8)); have n2_ := Aside0.mk (Kept.of_grown (S := (fun k_ => P0_ k_)) hg (by repeat (first | (with_reducible first | exact HK.out | apply Kept.alloc | apply Kept.drewN | apply Kept.drew) | exact HK.out)) (fun k_ e_ => (HO_0.out.1 k_ e_))); clear HO_0; clear HB; clear HK; have HO_0 := n0_; have HB := n1_; have HK := n2_; clear n0_ n1_ n2_; clear hg hw hp_))
          go_roundg k1
          case measure => have := HK1.out; omega
          case rel => exact ⟨(y201), (wrap64 (x1_1 + 1)), (wrap64 (x5_1 + 1)), (by first | rfl | (simp; done) | (simp [*]; done)), (by first | rfl | (simp; done) | (simp [*]; done)), H', ⟨by have := HK1.out; omega⟩, ⟨by (with_reducible repeat (first | apply Kd.R_alloc | apply Kd.R_drewN | apply Kd.R_drew)); exact HO_0.out⟩, ⟨by repeat (first | (with_reducible first | exact HK.out | apply Kept.alloc | apply Kept.drewN | apply Kept.drew) | exact HK.out)⟩, ⟨by repeat (first | (with_reducible first | exact HB.out | apply below_alloc | apply pw_below_drewN | apply below_drew1) | exact HB.out)⟩⟩
        · rw [if_neg c4] at H
          exact absurd H (by simp)
      · rw [if_neg c3] at H
        have c3b0 : decide (x5_1 < (x0_1.length : Int)) = false := decide_eq_false c3
        clear c3
        simp only [Option.some.injEq, Prod.mk.injEq] at H
        obtain ⟨rfl, rfl⟩ := H
        obtain ⟨Ao9, co9, eo9⟩ := Kd.R_slice HO_0.out
        subst eo9
        go_wp2
        go_ret
        exact ⟨by first | rfl | (simp [errW_none, errW_some] <;> rfl) | (simp [*, errW_none, errW_some] <;> rfl), by (with_reducible repeat (first | apply Kd.R_alloc | apply Kd.R_drewN | apply Kd.R_drew)); exact HO_0.out, by repeat (first | (with_reducible first | exact HB.out | apply below_alloc | apply pw_below_drewN | apply below_drew1) | exact HB.out), by repeat (first | (with_reducible first | exact HK.out | apply Kept.alloc | apply Kept.drewN | apply Kept.drew) | exact HK.out)⟩


/-! ### laws_markChunkS: function 16 -/
def laws_markChunkS.l0 : Nat → List S66 → Int → Int → Option (Int × List S66)
  | 0, _, _, _ => none
  | k + 1, x0, x1, x2 => if x2 < (x0.length : Int) then (if 0 ≤ x2 then ((laws_markByteS.f k (rd_T66 x0 x2).f0 x1).bind fun p => laws_markChunkS.l0 k (x0.set x2.toNat ⟨p.2⟩) p.1 (wrap64 (x2 + 1))) else none) else some (x1, x0)
def laws_markChunkS.f (k : Nat) (l0 : List S66) (a1 : Int) : Option (Int × List S66) := laws_markChunkS.l0 k l0 a1 0
set_option maxHeartbeats 8000000 in
set_option maxRecDepth 100000 in
/-- A deep row is written: its blocks alone (P0_), each element's own row in its turn. -/
theorem laws_markChunkS.calls (k : Nat) (P0_ : Nat → Prop) (u9000_ : Value) (l0 : List S66) (a1 : Int) (r1 : Int) (r2 : List S66) (w0 w : World) (hB : Below w0.heap.size w0 w)
    (ho0 : Kd.S k66 66 w w0.heap.size P0_ u9000_ l0) (h : laws_markChunkS.f k l0 a1 = some (r1, r2)) :
    Calls Tryd.prog 16 #[u9000_, .int .i64 a1] w fun e w' => e = .returned (.int .i64 r1) ∧ Kd.S k66 66 w' w0.heap.size P0_ u9000_ r2 ∧ Below w0.heap.size w0 w' ∧ Kept w w' (fun k_ => P0_ k_) := by
  have HO0 := Aside0.mk ho0
  have HK := Aside0.mk (Kept.refl w (fun k_ => P0_ k_))
  have HB := Aside0.mk hB
  clear hB ho0
  have H : (laws_markChunkS.l0 k l0 a1 0) = some (r1, r2) := h
  clear h
  have H' := Aside0.mk H
  clear H
  obtain ⟨Ao_, co_, eo_⟩ := Kd.S_slice HO0.out
  subst eo_
  go_enter Tryd.func16, Tryd.ntmps16
  go_wp2
  go_loopg [1, 5] k (fun kq v1 v5 w' => ∃ (x0_1 : List S66) (x1_1 : Int) (x5_1 : Int), v1 = .int .i64 x1_1 ∧ v5 = .int .i64 x5_1 ∧ x0_1.length = l0.length ∧ Aside0 (laws_markChunkS.l0 kq x0_1 x1_1 x5_1 = some (r1, r2)) ∧ Aside0 (kq ≤ k) ∧ Aside0 (Kd.S k66 66 w' w0.heap.size P0_ (.slice Ao_ l0.length co_) x0_1) ∧ Aside0 (Kept w w' (fun k_ => P0_ k_)) ∧ Aside0 (Below w0.heap.size w0 w'))
  case atStart => exact ⟨l0, a1, 0, rfl, rfl, rfl, H', ⟨Nat.le_refl _⟩, HO0, HK, HB⟩
  case round =>
    clear H' HO0 HK HB
    obtain ⟨x0_1, x1_1, x5_1, rfl, rfl, hlen, HA, HK1, HO_0, HK, HB⟩ := hrel
    cases gk with
    | zero => exact absurd HA.out (by simp [laws_markChunkS.l0])
    | succ k1 =>
      have H := HA.out
      clear HA
      simp only [laws_markChunkS.l0] at H
      by_cases c3 : x5_1 < (x0_1.length : Int)
      · rw [if_pos c3] at H
        have c3b0 : decide (x5_1 < (l0.length : Int)) = true := decide_eq_true (by omega)
        by_cases c4 : 0 ≤ x5_1
        · rw [if_pos c4] at H
          have c4b0 : decide (0 ≤ x5_1) = true := decide_eq_true c4
          obtain ⟨⟨p1, p2⟩, hp, H⟩ := Option.bind_eq_some_iff.mp H
          replace H : laws_markChunkS.l0 k1 (x0_1.set x5_1.toNat ⟨p2⟩) p1 (wrap64 (x5_1 + 1)) = some (r1, r2) := H
          have H' := Aside0.mk H
          have HP := Aside0.mk hp
          clear H hp
          obtain ⟨go5, co5, eo5, gb5, gl5, cl5, HG5⟩ := Kd.S_form HO_0.out (by omega)
          injection eo5 with ea_ en_ ec_
          subst ea_
          subst ec_
          clear en_
          obtain ⟨oki, c, hcl, hM, hcc, hfr, hoki, hH⟩ := Kd.S_elem HO_0.out z66 x5_1 c4 (by omega)
          obtain ⟨v0, rfl, hv0⟩ := k66_openM hM
          have hcell : wr.cell? ⟨go5, x5_1.toNat, none⟩ = some v0 := by have h_ : wr.cell? ⟨go5, x5_1.toNat * 1 + 0, none⟩ = some v0 := hcc 0 v0 rfl; simpa using h_
          have HV := Aside0.mk hv0
          have HH := Aside0.mk hH
          have HOK := Aside0.mk hoki
          clear hv0 hH hoki hM hcc hfr hcl gb5 gl5 HG5
          have p5 : 0 ≤ (x5_1 : Int) := c4
          have q5 : (x5_1 : Int) < (l0.length : Int) := by omega
          have HP7 : ∀ w', Kd.R (Kd.int .u8) 5 w' w0.heap.size (fun k_ => (oki k_ ∨ wr.heap.size ≤ k_)) v0 p2 → Below w0.heap.size w0 w' → Kept wr w' (fun k_ => oki k_) →
              Kd.S k66 66 w' w0.heap.size P0_ (.slice (some ⟨go5, 0, none⟩) l0.length co_) (x0_1.set x5_1.toNat ⟨p2⟩) ∧ Kept w w' (fun k_ => P0_ k_) := fun w' ho hb hk =>
            ⟨Kd.H_back (Kd.H_kept HH.out hk (fun _ _ hn => hn)) (k66_mkM w' w0.heap.size oki ⟨p2⟩ (Kd.R_reok rfl ho (fun k_ e_ => HV.out.1 k_ e_))) (fun _ hk => hk), HK.out.then_ hk (fun k_ hs_ => .inl (HOK.out k_ hs_).1)⟩
          clear HH
          go_wp2_with (go_at_call 15; refine (laws_markByteS.calls k1 oki v0 _ x1_1 p1 p2 w0 _ HB.out HV.out HP.out).mono ?_; rintro e w2 ⟨rfl, ho, hb, hk⟩; have HN := Aside0.mk (HP7 w2 ho hb hk); have HBN := Aside0.mk hb; clear HP7 HB ho hb hk HO_0 HK)
          go_roundg k1
          case measure => have := HK1.out; omega
          case rel => exact ⟨_, p1, wrap64 (x5_1 + 1), rfl, by first | rfl | (simp; done), by rw [List.length_set]; exact hlen, H', ⟨by have := HK1.out; omega⟩, ⟨HN.out.1⟩, ⟨HN.out.2⟩, HBN⟩
        · rw [if_neg c4] at H
          exact absurd H (by simp)
      · rw [if_neg c3] at H
        have c3b0 : decide (x5_1 < (l0.length : Int)) = false := decide_eq_false (by omega)
        simp only [Option.some.injEq, Prod.mk.injEq] at H
        obtain ⟨rfl, rfl⟩ := H
        go_wp2
        go_ret
        exact ⟨rfl, HO_0.out, HB.out, HK.out⟩

/-! ### laws_heldByteS: function 22 -/
def laws_heldByteS.l0 : Nat → List Int → Int → Int → Option (Int)
  | 0, _, _, _ => none
  | k + 1, x0, x1, x5 => if x5 < (x0.length : Int) then (if 0 ≤ x5 then (if (rd x0 x5) = ((x1) % 256) then (laws_heldByteS.l0 k x0 (wrap64 (x1 + 1)) (wrap64 (x5 + 1))) else (some (-1))) else (none)) else (some x1)
def laws_heldByteS.f (k : Nat) (l0 : List Int) (a1 : Int) : Option (Int) := laws_heldByteS.l0 k l0 a1 0
theorem laws_heldByteS.mono_l : ∀ k, (∀ y0 y1 y2, LeO (laws_heldByteS.l0 k y0 y1 y2) (laws_heldByteS.l0 (k + 1) y0 y1 y2))
  | 0 => fun _ _ _ r h => by simp [laws_heldByteS.l0] at h
  | k + 1 => by
    have ih0 := laws_heldByteS.mono_l k
    · intro y0 y1 y2
      unfold laws_heldByteS.l0
      repeat' first
      | (with_reducible exact ih0 _ _ _)
      | (with_reducible exact LeO.refl _)
      | (with_reducible exact LeO.none _)
      | (with_reducible refine LeO.ite ?_ ?_)
      | (with_reducible refine LeO.bind ?_ (fun _ => ?_))
      | exact ih0 _ _ _
      | exact LeO.none _
      | refine LeO.ite ?_ ?_
      | refine LeO.bind ?_ (fun _ => ?_)
theorem laws_heldByteS.mono : ∀ a0 a1 k, LeO (laws_heldByteS.f k a0 a1) (laws_heldByteS.f (k + 1) a0 a1) := by
  intro a0 a1 k
  have ih0 := laws_heldByteS.mono_l k
  unfold laws_heldByteS.f
  repeat' first
      | (with_reducible exact ih0 _ _ _)
      | (with_reducible exact LeO.refl _)
      | (with_reducible exact LeO.none _)
      | (with_reducible refine LeO.ite ?_ ?_)
      | (with_reducible refine LeO.bind ?_ (fun _ => ?_))
      | exact ih0 _ _ _
      | exact LeO.none _
      | refine LeO.ite ?_ ?_
      | refine LeO.bind ?_ (fun _ => ?_)
set_option maxHeartbeats 8000000 in
set_option maxRecDepth 100000 in
theorem laws_heldByteS.calls (k : Nat) (A0 : Option Addr) (c0 : Nat) (l0 : List Int) (a1 : Int) (r : Int) (w : World) (hr0 : Kd.C (Kd.int .u8) w A0 l0.length l0) (hc0 : l0.length ≤ c0) (h : laws_heldByteS.f k l0 a1 = some r) :
    Calls Tryd.prog 22 #[.slice A0 l0.length c0, .int .i64 a1] w fun e w' => e = .returned (.int .i64 r) ∧ Drawn0 w w' := by
  have HR0 := Aside0.mk hr0
  have HC0 := Aside0.mk hc0
  clear hr0 hc0
  have H : (laws_heldByteS.l0 k l0 a1 0) = some r := h
  clear h
  have H' := Aside0.mk H
  clear H
  go_enter Tryd.func22, Tryd.ntmps22
  go_wp2
  go_loopg [1, 5] k (fun kq v1 v5 w' => ∃ (x1_1 : Int) (x5_1 : Int), v1 = .int .i64 x1_1 ∧ v5 = .int .i64 x5_1 ∧ Aside0 (laws_heldByteS.l0 kq l0 x1_1 x5_1 = some r) ∧ Aside0 (kq ≤ k) ∧ Drawn0 w w')
  case atStart => exact ⟨(a1), (0), (by first | rfl | (simp; done) | (simp [*]; done)), (by first | rfl | (simp; done) | (simp [*]; done)), H', ⟨Nat.le_refl _⟩, by repeat (first | exact Drawn0.refl _ | apply Drawn0.step)⟩
  case round =>
    clear H'
    try clear c2
    try clear p2
    obtain ⟨x1_1, x5_1, rfl, rfl, HA, HK1, ⟨m1, rfl⟩⟩ := hrel
    cases gk with
    | zero => exact absurd HA.out (by simp [laws_heldByteS.l0])
    | succ k1 =>
      have H := HA.out
      clear HA
      simp only [laws_heldByteS.l0] at H
      by_cases c3 : x5_1 < (l0.length : Int)
      · rw [if_pos c3] at H
        have c3b0 : decide (x5_1 < (l0.length : Int)) = true := decide_eq_true c3
        clear c3
        by_cases c4 : 0 ≤ x5_1
        · rw [if_pos c4] at H
          have c4b0 : decide (0 ≤ x5_1) = true := decide_eq_true c4
          clear c4
          by_cases c5 : (rd l0 x5_1) = ((x1_1) % 256)
          · rw [if_pos c5] at H
            have c5b0 : ((rd l0 x5_1) == ((x1_1) % 256)) = true := beq_iff_eq.mpr c5
            have c5b1 : ((rd l0 x5_1) != ((x1_1) % 256)) = false := bne_eq_false_iff_eq.mpr c5
            clear c5
            have H' := Aside0.mk H
            clear H
            have p202 : 0 ≤ (x5_1 : Int) := of_decide_eq_true (by first | (with_reducible assumption) | assumption)
            have q202 : x5_1 < (l0.length : Int) := of_decide_eq_true (by first | (with_reducible assumption) | assumption)
            obtain ⟨ad202, e202, hx202_0⟩ := Kd.at_int HR0.out x5_1 p202 q202
            cases e202
            replace p202 := eq_true p202
            replace q202 := eq_true q202
            go_wp2
            go_roundg k1
            case measure => have := HK1.out; omega
            case rel => exact ⟨(wrap64 (x1_1 + 1)), (wrap64 (x5_1 + 1)), (by first | rfl | (simp; done) | (simp [*]; done)), (by first | rfl | (simp; done) | (simp [*]; done)), H', ⟨by have := HK1.out; omega⟩, by repeat (first | exact Drawn0.refl _ | apply Drawn0.step)⟩
          · rw [if_neg c5] at H
            have c5b0 : ((rd l0 x5_1) == ((x1_1) % 256)) = false := beq_eq_false_iff_ne.mpr c5
            have c5b1 : ((rd l0 x5_1) != ((x1_1) % 256)) = true := bne_iff_ne.mpr c5
            obtain rfl := Option.some.inj H
            have p202 : 0 ≤ (x5_1 : Int) := of_decide_eq_true (by first | (with_reducible assumption) | assumption)
            have q202 : x5_1 < (l0.length : Int) := of_decide_eq_true (by first | (with_reducible assumption) | assumption)
            obtain ⟨ad202, e202, hx202_0⟩ := Kd.at_int HR0.out x5_1 p202 q202
            cases e202
            replace p202 := eq_true p202
            replace q202 := eq_true q202
            go_wp2
            go_ret
            exact ⟨by first | rfl | (simp; done) | (simp [*]; done), by repeat (first | exact Drawn0.refl _ | apply Drawn0.step)⟩
        · rw [if_neg c4] at H
          exact absurd H (by simp)
      · rw [if_neg c3] at H
        have c3b0 : decide (x5_1 < (l0.length : Int)) = false := decide_eq_false c3
        clear c3
        obtain rfl := Option.some.inj H
        go_wp2
        go_ret
        exact ⟨by first | rfl | (simp; done) | (simp [*]; done), by repeat (first | exact Drawn0.refl _ | apply Drawn0.step)⟩

/-! ### laws_heldChunkS: function 17 -/
def laws_heldChunkS.l0 : Nat → List (S66) → Int → Int → Option (Int)
  | 0, _, _, _ => none
  | k + 1, x0, x1, x5 => if x5 < (x0.length : Int) then (if 0 ≤ x5 then ((laws_heldByteS.f k ((rd_T66 x0 x5).f0) x1).bind fun t204 => (if t204 < 0 then (some (-1)) else (laws_heldChunkS.l0 k x0 t204 (wrap64 (x5 + 1))))) else (none)) else (some x1)
def laws_heldChunkS.f (k : Nat) (l0 : List (S66)) (a1 : Int) : Option (Int) := laws_heldChunkS.l0 k l0 a1 0
theorem laws_heldChunkS.mono_l : ∀ k, (∀ y0 y1 y2, LeO (laws_heldChunkS.l0 k y0 y1 y2) (laws_heldChunkS.l0 (k + 1) y0 y1 y2))
  | 0 => fun _ _ _ r h => by simp [laws_heldChunkS.l0] at h
  | k + 1 => by
    have ih0 := laws_heldChunkS.mono_l k
    · intro y0 y1 y2
      unfold laws_heldChunkS.l0
      repeat' first
      | (with_reducible exact ih0 _ _ _)
      | (with_reducible exact laws_heldByteS.mono _ _ _)
      | (with_reducible exact LeO.refl _)
      | (with_reducible exact LeO.none _)
      | (with_reducible refine LeO.ite ?_ ?_)
      | (with_reducible refine LeO.bind ?_ (fun _ => ?_))
      | exact ih0 _ _ _
      | exact laws_heldByteS.mono _ _ _
      | exact LeO.none _
      | refine LeO.ite ?_ ?_
      | refine LeO.bind ?_ (fun _ => ?_)
theorem laws_heldChunkS.mono : ∀ a0 a1 k, LeO (laws_heldChunkS.f k a0 a1) (laws_heldChunkS.f (k + 1) a0 a1) := by
  intro a0 a1 k
  have ih0 := laws_heldChunkS.mono_l k
  unfold laws_heldChunkS.f
  repeat' first
      | (with_reducible exact ih0 _ _ _)
      | (with_reducible exact laws_heldByteS.mono _ _ _)
      | (with_reducible exact LeO.refl _)
      | (with_reducible exact LeO.none _)
      | (with_reducible refine LeO.ite ?_ ?_)
      | (with_reducible refine LeO.bind ?_ (fun _ => ?_))
      | exact ih0 _ _ _
      | exact laws_heldByteS.mono _ _ _
      | exact LeO.none _
      | refine LeO.ite ?_ ?_
      | refine LeO.bind ?_ (fun _ => ?_)
set_option maxHeartbeats 8000000 in
set_option maxRecDepth 100000 in
theorem laws_heldChunkS.calls (k : Nat) (A0 : Option Addr) (c0 : Nat) (l0 : List (S66)) (a1 : Int) (r : Int) (w : World) (hr0 : Kd.C k66 w A0 l0.length l0) (hc0 : l0.length ≤ c0) (h : laws_heldChunkS.f k l0 a1 = some r) :
    Calls Tryd.prog 17 #[.slice A0 l0.length c0, .int .i64 a1] w fun e w' => e = .returned (.int .i64 r) ∧ Drawn0 w w' := by
  have HR0 := Aside0.mk hr0
  have HC0 := Aside0.mk hc0
  clear hr0 hc0
  have H : (laws_heldChunkS.l0 k l0 a1 0) = some r := h
  clear h
  have H' := Aside0.mk H
  clear H
  go_enter Tryd.func17, Tryd.ntmps17
  go_wp2
  go_loopg [1, 5] k (fun kq v1 v5 w' => ∃ (x1_1 : Int) (x5_1 : Int), v1 = .int .i64 x1_1 ∧ v5 = .int .i64 x5_1 ∧ Aside0 (laws_heldChunkS.l0 kq l0 x1_1 x5_1 = some r) ∧ Aside0 (kq ≤ k) ∧ Drawn0 w w')
  case atStart => exact ⟨(a1), (0), (by first | rfl | (simp; done) | (simp [*]; done)), (by first | rfl | (simp; done) | (simp [*]; done)), H', ⟨Nat.le_refl _⟩, by repeat (first | exact Drawn0.refl _ | apply Drawn0.step)⟩
  case round =>
    clear H'
    try clear c1
    try clear p2
    obtain ⟨x1_1, x5_1, rfl, rfl, HA, HK1, ⟨m1, rfl⟩⟩ := hrel
    cases gk with
    | zero => exact absurd HA.out (by simp [laws_heldChunkS.l0])
    | succ k1 =>
      have H := HA.out
      clear HA
      simp only [laws_heldChunkS.l0] at H
      by_cases c3 : x5_1 < (l0.length : Int)
      · rw [if_pos c3] at H
        have c3b0 : decide (x5_1 < (l0.length : Int)) = true := decide_eq_true c3
        clear c3
        by_cases c4 : 0 ≤ x5_1
        · rw [if_pos c4] at H
          have c4b0 : decide (0 ≤ x5_1) = true := decide_eq_true c4
          clear c4
          replace H := Option.bind_eq_some_iff.mp H
          obtain ⟨t204, A50, H⟩ := H
          replace H : (if t204 < 0 then (some (-1)) else (laws_heldChunkS.l0 k1 l0 t204 (wrap64 (x5_1 + 1)))) = some r := H
          have A5 := Aside0.mk A50
          clear A50
          by_cases c6 : t204 < 0
          · rw [if_pos c6] at H
            have c6b0 : decide (t204 < 0) = true := decide_eq_true c6
            clear c6
            obtain rfl := Option.some.inj H
            have p203 : 0 ≤ (x5_1 : Int) := of_decide_eq_true (by first | (with_reducible assumption) | assumption)
            have q203 : x5_1 < (l0.length : Int) := of_decide_eq_true (by first | (with_reducible assumption) | assumption)
            obtain ⟨ad203, A203_0, c203_0, e203, hx203_0, hl203_0, hi203_0⟩ := at_T66 HR0.out x5_1 p203 q203
            cases e203
            have HR203_0 := Aside0.mk hi203_0
            have HC203_0 := Aside0.mk hl203_0
            clear hi203_0 hl203_0
            replace p203 := eq_true p203
            replace q203 := eq_true q203
            go_wp2_with (first | ((with_reducible refine gate_callee (f := 22) rfl ?_); refine goesL_ (some 18) rfl rfl Tryd.func22 (by kernel_rfl) rfl #[.slice A203_0 ((rd_T66 l0 x5_1).f0).length c203_0, .int .i64 x1_1] rfl (by (try simp only [List.map_toArray, List.map_cons, List.map_nil]); first | done | rfl | (simp only [List.length_drop, List.length_take]; rfl)) ?_; (with_reducible refine (laws_heldByteS.calls k1 _ _ ((rd_T66 l0 x5_1).f0) x1_1 t204 _ ?side1 ?side2 A5.out).mono ?_); (case side1 => repeat (first | exact HR203_0.out | (with_reducible refine Kd.C_alloc ?_ _) | (with_reducible refine Kd.C_drewN ?_ _) | (with_reducible refine Kd.C_drew ?_))); (case side2 => exact HC203_0.out); rintro e w' ⟨rfl, ⟨nd, rfl⟩⟩; refine ⟨_, rfl, ?_⟩))
            go_ret
            exact ⟨by first | rfl | (simp; done) | (simp [*]; done), by repeat (first | exact Drawn0.refl _ | apply Drawn0.step)⟩
          · rw [if_neg c6] at H
            have c6b0 : decide (t204 < 0) = false := decide_eq_false c6
            clear c6
            have H' := Aside0.mk H
            clear H
            have p203 : 0 ≤ (x5_1 : Int) := of_decide_eq_true (by first | (with_reducible assumption) | assumption)
            have q203 : x5_1 < (l0.length : Int) := of_decide_eq_true (by first | (with_reducible assumption) | assumption)
            obtain ⟨ad203, A203_0, c203_0, e203, hx203_0, hl203_0, hi203_0⟩ := at_T66 HR0.out x5_1 p203 q203
            cases e203
            have HR203_0 := Aside0.mk hi203_0
            have HC203_0 := Aside0.mk hl203_0
            clear hi203_0 hl203_0
            replace p203 := eq_true p203
            replace q203 := eq_true q203
            go_wp2_with (first | ((with_reducible refine gate_callee (f := 22) rfl ?_); refine goesL_ (some 18) rfl rfl Tryd.func22 (by kernel_rfl) rfl #[.slice A203_0 ((rd_T66 l0 x5_1).f0).length c203_0, .int .i64 x1_1] rfl (by (try simp only [List.map_toArray, List.map_cons, List.map_nil]); first | done | rfl | (simp only [List.length_drop, List.length_take]; rfl)) ?_; (with_reducible refine (laws_heldByteS.calls k1 _ _ ((rd_T66 l0 x5_1).f0) x1_1 t204 _ ?side1 ?side2 A5.out).mono ?_); (case side1 => repeat (first | exact HR203_0.out | (with_reducible refine Kd.C_alloc ?_ _) | (with_reducible refine Kd.C_drewN ?_ _) | (with_reducible refine Kd.C_drew ?_))); (case side2 => exact HC203_0.out); rintro e w' ⟨rfl, ⟨nd, rfl⟩⟩; refine ⟨_, rfl, ?_⟩))
            go_roundg k1
            case measure => have := HK1.out; omega
            case rel => exact ⟨(t204), (wrap64 (x5_1 + 1)), (by first | rfl | (simp; done) | (simp [*]; done)), (by first | rfl | (simp; done) | (simp [*]; done)), H', ⟨by have := HK1.out; omega⟩, by repeat (first | exact Drawn0.refl _ | apply Drawn0.step)⟩
        · rw [if_neg c4] at H
          exact absurd H (by simp)
      · rw [if_neg c3] at H
        have c3b0 : decide (x5_1 < (l0.length : Int)) = false := decide_eq_false c3
        clear c3
        obtain rfl := Option.some.inj H
        go_wp2
        go_ret
        exact ⟨by first | rfl | (simp; done) | (simp [*]; done), by repeat (first | exact Drawn0.refl _ | apply Drawn0.step)⟩


/-! ### laws_FnExactChunksOf: function 3 -/
def laws_FnExactChunksOf.f (k : Nat) (l0 : List Int) : Option Bool := if (l0.length : Int) > 1048576 then some true else (laws_toByteS.f k l0).bind fun (r0_ : (List Int)) => (spec_ChunksOf.f k r0_).bind fun (r1_ : (List S66)) => (laws_toByteS.f k l0).bind fun (r2_ : (List Int)) => (impl_ChunksOf.f k r2_).bind fun (r3_ : (List S66)) => (laws_eqChunkS.f k r3_ r1_).bind fun (r4_ : Bool) => if r4_ = true then ((laws_toByteS.f k l0).bind fun (r5_ : (List Int)) => (laws_eqByteS.f k r2_ r5_).bind fun (r6_ : Bool) => if r6_ = true then ((laws_markByteS.f k r2_ 1).bind fun (r7_ : Int × (List Int)) => if r7_.1 < 0 then none else ((laws_eqChunkS.f k r3_ r1_).bind fun (r8_ : Bool) => if r8_ = true then ((laws_markChunkS.f k r3_ 1).bind fun (r9_ : Int × (List S66)) => (laws_heldChunkS.f k r9_.2 1).bind fun (r10_ : Int) => if r10_ < 0 then none else (if r10_ = r9_.1 then ((laws_toByteS.f k l0).bind fun (r11_ : (List Int)) => (impl_ChunksOf.f k r11_).bind fun (r12_ : (List S66)) => (laws_eqChunkS.f k r12_ r1_).bind fun (r13_ : Bool) => if r13_ = true then ((laws_heldChunkS.f k r9_.2 1).bind fun (r14_ : Int) => if r14_ < 0 then none else (if r14_ = r9_.1 then (some true) else none)) else none) else none)) else none)) else none) else none
set_option maxHeartbeats 16000000 in
set_option maxRecDepth 1000000 in
/-- The law's own walk: its rows lie in ranges of blocks that do not meet. -/
theorem laws_FnExactChunksOf.calls (k : Nat) (A0 : Option Addr) (c0 : Nat) (l0 : List Int) (r : Bool) (w : World) (hr0 : Kd.C (Kd.int .u8) w A0 l0.length l0) (hc0 : l0.length ≤ c0) (hT : Lib.Utf8Tabs 0 1 w) (ht_ : r = true) (h : laws_FnExactChunksOf.f k l0 = some r) :
    Calls Tryd.prog 3 #[.slice A0 l0.length c0] w fun e w' => e = .returned (.bool r) ∧ Below w.heap.size w w' := by
  have HR0 := Aside0.mk hr0
  have HC0 := Aside0.mk hc0
  clear hr0 hc0
  have HT := Aside0.mk hT
  clear hT
  subst ht_
  have HB := Aside0.mk (Below.refl w.heap.size w)
  have HN := Aside0.mk (Nat.le_refl w.heap.size)
  unfold laws_FnExactChunksOf.f at h
  by_cases cg : (l0.length : Int) > 1048576
  · clear h
    have cgb : decide (1048576 < (l0.length : Int)) = true := decide_eq_true (by omega)
    clear cg
    go_enter Tryd.func3, Tryd.ntmps3
    go_wp2
    go_ret
    exact ⟨rfl, by repeat (first | exact HB.out | apply below_alloc | apply pw_below_drewN | apply below_drew1)⟩
  rw [if_neg cg] at h
  have cgb : decide (1048576 < (l0.length : Int)) = false := decide_eq_false (by omega)
  clear cg
  obtain ⟨t1, e0_, h⟩ := Option.bind_eq_some_iff.1 h
  (try dsimp only at h)
  obtain ⟨w0_, e1_, h⟩ := Option.bind_eq_some_iff.1 h
  (try dsimp only at h)
  obtain ⟨x0, e2_, h⟩ := Option.bind_eq_some_iff.1 h
  (try dsimp only at h)
  obtain ⟨g0, e3_, h⟩ := Option.bind_eq_some_iff.1 h
  (try dsimp only at h)
  obtain ⟨b1, e4_, h⟩ := Option.bind_eq_some_iff.1 h
  (try dsimp only at h)
  have z_ : b1 = true := by cases b1 with | true => rfl | false => exact absurd h (by simp)
  subst z_
  rw [if_pos rfl] at h
  obtain ⟨t2, e5_, h⟩ := Option.bind_eq_some_iff.1 h
  (try dsimp only at h)
  obtain ⟨b2, e6_, h⟩ := Option.bind_eq_some_iff.1 h
  (try dsimp only at h)
  have z_ : b2 = true := by cases b2 with | true => rfl | false => exact absurd h (by simp)
  subst z_
  rw [if_pos rfl] at h
  obtain ⟨⟨k1, x1⟩, e7_, h⟩ := Option.bind_eq_some_iff.1 h
  (try dsimp only at h)
  by_cases z_k1 : k1 < 0
  case pos => rw [if_pos z_k1] at h; cases h
  rw [if_neg z_k1] at h
  have zb_k1 : decide (k1 < 0) = false := decide_eq_false z_k1
  clear z_k1
  obtain ⟨b3, e8_, h⟩ := Option.bind_eq_some_iff.1 h
  (try dsimp only at h)
  have z_ : b3 = true := by cases b3 with | true => rfl | false => exact absurd h (by simp)
  subst z_
  rw [if_pos rfl] at h
  obtain ⟨⟨m1, g1⟩, e9_, h⟩ := Option.bind_eq_some_iff.1 h
  (try dsimp only at h)
  obtain ⟨q1, e10_, h⟩ := Option.bind_eq_some_iff.1 h
  (try dsimp only at h)
  by_cases z_q1 : q1 < 0
  case pos => rw [if_pos z_q1] at h; cases h
  rw [if_neg z_q1] at h
  have zb_q1 : decide (q1 < 0) = false := decide_eq_false z_q1
  clear z_q1
  by_cases z_ : q1 = m1
  case neg => rw [if_neg z_] at h; cases h
  rw [if_pos z_] at h
  replace z_ := z_.symm
  subst z_
  obtain ⟨t3, e11_, h⟩ := Option.bind_eq_some_iff.1 h
  (try dsimp only at h)
  obtain ⟨h0, e12_, h⟩ := Option.bind_eq_some_iff.1 h
  (try dsimp only at h)
  obtain ⟨b4, e13_, h⟩ := Option.bind_eq_some_iff.1 h
  (try dsimp only at h)
  have z_ : b4 = true := by cases b4 with | true => rfl | false => exact absurd h (by simp)
  subst z_
  rw [if_pos rfl] at h
  obtain ⟨q2, e14_, h⟩ := Option.bind_eq_some_iff.1 h
  (try dsimp only at h)
  by_cases z_q2 : q2 < 0
  case pos => rw [if_pos z_q2] at h; cases h
  rw [if_neg z_q2] at h
  have zb_q2 : decide (q2 < 0) = false := decide_eq_false z_q2
  clear z_q2
  by_cases z_ : q2 = m1
  case neg => rw [if_neg z_] at h; cases h
  rw [if_pos z_] at h
  replace z_ := z_.symm
  subst z_
  clear h
  replace e0_ := Aside0.mk e0_
  replace e1_ := Aside0.mk e1_
  replace e2_ := Aside0.mk e2_
  replace e3_ := Aside0.mk e3_
  replace e4_ := Aside0.mk e4_
  replace e5_ := Aside0.mk e5_
  replace e6_ := Aside0.mk e6_
  replace e7_ := Aside0.mk e7_
  replace e8_ := Aside0.mk e8_
  replace e9_ := Aside0.mk e9_
  replace e10_ := Aside0.mk e10_
  replace e11_ := Aside0.mk e11_
  replace e12_ := Aside0.mk e12_
  replace e13_ := Aside0.mk e13_
  replace e14_ := Aside0.mk e14_
  go_enter Tryd.func3, Tryd.ntmps3
  go_wp2_with fail
  refine (laws_toByteS.calls k _ _ l0 t1 _ (Kd.C_below HR0.out (by repeat (first | exact HB.out | apply below_alloc | apply pw_below_drewN | apply below_drew1))) HC0.out e0_.out).mono ?_
  rintro e w1 ⟨v_t1, rfl, ho_t1, hb⟩
  obtain ⟨lo1, hi1, hn1, hl1, hh1, ho2⟩ := Deep.R_new ho_t1 (by repeat (first | exact HB.out | apply below_alloc | apply pw_below_drewN | apply below_drew1)) hb (by first | exact HN.out | exact Nat.le_trans HN.out (Below.size (by repeat (first | exact Below.refl _ _ | apply below_alloc | apply pw_below_drewN | apply below_drew1))))
  obtain ⟨A_t1, cc_t1, ev_⟩ := Kd.R_slice ho2
  subst ev_
  have HO_t1 := Aside0.mk ho2
  have HI1 := Aside0.mk (And.intro hn1 hl1)
  clear HN
  have HN := Aside0.mk hh1
  clear ho2 hn1 hl1 hh1 ho_t1
  have HB_ := Aside0.mk (below_step (by repeat (first | exact HB.out | apply below_alloc | apply pw_below_drewN | apply below_drew1)) hb)
  clear HB
  have HB := HB_
  clear HB_ hb
  go_wp2_with fail
  refine (spec_ChunksOf.calls k _ _ t1 w0_ _ (Kd.R_reads' (by (with_reducible repeat (first | apply Kd.R_alloc | apply Kd.R_drewN | apply Kd.R_drew)); exact HO_t1.out)).2.2 (Kd.R_reads' HO_t1.out).2.1 e1_.out).mono ?_
  rintro e w2 ⟨v_w0_, rfl, ho_w0_, hb⟩
  have HO_t1_ := Aside0.mk (Kd.R_below (by (with_reducible repeat (first | apply Kd.R_alloc | apply Kd.R_drewN | apply Kd.R_drew)); exact HO_t1.out) hb)
  clear HO_t1
  have HO_t1 := HO_t1_
  clear HO_t1_
  obtain ⟨lo2, hi2, hn2, hl2, hh2, ho2⟩ := Deep.S_new ho_w0_ (by repeat (first | exact HB.out | apply below_alloc | apply pw_below_drewN | apply below_drew1)) hb (by first | exact HN.out | exact Nat.le_trans HN.out (Below.size (by repeat (first | exact Below.refl _ _ | apply below_alloc | apply pw_below_drewN | apply below_drew1))))
  obtain ⟨A_w0_, cc_w0_, ev_⟩ := Kd.S_slice ho2
  subst ev_
  have HO_w0_ := Aside0.mk ho2
  have HI2 := Aside0.mk (And.intro hn2 hl2)
  clear HN
  have HN := Aside0.mk hh2
  clear ho2 hn2 hl2 hh2 ho_w0_
  have HB_ := Aside0.mk (below_step (by repeat (first | exact HB.out | apply below_alloc | apply pw_below_drewN | apply below_drew1)) hb)
  clear HB
  have HB := HB_
  clear HB_ hb
  go_wp2_with fail
  refine (laws_toByteS.calls k _ _ l0 x0 _ (Kd.C_below HR0.out (by repeat (first | exact HB.out | apply below_alloc | apply pw_below_drewN | apply below_drew1))) HC0.out e2_.out).mono ?_
  rintro e w3 ⟨v_x0, rfl, ho_x0, hb⟩
  have HO_t1_ := Aside0.mk (Kd.R_below (by (with_reducible repeat (first | apply Kd.R_alloc | apply Kd.R_drewN | apply Kd.R_drew)); exact HO_t1.out) hb)
  clear HO_t1
  have HO_t1 := HO_t1_
  clear HO_t1_
  have HO_w0__ := Aside0.mk (Kd.S_below (by (with_reducible repeat (first | apply Kd.S_alloc | apply Kd.S_drewN | apply Kd.S_drew)); exact HO_w0_.out) hb)
  clear HO_w0_
  have HO_w0_ := HO_w0__
  clear HO_w0__
  obtain ⟨lo3, hi3, hn3, hl3, hh3, ho2⟩ := Deep.R_new ho_x0 (by repeat (first | exact HB.out | apply below_alloc | apply pw_below_drewN | apply below_drew1)) hb (by first | exact HN.out | exact Nat.le_trans HN.out (Below.size (by repeat (first | exact Below.refl _ _ | apply below_alloc | apply pw_below_drewN | apply below_drew1))))
  obtain ⟨A_x0, cc_x0, ev_⟩ := Kd.R_slice ho2
  subst ev_
  have HO_x0 := Aside0.mk ho2
  have HI3 := Aside0.mk (And.intro hn3 hl3)
  clear HN
  have HN := Aside0.mk hh3
  clear ho2 hn3 hl3 hh3 ho_x0
  have HB_ := Aside0.mk (below_step (by repeat (first | exact HB.out | apply below_alloc | apply pw_below_drewN | apply below_drew1)) hb)
  clear HB
  have HB := HB_
  clear HB_ hb
  go_wp2_with fail
  refine (impl_ChunksOf.calls k _ _ x0 g0 _ (Kd.R_reads' (by (with_reducible repeat (first | apply Kd.R_alloc | apply Kd.R_drewN | apply Kd.R_drew)); exact HO_x0.out)).2.2 (Kd.R_reads' HO_x0.out).2.1 (Utf8Tabs_below HT.out (by repeat (first | exact HB.out | apply below_alloc | apply pw_below_drewN | apply below_drew1))) e3_.out).mono ?_
  rintro e w4 ⟨v_g0, rfl, ho_g0, hb⟩
  have HO_t1_ := Aside0.mk (Kd.R_below (by (with_reducible repeat (first | apply Kd.R_alloc | apply Kd.R_drewN | apply Kd.R_drew)); exact HO_t1.out) hb)
  clear HO_t1
  have HO_t1 := HO_t1_
  clear HO_t1_
  have HO_w0__ := Aside0.mk (Kd.S_below (by (with_reducible repeat (first | apply Kd.S_alloc | apply Kd.S_drewN | apply Kd.S_drew)); exact HO_w0_.out) hb)
  clear HO_w0_
  have HO_w0_ := HO_w0__
  clear HO_w0__
  have HO_x0_ := Aside0.mk (Kd.R_below (by (with_reducible repeat (first | apply Kd.R_alloc | apply Kd.R_drewN | apply Kd.R_drew)); exact HO_x0.out) hb)
  clear HO_x0
  have HO_x0 := HO_x0_
  clear HO_x0_
  obtain ⟨lo4, hi4, hn4, hl4, hh4, ho2⟩ := Deep.S_new ho_g0 (by repeat (first | exact HB.out | apply below_alloc | apply pw_below_drewN | apply below_drew1)) hb (by first | exact HN.out | exact Nat.le_trans HN.out (Below.size (by repeat (first | exact Below.refl _ _ | apply below_alloc | apply pw_below_drewN | apply below_drew1))))
  obtain ⟨A_g0, cc_g0, ev_⟩ := Kd.S_slice ho2
  subst ev_
  have HO_g0 := Aside0.mk ho2
  have HI4 := Aside0.mk (And.intro hn4 hl4)
  clear HN
  have HN := Aside0.mk hh4
  clear ho2 hn4 hl4 hh4 ho_g0
  have HB_ := Aside0.mk (below_step (by repeat (first | exact HB.out | apply below_alloc | apply pw_below_drewN | apply below_drew1)) hb)
  clear HB
  have HB := HB_
  clear HB_ hb
  go_wp2_with fail
  refine (laws_eqChunkS.calls k _ _ g0 _ _ w0_ true _ (Kd.S_reads' (by (with_reducible repeat (first | apply Kd.S_alloc | apply Kd.S_drewN | apply Kd.S_drew)); exact HO_g0.out)).2.2 (Kd.S_reads' HO_g0.out).2.1 (Kd.S_reads' (by (with_reducible repeat (first | apply Kd.S_alloc | apply Kd.S_drewN | apply Kd.S_drew)); exact HO_w0_.out)).2.2 (Kd.S_reads' HO_w0_.out).2.1 e4_.out).mono ?_
  rintro e w5 ⟨rfl, hb⟩
  have HO_t1_ := Aside0.mk (Kd.R_below (by (with_reducible repeat (first | apply Kd.R_alloc | apply Kd.R_drewN | apply Kd.R_drew)); exact HO_t1.out) hb)
  clear HO_t1
  have HO_t1 := HO_t1_
  clear HO_t1_
  have HO_w0__ := Aside0.mk (Kd.S_below (by (with_reducible repeat (first | apply Kd.S_alloc | apply Kd.S_drewN | apply Kd.S_drew)); exact HO_w0_.out) hb)
  clear HO_w0_
  have HO_w0_ := HO_w0__
  clear HO_w0__
  have HO_x0_ := Aside0.mk (Kd.R_below (by (with_reducible repeat (first | apply Kd.R_alloc | apply Kd.R_drewN | apply Kd.R_drew)); exact HO_x0.out) hb)
  clear HO_x0
  have HO_x0 := HO_x0_
  clear HO_x0_
  have HO_g0_ := Aside0.mk (Kd.S_below (by (with_reducible repeat (first | apply Kd.S_alloc | apply Kd.S_drewN | apply Kd.S_drew)); exact HO_g0.out) hb)
  clear HO_g0
  have HO_g0 := HO_g0_
  clear HO_g0_
  have HN_ := Aside0.mk (Nat.le_trans (by first | exact HN.out | exact Nat.le_trans HN.out (Below.size (by repeat (first | exact Below.refl _ _ | apply below_alloc | apply pw_below_drewN | apply below_drew1)))) hb.size)
  clear HN
  have HN := HN_
  clear HN_
  have HB_ := Aside0.mk (below_step (by repeat (first | exact HB.out | apply below_alloc | apply pw_below_drewN | apply below_drew1)) hb)
  clear HB
  have HB := HB_
  clear HB_ hb
  go_wp2_with fail
  refine (laws_toByteS.calls k _ _ l0 t2 _ (Kd.C_below HR0.out (by repeat (first | exact HB.out | apply below_alloc | apply pw_below_drewN | apply below_drew1))) HC0.out e5_.out).mono ?_
  rintro e w6 ⟨v_t2, rfl, ho_t2, hb⟩
  have HO_t1_ := Aside0.mk (Kd.R_below (by (with_reducible repeat (first | apply Kd.R_alloc | apply Kd.R_drewN | apply Kd.R_drew)); exact HO_t1.out) hb)
  clear HO_t1
  have HO_t1 := HO_t1_
  clear HO_t1_
  have HO_w0__ := Aside0.mk (Kd.S_below (by (with_reducible repeat (first | apply Kd.S_alloc | apply Kd.S_drewN | apply Kd.S_drew)); exact HO_w0_.out) hb)
  clear HO_w0_
  have HO_w0_ := HO_w0__
  clear HO_w0__
  have HO_x0_ := Aside0.mk (Kd.R_below (by (with_reducible repeat (first | apply Kd.R_alloc | apply Kd.R_drewN | apply Kd.R_drew)); exact HO_x0.out) hb)
  clear HO_x0
  have HO_x0 := HO_x0_
  clear HO_x0_
  have HO_g0_ := Aside0.mk (Kd.S_below (by (with_reducible repeat (first | apply Kd.S_alloc | apply Kd.S_drewN | apply Kd.S_drew)); exact HO_g0.out) hb)
  clear HO_g0
  have HO_g0 := HO_g0_
  clear HO_g0_
  obtain ⟨lo5, hi5, hn5, hl5, hh5, ho2⟩ := Deep.R_new ho_t2 (by repeat (first | exact HB.out | apply below_alloc | apply pw_below_drewN | apply below_drew1)) hb (by first | exact HN.out | exact Nat.le_trans HN.out (Below.size (by repeat (first | exact Below.refl _ _ | apply below_alloc | apply pw_below_drewN | apply below_drew1))))
  obtain ⟨A_t2, cc_t2, ev_⟩ := Kd.R_slice ho2
  subst ev_
  have HO_t2 := Aside0.mk ho2
  have HI5 := Aside0.mk (And.intro hn5 hl5)
  clear HN
  have HN := Aside0.mk hh5
  clear ho2 hn5 hl5 hh5 ho_t2
  have HB_ := Aside0.mk (below_step (by repeat (first | exact HB.out | apply below_alloc | apply pw_below_drewN | apply below_drew1)) hb)
  clear HB
  have HB := HB_
  clear HB_ hb
  go_wp2_with fail
  refine (laws_eqByteS.calls k _ _ x0 _ _ t2 true _ (Kd.R_reads' (by (with_reducible repeat (first | apply Kd.R_alloc | apply Kd.R_drewN | apply Kd.R_drew)); exact HO_x0.out)).2.2 (Kd.R_reads' HO_x0.out).2.1 (Kd.R_reads' (by (with_reducible repeat (first | apply Kd.R_alloc | apply Kd.R_drewN | apply Kd.R_drew)); exact HO_t2.out)).2.2 (Kd.R_reads' HO_t2.out).2.1 e6_.out).mono ?_
  rintro e w7 ⟨rfl, ⟨nd7, rfl⟩⟩
  go_wp2_with fail
  refine (laws_markByteS.calls k (Deep.Rng lo3 hi3) _ x0 1 k1 x1 w _ (by repeat (first | exact HB.out | apply below_alloc | apply pw_below_drewN | apply below_drew1)) (by (with_reducible repeat (first | apply Kd.R_alloc | apply Kd.R_drewN | apply Kd.R_drew)); exact HO_x0.out) e7_.out).mono ?_
  rintro e w8 ⟨rfl, ho, hb, hk⟩
  have ho := Deep.R_mark rfl ho HO_x0.out
  have hl_ := (Kd.R_reads' ho).1
  rw [hl_] at ho
  rw [hl_]
  clear hl_
  have HO_x1 := Aside0.mk ho
  have HO_t1_ := Aside0.mk (Kd.R_kept (by (with_reducible repeat (first | apply Kd.R_alloc | apply Kd.R_drewN | apply Kd.R_drew)); exact HO_t1.out) hk (Deep.apart (by have i1 := HI1.out; have i2 := HI2.out; have i3 := HI3.out; have i4 := HI4.out; have i5 := HI5.out; omega)))
  clear HO_t1
  have HO_t1 := HO_t1_
  clear HO_t1_
  have HO_w0__ := Aside0.mk (Kd.S_kept (by (with_reducible repeat (first | apply Kd.S_alloc | apply Kd.S_drewN | apply Kd.S_drew)); exact HO_w0_.out) hk (Deep.apart (by have i1 := HI1.out; have i2 := HI2.out; have i3 := HI3.out; have i4 := HI4.out; have i5 := HI5.out; omega)))
  clear HO_w0_
  have HO_w0_ := HO_w0__
  clear HO_w0__
  have HO_g0_ := Aside0.mk (Kd.S_kept (by (with_reducible repeat (first | apply Kd.S_alloc | apply Kd.S_drewN | apply Kd.S_drew)); exact HO_g0.out) hk (Deep.apart (by have i1 := HI1.out; have i2 := HI2.out; have i3 := HI3.out; have i4 := HI4.out; have i5 := HI5.out; omega)))
  clear HO_g0
  have HO_g0 := HO_g0_
  clear HO_g0_
  have HO_t2_ := Aside0.mk (Kd.R_kept (by (with_reducible repeat (first | apply Kd.R_alloc | apply Kd.R_drewN | apply Kd.R_drew)); exact HO_t2.out) hk (Deep.apart (by have i1 := HI1.out; have i2 := HI2.out; have i3 := HI3.out; have i4 := HI4.out; have i5 := HI5.out; omega)))
  clear HO_t2
  have HO_t2 := HO_t2_
  clear HO_t2_
  have HN_ := Aside0.mk (Nat.le_trans (by first | exact HN.out | exact Nat.le_trans HN.out (Below.size (by repeat (first | exact Below.refl _ _ | apply below_alloc | apply pw_below_drewN | apply below_drew1)))) hk.1)
  clear HN HB
  have HN := HN_
  have HB := Aside0.mk hb
  clear HN_ ho hb hk HO_x0
  go_wp2_with fail
  refine (laws_eqChunkS.calls k _ _ g0 _ _ w0_ true _ (Kd.S_reads' (by (with_reducible repeat (first | apply Kd.S_alloc | apply Kd.S_drewN | apply Kd.S_drew)); exact HO_g0.out)).2.2 (Kd.S_reads' HO_g0.out).2.1 (Kd.S_reads' (by (with_reducible repeat (first | apply Kd.S_alloc | apply Kd.S_drewN | apply Kd.S_drew)); exact HO_w0_.out)).2.2 (Kd.S_reads' HO_w0_.out).2.1 e8_.out).mono ?_
  rintro e w9 ⟨rfl, hb⟩
  have HO_t1_ := Aside0.mk (Kd.R_below (by (with_reducible repeat (first | apply Kd.R_alloc | apply Kd.R_drewN | apply Kd.R_drew)); exact HO_t1.out) hb)
  clear HO_t1
  have HO_t1 := HO_t1_
  clear HO_t1_
  have HO_w0__ := Aside0.mk (Kd.S_below (by (with_reducible repeat (first | apply Kd.S_alloc | apply Kd.S_drewN | apply Kd.S_drew)); exact HO_w0_.out) hb)
  clear HO_w0_
  have HO_w0_ := HO_w0__
  clear HO_w0__
  have HO_x1_ := Aside0.mk (Kd.R_below (by (with_reducible repeat (first | apply Kd.R_alloc | apply Kd.R_drewN | apply Kd.R_drew)); exact HO_x1.out) hb)
  clear HO_x1
  have HO_x1 := HO_x1_
  clear HO_x1_
  have HO_g0_ := Aside0.mk (Kd.S_below (by (with_reducible repeat (first | apply Kd.S_alloc | apply Kd.S_drewN | apply Kd.S_drew)); exact HO_g0.out) hb)
  clear HO_g0
  have HO_g0 := HO_g0_
  clear HO_g0_
  have HO_t2_ := Aside0.mk (Kd.R_below (by (with_reducible repeat (first | apply Kd.R_alloc | apply Kd.R_drewN | apply Kd.R_drew)); exact HO_t2.out) hb)
  clear HO_t2
  have HO_t2 := HO_t2_
  clear HO_t2_
  have HN_ := Aside0.mk (Nat.le_trans (by first | exact HN.out | exact Nat.le_trans HN.out (Below.size (by repeat (first | exact Below.refl _ _ | apply below_alloc | apply pw_below_drewN | apply below_drew1)))) hb.size)
  clear HN
  have HN := HN_
  clear HN_
  have HB_ := Aside0.mk (below_step (by repeat (first | exact HB.out | apply below_alloc | apply pw_below_drewN | apply below_drew1)) hb)
  clear HB
  have HB := HB_
  clear HB_ hb
  go_wp2_with fail
  refine (laws_markChunkS.calls k (Deep.Rng lo4 hi4) _ g0 1 m1 g1 w _ (by repeat (first | exact HB.out | apply below_alloc | apply pw_below_drewN | apply below_drew1)) (by (with_reducible repeat (first | apply Kd.S_alloc | apply Kd.S_drewN | apply Kd.S_drew)); exact HO_g0.out) e9_.out).mono ?_
  rintro e w10 ⟨rfl, ho, hb, hk⟩
  have hl_ := (Kd.S_reads' ho).1
  rw [hl_] at ho
  rw [hl_]
  clear hl_
  have HO_g1 := Aside0.mk ho
  have HO_t1_ := Aside0.mk (Kd.R_kept (by (with_reducible repeat (first | apply Kd.R_alloc | apply Kd.R_drewN | apply Kd.R_drew)); exact HO_t1.out) hk (Deep.apart (by have i1 := HI1.out; have i2 := HI2.out; have i3 := HI3.out; have i4 := HI4.out; have i5 := HI5.out; omega)))
  clear HO_t1
  have HO_t1 := HO_t1_
  clear HO_t1_
  have HO_w0__ := Aside0.mk (Kd.S_kept (by (with_reducible repeat (first | apply Kd.S_alloc | apply Kd.S_drewN | apply Kd.S_drew)); exact HO_w0_.out) hk (Deep.apart (by have i1 := HI1.out; have i2 := HI2.out; have i3 := HI3.out; have i4 := HI4.out; have i5 := HI5.out; omega)))
  clear HO_w0_
  have HO_w0_ := HO_w0__
  clear HO_w0__
  have HO_x1_ := Aside0.mk (Kd.R_kept (by (with_reducible repeat (first | apply Kd.R_alloc | apply Kd.R_drewN | apply Kd.R_drew)); exact HO_x1.out) hk (Deep.apart (by have i1 := HI1.out; have i2 := HI2.out; have i3 := HI3.out; have i4 := HI4.out; have i5 := HI5.out; omega)))
  clear HO_x1
  have HO_x1 := HO_x1_
  clear HO_x1_
  have HO_t2_ := Aside0.mk (Kd.R_kept (by (with_reducible repeat (first | apply Kd.R_alloc | apply Kd.R_drewN | apply Kd.R_drew)); exact HO_t2.out) hk (Deep.apart (by have i1 := HI1.out; have i2 := HI2.out; have i3 := HI3.out; have i4 := HI4.out; have i5 := HI5.out; omega)))
  clear HO_t2
  have HO_t2 := HO_t2_
  clear HO_t2_
  have HN_ := Aside0.mk (Nat.le_trans (by first | exact HN.out | exact Nat.le_trans HN.out (Below.size (by repeat (first | exact Below.refl _ _ | apply below_alloc | apply pw_below_drewN | apply below_drew1)))) hk.1)
  clear HN HB
  have HN := HN_
  have HB := Aside0.mk hb
  clear HN_ ho hb hk HO_g0
  go_wp2_with fail
  refine (laws_heldChunkS.calls k _ _ g1 1 m1 _ (Kd.S_reads' (by (with_reducible repeat (first | apply Kd.S_alloc | apply Kd.S_drewN | apply Kd.S_drew)); exact HO_g1.out)).2.2 (Kd.S_reads' HO_g1.out).2.1 e10_.out).mono ?_
  rintro e w11 ⟨rfl, ⟨nd11, rfl⟩⟩
  go_wp2_with fail
  refine (laws_toByteS.calls k _ _ l0 t3 _ (Kd.C_below HR0.out (by repeat (first | exact HB.out | apply below_alloc | apply pw_below_drewN | apply below_drew1))) HC0.out e11_.out).mono ?_
  rintro e w12 ⟨v_t3, rfl, ho_t3, hb⟩
  have HO_t1_ := Aside0.mk (Kd.R_below (by (with_reducible repeat (first | apply Kd.R_alloc | apply Kd.R_drewN | apply Kd.R_drew)); exact HO_t1.out) hb)
  clear HO_t1
  have HO_t1 := HO_t1_
  clear HO_t1_
  have HO_w0__ := Aside0.mk (Kd.S_below (by (with_reducible repeat (first | apply Kd.S_alloc | apply Kd.S_drewN | apply Kd.S_drew)); exact HO_w0_.out) hb)
  clear HO_w0_
  have HO_w0_ := HO_w0__
  clear HO_w0__
  have HO_x1_ := Aside0.mk (Kd.R_below (by (with_reducible repeat (first | apply Kd.R_alloc | apply Kd.R_drewN | apply Kd.R_drew)); exact HO_x1.out) hb)
  clear HO_x1
  have HO_x1 := HO_x1_
  clear HO_x1_
  have HO_g1_ := Aside0.mk (Kd.S_below (by (with_reducible repeat (first | apply Kd.S_alloc | apply Kd.S_drewN | apply Kd.S_drew)); exact HO_g1.out) hb)
  clear HO_g1
  have HO_g1 := HO_g1_
  clear HO_g1_
  have HO_t2_ := Aside0.mk (Kd.R_below (by (with_reducible repeat (first | apply Kd.R_alloc | apply Kd.R_drewN | apply Kd.R_drew)); exact HO_t2.out) hb)
  clear HO_t2
  have HO_t2 := HO_t2_
  clear HO_t2_
  obtain ⟨lo6, hi6, hn6, hl6, hh6, ho2⟩ := Deep.R_new ho_t3 (by repeat (first | exact HB.out | apply below_alloc | apply pw_below_drewN | apply below_drew1)) hb (by first | exact HN.out | exact Nat.le_trans HN.out (Below.size (by repeat (first | exact Below.refl _ _ | apply below_alloc | apply pw_below_drewN | apply below_drew1))))
  obtain ⟨A_t3, cc_t3, ev_⟩ := Kd.R_slice ho2
  subst ev_
  have HO_t3 := Aside0.mk ho2
  have HI6 := Aside0.mk (And.intro hn6 hl6)
  clear HN
  have HN := Aside0.mk hh6
  clear ho2 hn6 hl6 hh6 ho_t3
  have HB_ := Aside0.mk (below_step (by repeat (first | exact HB.out | apply below_alloc | apply pw_below_drewN | apply below_drew1)) hb)
  clear HB
  have HB := HB_
  clear HB_ hb
  go_wp2_with fail
  refine (impl_ChunksOf.calls k _ _ t3 h0 _ (Kd.R_reads' (by (with_reducible repeat (first | apply Kd.R_alloc | apply Kd.R_drewN | apply Kd.R_drew)); exact HO_t3.out)).2.2 (Kd.R_reads' HO_t3.out).2.1 (Utf8Tabs_below HT.out (by repeat (first | exact HB.out | apply below_alloc | apply pw_below_drewN | apply below_drew1))) e12_.out).mono ?_
  rintro e w13 ⟨v_h0, rfl, ho_h0, hb⟩
  have HO_t1_ := Aside0.mk (Kd.R_below (by (with_reducible repeat (first | apply Kd.R_alloc | apply Kd.R_drewN | apply Kd.R_drew)); exact HO_t1.out) hb)
  clear HO_t1
  have HO_t1 := HO_t1_
  clear HO_t1_
  have HO_w0__ := Aside0.mk (Kd.S_below (by (with_reducible repeat (first | apply Kd.S_alloc | apply Kd.S_drewN | apply Kd.S_drew)); exact HO_w0_.out) hb)
  clear HO_w0_
  have HO_w0_ := HO_w0__
  clear HO_w0__
  have HO_x1_ := Aside0.mk (Kd.R_below (by (with_reducible repeat (first | apply Kd.R_alloc | apply Kd.R_drewN | apply Kd.R_drew)); exact HO_x1.out) hb)
  clear HO_x1
  have HO_x1 := HO_x1_
  clear HO_x1_
  have HO_g1_ := Aside0.mk (Kd.S_below (by (with_reducible repeat (first | apply Kd.S_alloc | apply Kd.S_drewN | apply Kd.S_drew)); exact HO_g1.out) hb)
  clear HO_g1
  have HO_g1 := HO_g1_
  clear HO_g1_
  have HO_t2_ := Aside0.mk (Kd.R_below (by (with_reducible repeat (first | apply Kd.R_alloc | apply Kd.R_drewN | apply Kd.R_drew)); exact HO_t2.out) hb)
  clear HO_t2
  have HO_t2 := HO_t2_
  clear HO_t2_
  have HO_t3_ := Aside0.mk (Kd.R_below (by (with_reducible repeat (first | apply Kd.R_alloc | apply Kd.R_drewN | apply Kd.R_drew)); exact HO_t3.out) hb)
  clear HO_t3
  have HO_t3 := HO_t3_
  clear HO_t3_
  obtain ⟨lo7, hi7, hn7, hl7, hh7, ho2⟩ := Deep.S_new ho_h0 (by repeat (first | exact HB.out | apply below_alloc | apply pw_below_drewN | apply below_drew1)) hb (by first | exact HN.out | exact Nat.le_trans HN.out (Below.size (by repeat (first | exact Below.refl _ _ | apply below_alloc | apply pw_below_drewN | apply below_drew1))))
  obtain ⟨A_h0, cc_h0, ev_⟩ := Kd.S_slice ho2
  subst ev_
  have HO_h0 := Aside0.mk ho2
  have HI7 := Aside0.mk (And.intro hn7 hl7)
  clear HN
  have HN := Aside0.mk hh7
  clear ho2 hn7 hl7 hh7 ho_h0
  have HB_ := Aside0.mk (below_step (by repeat (first | exact HB.out | apply below_alloc | apply pw_below_drewN | apply below_drew1)) hb)
  clear HB
  have HB := HB_
  clear HB_ hb
  go_wp2_with fail
  refine (laws_eqChunkS.calls k _ _ h0 _ _ w0_ true _ (Kd.S_reads' (by (with_reducible repeat (first | apply Kd.S_alloc | apply Kd.S_drewN | apply Kd.S_drew)); exact HO_h0.out)).2.2 (Kd.S_reads' HO_h0.out).2.1 (Kd.S_reads' (by (with_reducible repeat (first | apply Kd.S_alloc | apply Kd.S_drewN | apply Kd.S_drew)); exact HO_w0_.out)).2.2 (Kd.S_reads' HO_w0_.out).2.1 e13_.out).mono ?_
  rintro e w14 ⟨rfl, hb⟩
  have HO_t1_ := Aside0.mk (Kd.R_below (by (with_reducible repeat (first | apply Kd.R_alloc | apply Kd.R_drewN | apply Kd.R_drew)); exact HO_t1.out) hb)
  clear HO_t1
  have HO_t1 := HO_t1_
  clear HO_t1_
  have HO_w0__ := Aside0.mk (Kd.S_below (by (with_reducible repeat (first | apply Kd.S_alloc | apply Kd.S_drewN | apply Kd.S_drew)); exact HO_w0_.out) hb)
  clear HO_w0_
  have HO_w0_ := HO_w0__
  clear HO_w0__
  have HO_x1_ := Aside0.mk (Kd.R_below (by (with_reducible repeat (first | apply Kd.R_alloc | apply Kd.R_drewN | apply Kd.R_drew)); exact HO_x1.out) hb)
  clear HO_x1
  have HO_x1 := HO_x1_
  clear HO_x1_
  have HO_g1_ := Aside0.mk (Kd.S_below (by (with_reducible repeat (first | apply Kd.S_alloc | apply Kd.S_drewN | apply Kd.S_drew)); exact HO_g1.out) hb)
  clear HO_g1
  have HO_g1 := HO_g1_
  clear HO_g1_
  have HO_t2_ := Aside0.mk (Kd.R_below (by (with_reducible repeat (first | apply Kd.R_alloc | apply Kd.R_drewN | apply Kd.R_drew)); exact HO_t2.out) hb)
  clear HO_t2
  have HO_t2 := HO_t2_
  clear HO_t2_
  have HO_t3_ := Aside0.mk (Kd.R_below (by (with_reducible repeat (first | apply Kd.R_alloc | apply Kd.R_drewN | apply Kd.R_drew)); exact HO_t3.out) hb)
  clear HO_t3
  have HO_t3 := HO_t3_
  clear HO_t3_
  have HO_h0_ := Aside0.mk (Kd.S_below (by (with_reducible repeat (first | apply Kd.S_alloc | apply Kd.S_drewN | apply Kd.S_drew)); exact HO_h0.out) hb)
  clear HO_h0
  have HO_h0 := HO_h0_
  clear HO_h0_
  have HN_ := Aside0.mk (Nat.le_trans (by first | exact HN.out | exact Nat.le_trans HN.out (Below.size (by repeat (first | exact Below.refl _ _ | apply below_alloc | apply pw_below_drewN | apply below_drew1)))) hb.size)
  clear HN
  have HN := HN_
  clear HN_
  have HB_ := Aside0.mk (below_step (by repeat (first | exact HB.out | apply below_alloc | apply pw_below_drewN | apply below_drew1)) hb)
  clear HB
  have HB := HB_
  clear HB_ hb
  go_wp2_with fail
  refine (laws_heldChunkS.calls k _ _ g1 1 m1 _ (Kd.S_reads' (by (with_reducible repeat (first | apply Kd.S_alloc | apply Kd.S_drewN | apply Kd.S_drew)); exact HO_g1.out)).2.2 (Kd.S_reads' HO_g1.out).2.1 e14_.out).mono ?_
  rintro e w15 ⟨rfl, ⟨nd15, rfl⟩⟩
  go_wp2
  go_ret
  exact ⟨rfl, by repeat (first | exact HB.out | apply below_alloc | apply pw_below_drewN | apply below_drew1)⟩

end Go.Proofs.YtedmjdjodpgdlaaDoor.PFnExactChunksOf
