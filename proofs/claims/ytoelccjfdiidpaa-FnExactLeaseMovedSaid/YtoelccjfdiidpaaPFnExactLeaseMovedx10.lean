-- Written by wip/xprint.py (the session's program over the kit's printer) for the claim of FnExactLeaseMoved; Lean checks it.
import Derived.Test.YtoelccjfdiidpaaPFnExactLeaseMovedx0
import Derived.Test.YtoelccjfdiidpaaPFnExactLeaseMovedx8
namespace Go.Proofs.Ytoelccjfdiidpaa.PFnExactLeaseMoved
open Go.RowKit Go.Proofs.YtoelccjfdiidpaaW.PrintWords Go.Proofs.YtoelccjfdiidpaaW.PrintLast Go.Proofs.YtoelccjfdiidpaaW.PrintMore
attribute [local go_sem] max2_int min2_int max_two min_two max_three min_three max_four min_four   -- for this text's walks alone
set_option linter.unusedVariables false
set_option linter.unusedSimpArgs false

/-! ### impl_Edit_isSmall: function 58 -/
def impl_Edit_isSmall.f (a0_0 : Int) (a0_1 : Int) (l0_2 : List Int) : Option (Bool) := (impl_in.f a0_0 0 400).bind fun t230 => (if t230 = true then ((impl_in.f a0_1 0 400).bind fun t231 => (if t231 = true then (some (decide ((l0_2.length : Int) ≤ 400))) else (some false))) else (some false))
set_option maxHeartbeats 8000000 in
set_option maxRecDepth 100000 in
theorem impl_Edit_isSmall.calls (a0_0 : Int) (a0_1 : Int) (A0_2 : Option Addr) (c0_2 : Nat) (l0_2 : List Int) (r : Bool) (w : World) (hr0_2 : Kd.C (Kd.int .u8) w A0_2 l0_2.length l0_2) (hc0_2 : l0_2.length ≤ c0_2) (h : impl_Edit_isSmall.f a0_0 a0_1 l0_2 = some r) :
  Calls Try.prog 58 #[.agg #[.int .i64 a0_0, .int .i64 a0_1, .slice A0_2 l0_2.length c0_2]] w fun e w' => e = .returned (.bool r) ∧ Below w.heap.size w w' := by
 have hu42 := Try.underlying42
 have HR0_2 := Aside0.mk hr0_2
 have HC0_2 := Aside0.mk hc0_2
 clear hr0_2 hc0_2
 have HB := Aside0.mk (Below.refl w.heap.size w)
 have H : ((impl_in.f a0_0 0 400).bind fun t230 => (if t230 = true then ((impl_in.f a0_1 0 400).bind fun t231 => (if t231 = true then (some (decide ((l0_2.length : Int) ≤ 400))) else (some false))) else (some false))) = some r := h
 clear h
 replace H := Option.bind_eq_some_iff.mp H
 obtain ⟨t230, A20, H⟩ := H
 replace H : (if t230 = true then ((impl_in.f a0_1 0 400).bind fun t231 => (if t231 = true then (some (decide ((l0_2.length : Int) ≤ 400))) else (some false))) else (some false)) = some r := H
 have A2 := Aside0.mk A20
 clear A20
 by_cases c3 : t230 = true
 ·subst c3
  have H1 : ((impl_in.f a0_1 0 400).bind fun t231 => (if t231 = true then (some (decide ((l0_2.length : Int) ≤ 400))) else (some false))) = some r := by rw [if_pos rfl] at H; exact H
  clear H
  have H := H1
  clear H1
  replace H := Option.bind_eq_some_iff.mp H
  obtain ⟨t231, A40, H⟩ := H
  replace H : (if t231 = true then (some (decide ((l0_2.length : Int) ≤ 400))) else (some false)) = some r := H
  have A4 := Aside0.mk A40
  clear A40
  by_cases c5 : t231 = true
  ·subst c5
   have H1 : (some (decide ((l0_2.length : Int) ≤ 400))) = some r := by rw [if_pos rfl] at H; exact H
   clear H
   have H := H1
   clear H1
   obtain rfl := Option.some.inj H
   go_enter Try.func58, Try.ntmps58
   go_wp2_with (first | ((with_reducible refine gate_dst (N := 1) rfl ?_); (try (refine gate_guard (by rfl) ?_; dsimp only)); refine box_event ?hg (N := 1) ?hd (cs := #[.int .i64 a0_0, .int .i64 a0_1, .slice A0_2 l0_2.length c0_2]) (t := 42) ?hr ?_; (case hd => rfl); (case hg => rfl); (case hr => first | (go_simp; done) | (go_simp; rfl)); intro gb229 hg w6 hbox hb; have n0_ := Aside0.mk (below_step (by repeat (first | (with_reducible first | exact HB.out | apply below_alloc | apply pw_below_drewN | apply below_drew1) | exact HB.out)) hb); have n1_ := Aside0.mk (hbox); have n2_ := Aside0.mk ((by rw [hg]; exact (below_size (by repeat (first | (with_reducible first | exact HB.out | apply below_alloc | apply pw_below_drewN | apply below_drew1) | exact HB.out))) : w.heap.size ≤ gb229)); have n3_ := Aside0.mk ((by rw [hg]; exact (below_size (by repeat (first | (with_reducible first | exact HB.out | apply below_alloc | apply pw_below_drewN | apply below_drew1) | exact HB.out))) : w.heap.size ≤ gb229)); clear HB; have HB := n0_; have BK229 := n1_; have GW229 := n2_; have GE229 := n3_; clear n0_ n1_ n2_ n3_; clear hb hbox hg; have hcz7_0 : w6.cell? ⟨gb229, 0, none⟩ = some (.int .i64 a0_0) := (blk_cell BK229.out 0).trans rfl; have hcz7_1 : w6.cell? ⟨gb229, 1, none⟩ = some (.int .i64 a0_1) := (blk_cell BK229.out 1).trans rfl; have hcz7_2 : w6.cell? ⟨gb229, 2, none⟩ = some (.slice A0_2 l0_2.length c0_2) := (blk_cell BK229.out 2).trans rfl; have hfz7_0 := blk_frozen BK229.out 0; have hfz7_1 := blk_frozen BK229.out 1; have hfz7_2 := blk_frozen BK229.out 2) | ((with_reducible refine gate_callee (f := 64) rfl ?_); refine goesL_ (some 5) rfl rfl Try.func64 (by kernel_rfl) rfl #[.int .i64 a0_0, .int .i64 0, .int .i64 400] rfl (by (try simp only [List.map_toArray, List.map_cons, List.map_nil]); first | done | rfl | (simp only [List.length_drop, List.length_take]; rfl)) ?_; (with_reducible refine (impl_in.calls a0_0 0 400 true _ A2.out).mono ?_); rintro e w' ⟨rfl, ⟨nd, rfl⟩⟩; refine ⟨_, rfl, ?_⟩) | (go_at_call 64; (with_reducible refine (impl_in.calls a0_1 0 400 true _ A4.out).mono ?_); rintro e w' ⟨rfl, ⟨nd, rfl⟩⟩))
   go_ret
   exact ⟨by first | rfl | (simp [errW_none, errW_some] <;> rfl) | (simp [*, errW_none, errW_some] <;> rfl), by repeat (first | (with_reducible first | exact HB.out | apply below_alloc | apply pw_below_drewN | apply below_drew1 | refine below_set ?_ GE229.out) | exact HB.out)⟩
  ·replace c5 := Bool.eq_false_iff.mpr c5
   subst c5
   have H1 : (some false) = some r := by rw [if_neg (show ¬ (false = true) by decide)] at H; exact H
   clear H
   have H := H1
   clear H1
   obtain rfl := Option.some.inj H
   go_enter Try.func58, Try.ntmps58
   go_wp2_with (first | ((with_reducible refine gate_dst (N := 1) rfl ?_); (try (refine gate_guard (by rfl) ?_; dsimp only)); refine box_event ?hg (N := 1) ?hd (cs := #[.int .i64 a0_0, .int .i64 a0_1, .slice A0_2 l0_2.length c0_2]) (t := 42) ?hr ?_; (case hd => rfl); (case hg => rfl); (case hr => first | (go_simp; done) | (go_simp; rfl)); intro gb229 hg w8 hbox hb; have n0_ := Aside0.mk (below_step (by repeat (first | (with_reducible first | exact HB.out | apply below_alloc | apply pw_below_drewN | apply below_drew1) | exact HB.out)) hb); have n1_ := Aside0.mk (hbox); have n2_ := Aside0.mk ((by rw [hg]; exact (below_size (by repeat (first | (with_reducible first | exact HB.out | apply below_alloc | apply pw_below_drewN | apply below_drew1) | exact HB.out))) : w.heap.size ≤ gb229)); have n3_ := Aside0.mk ((by rw [hg]; exact (below_size (by repeat (first | (with_reducible first | exact HB.out | apply below_alloc | apply pw_below_drewN | apply below_drew1) | exact HB.out))) : w.heap.size ≤ gb229)); clear HB; have HB := n0_; have BK229 := n1_; have GW229 := n2_; have GE229 := n3_; clear n0_ n1_ n2_ n3_; clear hb hbox hg; have hcz9_0 : w8.cell? ⟨gb229, 0, none⟩ = some (.int .i64 a0_0) := (blk_cell BK229.out 0).trans rfl; have hcz9_1 : w8.cell? ⟨gb229, 1, none⟩ = some (.int .i64 a0_1) := (blk_cell BK229.out 1).trans rfl; have hcz9_2 : w8.cell? ⟨gb229, 2, none⟩ = some (.slice A0_2 l0_2.length c0_2) := (blk_cell BK229.out 2).trans rfl; have hfz9_0 := blk_frozen BK229.out 0; have hfz9_1 := blk_frozen BK229.out 1; have hfz9_2 := blk_frozen BK229.out 2) | ((with_reducible refine gate_callee (f := 64) rfl ?_); refine goesL_ (some 5) rfl rfl Try.func64 (by kernel_rfl) rfl #[.int .i64 a0_0, .int .i64 0, .int .i64 400] rfl (by (try simp only [List.map_toArray, List.map_cons, List.map_nil]); first | done | rfl | (simp only [List.length_drop, List.length_take]; rfl)) ?_; (with_reducible refine (impl_in.calls a0_0 0 400 true _ A2.out).mono ?_); rintro e w' ⟨rfl, ⟨nd, rfl⟩⟩; refine ⟨_, rfl, ?_⟩) | (go_at_call 64; (with_reducible refine (impl_in.calls a0_1 0 400 false _ A4.out).mono ?_); rintro e w' ⟨rfl, ⟨nd, rfl⟩⟩))
   go_ret
   exact ⟨by first | rfl | (simp [errW_none, errW_some] <;> rfl) | (simp [*, errW_none, errW_some] <;> rfl), by repeat (first | (with_reducible first | exact HB.out | apply below_alloc | apply pw_below_drewN | apply below_drew1 | refine below_set ?_ GE229.out) | exact HB.out)⟩
 ·replace c3 := Bool.eq_false_iff.mpr c3
  subst c3
  have H1 : (some false) = some r := by rw [if_neg (show ¬ (false = true) by decide)] at H; exact H
  clear H
  have H := H1
  clear H1
  obtain rfl := Option.some.inj H
  go_enter Try.func58, Try.ntmps58
  go_wp2_with (first | ((with_reducible refine gate_dst (N := 1) rfl ?_); (try (refine gate_guard (by rfl) ?_; dsimp only)); refine box_event ?hg (N := 1) ?hd (cs := #[.int .i64 a0_0, .int .i64 a0_1, .slice A0_2 l0_2.length c0_2]) (t := 42) ?hr ?_; (case hd => rfl); (case hg => rfl); (case hr => first | (go_simp; done) | (go_simp; rfl)); intro gb229 hg w10 hbox hb; have n0_ := Aside0.mk (below_step (by repeat (first | (with_reducible first | exact HB.out | apply below_alloc | apply pw_below_drewN | apply below_drew1) | exact HB.out)) hb); have n1_ := Aside0.mk (hbox); have n2_ := Aside0.mk ((by rw [hg]; exact (below_size (by repeat (first | (with_reducible first | exact HB.out | apply below_alloc | apply pw_below_drewN | apply below_drew1) | exact HB.out))) : w.heap.size ≤ gb229)); have n3_ := Aside0.mk ((by rw [hg]; exact (below_size (by repeat (first | (with_reducible first | exact HB.out | apply below_alloc | apply pw_below_drewN | apply below_drew1) | exact HB.out))) : w.heap.size ≤ gb229)); clear HB; have HB := n0_; have BK229 := n1_; have GW229 := n2_; have GE229 := n3_; clear n0_ n1_ n2_ n3_; clear hb hbox hg; have hcz11_0 : w10.cell? ⟨gb229, 0, none⟩ = some (.int .i64 a0_0) := (blk_cell BK229.out 0).trans rfl; have hcz11_1 : w10.cell? ⟨gb229, 1, none⟩ = some (.int .i64 a0_1) := (blk_cell BK229.out 1).trans rfl; have hcz11_2 : w10.cell? ⟨gb229, 2, none⟩ = some (.slice A0_2 l0_2.length c0_2) := (blk_cell BK229.out 2).trans rfl; have hfz11_0 := blk_frozen BK229.out 0; have hfz11_1 := blk_frozen BK229.out 1; have hfz11_2 := blk_frozen BK229.out 2) | ((with_reducible refine gate_callee (f := 64) rfl ?_); refine goesL_ (some 5) rfl rfl Try.func64 (by kernel_rfl) rfl #[.int .i64 a0_0, .int .i64 0, .int .i64 400] rfl (by (try simp only [List.map_toArray, List.map_cons, List.map_nil]); first | done | rfl | (simp only [List.length_drop, List.length_take]; rfl)) ?_; (with_reducible refine (impl_in.calls a0_0 0 400 false _ A2.out).mono ?_); rintro e w' ⟨rfl, ⟨nd, rfl⟩⟩; refine ⟨_, rfl, ?_⟩))
  go_ret
  exact ⟨by first | rfl | (simp [errW_none, errW_some] <;> rfl) | (simp [*, errW_none, errW_some] <;> rfl), by repeat (first | (with_reducible first | exact HB.out | apply below_alloc | apply pw_below_drewN | apply below_drew1 | refine below_set ?_ GE229.out) | exact HB.out)⟩


/-! ### impl_Lease_66: function 66 -/
def BS.c3 (a b : Int) : Int := if a < b then -1 else if b < a then 1 else 0
def BS.cmp (x y : S34) : Int := if BS.c3 x.f0 y.f0 = 0 then (if BS.c3 x.f1 y.f1 = 0 then BS.c3 x.f2 y.f2 else BS.c3 x.f1 y.f1) else BS.c3 x.f0 y.f0
theorem BS.compare_f (a b : Int) : cmp_Compare_int.f a b = some (BS.c3 a b) := by
 simp [cmp_Compare_int.f, cmp_isNaN_int.f, BS.c3]
 split
 ·rfl
 ·split <;> rfl
theorem BS.cmp_f (x y : S34) : impl_compareLeases.f 5 x.f0 x.f1 x.f2 x.f3 y.f0 y.f1 y.f2 y.f3 = some (BS.cmp x y) := by
 simp only [impl_compareLeases.f, BS.compare_f, Option.bind_some, cmp_Or_int.f, cmp_Or_int.l0, BS.cmp]
 generalize BS.c3 x.f0 y.f0 = a
 generalize BS.c3 x.f1 y.f1 = b
 generalize BS.c3 x.f2 y.f2 = c
 by_cases h1 : a = 0 <;> by_cases h2 : b = 0 <;> by_cases h3 : c = 0 <;> simp [h1, h2, h3, rd, wrap64]
/-- The halving, from i to j. -/
def BS.at_ (l : List S34) (x : S34) : Nat → Nat → Nat → Nat
 | 0, i, _ => i
 | n + 1, i, j => if i < j then (if BS.cmp (rd_T34 l (((i + j) / 2 : Nat) : Int)) x < 0 then BS.at_ l x n ((i + j) / 2 + 1) j else BS.at_ l x n i ((i + j) / 2)) else i
def BS.pos (l : List S34) (x : S34) : Nat := BS.at_ l x l.length 0 l.length
def BS.found (l : List S34) (x : S34) : Bool := decide (BS.pos l x < l.length) && (BS.cmp (rd_T34 l (BS.pos l x : Int)) x == 0)
theorem BS.at_done (l : List S34) (x : S34) (n i : Nat) : BS.at_ l x n i i = i := by
 cases n with
 | zero => rfl
 | succ n => unfold BS.at_; rw [if_neg (by omega)]
set_option maxHeartbeats 4000000 in
set_option maxRecDepth 1000000 in
/-- slices.BinarySearchFunc at compareLeases. -/
theorem BS.calls (A0 : Option Addr) (c0 : Nat) (l0 : List S34) (x : S34) (w : World) (hr0 : Kd.C k34 w A0 l0.length l0) (hl : l0.length ≤ 1048576) :
  Calls Try.prog 66 #[.slice A0 l0.length c0, .agg #[.int .i64 x.f0, .int .i64 x.f1, .int .i64 x.f2, .int .i64 x.f3], .func (.func 62) #[] #[]] w fun e w' => e = .returned (.tuple #[.int .i64 (BS.pos l0 x : Int), .bool (BS.found l0 x)]) ∧ BS.pos l0 x ≤ l0.length ∧ Below w.heap.size w w' := by
 have HR := Aside0.mk hr0
 have HL := Aside0.mk hl
 have hbk := blk_new w (.cells #[.int .i64 x.f0, .int .i64 x.f1, .int .i64 x.f2, .int .i64 x.f3] 34 (0, 0))
 have HG := Aside0.mk hbk
 have HB0 := Aside0.mk (below_alloc (Below.refl w.heap.size w) (.cells #[.int .i64 x.f0, .int .i64 x.f1, .int .i64 x.f2, .int .i64 x.f3] 34 (0, 0)))
 clear hr0 hl hbk
 go_enter Try.func66, Try.ntmps66
 go_wp2
 go_loopg [9, 10] (l0.length + 1) (fun kx v9 v10 w' => ∃ (i j n : Nat), v9 = .int .i64 (i : Int) ∧ v10 = .int .i64 (j : Int) ∧ Aside0 (i ≤ j ∧ j ≤ l0.length ∧ j - i ≤ n ∧ n < kx) ∧ Aside0 (BS.at_ l0 x n i j = BS.pos l0 x) ∧ Aside0 (Below w.heap.size w w' ∧ w'.heap[w.heap.size]? = some (.cells #[.int .i64 x.f0, .int .i64 x.f1, .int .i64 x.f2, .int .i64 x.f3] 34 (0, 0))))
 case atStart => exact ⟨0, l0.length, l0.length, rfl, rfl, ⟨by omega, by omega, by omega, by omega⟩, ⟨rfl⟩, ⟨HB0.out, HG.out⟩⟩
 case round =>
  obtain ⟨i, j, n, rfl, rfl, HI, HA, HB⟩ := hrel
  by_cases hij : i < j
  ·have c1 : decide (i < j) = true := decide_eq_true hij
   have hi := HI.out
   have h1 := HL.out
   have hm : ((i : Int) + (j : Int)) / 2 = (((i + j) / 2 : Nat) : Int) := by omega
   have hn : BS.at_ l0 x n i j = if BS.cmp (rd_T34 l0 (((i + j) / 2 : Nat) : Int)) x < 0 then BS.at_ l0 x (n - 1) ((i + j) / 2 + 1) j else BS.at_ l0 x (n - 1) i ((i + j) / 2) := by
    obtain ⟨n, rfl⟩ : ∃ q, n = q + 1 := ⟨n - 1, by omega⟩
    show BS.at_ l0 x (n + 1) i j = _
    unfold BS.at_
    rw [if_pos (by omega)]
    cases n <;> rfl
   have hb : i ≤ (i + j) / 2 ∧ (i + j) / 2 < j := by omega
   have HM := Aside0.mk hm
   clear hm hij
   go_wp2
   rw [HM.out]
   generalize (i + j) / 2 = m at hn hb HM ⊢
   rw [HA.out] at hn
   have HN := Aside0.mk hn
   have h0m : 0 ≤ (m : Int) := by omega
   have h1m : (m : Int) < (l0.length : Int) := by omega
   obtain ⟨ad, e1_, hx0, hx1, hx2, hx3⟩ := at_T34 HR.out (m : Int) h0m h1m
   subst e1_
   rw [Int.toNat_natCast] at hx0 hx1 hx2 hx3
   have hx0 := (HB.out.1.cell (World.block_lt_of_cell? w _ hx0)).trans hx0
   have hx1 := (HB.out.1.cell (World.block_lt_of_cell? w _ hx1)).trans hx1
   have hx2 := (HB.out.1.cell (World.block_lt_of_cell? w _ hx2)).trans hx2
   have hx3 := (HB.out.1.cell (World.block_lt_of_cell? w _ hx3)).trans hx3
   have y0 : wr.cell? ⟨w.heap.size, 0, none⟩ = some (.int .i64 x.f0) := (blk_cell HB.out.2 0).trans rfl
   have y1 : wr.cell? ⟨w.heap.size, 1, none⟩ = some (.int .i64 x.f1) := (blk_cell HB.out.2 1).trans rfl
   have y2 : wr.cell? ⟨w.heap.size, 2, none⟩ = some (.int .i64 x.f2) := (blk_cell HB.out.2 2).trans rfl
   have y3 : wr.cell? ⟨w.heap.size, 3, none⟩ = some (.int .i64 x.f3) := (blk_cell HB.out.2 3).trans rfl
   clear hn
   generalize hrd : rd_T34 l0 (m : Int) = y at *
   have HRD := Aside0.mk hrd
   clear hrd
   go_region_held3 (fun w' => w'.cell? (ad.add (m * 4)) = some (.int .i64 y.f0) ∧ w'.cell? ⟨(ad.add (m * 4)).block, (ad.add (m * 4)).off + 1, none⟩ = some (.int .i64 y.f1) ∧ w'.cell? ⟨(ad.add (m * 4)).block, (ad.add (m * 4)).off + 2, none⟩ = some (.int .i64 y.f2) ∧ w'.cell? ⟨(ad.add (m * 4)).block, (ad.add (m * 4)).off + 3, none⟩ = some (.int .i64 y.f3) ∧ w'.cell? ⟨w.heap.size, 0, none⟩ = some (.int .i64 x.f0) ∧ w'.cell? ⟨w.heap.size, 1, none⟩ = some (.int .i64 x.f1) ∧ w'.cell? ⟨w.heap.size, 2, none⟩ = some (.int .i64 x.f2) ∧ w'.cell? ⟨w.heap.size, 3, none⟩ = some (.int .i64 x.f3)) (first | go_keep | (go_split_ands; refine ⟨?_, ?_, ?_, ?_, ?_, ?_, ?_, ?_⟩ <;> exact (hb3.cell (World.block_lt_of_cell? _ _ (by assumption))).trans (by assumption))) ((go_at_call 62; refine (impl_compareLeases.calls 5 y.f0 y.f1 y.f2 y.f3 x.f0 x.f1 x.f2 x.f3 (BS.cmp y x) _ (BS.cmp_f y x)).mono ?_; rintro e w3 ⟨rfl, hb3⟩))
   have HB3 := Aside0.mk (And.intro (below_step (below_drew1 HB.out.1) hb3) (blk_below (blk_drew HB.out.2) hb3))
   clear hx0 hx1 hx2 hx3 y0 y1 y2 y3 hb3 HB
   rename_i hH_
   clear hH_
   by_cases hc : BS.cmp y x < 0
   ·have hcb : decide (BS.cmp y x < 0) = true := decide_eq_true hc
    have HC := Aside0.mk hc
    clear hc
    rw [hcb]
    clear hcb
    go_wp2
    go_roundg n
    case measure => omega
    case rel => exact ⟨m + 1, j, n - 1, by first | rfl | (congr 1; omega), rfl, ⟨by omega, by omega, by omega, by omega⟩, ⟨by rw [HN.out, if_pos HC.out]⟩, HB3⟩
   ·have hcb : decide (BS.cmp y x < 0) = false := decide_eq_false hc
    have HC := Aside0.mk hc
    clear hc
    rw [hcb]
    clear hcb
    go_wp2
    go_roundg n
    case measure => omega
    case rel => exact ⟨i, m, n - 1, rfl, rfl, ⟨by omega, by omega, by omega, by omega⟩, ⟨by rw [HN.out, if_neg (by have := HC.out; omega)]⟩, HB3⟩
  ·have c1 : decide (i < j) = false := decide_eq_false hij
   have hi := HI.out
   have hji : j = i := by omega
   subst hji
   have hp := HA.out
   rw [BS.at_done] at hp
   have HP := Aside0.mk hp
   clear hp hij
   have hil : j ≤ l0.length := hi.2.1
   by_cases hlt : j < l0.length
   ·have c2 : decide (j < l0.length) = true := decide_eq_true hlt
    have h1 := HL.out
    have h0m : 0 ≤ (j : Int) := by omega
    have h1m : (j : Int) < (l0.length : Int) := by omega
    obtain ⟨ad, e1_, hx0, hx1, hx2, hx3⟩ := at_T34 HR.out (j : Int) h0m h1m
    subst e1_
    rw [Int.toNat_natCast] at hx0 hx1 hx2 hx3
    have hx0 := (HB.out.1.cell (World.block_lt_of_cell? w _ hx0)).trans hx0
    have hx1 := (HB.out.1.cell (World.block_lt_of_cell? w _ hx1)).trans hx1
    have hx2 := (HB.out.1.cell (World.block_lt_of_cell? w _ hx2)).trans hx2
    have hx3 := (HB.out.1.cell (World.block_lt_of_cell? w _ hx3)).trans hx3
    have y0 : wr.cell? ⟨w.heap.size, 0, none⟩ = some (.int .i64 x.f0) := (blk_cell HB.out.2 0).trans rfl
    have y1 : wr.cell? ⟨w.heap.size, 1, none⟩ = some (.int .i64 x.f1) := (blk_cell HB.out.2 1).trans rfl
    have y2 : wr.cell? ⟨w.heap.size, 2, none⟩ = some (.int .i64 x.f2) := (blk_cell HB.out.2 2).trans rfl
    have y3 : wr.cell? ⟨w.heap.size, 3, none⟩ = some (.int .i64 x.f3) := (blk_cell HB.out.2 3).trans rfl
    have hfo : BS.found l0 x = (BS.cmp (rd_T34 l0 (j : Int)) x == 0) := by
     unfold BS.found
     rw [← HP.out, decide_eq_true hlt, Bool.true_and]
    have HF := Aside0.mk hfo
    clear hfo hlt
    generalize hrd : rd_T34 l0 (j : Int) = y at *
    have HRD := Aside0.mk hrd
    clear hrd
    go_wp2
    go_region_held3 (fun w' => w'.cell? (ad.add (j * 4)) = some (.int .i64 y.f0) ∧ w'.cell? ⟨(ad.add (j * 4)).block, (ad.add (j * 4)).off + 1, none⟩ = some (.int .i64 y.f1) ∧ w'.cell? ⟨(ad.add (j * 4)).block, (ad.add (j * 4)).off + 2, none⟩ = some (.int .i64 y.f2) ∧ w'.cell? ⟨(ad.add (j * 4)).block, (ad.add (j * 4)).off + 3, none⟩ = some (.int .i64 y.f3) ∧ w'.cell? ⟨w.heap.size, 0, none⟩ = some (.int .i64 x.f0) ∧ w'.cell? ⟨w.heap.size, 1, none⟩ = some (.int .i64 x.f1) ∧ w'.cell? ⟨w.heap.size, 2, none⟩ = some (.int .i64 x.f2) ∧ w'.cell? ⟨w.heap.size, 3, none⟩ = some (.int .i64 x.f3)) (first | go_keep | (go_split_ands; refine ⟨?_, ?_, ?_, ?_, ?_, ?_, ?_, ?_⟩ <;> exact (hb3.cell (World.block_lt_of_cell? _ _ (by assumption))).trans (by assumption))) ((go_at_call 62; refine (impl_compareLeases.calls 5 y.f0 y.f1 y.f2 y.f3 x.f0 x.f1 x.f2 x.f3 (BS.cmp y x) _ (BS.cmp_f y x)).mono ?_; rintro e w3 ⟨rfl, hb3⟩))
    have HB3 := Aside0.mk (below_step (below_drew1 HB.out.1) hb3)
    clear hx0 hx1 hx2 hx3 y0 y1 y2 y3 hb3 HB
    go_wp2
    go_ret2
    exact ⟨by rw [← HP.out, HF.out]; rfl, by rw [← HP.out]; exact hil, HB3.out⟩
   ·have c2 : decide (j < l0.length) = false := decide_eq_false hlt
    have hfo : BS.found l0 x = false := by
     unfold BS.found
     rw [← HP.out, decide_eq_false hlt, Bool.false_and]
    have HF := Aside0.mk hfo
    clear hfo hlt
    go_wp2
    go_quiet (fail)
    go_wp2
    go_ret2
    exact ⟨by rw [← HP.out, HF.out]; rfl, by rw [← HP.out]; exact hil, by repeat (first | exact HB.out.1 | apply below_alloc | apply pw_below_drewN | apply below_drew1)⟩


/-! ### impl_Lease_73: function 73 -/
/-- A lease's cells. -/
def INS.cells (x : S34) : List Value := [.int .i64 x.f0, .int .i64 x.f1, .int .i64 x.f2, .int .i64 x.f3]
def INS.flat (l : List S34) : List Value := l.flatMap INS.cells
theorem INS.flat_length (l : List S34) : (INS.flat l).length = l.length * 4 := by
 induction l with
 | nil => rfl
 | cons a l ih => unfold INS.flat at *; rw [List.flatMap_cons, List.length_append, ih, List.length_cons]; show 4 + l.length * 4 = _; omega
theorem INS.flat_app (a b : List S34) : INS.flat (a ++ b) = INS.flat a ++ INS.flat b := List.flatMap_append ..
theorem INS.flat_one (l : List S34) : ∀ u ∈ INS.flat l, u.oneCell' = true := by
 intro u hu
 unfold INS.flat at hu
 obtain ⟨x, _, hx⟩ := List.mem_flatMap.1 hu
 simp only [INS.cells, List.mem_cons, List.mem_nil_iff, or_false] at hx
 rcases hx with rfl | rfl | rfl | rfl <;> rfl
theorem INS.flat_take (l : List S34) (p : Nat) : INS.flat (l.take p) = (INS.flat l).take (p * 4) := by
 by_cases h : p ≤ l.length
 ·conv => rhs; rw [← List.take_append_drop p l, INS.flat_app]
  rw [List.take_left' (by rw [INS.flat_length, List.length_take]; omega)]
 ·rw [List.take_of_length_le (by omega), List.take_of_length_le (by rw [INS.flat_length]; omega)]
theorem INS.flat_drop (l : List S34) (p : Nat) : INS.flat (l.drop p) = (INS.flat l).drop (p * 4) := by
 by_cases h : p ≤ l.length
 ·conv => rhs; rw [← List.take_append_drop p l, INS.flat_app]
  rw [List.drop_left' (by rw [INS.flat_length, List.length_take]; omega)]
 ·rw [List.drop_of_length_le (by omega), List.drop_of_length_le (by rw [INS.flat_length]; omega)]
  rfl
theorem INS.reps {W : World} {base : Nat} {ok : Nat → Prop} : ∀ (l : List S34) (inner : List Value), Reps (k34.M W base ok) 4 l inner ↔ inner = INS.flat l := by
 intro l
 induction l with
 | nil =>
  intro inner
  constructor
  ·intro h; exact List.eq_nil_of_length_eq_zero (by have := h.1; simpa using this)
  ·rintro rfl; exact Reps.none _ _
 | cons a l ih =>
  intro inner
  constructor
  ·intro h
   have h0 := h.2 0 a rfl
   have h1 := k34_openM h0
   have hd := Kd.reps_drop (m := 1) h
   rw [List.drop_one, List.tail_cons] at hd
   have h2 := (ih _).1 hd
   have h3 := List.take_append_drop 4 inner
   rw [Nat.zero_mul, List.drop_zero] at h1
   rw [Nat.one_mul] at h2
   rw [h1, h2] at h3
   rw [← h3]
   rfl
  ·rintro rfl
   have h1 : Reps (k34.M W base ok) 4 [a] (INS.cells a) := by
    constructor
    ·rfl
    ·intro j p hj
     have hj0 : j = 0 := by
      have := (List.getElem?_eq_some_iff.1 hj).1
      simp at this
      exact this
     subst hj0
     obtain rfl : a = p := by simpa using hj
     exact k34_mkM _ _ _ a
   exact Kd.reps_append h1 ((ih _).2 rfl)
/-- A row of the call's own that is not nil, as cells. -/
theorem INS.open_ {W : World} {base g n c : Nat} {ok : Nat → Prop} {l : List S34} (HO : Kd.R k34 34 W base ok (.slice (some ⟨g, 0, none⟩) n c) l) :
  n = l.length ∧ ∃ cur : Array Value, W.heap[g]? = some (.cells cur 34 (0, 0)) ∧ cur.size = c * 4 ∧ cur.toList.take (n * 4) = INS.flat l ∧ n ≤ c ∧ c ≤ maxLen ∧ base ≤ g ∧ ok g := by
 obtain ⟨hl, hnc, _⟩ := Kd.R_reads' HO
 obtain ⟨hok, inner, hown, hr⟩ := HO
 have hin := (INS.reps l inner).1 hr
 have hok' := hok g (by simp [Value.ownBlock])
 rcases hown.2 with ⟨hv, _⟩ | ⟨g', cap', cur, hv, hb, hh, hz_, hcm, hcs, htake⟩
 ·cases hv
 injection hv with ha _ hc
 injection ha with ha
 injection ha with hg
 subst hg; subst hc
 rw [← hl] at htake
 exact ⟨hl, cur, hh, hcs, by rw [← hin]; exact htake, hnc, hcm, hb, hok'⟩
theorem INS.shut {W : World} {base g n c : Nat} {ok : Nat → Prop} {l : List S34} {cur : Array Value} (hl : n = l.length) (hh : W.heap[g]? = some (.cells cur 34 (0, 0))) (hcs : cur.size = c * 4) (ht : cur.toList.take (n * 4) = INS.flat l) (hnc : n ≤ c) (hcm : c ≤ maxLen) (hb : base ≤ g) (hok : ok g) :
  Kd.R k34 34 W base ok (.slice (some ⟨g, 0, none⟩) n c) l := by
 subst hl
 refine ⟨fun k hk => ?_, INS.flat l, ⟨?_, .inr ⟨g, c, cur, rfl, hb, hh, hnc, hcm, hcs, ht⟩⟩, (INS.reps l _).2 rfl⟩
 ·have : k = g := by simpa [Value.ownBlock] using hk.symm
  subst this; exact hok
 ·exact INS.flat_length l
/-- copy, of leases, onto a row. -/
theorem INS.copy {W : World} {g : Nat} {cur : Array Value} (hg : W.heap[g]? = some (.cells cur 34 (0, 0))) (o dLen dCap : Nat) (a : Addr) (sLen sCap : Nat) (cs : List Value) (hn : cs.length = Nat.min sLen dLen * 4)
  (hsrc : ∀ j v, cs[j]? = some v → W.cell? (a.add j) = some v) (hfit : o + cs.length ≤ cur.size) (h1 : ∀ v ∈ cs, v.oneCell' = true) :
  ∃ (w1 : World) (cur' : Array Value), (∀ ty, (Builtin.copy_ #[24, 24] ty #[.slice (some ⟨g, o, none⟩) dLen dCap, .slice (some a) sLen sCap]).run Try.prog W = .ok (goInt (Nat.min sLen dLen)) w1) ∧
   w1.heap[g]? = some (.cells cur' 34 (0, 0)) ∧ cur'.size = cur.size ∧ cur'.toList = cur.toList.take o ++ cs ++ cur.toList.drop (o + cs.length) ∧ W.grownBy w1 (some g) := by
 have hst := run_storeCells_cells (P := Try.prog) g o cs 0 W (fun j hj => by rw [Nat.add_zero, cell_of_row W g _ cur 34 (0, 0) hg]; simp; omega) (fun j _ => blk_frozen hg _) h1
 rw [Nat.add_zero] at hst
 obtain ⟨cur', h3, h4, h5⟩ := setCells_row cs o W cur hg hfit
 obtain ⟨s1, s2, s3, s4⟩ := setCells_same g cs o W
 refine ⟨W.setCells g o cs, cur', fun ty => ?_, h3, h4, h5, ⟨s1, s2, s3, by rw [s4]; exact Nat.le_refl _, fun k' _ hk' => setCells_far _ _ k' (fun he => hk' (by rw [he]))⟩⟩
 have hf := run_firstCells_some (P := Try.prog) (w := W) 4 (Nat.min sLen dLen) a sLen sCap cs hn hsrc
 have hsz : ∀ w, (sizeOf 34).run Try.prog w = .ok 4 w := fun w => by kernel_rfl
 simp [Builtin.copy_, run_underlying Try.underlying24, Builtin.lenOf, hsz, hf, hst]
theorem INS.one {w : World} {vb : Nat} {x : S34} (h : w.heap[vb]? = some (.cells #[.int .i64 x.f0, .int .i64 x.f1, .int .i64 x.f2, .int .i64 x.f3] 34 (0, 0))) : Kd.C k34 w (some ⟨vb, 0, none⟩) [x].length [x] := by
 refine ⟨rfl, by simp, fun _ => ⟨_, rfl, ?_⟩⟩
 intro j p hj
 have hj0 : j = 0 := by
  have := (List.getElem?_eq_some_iff.1 hj).1
  simp at this
  exact this
 subst hj0
 obtain rfl : x = p := by simpa using hj
 refine ⟨[.int .i64 x.f0, .int .i64 x.f1, .int .i64 x.f2, .int .i64 x.f3], rfl, k34_mk _ x, ?_⟩
 intro i u hu
 rw [Nat.zero_mul, Nat.zero_add]
 rw [show (⟨vb, 0, none⟩ : Addr).add i = ⟨vb, i, none⟩ by unfold Addr.add; split <;> simp_all]
 rw [blk_cell h i, ← Array.getElem?_toList]
 exact hu
set_option maxHeartbeats 4000000 in
set_option maxRecDepth 1000000 in
/-- slices.Insert at the end. -/
theorem INS.end_ (w0 w : World) (ok : Nat → Prop) (v : Value) (l0 : List S34) (x : S34) (vb : Nat) (hB : Below w0.heap.size w0 w) (ho : Kd.R k34 34 w w0.heap.size ok v l0) (hfr : ∀ k, w.heap.size ≤ k → ok k) (hl : l0.length ≤ 1048576) (hvb : w.heap[vb]? = some (.cells #[.int .i64 x.f0, .int .i64 x.f1, .int .i64 x.f2, .int .i64 x.f3] 34 (0, 0))) :
  Calls Try.prog 73 #[v, .int .i64 (l0.length : Int), .slice (some ⟨vb, 0, none⟩) 1 1] w fun e w' => ∃ v0_ : Value, e = .returned v0_ ∧ Kd.R k34 34 w' w0.heap.size ok v0_ (l0 ++ [x]) ∧ Below w0.heap.size w0 w' := by
 have hu_ := Try.underlying34
 obtain ⟨Ao, co, eo⟩ := Kd.R_slice ho
 subst eo
 by_cases hcl_ : co = l0.length
 ·subst hcl_
  have HO := Aside0.mk ho
  have HB := Aside0.mk hB
  have HL := Aside0.mk hl
  have HX := Aside0.mk (INS.one hvb)
  have HF := Aside0.mk hfr
  obtain ⟨_, hnc, _⟩ := Kd.R_reads' ho
  clear ho hB hl hvb hfr
  have h0p : (0 : Int) ≤ (l0.length : Int) := by omega
  have hlc : (l0.length : Int) ≤ (l0.length : Int) := by omega
  go_enter Try.func73, Try.ntmps73
  go_wp2_with (first | ((with_reducible refine gate_builtin (b := .append) (xs := #[.tmp 23, .tmp 24]) rfl ?_); at_builtin; refine Kd.R_append_rows k34 (w0 := w0) w0.heap.size rfl (.tmp 23) (.tmp 24) 24 34 (.agg #[(.int .i64 0), (.int .i64 0), (.int .i64 0), (.int .i64 0)]) 32 rfl Try.underlying24 info34 rfl (by decide) (by omega) _ l0 [x] _ _ _ ok (fun _ => False) rfl rfl ?aO ?aR (fun _ _ h => h) (fun _ h => h.elim) ?aF ?aB ?aS ?aL ?_; (case aR => exact HX.out); (case aB => exact HB.out); (case aF => exact HF.out); (case aO => exact HO.out); (case aS => exact (below_size HB.out)); (case aL => have := HL.out; (try simp only [List.length_singleton]); omega); intro v2 w2 ho2 hb2 hg2 hat2; have HO2 := Aside0.mk ho2; have HB2 := Aside0.mk hb2; clear ho2 hb2 hg2 hat2))
  go_ret
  exact ⟨_, rfl, HO2.out, HB2.out⟩
 ·have hcl2 : ¬ co = l0.length := hcl_
  have HO := Aside0.mk ho
  have HB := Aside0.mk hB
  have HL := Aside0.mk hl
  have HX := Aside0.mk (INS.one hvb)
  have HF := Aside0.mk hfr
  obtain ⟨_, hnc, _⟩ := Kd.R_reads' ho
  clear ho hB hl hvb hfr
  have h0p : (0 : Int) ≤ (l0.length : Int) := by omega
  have hlc : (l0.length : Int) ≤ (co : Int) := by omega
  go_enter Try.func73, Try.ntmps73
  go_wp2_with (first | ((with_reducible refine gate_builtin (b := .append) (xs := #[.tmp 23, .tmp 24]) rfl ?_); at_builtin; refine Kd.R_append_rows k34 (w0 := w0) w0.heap.size rfl (.tmp 23) (.tmp 24) 24 34 (.agg #[(.int .i64 0), (.int .i64 0), (.int .i64 0), (.int .i64 0)]) 32 rfl Try.underlying24 info34 rfl (by decide) (by omega) _ l0 [x] _ _ _ ok (fun _ => False) rfl rfl ?aO ?aR (fun _ _ h => h) (fun _ h => h.elim) ?aF ?aB ?aS ?aL ?_; (case aR => exact HX.out); (case aB => exact HB.out); (case aF => exact HF.out); (case aO => exact HO.out); (case aS => exact (below_size HB.out)); (case aL => have := HL.out; (try simp only [List.length_singleton]); omega); intro v2 w2 ho2 hb2 hg2 hat2; have HO2 := Aside0.mk ho2; have HB2 := Aside0.mk hb2; clear ho2 hb2 hg2 hat2))
  go_ret
  exact ⟨_, rfl, HO2.out, HB2.out⟩
theorem INS.lists {F C D R X C1 C2 : List Value} {p n : Nat} (hF : F.length = n * 4) (hp : p < n) (ht : C.take (n * 4) = F) (hC : (n + 1) * 4 ≤ C.length) (hX : X.length = 4) (hD : D = F.drop (p * 4)) (h1 : C1 = C.take ((p + 1) * 4) ++ D ++ R) (h2 : C2 = C1.take (p * 4) ++ X ++ C1.drop (p * 4 + X.length)) :
  C2.take ((n + 1) * 4) = F.take (p * 4) ++ X ++ F.drop (p * 4) := by
 have e1 : C1.take (p * 4) = F.take (p * 4) := by
  rw [h1, List.append_assoc, List.take_append_of_le_length (by rw [List.length_take]; omega), List.take_take, ← ht, List.take_take, Nat.min_eq_left (by omega), Nat.min_eq_left (by omega)]
 have e2 : C1.drop (p * 4 + X.length) = D ++ R := by
  rw [h1, List.append_assoc, List.drop_left' (by rw [List.length_take]; omega)]
 rw [h2, e1, e2, ← List.append_assoc, ← hD]
 exact List.take_left' (by simp only [List.length_append, List.length_take, hX, hD, List.length_drop, hF]; omega)
theorem INS.body (w : World) {vb g : Nat} (cv cg : Array Value) (hne : vb ≠ g) (h1 : w.heap[vb]? = some (.cells cv 34 (0, 0))) (h2 : w.heap[g]? = some (.cells cg 34 (0, 0))) (hc : cg.size ≠ 0) (o : Nat) (lb cb : Nat) :
  (callFunc 82 #[.slice (some ⟨vb, 0, none⟩) 1 1, .slice (some ⟨g, o, none⟩) lb cb]).run Try.prog w = .ok (.value (.bool false)) w := by
 rw [run_callFunc_extern Try.func82 (by kernel_rfl) (by kernel_rfl) (by kernel_rfl) (e := Extern.SlicesOverlaps.overlaps #[24, 24] #[4]) (by kernel_rfl)]
 rw [Lib.run_overlaps_apart w 24 4 34 Try.underlying24 4 (fun w => by kernel_rfl) ⟨vb, 0, none⟩ ⟨g, o, none⟩ 1 1 lb cb hne 34 34 cv.size cg.size (by simp [World.shape?, h1]) (by simp [World.shape?, h2]) hc (blk_frozen h1 _) (blk_frozen h1 _)]
 rfl
set_option maxHeartbeats 4000000 in
set_option maxRecDepth 1000000 in
/-- slices.Insert, there is room: in place. -/
theorem INS.room (w0 w : World) (ok : Nat → Prop) (g c : Nat) (l0 : List S34) (p : Nat) (x : S34) (vb : Nat) (hB : Below w0.heap.size w0 w) (ho : Kd.R k34 34 w w0.heap.size ok (.slice (some ⟨g, 0, none⟩) l0.length c) l0) (hl : l0.length ≤ 1048576) (hp : p < l0.length) (hroom : l0.length + 1 ≤ c) (hvb : w.heap[vb]? = some (.cells #[.int .i64 x.f0, .int .i64 x.f1, .int .i64 x.f2, .int .i64 x.f3] 34 (0, 0))) (hne : vb ≠ g) :
  Calls Try.prog 73 #[.slice (some ⟨g, 0, none⟩) l0.length c, .int .i64 (p : Int), .slice (some ⟨vb, 0, none⟩) 1 1] w fun e w' => ∃ v0_ : Value, e = .returned v0_ ∧ Kd.R k34 34 w' w0.heap.size ok v0_ (l0.take p ++ x :: l0.drop p) ∧ Below w0.heap.size w0 w' := by
 have hu_ := Try.underlying34
 obtain ⟨_, cur, hh, hcs, ht, hnc, hcm, hbg, hokg⟩ := INS.open_ ho
 have hov := fun (o lb cb : Nat) => INS.body w _ cur hne hvb hh (by omega) o lb cb
 have hx := hvb
 have HB := Aside0.mk hB
 obtain ⟨n, hn⟩ : ∃ n, n = l0.length := ⟨_, rfl⟩
 rw [← hn] at ho hl hp hroom ht hnc ⊢
 clear ho hB hnc
 have h0p : (0 : Int) ≤ (p : Int) := by omega
 have h1p : (p : Int) ≤ (n : Int) := by omega
 have h2p : ((p : Int) == (n : Int)) = false := beq_eq_false_iff_ne.2 (by omega)
 have h2q : (p == n) = false := beq_eq_false_iff_ne.2 (by omega)
 have h3p : (n : Int) + 1 ≤ (c : Int) := by omega
 have h4p : decide ((c : Int) < (n : Int) + 1) = false := decide_eq_false (by omega)
 have h5p : (0 : Int) ≤ (n : Int) + 1 := by omega
 have h6p : (0 : Int) ≤ (p : Int) + 1 := by omega
 have h7p : (p : Int) + 1 ≤ (n : Int) + 1 := by omega
 have h8p : (p : Int) ≤ (n : Int) + 1 := by omega
 have hb2 : ¬ (c = p + 1) := by omega
 have hb4 : ¬ (c = p) := by omega
 have HH := Aside0.mk (And.intro hh (And.intro hcs (And.intro ht (And.intro hcm (And.intro hbg hokg)))))
 have HV := Aside0.mk (And.intro hx hne)
 have HN := Aside0.mk hn
 clear hh hcs ht hcm hbg hokg hx hne hvb hn
 go_enter Try.func73, Try.ntmps73
 go_wp2_with (simp only [hov])
 obtain ⟨hh, hcs, ht, hcm, hbg, hokg⟩ := HH.out
 have hn := HN.out
 have hfl : (INS.flat l0).length = n * 4 := by rw [INS.flat_length, hn]
 have hcl : cur.toList.length = c * 4 := by rw [Array.length_toList, hcs]
 obtain ⟨w1, cur1, hr1, hh1, hs1, ht1, hg1⟩ := INS.copy (W := w.drew) (blk_drew hh) ((p + 1) * 4) (n - p) (c - (p + 1)) ⟨g, p * 4, none⟩ (n + 1 - p) (c - p) ((INS.flat l0).drop (p * 4)) (by rw [List.length_drop, hfl]; show _ = (min (n + 1 - p) (n - p)) * 4; omega) (fun j u hu => by
  rw [show (⟨g, p * 4, none⟩ : Addr).add j = ⟨g, p * 4 + j, none⟩ by unfold Addr.add; split <;> simp_all]
  rw [blk_cell (blk_drew hh), ← Array.getElem?_toList, ← hu, List.getElem?_drop, ← ht, List.getElem?_take, if_pos]
  rw [List.getElem?_drop] at hu
  have := (List.getElem?_eq_some_iff.1 hu).1
  omega) (by rw [List.length_drop, hfl]; omega) (fun u hu => INS.flat_one l0 u (List.mem_of_mem_drop hu))
 have hb1 := HB.out.drew.grown hg1 (below_size HB.out.drew) (fun k hk => by injection hk with hk; subst hk; exact hbg)
 have hx1 := blk_grown (blk_drew HV.out.1) hg1 (fun e => HV.out.2 (by injection e))
 obtain ⟨w2, cur2, hr2, hh2, hs2, ht2, hg2⟩ := INS.copy (W := w1) hh1 (p * 4) (n + 1 - p) (c - p) ⟨vb, 0, none⟩ 1 1 (INS.cells x) (by show 4 = (min 1 (n + 1 - p)) * 4; omega) (fun j u hu => by
  rw [show (⟨vb, 0, none⟩ : Addr).add j = ⟨vb, j, none⟩ by unfold Addr.add; split <;> simp_all]
  rw [blk_cell hx1, ← Array.getElem?_toList]
  exact hu) (by rw [hs1, hcs]; show p * 4 + 4 ≤ _; omega) (fun u hu => INS.flat_one [x] u (by simpa [INS.flat] using hu))
 have hb2_ := hb1.grown hg2 (Nat.le_trans (below_size HB.out.drew) hg1.size) (fun k hk => by injection hk with hk; subst hk; exact hbg)
 have hr_ : Kd.R k34 34 w2 w0.heap.size ok (.slice (some ⟨g, 0, none⟩) (n + 1) c) (l0.take p ++ x :: l0.drop p) := by
  refine INS.shut (by rw [List.length_append, List.length_cons, List.length_take, List.length_drop]; omega) hh2 (by rw [hs2, hs1, hcs]) ?_ (by omega) hcm hbg hokg
  rw [INS.flat_app, ← List.singleton_append, INS.flat_app, INS.flat_take, INS.flat_drop, ← List.append_assoc]
  exact INS.lists hfl hp ht (by omega) (by rfl) rfl ht1 (by rw [ht2]; simp [INS.flat])
 have HR2 := Aside0.mk hr_
 have HB2 := Aside0.mk hb2_
 have HR1 := Aside0.mk hr1
 have HR22 := Aside0.mk hr2
 clear hr_ hb2_ hr1 hr2 hh hcs ht hcm hbg hokg hn hfl hcl hh1 hs1 ht1 hg1 hb1 hx1 hh2 hs2 ht2 hg2
 have htn : ((p : Int) + 1).toNat = p + 1 := by omega
 have hwp : IntKind.i64.wrap ((p : Int) + 1) = (p : Int) + 1 := by rw [IntKind.wrap_i64]; omega
 go_region_law (refine step_copy_runI rfl _ _ 24 24 rfl _ _ (by simp [Act.eval, Act.put]) (by simp [Act.eval, Act.put]) (HR1.out _) ?_)
 go_wp2_with ((with_reducible refine gate_builtin (b := .copy) (xs := #[.tmp 80, .tmp 81]) rfl ?_); refine wpList_copy_runI _ rfl _ _ 24 24 rfl _ _ rfl rfl (HR22.out _) ?_)
 go_ret
 exact ⟨_, rfl, HR2.out, HB2.out⟩
theorem INS.lists2 {F C D R X C1 C2 : List Value} {p n : Nat} (hF : F.length = n * 4) (hp : p < n) (ht : C.take (p * 4) = F.take (p * 4)) (hC : (n + 1) * 4 ≤ C.length) (hX : X.length = 4) (hD : D = F.drop (p * 4)) (h1 : C1 = C.take (p * 4) ++ X ++ C.drop (p * 4 + X.length)) (h2 : C2 = C1.take ((p + 1) * 4) ++ D ++ R) :
  C2.take ((n + 1) * 4) = F.take (p * 4) ++ X ++ F.drop (p * 4) := by
 have e1 : C1.take ((p + 1) * 4) = F.take (p * 4) ++ X := by
  rw [h1, ht]
  exact List.take_left' (by simp only [List.length_append, List.length_take, hX, hF]; omega)
 rw [h2, e1, ← hD]
 exact List.take_left' (by simp only [List.length_append, List.length_take, hX, hD, List.length_drop, hF]; omega)
/-- append(s[:p], make(.., n + 1 - p)...), no room: a new row. -/
theorem INS.zeros {w : World} {g n p : Nat} {cur : Array Value} {l : List S34} (hh : w.heap[g]? = some (.cells cur 34 (0, 0))) (ht : cur.toList.take (n * 4) = INS.flat l) (hn : n = l.length) (hp : p < n) (hl : n ≤ 1048576) :
  ∃ (W1 : World) (C : Nat) (cur1 : Array Value), (∀ ty, (Builtin.append_ #[24, 3] ty #[.slice (some ⟨g, 0, none⟩) p n, .int .i64 ((n : Int) + 1 - (p : Int))]).run Try.prog w = .ok (.slice (some ⟨w.heap.size, 0, none⟩) (n + 1) C) W1) ∧
   W1.heap[w.heap.size]? = some (.cells cur1 34 (0, 0)) ∧ cur1.size = C * 4 ∧ n + 1 ≤ C ∧ C ≤ maxLen ∧ cur1.toList.take (p * 4) = (INS.flat l).take (p * 4) ∧ Below w.heap.size w W1 := by
 obtain ⟨i0, hi, hz, hsz, hby⟩ := info_parts info34
 have hfl : (INS.flat l).length = n * 4 := by rw [INS.flat_length, hn]
 have hold : (Builtin.firstCells i0.size p (.slice (some ⟨g, 0, none⟩) p n)).run Try.prog w.drew = .ok (INS.flat (l.take p)).toArray w.drew := by
  rw [hsz]
  refine run_firstCells_some (w := w.drew) 4 p ⟨g, 0, none⟩ p n (INS.flat (l.take p)) (by rw [INS.flat_length, List.length_take]; omega) (fun j u hu => ?_)
  rw [show (⟨g, 0, none⟩ : Addr).add j = ⟨g, j, none⟩ by unfold Addr.add; split <;> simp_all]
  rw [INS.flat_take, ← ht, List.take_take, List.getElem?_take] at hu
  rw [blk_cell (blk_drew hh), ← Array.getElem?_toList]
  split at hu
  ·exact hu
  ·cases hu
 have h := fun ty => Lib.run_append_grow_zeros (P := Try.prog) w 24 3 ty 34 i0 _ .i64 .i64 Try.underlying24 Try.underlying3 hi hz (some ⟨g, 0, none⟩) p n (INS.flat (l.take p)) hold (n + 1 - p) (by omega) (by omega) (by omega) (by omega) (by rw [hby]; omega) (by rw [hby]; exact growslice_fits (by omega) (by omega))
 have e1 : p + (n + 1 - p) = n + 1 := by omega
 rw [e1] at h
 have e2 : ((n + 1 - p : Nat) : Int) = (n : Int) + 1 - (p : Int) := by omega
 rw [e2] at h
 have hge := grownCap_ge w (n + 1) n 34
 have hle := grownCap_le_maxLen w (n + 1) n 34 (by unfold maxLen; omega)
 refine ⟨_, _, _, h, blk_new w.drew _, ?_, hge, hle, ?_, below_alloc (below_drew1 (Below.refl _ _)) _⟩
 ·simp only [Array.size_append, List.size_toArray, size_zeroCells, INS.flat_length, List.length_take]
  show min p l.length * 4 + (n + 1 - p) * 4 + (grownCap w (n + 1) n 34 - (n + 1)) * 4 = _
  omega
 ·rw [Array.toList_append, Array.toList_append, List.append_assoc, List.toList_toArray, ← INS.flat_take]
  exact List.take_left' (by rw [INS.flat_length, List.length_take]; omega)
set_option maxHeartbeats 4000000 in
set_option maxRecDepth 1000000 in
/-- slices.Insert, there is no room: a new row. -/
theorem INS.grow (w0 w : World) (ok : Nat → Prop) (g : Nat) (l0 : List S34) (p : Nat) (x : S34) (vb : Nat) (hB : Below w0.heap.size w0 w) (ho : Kd.R k34 34 w w0.heap.size ok (.slice (some ⟨g, 0, none⟩) l0.length l0.length) l0) (hfr : ∀ k, w.heap.size ≤ k → ok k) (hl : l0.length ≤ 1048576) (hp : p < l0.length) (hvb : w.heap[vb]? = some (.cells #[.int .i64 x.f0, .int .i64 x.f1, .int .i64 x.f2, .int .i64 x.f3] 34 (0, 0))) :
  Calls Try.prog 73 #[.slice (some ⟨g, 0, none⟩) l0.length l0.length, .int .i64 (p : Int), .slice (some ⟨vb, 0, none⟩) 1 1] w fun e w' => ∃ v0_ : Value, e = .returned v0_ ∧ Kd.R k34 34 w' w0.heap.size ok v0_ (l0.take p ++ x :: l0.drop p) ∧ Below w0.heap.size w0 w' := by
 have hu_ := Try.underlying34
 obtain ⟨_, cur, hh, hcs, ht, hnc, hcm, hbg, hokg⟩ := INS.open_ ho
 have hgl := blk_lt hh
 have hvl := blk_lt hvb
 obtain ⟨n, hn⟩ : ∃ n, n = l0.length := ⟨_, rfl⟩
 have hbs := below_size hB
 rw [← hn] at ho hl hp ht hnc ⊢
 have hfl : (INS.flat l0).length = n * 4 := by rw [INS.flat_length, hn]
 obtain ⟨W1, C, cur0, hr0, hh0, hs0, hC, hCm, ht0, hb0⟩ := INS.zeros hh ht hn hp hl
 have hx0 := blk_below hvb hb0
 have hb0' := below_step hB hb0
 obtain ⟨W2, cur1, hr1, hh1, hs1, ht1, hg1⟩ := INS.copy (W := W1) hh0 (p * 4) (n + 1 - p) (C - p) ⟨vb, 0, none⟩ 1 1 (INS.cells x) (by show 4 = (min 1 (n + 1 - p)) * 4; omega) (fun j u hu => by
  rw [show (⟨vb, 0, none⟩ : Addr).add j = ⟨vb, j, none⟩ by unfold Addr.add; split <;> simp_all]
  rw [blk_cell hx0, ← Array.getElem?_toList]
  exact hu) (by rw [hs0]; show p * 4 + 4 ≤ _; omega) (fun u hu => INS.flat_one [x] u (by simpa [INS.flat] using hu))
 have hb1 := hb0'.grown hg1 (below_size hb0') (fun k hk => by injection hk with hk; subst hk; exact hbs)
 have hg0 := blk_grown (blk_below hh hb0) hg1 (fun e => by have h_ := Option.some.inj e; omega)
 obtain ⟨W3, cur2, hr2, hh2, hs2, ht2, hg2⟩ := INS.copy (W := W2.drew) (blk_drew hh1) ((p + 1) * 4) (n - p) (C - (p + 1)) ⟨g, p * 4, none⟩ (n - p) (n - p) ((INS.flat l0).drop (p * 4)) (by rw [List.length_drop, hfl]; show _ = (min (n - p) (n - p)) * 4; omega) (fun j u hu => by
  rw [show (⟨g, p * 4, none⟩ : Addr).add j = ⟨g, p * 4 + j, none⟩ by unfold Addr.add; split <;> simp_all]
  rw [blk_cell (blk_drew hg0), ← Array.getElem?_toList, ← hu, List.getElem?_drop, ← ht, List.getElem?_take, if_pos]
  rw [List.getElem?_drop] at hu
  have := (List.getElem?_eq_some_iff.1 hu).1
  omega) (by rw [List.length_drop, hfl, hs1, hs0]; omega) (fun u hu => INS.flat_one l0 u (List.mem_of_mem_drop hu))
 have hb2 := hb1.drew.grown hg2 (below_size hb1.drew) (fun k hk => by injection hk with hk; subst hk; exact hbs)
 have hr_ : Kd.R k34 34 W3 w0.heap.size ok (.slice (some ⟨w.heap.size, 0, none⟩) (n + 1) C) (l0.take p ++ x :: l0.drop p) := by
  refine INS.shut (by rw [List.length_append, List.length_cons, List.length_take, List.length_drop]; omega) hh2 (by rw [hs2, hs1, hs0]) ?_ hC hCm hbs (hfr _ (Nat.le_refl _))
  rw [INS.flat_app, ← List.singleton_append, INS.flat_app, INS.flat_take, INS.flat_drop, ← List.append_assoc]
  exact INS.lists2 hfl hp ht0 (by have h_ := Array.length_toList (xs := cur0); omega) (by rfl) rfl ht1 ht2
 have HR := Aside0.mk hr_
 have HB := Aside0.mk hb2
 have R0 := Aside0.mk hr0
 have R1 := Aside0.mk hr1
 have R2 := Aside0.mk hr2
 clear hr_ hb2 hr0 hr1 hr2 ho hB hfr hh hcs ht hnc hcm hbg hokg hgl hvl hbs hfl hh0 hs0 ht0 hb0 hx0 hb0' hh1 hs1 ht1 hg1 hb1 hg0 hh2 hs2 ht2 hg2 hvb
 have HN := Aside0.mk hn
 have HCM := Aside0.mk hCm
 clear hn hCm
 have h0p : (0 : Int) ≤ (p : Int) := by omega
 have h1p : (p : Int) ≤ (n : Int) := by omega
 have h2p : ((p : Int) == (n : Int)) = false := beq_eq_false_iff_ne.2 (by omega)
 have h2q : (p == n) = false := beq_eq_false_iff_ne.2 (by omega)
 have h4p : decide ((n : Int) < (n : Int) + 1) = true := decide_eq_true (by omega)
 have h5p : (0 : Int) ≤ (n : Int) + 1 := by omega
 have h6p : (0 : Int) ≤ (p : Int) + 1 := by omega
 have h7p : (p : Int) + 1 ≤ (n : Int) + 1 := by omega
 have h8p : (p : Int) ≤ (n : Int) + 1 := by omega
 have hb2_ : ¬ (C = p + 1) := by omega
 have hb4 : ¬ (C = p) := by omega
 have hb5 : ¬ (n = p) := by omega
 go_enter Try.func73, Try.ntmps73
 go_wp2_with (first | ((with_reducible refine gate_builtin (b := .append) (xs := #[.tmp 34, .tmp 39]) rfl ?_); refine Lib.wpList_append_run _ rfl _ _ _ _ rfl _ _ rfl rfl _ _ (R0.out _) ?_) | ((with_reducible refine gate_builtin (b := .copy) (xs := #[.tmp 43, .tmp 44]) rfl ?_); refine wpList_copy_runI _ rfl _ _ 24 24 rfl _ _ rfl rfl (R1.out _) ?_))
 have htn : ((p : Int) + 1).toNat = p + 1 := by omega
 have hwp : IntKind.i64.wrap ((p : Int) + 1) = (p : Int) + 1 := by rw [IntKind.wrap_i64]; omega
 go_region_law (refine step_copy_runI rfl _ _ 24 24 rfl _ _ (by simp [Act.eval, Act.put]) (by simp [Act.eval, Act.put]) (R2.out _) ?_)
 go_wp2
 go_ret
 exact ⟨_, rfl, HR.out, HB.out⟩
set_option maxHeartbeats 4000000 in
set_option maxRecDepth 1000000 in
/-- slices.Insert of one lease into a row of the caller's own. -/
theorem INS.calls (w0 w : World) (ok : Nat → Prop) (v : Value) (l0 : List S34) (p : Nat) (x : S34) (vb : Nat) (hB : Below w0.heap.size w0 w) (ho : Kd.R k34 34 w w0.heap.size ok v l0) (hfr : ∀ k, w.heap.size ≤ k → ok k) (hp : p ≤ l0.length) (hl : l0.length ≤ 1048576) (hvb : w.heap[vb]? = some (.cells #[.int .i64 x.f0, .int .i64 x.f1, .int .i64 x.f2, .int .i64 x.f3] 34 (0, 0))) (hne : some vb ≠ v.ownBlock) :
  Calls Try.prog 73 #[v, .int .i64 (p : Int), .slice (some ⟨vb, 0, none⟩) 1 1] w fun e w' => ∃ v0_ : Value, e = .returned v0_ ∧ Kd.R k34 34 w' w0.heap.size ok v0_ (l0.take p ++ x :: l0.drop p) ∧ Below w0.heap.size w0 w' := by
 by_cases he : p = l0.length
 ·subst he
  rw [List.take_length, List.drop_length]
  exact INS.end_ w0 w ok v l0 x vb hB ho hfr hl hvb
 ·have hlt : p < l0.length := by omega
  obtain ⟨Ao, co, eo⟩ := Kd.R_slice ho
  subst eo
  obtain ⟨go5, co5, eo5, gb5, gl5, cl5, hg5⟩ := Kd.R_form ho (by omega)
  (first | cases eo5 | (injection eo5 with ea_ en_ ec_; (first | subst ea_ | (injection ea_ with ea_; subst ea_)); subst ec_; clear en_))
  obtain ⟨_, hnc, _⟩ := Kd.R_reads' ho
  by_cases hr : l0.length + 1 ≤ co
  ·exact INS.room w0 w ok go5 co l0 p x vb hB ho hl hlt hr hvb (fun e => hne (by simp [Value.ownBlock, e]))
  ·obtain rfl : co = l0.length := by omega
   exact INS.grow w0 w ok go5 l0 p x vb hB ho hfr hl hlt hvb

/-! ### impl_Edit_pos: function 84 -/
def impl_Edit_pos.j0 : Nat → Int → Bool → Bool → Int → Int → List Int → Option (Int)
 | 0, _, _, _, _, _, _ => none
 | k + 1, x1, x2, x13, x233000, x233001, x233002 => if x13 = true then (if x2 = true then (some (wrap64 (x233000 + (x233002.length : Int)))) else (some x233000)) else (some (wrap64 ((wrap64 (x1 - x233001)) + (x233002.length : Int))))
def impl_Edit_pos.f (k : Nat) (a0_0 : Int) (a0_1 : Int) (l0_2 : List Int) (a1 : Int) (a2 : Bool) : Option (Int) := if a1 < a0_0 then (some a1) else (if a1 = a0_0 then (impl_Edit_pos.j0 k a1 a2 true a0_0 a0_1 l0_2) else (impl_Edit_pos.j0 k a1 a2 (decide (a1 < (wrap64 (a0_0 + a0_1)))) a0_0 a0_1 l0_2))
set_option maxHeartbeats 8000000 in
set_option maxRecDepth 100000 in
theorem impl_Edit_pos.calls (k : Nat) (a0_0 : Int) (a0_1 : Int) (A0_2 : Option Addr) (c0_2 : Nat) (l0_2 : List Int) (a1 : Int) (a2 : Bool) (r : Int) (w : World) (hr0_2 : Kd.C (Kd.int .u8) w A0_2 l0_2.length l0_2) (hc0_2 : l0_2.length ≤ c0_2) (h : impl_Edit_pos.f k a0_0 a0_1 l0_2 a1 a2 = some r) :
  Calls Try.prog 84 #[.agg #[.int .i64 a0_0, .int .i64 a0_1, .slice A0_2 l0_2.length c0_2], .int .i64 a1, .bool a2] w fun e w' => e = .returned (.int .i64 r) ∧ Below w.heap.size w w' := by
 have hu42 := Try.underlying42
 have HR0_2 := Aside0.mk hr0_2
 have HC0_2 := Aside0.mk hc0_2
 clear hr0_2 hc0_2
 have HB := Aside0.mk (Below.refl w.heap.size w)
 have H : (if a1 < a0_0 then (some a1) else (if a1 = a0_0 then (impl_Edit_pos.j0 k a1 a2 true a0_0 a0_1 l0_2) else (impl_Edit_pos.j0 k a1 a2 (decide (a1 < (wrap64 (a0_0 + a0_1)))) a0_0 a0_1 l0_2))) = some r := h
 clear h
 by_cases c4 : a1 < a0_0
 ·rw [if_pos c4] at H
  have c4b0 : decide (a1 < a0_0) = true := decide_eq_true c4
  clear c4
  obtain rfl := Option.some.inj H
  go_enter Try.func84, Try.ntmps84
  go_wp2_with (first | ((with_reducible refine gate_dst (N := 3) rfl ?_); refine box_event ?hg (N := 3) ?hd (cs := #[.int .i64 a0_0, .int .i64 a0_1, .slice A0_2 l0_2.length c0_2]) (t := 42) ?hr ?_; (case hd => rfl); (case hg => rfl); (case hr => first | (go_simp; done) | (go_simp; rfl)); intro gb232 hg w5 hbox hb; have n0_ := Aside0.mk (below_step (by repeat (first | (with_reducible first | exact HB.out | apply below_alloc | apply pw_below_drewN | apply below_drew1) | exact HB.out)) hb); have n1_ := Aside0.mk (hbox); have n2_ := Aside0.mk ((by rw [hg]; exact (below_size (by repeat (first | (with_reducible first | exact HB.out | apply below_alloc | apply pw_below_drewN | apply below_drew1) | exact HB.out))) : w.heap.size ≤ gb232)); have n3_ := Aside0.mk ((by rw [hg]; exact (below_size (by repeat (first | (with_reducible first | exact HB.out | apply below_alloc | apply pw_below_drewN | apply below_drew1) | exact HB.out))) : w.heap.size ≤ gb232)); clear HB; have HB := n0_; have BK232 := n1_; have GW232 := n2_; have GE232 := n3_; clear n0_ n1_ n2_ n3_; clear hb hbox hg; have hcz6_0 : w5.cell? ⟨gb232, 0, none⟩ = some (.int .i64 a0_0) := (blk_cell BK232.out 0).trans rfl; have hcz6_1 : w5.cell? ⟨gb232, 1, none⟩ = some (.int .i64 a0_1) := (blk_cell BK232.out 1).trans rfl; have hcz6_2 : w5.cell? ⟨gb232, 2, none⟩ = some (.slice A0_2 l0_2.length c0_2) := (blk_cell BK232.out 2).trans rfl; have hfz6_0 := blk_frozen BK232.out 0; have hfz6_1 := blk_frozen BK232.out 1; have hfz6_2 := blk_frozen BK232.out 2))
  go_ret
  exact ⟨by first | rfl | (simp [errW_none, errW_some] <;> rfl) | (simp [*, errW_none, errW_some] <;> rfl), by repeat (first | (with_reducible first | exact HB.out | apply below_alloc | apply pw_below_drewN | apply below_drew1 | refine below_set ?_ GE232.out) | exact HB.out)⟩
 ·rw [if_neg c4] at H
  have c4b0 : decide (a1 < a0_0) = false := decide_eq_false c4
  clear c4
  have HC7 := Aside0.mk H
  clear H
  go_enter Try.func84, Try.ntmps84
  go_upto_region 3 with (first | ((with_reducible refine gate_dst (N := 3) rfl ?_); refine box_event ?hg (N := 3) ?hd (cs := #[.int .i64 a0_0, .int .i64 a0_1, .slice A0_2 l0_2.length c0_2]) (t := 42) ?hr ?_; (case hd => rfl); (case hg => rfl); (case hr => first | (go_simp; done) | (go_simp; rfl)); intro gb232 hg w8 hbox hb; have n0_ := Aside0.mk (below_step (by repeat (first | (with_reducible first | exact HB.out | apply below_alloc | apply pw_below_drewN | apply below_drew1) | exact HB.out)) hb); have n1_ := Aside0.mk (hbox); have n2_ := Aside0.mk ((by rw [hg]; exact (below_size (by repeat (first | (with_reducible first | exact HB.out | apply below_alloc | apply pw_below_drewN | apply below_drew1) | exact HB.out))) : w.heap.size ≤ gb232)); have n3_ := Aside0.mk ((by rw [hg]; exact (below_size (by repeat (first | (with_reducible first | exact HB.out | apply below_alloc | apply pw_below_drewN | apply below_drew1) | exact HB.out))) : w.heap.size ≤ gb232)); clear HB; have HB := n0_; have BK232 := n1_; have GW232 := n2_; have GE232 := n3_; clear n0_ n1_ n2_ n3_; clear hb hbox hg; have hcz9_0 : w8.cell? ⟨gb232, 0, none⟩ = some (.int .i64 a0_0) := (blk_cell BK232.out 0).trans rfl; have hcz9_1 : w8.cell? ⟨gb232, 1, none⟩ = some (.int .i64 a0_1) := (blk_cell BK232.out 1).trans rfl; have hcz9_2 : w8.cell? ⟨gb232, 2, none⟩ = some (.slice A0_2 l0_2.length c0_2) := (blk_cell BK232.out 2).trans rfl; have hfz9_0 := blk_frozen BK232.out 0; have hfz9_1 := blk_frozen BK232.out 1; have hfz9_2 := blk_frozen BK232.out 2))
  (try simp only [Act.put, List.setIfInBounds_toArray, List.set_cons_zero, List.set_cons_succ])
  go_cut [13] (fun v13 wc => ∃ (kq : Nat) (x13_6 : Bool), v13 = .bool x13_6 ∧ Aside0 (impl_Edit_pos.j0 kq a1 a2 x13_6 a0_0 a0_1 l0_2 = some r) ∧ Aside0 (kq ≤ k) ∧ Aside0 (wc.heap[gb232]? = some (.cells #[.int .i64 a0_0, .int .i64 a0_1, (.slice A0_2 l0_2.length c0_2)] 42 (0, 0))) ∧ Aside0 (Below w.heap.size w wc))
  case first =>
   have H := HC7.out
   clear HC7
   by_cases c10 : a1 = a0_0
   ·rw [if_pos c10] at H
    have c10b0 : (a1 == a0_0) = true := beq_iff_eq.mpr c10
    have c10b1 : (a1 != a0_0) = false := bne_eq_false_iff_eq.mpr c10
    clear c10
    (first | rw [c10b0] | (simp only [i64_w, i32_w]; rw [c10b0]) | skip)
    have H' := Aside0.mk H
    clear H
    have hcz11_0 : w8.cell? ⟨gb232, 0, none⟩ = some (.int .i64 a0_0) := (blk_cell BK232.out 0).trans rfl
    have hcz11_1 : w8.cell? ⟨gb232, 1, none⟩ = some (.int .i64 a0_1) := (blk_cell BK232.out 1).trans rfl
    have hcz11_2 : w8.cell? ⟨gb232, 2, none⟩ = some (.slice A0_2 l0_2.length c0_2) := (blk_cell BK232.out 2).trans rfl
    have hfz11_0 := blk_frozen BK232.out 0
    have hfz11_1 := blk_frozen BK232.out 1
    have hfz11_2 := blk_frozen BK232.out 2
    go_wp2
    go_meet
    case rel => exact ⟨_, (true), (by first | rfl | (simp; done) | (simp [*]; done)), H', ⟨by first | omega | exact Nat.le_refl _⟩, ⟨by (with_reducible repeat (first | refine blk_drewN ?_ _ | refine blk_drew ?_ | refine blk_alloc ?_ _)); exact BK232.out⟩, ⟨by repeat (first | (with_reducible first | exact HB.out | apply below_alloc | apply pw_below_drewN | apply below_drew1 | refine below_set ?_ GE232.out) | exact HB.out)⟩⟩
   ·rw [if_neg c10] at H
    have c10b0 : (a1 == a0_0) = false := beq_eq_false_iff_ne.mpr c10
    have c10b1 : (a1 != a0_0) = true := bne_iff_ne.mpr c10
    (first | rw [c10b0] | (simp only [i64_w, i32_w]; rw [c10b0]) | skip)
    have H' := Aside0.mk H
    clear H
    have hcz12_0 : w8.cell? ⟨gb232, 0, none⟩ = some (.int .i64 a0_0) := (blk_cell BK232.out 0).trans rfl
    have hcz12_1 : w8.cell? ⟨gb232, 1, none⟩ = some (.int .i64 a0_1) := (blk_cell BK232.out 1).trans rfl
    have hcz12_2 : w8.cell? ⟨gb232, 2, none⟩ = some (.slice A0_2 l0_2.length c0_2) := (blk_cell BK232.out 2).trans rfl
    have hfz12_0 := blk_frozen BK232.out 0
    have hfz12_1 := blk_frozen BK232.out 1
    have hfz12_2 := blk_frozen BK232.out 2
    go_wp2
    go_meet
    case rel => exact ⟨_, (decide (a1 < (wrap64 (a0_0 + a0_1)))), (by first | rfl | (simp; done) | (simp [*]; done)), H', ⟨by first | omega | exact Nat.le_refl _⟩, ⟨by (with_reducible repeat (first | refine blk_drewN ?_ _ | refine blk_drew ?_ | refine blk_alloc ?_ _)); exact BK232.out⟩, ⟨by repeat (first | (with_reducible first | exact HB.out | apply below_alloc | apply pw_below_drewN | apply below_drew1 | refine below_set ?_ GE232.out) | exact HB.out)⟩⟩
  case rest =>
   clear HC7
   try clear c1
   try clear p2
   try clear c4
   try clear c4b0
   try clear p6
   try clear c8
   try clear c10
   try clear c10b0
   try clear c10b1
   try clear hcz11_0
   try clear hcz11_1
   try clear hcz11_2
   try clear hcz12_0
   try clear hcz12_1
   try clear hcz12_2
   try clear hcz6_0
   try clear hcz6_1
   try clear hcz6_2
   try clear hcz9_0
   try clear hcz9_1
   try clear hcz9_2
   try clear hfz11_0
   try clear hfz11_1
   try clear hfz11_2
   try clear hfz12_0
   try clear hfz12_1
   try clear hfz12_2
   try clear hfz6_0
   try clear hfz6_1
   try clear hfz6_2
   try clear hfz9_0
   try clear hfz9_1
   try clear hfz9_2
   obtain ⟨kq, x13_6, rfl, HA, HJ6, BK232, HB⟩ := hcut
   cases kq with
   | zero => exact absurd HA.out (by simp [impl_Edit_pos.j0])
   | succ kj6 =>
    have H := HA.out
    clear HA
    simp only [impl_Edit_pos.j0] at H
    by_cases c13 : x13_6 = true
    ·subst c13
     have H1 : (if a2 = true then (some (wrap64 (a0_0 + (l0_2.length : Int)))) else (some a0_0)) = some r := by rw [if_pos rfl] at H; exact H
     clear H
     have H := H1
     clear H1
     by_cases c14 : a2 = true
     ·subst c14
      have H1 : (some (wrap64 (a0_0 + (l0_2.length : Int)))) = some r := by rw [if_pos rfl] at H; exact H
      clear H
      have H := H1
      clear H1
      obtain rfl := Option.some.inj H
      have hcz15_0 : wc.cell? ⟨gb232, 0, none⟩ = some (.int .i64 a0_0) := (blk_cell BK232.out 0).trans rfl
      have hcz15_1 : wc.cell? ⟨gb232, 1, none⟩ = some (.int .i64 a0_1) := (blk_cell BK232.out 1).trans rfl
      have hcz15_2 : wc.cell? ⟨gb232, 2, none⟩ = some (.slice A0_2 l0_2.length c0_2) := (blk_cell BK232.out 2).trans rfl
      have hfz15_0 := blk_frozen BK232.out 0
      have hfz15_1 := blk_frozen BK232.out 1
      have hfz15_2 := blk_frozen BK232.out 2
      go_wp2
      go_ret
      exact ⟨by first | rfl | (simp [errW_none, errW_some] <;> rfl) | (simp [*, errW_none, errW_some] <;> rfl), by repeat (first | (with_reducible first | exact HB.out | apply below_alloc | apply pw_below_drewN | apply below_drew1 | refine below_set ?_ GE232.out) | exact HB.out)⟩
     ·replace c14 := Bool.eq_false_iff.mpr c14
      subst c14
      have H1 : (some a0_0) = some r := by rw [if_neg (show ¬ (false = true) by decide)] at H; exact H
      clear H
      have H := H1
      clear H1
      obtain rfl := Option.some.inj H
      have hcz16_0 : wc.cell? ⟨gb232, 0, none⟩ = some (.int .i64 a0_0) := (blk_cell BK232.out 0).trans rfl
      have hcz16_1 : wc.cell? ⟨gb232, 1, none⟩ = some (.int .i64 a0_1) := (blk_cell BK232.out 1).trans rfl
      have hcz16_2 : wc.cell? ⟨gb232, 2, none⟩ = some (.slice A0_2 l0_2.length c0_2) := (blk_cell BK232.out 2).trans rfl
      have hfz16_0 := blk_frozen BK232.out 0
      have hfz16_1 := blk_frozen BK232.out 1
      have hfz16_2 := blk_frozen BK232.out 2
      go_wp2
      go_ret
      exact ⟨by first | rfl | (simp [errW_none, errW_some] <;> rfl) | (simp [*, errW_none, errW_some] <;> rfl), by repeat (first | (with_reducible first | exact HB.out | apply below_alloc | apply pw_below_drewN | apply below_drew1 | refine below_set ?_ GE232.out) | exact HB.out)⟩
    ·replace c13 := Bool.eq_false_iff.mpr c13
     subst c13
     have H1 : (some (wrap64 ((wrap64 (a1 - a0_1)) + (l0_2.length : Int)))) = some r := by rw [if_neg (show ¬ (false = true) by decide)] at H; exact H
     clear H
     have H := H1
     clear H1
     obtain rfl := Option.some.inj H
     have hcz17_0 : wc.cell? ⟨gb232, 0, none⟩ = some (.int .i64 a0_0) := (blk_cell BK232.out 0).trans rfl
     have hcz17_1 : wc.cell? ⟨gb232, 1, none⟩ = some (.int .i64 a0_1) := (blk_cell BK232.out 1).trans rfl
     have hcz17_2 : wc.cell? ⟨gb232, 2, none⟩ = some (.slice A0_2 l0_2.length c0_2) := (blk_cell BK232.out 2).trans rfl
     have hfz17_0 := blk_frozen BK232.out 0
     have hfz17_1 := blk_frozen BK232.out 1
     have hfz17_2 := blk_frozen BK232.out 2
     go_wp2
     go_ret
     exact ⟨by first | rfl | (simp [errW_none, errW_some] <;> rfl) | (simp [*, errW_none, errW_some] <;> rfl), by repeat (first | (with_reducible first | exact HB.out | apply below_alloc | apply pw_below_drewN | apply below_drew1 | refine below_set ?_ GE232.out) | exact HB.out)⟩

end Go.Proofs.Ytoelccjfdiidpaa.PFnExactLeaseMoved
