-- Written by wip/xprint.py (the session's program over the kit's printer) for the claim of FnExactLeaseRenew; Lean checks it.
import Derived.Test.YtoelccjfdiidpaaPFnExactLeaseRenewx0
import Derived.Test.YtoelccjfdiidpaaPFnExactLeaseRenewx4
import Derived.Test.YtoelccjfdiidpaaPFnExactLeaseRenewx5
import Derived.Test.YtoelccjfdiidpaaPFnExactLeaseRenewx6
namespace Go.Proofs.Ytoelccjfdiidpaa.PFnExactLeaseRenew
open Go.RowKit Go.Proofs.YtoelccjfdiidpaaW.PrintWords Go.Proofs.YtoelccjfdiidpaaW.PrintLast Go.Proofs.YtoelccjfdiidpaaW.PrintMore
attribute [local go_sem] max2_int min2_int max_two min_two max_three min_three max_four min_four   -- for this text's walks alone
set_option linter.unusedVariables false
set_option linter.unusedSimpArgs false


/-! ### impl_Lease_66: function 66 -/
def BS.c3 (a b : Int) : Int := if a < b then -1 else if b < a then 1 else 0
def BS.cmp (x y : S34) : Int := if BS.c3 x.f0 y.f0 = 0 then (if BS.c3 x.f1 y.f1 = 0 then BS.c3 x.f2 y.f2 else BS.c3 x.f1 y.f1) else BS.c3 x.f0 y.f0
theorem BS.compare_f (a b : Int) : cmp_Compare_int.f a b = some (BS.c3 a b) := by
  simp [cmp_Compare_int.f, cmp_isNaN_int.f, BS.c3]
  split
  · rfl
  · split <;> rfl
theorem BS.cmp_f (x y : S34) : impl_compareLeases.f 5 x.f0 x.f1 x.f2 x.f3 y.f0 y.f1 y.f2 y.f3 = some (BS.cmp x y) := by
  simp only [impl_compareLeases.f, BS.compare_f, Option.bind_some, cmp_Or_int.f, cmp_Or_int.l0, BS.cmp]
  generalize BS.c3 x.f0 y.f0 = a
  generalize BS.c3 x.f1 y.f1 = b
  generalize BS.c3 x.f2 y.f2 = c
  by_cases h1 : a = 0 <;> by_cases h2 : b = 0 <;> by_cases h3 : c = 0 <;> simp [h1, h2, h3, rd, wrap64]
/-- The halving, from i to j. -/
def BS.at_ (l : List S34) (x : S34) : Nat → Nat → Nat → Nat
  | 0, i, _ => i
  | n + 1, i, j => if i < j then (if BS.cmp (rd_T34 l (((i + j) / 2 : Nat) : Int)) x < 0 then BS.at_ l x n ((i + j) / 2 + 1) j else BS.at_ l x n i ((i + j) / 2)) else i
def BS.pos (l : List S34) (x : S34) : Nat := BS.at_ l x l.length 0 l.length
def BS.found (l : List S34) (x : S34) : Bool := decide (BS.pos l x < l.length) && (BS.cmp (rd_T34 l (BS.pos l x : Int)) x == 0)
theorem BS.at_done (l : List S34) (x : S34) (n i : Nat) : BS.at_ l x n i i = i := by
  cases n with
  | zero => rfl
  | succ n => unfold BS.at_; rw [if_neg (by omega)]
set_option maxHeartbeats 4000000 in
set_option maxRecDepth 1000000 in
/-- slices.BinarySearchFunc at compareLeases. -/
theorem BS.calls (A0 : Option Addr) (c0 : Nat) (l0 : List S34) (x : S34) (w : World) (hr0 : Kd.C k34 w A0 l0.length l0) (hl : l0.length ≤ 1048576) :
    Calls Try.prog 66 #[.slice A0 l0.length c0, .agg #[.int .i64 x.f0, .int .i64 x.f1, .int .i64 x.f2, .int .i64 x.f3], .func (.func 62) #[] #[]] w fun e w' => e = .returned (.tuple #[.int .i64 (BS.pos l0 x : Int), .bool (BS.found l0 x)]) ∧ BS.pos l0 x ≤ l0.length ∧ Below w.heap.size w w' := by
  have HR := Aside0.mk hr0
  have HL := Aside0.mk hl
  have hbk := blk_new w (.cells #[.int .i64 x.f0, .int .i64 x.f1, .int .i64 x.f2, .int .i64 x.f3] 34 (0, 0))
  have HG := Aside0.mk hbk
  have HB0 := Aside0.mk (below_alloc (Below.refl w.heap.size w) (.cells #[.int .i64 x.f0, .int .i64 x.f1, .int .i64 x.f2, .int .i64 x.f3] 34 (0, 0)))
  clear hr0 hl hbk
  go_enter Try.func66, Try.ntmps66
  go_wp2
  go_loopg [9, 10] (l0.length + 1) (fun kx v9 v10 w' => ∃ (i j n : Nat), v9 = .int .i64 (i : Int) ∧ v10 = .int .i64 (j : Int) ∧ Aside0 (i ≤ j ∧ j ≤ l0.length ∧ j - i ≤ n ∧ n < kx) ∧ Aside0 (BS.at_ l0 x n i j = BS.pos l0 x) ∧ Aside0 (Below w.heap.size w w' ∧ w'.heap[w.heap.size]? = some (.cells #[.int .i64 x.f0, .int .i64 x.f1, .int .i64 x.f2, .int .i64 x.f3] 34 (0, 0))))
  case atStart => exact ⟨0, l0.length, l0.length, rfl, rfl, ⟨by omega, by omega, by omega, by omega⟩, ⟨rfl⟩, ⟨HB0.out, HG.out⟩⟩
  case round =>
    obtain ⟨i, j, n, rfl, rfl, HI, HA, HB⟩ := hrel
    by_cases hij : i < j
    · have c1 : decide (i < j) = true := decide_eq_true hij
      have hi := HI.out
      have h1 := HL.out
      have hm : ((i : Int) + (j : Int)) / 2 = (((i + j) / 2 : Nat) : Int) := by omega
      have hn : BS.at_ l0 x n i j = if BS.cmp (rd_T34 l0 (((i + j) / 2 : Nat) : Int)) x < 0 then BS.at_ l0 x (n - 1) ((i + j) / 2 + 1) j else BS.at_ l0 x (n - 1) i ((i + j) / 2) := by
        obtain ⟨n, rfl⟩ : ∃ q, n = q + 1 := ⟨n - 1, by omega⟩
        show BS.at_ l0 x (n + 1) i j = _
        unfold BS.at_
        rw [if_pos (by omega)]
        cases n <;> rfl
      have hb : i ≤ (i + j) / 2 ∧ (i + j) / 2 < j := by omega
      have HM := Aside0.mk hm
      clear hm hij
      go_wp2
      rw [HM.out]
      generalize (i + j) / 2 = m at hn hb HM ⊢
      rw [HA.out] at hn
      have HN := Aside0.mk hn
      have h0m : 0 ≤ (m : Int) := by omega
      have h1m : (m : Int) < (l0.length : Int) := by omega
      obtain ⟨ad, e1_, hx0, hx1, hx2, hx3⟩ := at_T34 HR.out (m : Int) h0m h1m
      subst e1_
      rw [Int.toNat_natCast] at hx0 hx1 hx2 hx3
      have hx0 := (HB.out.1.cell (World.block_lt_of_cell? w _ hx0)).trans hx0
      have hx1 := (HB.out.1.cell (World.block_lt_of_cell? w _ hx1)).trans hx1
      have hx2 := (HB.out.1.cell (World.block_lt_of_cell? w _ hx2)).trans hx2
      have hx3 := (HB.out.1.cell (World.block_lt_of_cell? w _ hx3)).trans hx3
      have y0 : wr.cell? ⟨w.heap.size, 0, none⟩ = some (.int .i64 x.f0) := (blk_cell HB.out.2 0).trans rfl
      have y1 : wr.cell? ⟨w.heap.size, 1, none⟩ = some (.int .i64 x.f1) := (blk_cell HB.out.2 1).trans rfl
      have y2 : wr.cell? ⟨w.heap.size, 2, none⟩ = some (.int .i64 x.f2) := (blk_cell HB.out.2 2).trans rfl
      have y3 : wr.cell? ⟨w.heap.size, 3, none⟩ = some (.int .i64 x.f3) := (blk_cell HB.out.2 3).trans rfl
      clear hn
      generalize hrd : rd_T34 l0 (m : Int) = y at *
      have HRD := Aside0.mk hrd
      clear hrd
      go_region_held3 (fun w' => w'.cell? (ad.add (m * 4)) = some (.int .i64 y.f0) ∧ w'.cell? ⟨(ad.add (m * 4)).block, (ad.add (m * 4)).off + 1, none⟩ = some (.int .i64 y.f1) ∧ w'.cell? ⟨(ad.add (m * 4)).block, (ad.add (m * 4)).off + 2, none⟩ = some (.int .i64 y.f2) ∧ w'.cell? ⟨(ad.add (m * 4)).block, (ad.add (m * 4)).off + 3, none⟩ = some (.int .i64 y.f3) ∧ w'.cell? ⟨w.heap.size, 0, none⟩ = some (.int .i64 x.f0) ∧ w'.cell? ⟨w.heap.size, 1, none⟩ = some (.int .i64 x.f1) ∧ w'.cell? ⟨w.heap.size, 2, none⟩ = some (.int .i64 x.f2) ∧ w'.cell? ⟨w.heap.size, 3, none⟩ = some (.int .i64 x.f3)) (first | go_keep | (go_split_ands; refine ⟨?_, ?_, ?_, ?_, ?_, ?_, ?_, ?_⟩ <;> exact (hb3.cell (World.block_lt_of_cell? _ _ (by assumption))).trans (by assumption))) ((go_at_call 62; refine (impl_compareLeases.calls 5 y.f0 y.f1 y.f2 y.f3 x.f0 x.f1 x.f2 x.f3 (BS.cmp y x) _ (BS.cmp_f y x)).mono ?_; rintro e w3 ⟨rfl, hb3⟩))
      have HB3 := Aside0.mk (And.intro (below_step (below_drew1 HB.out.1) hb3) (blk_below (blk_drew HB.out.2) hb3))
      clear hx0 hx1 hx2 hx3 y0 y1 y2 y3 hb3 HB
      rename_i hH_
      clear hH_
      by_cases hc : BS.cmp y x < 0
      · have hcb : decide (BS.cmp y x < 0) = true := decide_eq_true hc
        have HC := Aside0.mk hc
        clear hc
        rw [hcb]
        clear hcb
        go_wp2
        go_roundg n
        case measure => omega
        case rel => exact ⟨m + 1, j, n - 1, by first | rfl | (congr 1; omega), rfl, ⟨by omega, by omega, by omega, by omega⟩, ⟨by rw [HN.out, if_pos HC.out]⟩, HB3⟩
      · have hcb : decide (BS.cmp y x < 0) = false := decide_eq_false hc
        have HC := Aside0.mk hc
        clear hc
        rw [hcb]
        clear hcb
        go_wp2
        go_roundg n
        case measure => omega
        case rel => exact ⟨i, m, n - 1, rfl, rfl, ⟨by omega, by omega, by omega, by omega⟩, ⟨by rw [HN.out, if_neg (by have := HC.out; omega)]⟩, HB3⟩
    · have c1 : decide (i < j) = false := decide_eq_false hij
      have hi := HI.out
      have hji : j = i := by omega
      subst hji
      have hp := HA.out
      rw [BS.at_done] at hp
      have HP := Aside0.mk hp
      clear hp hij
      have hil : j ≤ l0.length := hi.2.1
      by_cases hlt : j < l0.length
      · have c2 : decide (j < l0.length) = true := decide_eq_true hlt
        have h1 := HL.out
        have h0m : 0 ≤ (j : Int) := by omega
        have h1m : (j : Int) < (l0.length : Int) := by omega
        obtain ⟨ad, e1_, hx0, hx1, hx2, hx3⟩ := at_T34 HR.out (j : Int) h0m h1m
        subst e1_
        rw [Int.toNat_natCast] at hx0 hx1 hx2 hx3
        have hx0 := (HB.out.1.cell (World.block_lt_of_cell? w _ hx0)).trans hx0
        have hx1 := (HB.out.1.cell (World.block_lt_of_cell? w _ hx1)).trans hx1
        have hx2 := (HB.out.1.cell (World.block_lt_of_cell? w _ hx2)).trans hx2
        have hx3 := (HB.out.1.cell (World.block_lt_of_cell? w _ hx3)).trans hx3
        have y0 : wr.cell? ⟨w.heap.size, 0, none⟩ = some (.int .i64 x.f0) := (blk_cell HB.out.2 0).trans rfl
        have y1 : wr.cell? ⟨w.heap.size, 1, none⟩ = some (.int .i64 x.f1) := (blk_cell HB.out.2 1).trans rfl
        have y2 : wr.cell? ⟨w.heap.size, 2, none⟩ = some (.int .i64 x.f2) := (blk_cell HB.out.2 2).trans rfl
        have y3 : wr.cell? ⟨w.heap.size, 3, none⟩ = some (.int .i64 x.f3) := (blk_cell HB.out.2 3).trans rfl
        have hfo : BS.found l0 x = (BS.cmp (rd_T34 l0 (j : Int)) x == 0) := by
          unfold BS.found
          rw [← HP.out, decide_eq_true hlt, Bool.true_and]
        have HF := Aside0.mk hfo
        clear hfo hlt
        generalize hrd : rd_T34 l0 (j : Int) = y at *
        have HRD := Aside0.mk hrd
        clear hrd
        go_wp2
        go_region_held3 (fun w' => w'.cell? (ad.add (j * 4)) = some (.int .i64 y.f0) ∧ w'.cell? ⟨(ad.add (j * 4)).block, (ad.add (j * 4)).off + 1, none⟩ = some (.int .i64 y.f1) ∧ w'.cell? ⟨(ad.add (j * 4)).block, (ad.add (j * 4)).off + 2, none⟩ = some (.int .i64 y.f2) ∧ w'.cell? ⟨(ad.add (j * 4)).block, (ad.add (j * 4)).off + 3, none⟩ = some (.int .i64 y.f3) ∧ w'.cell? ⟨w.heap.size, 0, none⟩ = some (.int .i64 x.f0) ∧ w'.cell? ⟨w.heap.size, 1, none⟩ = some (.int .i64 x.f1) ∧ w'.cell? ⟨w.heap.size, 2, none⟩ = some (.int .i64 x.f2) ∧ w'.cell? ⟨w.heap.size, 3, none⟩ = some (.int .i64 x.f3)) (first | go_keep | (go_split_ands; refine ⟨?_, ?_, ?_, ?_, ?_, ?_, ?_, ?_⟩ <;> exact (hb3.cell (World.block_lt_of_cell? _ _ (by assumption))).trans (by assumption))) ((go_at_call 62; refine (impl_compareLeases.calls 5 y.f0 y.f1 y.f2 y.f3 x.f0 x.f1 x.f2 x.f3 (BS.cmp y x) _ (BS.cmp_f y x)).mono ?_; rintro e w3 ⟨rfl, hb3⟩))
        have HB3 := Aside0.mk (below_step (below_drew1 HB.out.1) hb3)
        clear hx0 hx1 hx2 hx3 y0 y1 y2 y3 hb3 HB
        go_wp2
        go_ret2
        exact ⟨by rw [← HP.out, HF.out]; rfl, by rw [← HP.out]; exact hil, HB3.out⟩
      · have c2 : decide (j < l0.length) = false := decide_eq_false hlt
        have hfo : BS.found l0 x = false := by
          unfold BS.found
          rw [← HP.out, decide_eq_false hlt, Bool.false_and]
        have HF := Aside0.mk hfo
        clear hfo hlt
        go_wp2
        go_quiet (fail)
        go_wp2
        go_ret2
        exact ⟨by rw [← HP.out, HF.out]; rfl, by rw [← HP.out]; exact hil, by repeat (first | exact HB.out.1 | apply below_alloc | apply pw_below_drewN | apply below_drew1)⟩


/-! ### impl_Lease_68: function 68 -/
/-- slices.Clone of leases: a copy. -/
def CL.f (l0 : List S34) : Option (List S34) := if l0.length ≤ 1048576 then some l0 else none
set_option maxHeartbeats 2000000 in
set_option maxRecDepth 1000000 in
theorem CL.calls (A0 : Option Addr) (c0 : Nat) (l0 : List S34) (r : List S34) (w : World) (hr0 : Kd.C k34 w A0 l0.length l0) (hc0 : l0.length ≤ c0) (h : CL.f l0 = some r) :
    Calls Try.prog 68 #[.slice A0 l0.length c0] w fun e w' => ∃ v0_ : Value, e = .returned (v0_) ∧ Kd.R k34 34 w' w.heap.size (fun _ => True) v0_ r ∧ Below w.heap.size w w' := by
  unfold CL.f at h
  by_cases hl : l0.length ≤ 1048576
  · rw [if_pos hl] at h
    obtain rfl := Option.some.inj h
    clear h
    have HL := Aside0.mk hl
    have HR0 := Aside0.mk hr0
    clear hl
    have q22 : ∀ (w : World) (a : Option Addr) (n c n' c' : Nat), (binOp .eql 24 (.slice a n c) (.slice none n' c')).run Try.prog w = .ok (.bool a.isNone) w := fun w a n c n' c' => Lib.run_eql_slice_nil w _ _ a n c n' c' Try.underlying24
    rcases A0 with _ | ad
    · have hn : l0 = [] := by
        rcases Nat.eq_zero_or_pos l0.length with e | e
        · exact List.eq_nil_of_length_eq_zero e
        · obtain ⟨ad, e2, _⟩ := hr0.2.2 e
          cases e2
      subst hn
      clear hr0 HR0
      go_enter Try.func68, Try.ntmps68
      go_wp2
      go_ret
      exact ⟨_, rfl, Kd.R_nil _ _ _ _ _, Below.refl _ _⟩
    · clear hr0
      go_enter Try.func68, Try.ntmps68
      go_wp2_with (first | ((with_reducible refine gate_dst (N := 5) rfl ?_); refine Kd.R_lit k34 _ 34 ?hg (N := 5) ?hd (xs := ([] : List S34)) (inner := []) (ok := fun _ => True) (okp := fun _ => True) ?hr ?hp (fun _ hk => hk) trivial (Below.refl _ _) (Nat.le_refl _) (by simp) ?_; (case hd => rfl); (case hg => rfl); (case hr => first | (go_simp; done) | (go_simp; rfl)); (case hp => exact (Reps.none _ _)); intro v1 w1 ho1 hb1 hg1 hn1; have HO := Aside0.mk ho1; have HB := Aside0.mk hb1; clear ho1 hb1 hg1 hn1) | ((with_reducible refine gate_builtin (b := .append) (xs := #[.tmp 5, .tmp 6]) rfl ?_); at_builtin; refine Kd.R_append_rows k34 (w0 := w) w.heap.size rfl (.tmp 5) (.tmp 6) 24 34 (.agg #[(.int .i64 0), (.int .i64 0), (.int .i64 0), (.int .i64 0)]) 32 rfl Try.underlying24 info34 rfl (by decide) (by omega) v1 ([] : List S34) l0 _ _ _ (fun _ => True) (fun _ => False) rfl rfl ?aO ?aR (fun _ _ h => h) (fun _ h => h.elim) ?aF ?aB ?aS ?aL ?_; (case aR => exact Kd.C_below HR0.out HB.out); (case aB => exact HB.out); (case aF => exact (fun _ _ => trivial)); (case aO => exact HO.out); (case aS => exact (below_size HB.out)); (case aL => have := HL.out; simp only [List.length_nil]; omega); intro v2 w2 ho2 hb2 hg2 hat2; have HO2 := Aside0.mk ho2; have HB2 := Aside0.mk hb2; clear ho2 hb2 hg2 hat2))
      go_ret
      exact ⟨_, rfl, HO2.out, HB2.out⟩
  · rw [if_neg hl] at h; cases h


/-! ### impl_leaseRenew: function 52 -/
def impl_leaseRenew.f (l0 : List S34) (a0 a1 a2 a3 now : Int) : Option (List S34 × Int) := if l0.length ≤ 1048576 then (if a3 > now then (if BS.found l0 ⟨a0, a1, a2, a3⟩ = true then (if (rd_T34 l0 (BS.pos l0 ⟨a0, a1, a2, a3⟩ : Int)).f3 > now then some (l0.set (BS.pos l0 ⟨a0, a1, a2, a3⟩) ⟨(rd_T34 l0 (BS.pos l0 ⟨a0, a1, a2, a3⟩ : Int)).f0, (rd_T34 l0 (BS.pos l0 ⟨a0, a1, a2, a3⟩ : Int)).f1, (rd_T34 l0 (BS.pos l0 ⟨a0, a1, a2, a3⟩ : Int)).f2, a3⟩, 0) else some ([], 5)) else some ([], 5)) else some ([], 2)) else none
set_option maxHeartbeats 4000000 in
set_option maxRecDepth 1000000 in
theorem impl_leaseRenew.calls (A0 : Option Addr) (c0 : Nat) (l0 : List S34) (a0 a1 a2 a3 now : Int) (r1 : List S34) (r2 : Int) (w : World) (hr0 : Kd.C k34 w A0 l0.length l0) (hc0 : l0.length ≤ c0) (h : impl_leaseRenew.f l0 a0 a1 a2 a3 now = some (r1, r2)) :
    Calls Try.prog 52 #[.slice A0 l0.length c0, .agg #[.int .i64 a0, .int .i64 a1, .int .i64 a2, .int .i64 a3], .int .i64 now] w fun e w' => ∃ v0_ : Value, e = .returned (.tuple #[v0_, .int .i64 r2]) ∧ Kd.R k34 34 w' w.heap.size (fun _ => True) v0_ r1 ∧ Below w.heap.size w w' := by
  have hu_ := Try.underlying34
  unfold impl_leaseRenew.f at h
  by_cases hl : l0.length ≤ 1048576
  case neg => rw [if_neg hl] at h; cases h
  rw [if_pos hl] at h
  have HR := Aside0.mk hr0
  have HC := Aside0.mk hc0
  have HL := Aside0.mk hl
  have HG := Aside0.mk (blk_new w (.cells #[.int .i64 a0, .int .i64 a1, .int .i64 a2, .int .i64 a3] 34 (0, 0)))
  have HB0 := Aside0.mk (below_alloc (Below.refl w.heap.size w) (.cells #[.int .i64 a0, .int .i64 a1, .int .i64 a2, .int .i64 a3] 34 (0, 0)))
  clear hr0 hc0 hl
  by_cases h1 : a3 > now
  case neg =>
    rw [if_neg h1] at h
    obtain ⟨rfl, rfl⟩ := Prod.mk.inj (Option.some.inj h)
    have HD := Aside0.mk (decide_eq_false h1)
    clear h h1
    go_enter Try.func52, Try.ntmps52
    go_wp2_with fail
    refine (impl_Lease_isActive.calls a0 a1 a2 a3 now false _ (by rw [← HD.out]; rfl)).mono ?_
    rintro e w3 ⟨rfl, hb⟩
    have HB := Aside0.mk (below_step HB0.out hb)
    clear hb
    go_wp2
    go_ret2
    exact ⟨_, rfl, Kd.R_nil _ _ _ _ _, HB.out⟩
  rw [if_pos h1] at h
  have HD := Aside0.mk (decide_eq_true h1)
  clear h1
  go_enter Try.func52, Try.ntmps52
  go_wp2_with fail
  refine (impl_Lease_isActive.calls a0 a1 a2 a3 now true _ (by rw [← HD.out]; rfl)).mono ?_
  rintro e w3 ⟨rfl, hb⟩
  have HB := Aside0.mk (below_step HB0.out hb)
  have hg3 := blk_below HG.out hb
  have HG3 := Aside0.mk hg3
  have z0 : w3.cell? ⟨w.heap.size, 0, none⟩ = some (.int .i64 a0) := (blk_cell hg3 0).trans rfl
  have z1 : w3.cell? ⟨w.heap.size, 1, none⟩ = some (.int .i64 a1) := (blk_cell hg3 1).trans rfl
  have z2 : w3.cell? ⟨w.heap.size, 2, none⟩ = some (.int .i64 a2) := (blk_cell hg3 2).trans rfl
  have z3 : w3.cell? ⟨w.heap.size, 3, none⟩ = some (.int .i64 a3) := (blk_cell hg3 3).trans rfl
  clear hb hg3
  go_wp2_with fail
  refine (BS.calls A0 c0 l0 ⟨a0, a1, a2, a3⟩ _ (Kd.C_below HR.out HB.out) HL.out).mono ?_
  rintro e w4 ⟨rfl, hp, hb⟩
  have HB4 := Aside0.mk (below_step HB.out hb)
  have hg4 := blk_below HG3.out hb
  have HP := Aside0.mk hp
  have z3' : w4.cell? ⟨w.heap.size, 3, none⟩ = some (.int .i64 a3) := (blk_cell hg4 3).trans rfl
  have HG4 := Aside0.mk hg4
  clear z0 z1 z2 z3 hb hg4 hp HB HG3
  have hfp : BS.found l0 ⟨a0, a1, a2, a3⟩ = true → BS.pos l0 ⟨a0, a1, a2, a3⟩ < l0.length := by
    intro hf
    unfold BS.found at hf
    rw [Bool.and_eq_true, decide_eq_true_eq] at hf
    exact hf.1
  generalize BS.pos l0 ⟨a0, a1, a2, a3⟩ = p at hfp h HP ⊢
  generalize BS.found l0 ⟨a0, a1, a2, a3⟩ = fo at hfp h ⊢
  cases fo with
  | false =>
    rw [if_neg (by decide)] at h
    obtain ⟨rfl, rfl⟩ := Prod.mk.inj (Option.some.inj h)
    clear h hfp z3'
    go_wp2
    go_ret2
    exact ⟨_, rfl, Kd.R_nil _ _ _ _ _, HB4.out⟩
  | true =>
    rw [if_pos rfl] at h
    have hpl := hfp rfl
    clear hfp
    have h0p : 0 ≤ (p : Int) := by omega
    have h1p : (p : Int) < (l0.length : Int) := by omega
    obtain ⟨ad, e1_, hx0, hx1, hx2, hx3⟩ := at_T34 HR.out (p : Int) h0p h1p
    subst e1_
    rw [Int.toNat_natCast] at hx0 hx1 hx2 hx3
    have hx0 := (HB4.out.cell (World.block_lt_of_cell? w _ hx0)).trans hx0
    have hx1 := (HB4.out.cell (World.block_lt_of_cell? w _ hx1)).trans hx1
    have hx2 := (HB4.out.cell (World.block_lt_of_cell? w _ hx2)).trans hx2
    have hx3 := (HB4.out.cell (World.block_lt_of_cell? w _ hx3)).trans hx3
    generalize hrd : rd_T34 l0 (p : Int) = y at *
    have HRD := Aside0.mk hrd
    clear hrd
    by_cases h2 : y.f3 > now
    case neg =>
      rw [if_neg h2] at h
      obtain ⟨rfl, rfl⟩ := Prod.mk.inj (Option.some.inj h)
      have HD2 := Aside0.mk (decide_eq_false h2)
      clear h h2
      go_wp2_with fail
      refine (impl_Lease_isActive.calls y.f0 y.f1 y.f2 y.f3 now false _ (by rw [← HD2.out]; rfl)).mono ?_
      rintro e w5 ⟨rfl, hb⟩
      have HB5 := Aside0.mk (below_step HB4.out hb)
      clear hb hx0 hx1 hx2 hx3 z3'
      go_wp2
      go_ret2
      exact ⟨_, rfl, Kd.R_nil _ _ _ _ _, HB5.out⟩
    rw [if_pos h2] at h
    obtain ⟨rfl, rfl⟩ := Prod.mk.inj (Option.some.inj h)
    have HD2 := Aside0.mk (decide_eq_true h2)
    clear h h2
    go_wp2_with fail
    refine (impl_Lease_isActive.calls y.f0 y.f1 y.f2 y.f3 now true _ (by rw [← HD2.out]; rfl)).mono ?_
    rintro e w5 ⟨rfl, hb⟩
    have HB5 := Aside0.mk (below_step HB4.out hb)
    have HG5 := Aside0.mk (blk_below HG4.out hb)
    clear hb hx0 hx1 hx2 hx3 z3'
    go_wp2_with fail
    refine (CL.calls _ c0 l0 l0 _ (Kd.C_below HR.out HB5.out) HC.out (by unfold CL.f; rw [if_pos HL.out])).mono ?_
    rintro e w6 ⟨v6, rfl, ho, hb⟩
    have HB6 := Aside0.mk (below_step HB5.out hb)
    have hg6 := blk_below HG5.out hb
    have HO := Aside0.mk (Kd.R_lower ho (below_size HB5.out))
    have HNE := Aside0.mk (Kd.R_newB ho HG5.out)
    have z3 : w6.cell? ⟨w.heap.size, 3, none⟩ = some (.int .i64 a3) := (blk_cell hg6 3).trans rfl
    clear hb ho hg6
    obtain ⟨Ao, co, eo⟩ := Kd.R_slice HO.out
    subst eo
    obtain ⟨go5, co5, eo5, gb5, gl5, cl5, hg5⟩ := Kd.R_form HO.out (by omega)
    (first | cases eo5 | (injection eo5 with ea_ en_ ec_; (first | subst ea_ | (injection ea_ with ea_; subst ea_)); subst ec_; clear en_))
    have GB5 := Aside0.mk gb5
    clear gb5 gl5 hg5 cl5
    obtain ⟨ce5, hcl5, hM5, hcc5, hfr5⟩ := Kd.R_elem HO.out z34 (p : Int) h0p h1p
    obtain rfl := k34_openM hM5
    have hrd2 : l0.getD p z34 = y := by have h_ := HRD.out; unfold rd_T34 at h_; rwa [Int.toNat_natCast] at h_
    rw [Int.toNat_natCast, hrd2] at hcl5 hM5 hcc5
    rw [Int.toNat_natCast] at hfr5
    clear hM5 hrd2
    have HP5 := Kd.R_seg HO.out (p : Int) h0p h1p (seg := [.int .i64 a3]) (j := 3) (c := [.int .i64 y.f0, .int .i64 y.f1, .int .i64 y.f2, .int .i64 y.f3]) hcl5 (by rw [Int.toNat_natCast]; exact hcc5) (show 4 ≤ 4 from by decide) (x' := (⟨y.f0, y.f1, y.f2, a3⟩ : S34)) (k34_mkM _ _ _ (⟨y.f0, y.f1, y.f2, a3⟩ : S34)) (fun _ hk => hk)
    have hx3 : w6.cell? ⟨go5, p * 4 + 3, none⟩ = some (.int .i64 y.f3) := hcc5 3 _ rfl
    have hf3 : w6.frozen? ⟨go5, p * 4 + 3, none⟩ = false := hfr5 3
    rw [Int.toNat_natCast] at HP5
    have HQ5 := Aside0.mk HP5
    clear HP5 hcl5 hcc5 hfr5
    go_wp2_with (first | ((with_reducible refine gate_store (t := 3) (p := 39) rfl ?_); refine store_event (t := 3) (p := 39) (v := ?vo) (w1 := (w6.setCell ⟨go5, p * 4 + 3, none⟩ (.int .i64 a3))) ?hg ?ho ?hn ?hr ?_; (case ho => rfl); (case hg => rfl); (case hn => rfl); (case hr => first | (go_simp; done) | (go_simp; rfl)); intro w11 hw; have hp_ : Kd.R k34 34 w11 w.heap.size (fun _ => True) (.slice (some ⟨go5, 0, none⟩) l0.length co) (l0.set p ⟨y.f0, y.f1, y.f2, a3⟩) := (by rw [hw]; exact HQ5.out.1); have HO2 := Aside0.mk hp_; have HB7 := Aside0.mk ((by rw [hw]; exact below_set (HB6.out) GB5.out : Below w.heap.size w w11)); clear hp_ hw))
    go_ret2
    exact ⟨_, rfl, HO2.out, HB7.out⟩

/-! ### impl_LeaseRenew: function 28 -/
def impl_LeaseRenew.f (k : Nat) (l0 : List (S34)) (a1_0 : Int) (a1_1 : Int) (a1_2 : Int) (a1_3 : Int) (a2 : Int) : Option ((List (S34)) × Int) := (impl_areLeases.f k l0).bind fun t177 => (if t177 = true then ((impl_isLease.f a1_0 a1_1 a1_2 a1_3).bind fun t178 => (if t178 = true then ((impl_isClock.f a2).bind fun t179 => (if t179 = true then ((impl_leaseRenew.f l0 a1_0 a1_1 a1_2 a1_3 a2).bind fun bt180 => (some (bt180.1, bt180.2))) else (some (([] : List (S34)), 1)))) else (some (([] : List (S34)), 1)))) else (some (([] : List (S34)), 1)))
theorem impl_LeaseRenew.mono : ∀ a0 a1 a2 a3 a4 a5 k, LeO (impl_LeaseRenew.f k a0 a1 a2 a3 a4 a5) (impl_LeaseRenew.f (k + 1) a0 a1 a2 a3 a4 a5) := by
  intro a0 a1 a2 a3 a4 a5 k
  unfold impl_LeaseRenew.f
  repeat' first
      | (with_reducible exact impl_areLeases.mono _ _)
      | (with_reducible exact LeO.refl _)
      | (with_reducible exact LeO.none _)
      | (with_reducible refine LeO.ite ?_ ?_)
      | (with_reducible refine LeO.bind ?_ (fun _ => ?_))
      | exact impl_areLeases.mono _ _
      | exact LeO.none _
      | refine LeO.ite ?_ ?_
      | refine LeO.bind ?_ (fun _ => ?_)
set_option maxHeartbeats 8000000 in
set_option maxRecDepth 100000 in
theorem impl_LeaseRenew.calls (k : Nat) (A0 : Option Addr) (c0 : Nat) (l0 : List (S34)) (a1_0 : Int) (a1_1 : Int) (a1_2 : Int) (a1_3 : Int) (a2 : Int) (r1 : List (S34)) (r2 : Int) (w : World) (hr0 : Kd.C k34 w A0 l0.length l0) (hc0 : l0.length ≤ c0) (h : impl_LeaseRenew.f k l0 a1_0 a1_1 a1_2 a1_3 a2 = some (r1, r2)) :
    Calls Try.prog 28 #[.slice A0 l0.length c0, .agg #[.int .i64 a1_0, .int .i64 a1_1, .int .i64 a1_2, .int .i64 a1_3], .int .i64 a2] w fun e w' => ∃ v0_ : Value, e = .returned (.tuple #[v0_, .int .i64 r2]) ∧ Kd.R k34 34 w' w.heap.size (fun _ => True) v0_ r1 ∧ Below w.heap.size w w' := by
  have hu34 := Try.underlying34
  have HR0 := Aside0.mk hr0
  have HC0 := Aside0.mk hc0
  clear hr0 hc0
  have HB := Aside0.mk (Below.refl w.heap.size w)
  have H : ((impl_areLeases.f k l0).bind fun t177 => (if t177 = true then ((impl_isLease.f a1_0 a1_1 a1_2 a1_3).bind fun t178 => (if t178 = true then ((impl_isClock.f a2).bind fun t179 => (if t179 = true then ((impl_leaseRenew.f l0 a1_0 a1_1 a1_2 a1_3 a2).bind fun bt180 => (some (bt180.1, bt180.2))) else (some (([] : List (S34)), 1)))) else (some (([] : List (S34)), 1)))) else (some (([] : List (S34)), 1)))) = some (r1, r2) := h
  clear h
  replace H := Option.bind_eq_some_iff.mp H
  obtain ⟨t177, A40, H⟩ := H
  replace H : (if t177 = true then ((impl_isLease.f a1_0 a1_1 a1_2 a1_3).bind fun t178 => (if t178 = true then ((impl_isClock.f a2).bind fun t179 => (if t179 = true then ((impl_leaseRenew.f l0 a1_0 a1_1 a1_2 a1_3 a2).bind fun bt180 => (some (bt180.1, bt180.2))) else (some (([] : List (S34)), 1)))) else (some (([] : List (S34)), 1)))) else (some (([] : List (S34)), 1))) = some (r1, r2) := H
  have A4 := Aside0.mk A40
  clear A40
  by_cases c5 : t177 = true
  · subst c5
    have H1 : ((impl_isLease.f a1_0 a1_1 a1_2 a1_3).bind fun t178 => (if t178 = true then ((impl_isClock.f a2).bind fun t179 => (if t179 = true then ((impl_leaseRenew.f l0 a1_0 a1_1 a1_2 a1_3 a2).bind fun bt180 => (some (bt180.1, bt180.2))) else (some (([] : List (S34)), 1)))) else (some (([] : List (S34)), 1)))) = some (r1, r2) := by rw [if_pos rfl] at H; exact H
    clear H
    have H := H1
    clear H1
    replace H := Option.bind_eq_some_iff.mp H
    obtain ⟨t178, A60, H⟩ := H
    replace H : (if t178 = true then ((impl_isClock.f a2).bind fun t179 => (if t179 = true then ((impl_leaseRenew.f l0 a1_0 a1_1 a1_2 a1_3 a2).bind fun bt180 => (some (bt180.1, bt180.2))) else (some (([] : List (S34)), 1)))) else (some (([] : List (S34)), 1))) = some (r1, r2) := H
    have A6 := Aside0.mk A60
    clear A60
    by_cases c7 : t178 = true
    · subst c7
      have H1 : ((impl_isClock.f a2).bind fun t179 => (if t179 = true then ((impl_leaseRenew.f l0 a1_0 a1_1 a1_2 a1_3 a2).bind fun bt180 => (some (bt180.1, bt180.2))) else (some (([] : List (S34)), 1)))) = some (r1, r2) := by rw [if_pos rfl] at H; exact H
      clear H
      have H := H1
      clear H1
      replace H := Option.bind_eq_some_iff.mp H
      obtain ⟨t179, A80, H⟩ := H
      replace H : (if t179 = true then ((impl_leaseRenew.f l0 a1_0 a1_1 a1_2 a1_3 a2).bind fun bt180 => (some (bt180.1, bt180.2))) else (some (([] : List (S34)), 1))) = some (r1, r2) := H
      have A8 := Aside0.mk A80
      clear A80
      by_cases c9 : t179 = true
      · subst c9
        have H1 : ((impl_leaseRenew.f l0 a1_0 a1_1 a1_2 a1_3 a2).bind fun bt180 => (some (bt180.1, bt180.2))) = some (r1, r2) := by rw [if_pos rfl] at H; exact H
        clear H
        have H := H1
        clear H1
        replace H := Option.bind_eq_some_iff.mp H
        obtain ⟨⟨t180, t183⟩, A100, H⟩ := H
        replace H : (some (t180, t183)) = some (r1, r2) := H
        have A10 := Aside0.mk A100
        clear A100
        simp only [Option.some.injEq, Prod.mk.injEq] at H
        obtain ⟨rfl, rfl⟩ := H
        go_enter Try.func28, Try.ntmps28
        go_wp2_with (first | ((with_reducible refine gate_dst (N := 4) rfl ?_); refine box_event ?hg (N := 4) ?hd (cs := #[.int .i64 a1_0, .int .i64 a1_1, .int .i64 a1_2, .int .i64 a1_3]) (t := 34) ?hr ?_; (case hd => rfl); (case hg => rfl); (case hr => first | (go_simp; done) | (go_simp; rfl)); intro gb176 hg w11 hbox hb; have n0_ := Aside0.mk (below_step (by repeat (first | (with_reducible first | exact HB.out | apply below_alloc | apply pw_below_drewN | apply below_drew1) | exact HB.out)) hb); have n1_ := Aside0.mk (hbox); have n2_ := Aside0.mk ((by rw [hg]; exact (below_size (by repeat (first | (with_reducible first | exact HB.out | apply below_alloc | apply pw_below_drewN | apply below_drew1) | exact HB.out))) : w.heap.size ≤ gb176)); have n3_ := Aside0.mk ((by rw [hg]; exact (below_size (by repeat (first | (with_reducible first | exact HB.out | apply below_alloc | apply pw_below_drewN | apply below_drew1) | exact HB.out))) : w.heap.size ≤ gb176)); clear HB; have HB := n0_; have BK176 := n1_; have GW176 := n2_; have GE176 := n3_; clear n0_ n1_ n2_ n3_; clear hb hbox hg) | ((with_reducible refine gate_callee (f := 35) rfl ?_); refine goesL_ (some 9) rfl rfl Try.func35 (by kernel_rfl) rfl #[.slice A0 l0.length c0] rfl (by (try simp only [List.map_toArray, List.map_cons, List.map_nil]); first | done | rfl | (simp only [List.length_drop, List.length_take]; rfl)) ?_; (with_reducible refine (impl_areLeases.calls k _ _ l0 true _ ?side1 ?side2 A4.out).mono ?_); (case side1 => repeat (first | exact (Kd.C_below HR0.out HB.out) | exact HR0.out | (with_reducible refine Kd.C_alloc ?_ _) | (with_reducible refine Kd.C_drewN ?_ _) | (with_reducible refine Kd.C_drew ?_))); (case side2 => exact HC0.out); rintro e w12 ⟨rfl, hb⟩; refine ⟨_, rfl, ?_⟩; have n0_ := Aside0.mk (blk_below (g := gb176) (o := .cells #[.int .i64 a1_0, .int .i64 a1_1, .int .i64 a1_2, .int .i64 a1_3] 34 (0, 0)) (by (with_reducible repeat (first | refine blk_drewN ?_ _ | refine blk_drew ?_ | refine blk_alloc ?_ _)); exact BK176.out) hb); have n1_ := Aside0.mk (below_step (by repeat (first | (with_reducible first | exact HB.out | apply below_alloc | apply pw_below_drewN | apply below_drew1 | refine below_set ?_ GE176.out) | exact HB.out)) hb); clear BK176; clear HB; have BK176 := n0_; have HB := n1_; clear n0_ n1_; (try clear hb); (try clear hb2); (try clear hk); (try clear hi); have hcz13_0 : w12.cell? ⟨gb176, 0, none⟩ = some (.int .i64 a1_0) := (blk_cell BK176.out 0).trans rfl; have hcz13_1 : w12.cell? ⟨gb176, 1, none⟩ = some (.int .i64 a1_1) := (blk_cell BK176.out 1).trans rfl; have hcz13_2 : w12.cell? ⟨gb176, 2, none⟩ = some (.int .i64 a1_2) := (blk_cell BK176.out 2).trans rfl; have hcz13_3 : w12.cell? ⟨gb176, 3, none⟩ = some (.int .i64 a1_3) := (blk_cell BK176.out 3).trans rfl; have hfz13_0 := blk_frozen BK176.out 0; have hfz13_1 := blk_frozen BK176.out 1; have hfz13_2 := blk_frozen BK176.out 2; have hfz13_3 := blk_frozen BK176.out 3) | (go_at_call 43; (with_reducible refine (impl_isLease.calls a1_0 a1_1 a1_2 a1_3 true _ A6.out).mono ?_); rintro e w14 ⟨rfl, hb⟩; have n0_ := Aside0.mk (blk_below (g := gb176) (o := .cells #[.int .i64 a1_0, .int .i64 a1_1, .int .i64 a1_2, .int .i64 a1_3] 34 (0, 0)) (by (with_reducible repeat (first | refine blk_drewN ?_ _ | refine blk_drew ?_ | refine blk_alloc ?_ _)); exact BK176.out) hb); have n1_ := Aside0.mk (below_step (by repeat (first | (with_reducible first | exact HB.out | apply below_alloc | apply pw_below_drewN | apply below_drew1 | refine below_set ?_ GE176.out) | exact HB.out)) hb); clear BK176; clear HB; have BK176 := n0_; have HB := n1_; clear n0_ n1_; (try clear hb); (try clear hb2); (try clear hk); (try clear hi)) | (go_at_call 51; (with_reducible refine (impl_isClock.calls a2 true _ A8.out).mono ?_); rintro e w' ⟨rfl, ⟨nd, rfl⟩⟩; have hcz15_0 : w14.cell? ⟨gb176, 0, none⟩ = some (.int .i64 a1_0) := (blk_cell BK176.out 0).trans rfl; have hcz15_1 : w14.cell? ⟨gb176, 1, none⟩ = some (.int .i64 a1_1) := (blk_cell BK176.out 1).trans rfl; have hcz15_2 : w14.cell? ⟨gb176, 2, none⟩ = some (.int .i64 a1_2) := (blk_cell BK176.out 2).trans rfl; have hcz15_3 : w14.cell? ⟨gb176, 3, none⟩ = some (.int .i64 a1_3) := (blk_cell BK176.out 3).trans rfl; have hfz15_0 := blk_frozen BK176.out 0; have hfz15_1 := blk_frozen BK176.out 1; have hfz15_2 := blk_frozen BK176.out 2; have hfz15_3 := blk_frozen BK176.out 3) | ((with_reducible refine gate_callee (f := 52) rfl ?_); refine goesL_ (some 24) rfl rfl Try.func52 (by kernel_rfl) rfl #[.slice A0 l0.length c0, .agg #[.int .i64 a1_0, .int .i64 a1_1, .int .i64 a1_2, .int .i64 a1_3], .int .i64 a2] rfl (by (try simp only [List.map_toArray, List.map_cons, List.map_nil]); first | done | rfl | (simp only [List.length_drop, List.length_take]; rfl)) ?_; (with_reducible refine (impl_leaseRenew.calls _ _ l0 a1_0 a1_1 a1_2 a1_3 a2 t180 t183 _ ?side1 ?side2 A10.out).mono ?_); (case side1 => repeat (first | exact (Kd.C_below HR0.out (by repeat (first | (with_reducible first | exact HB.out | apply below_alloc | apply pw_below_drewN | apply below_drew1 | refine below_set ?_ GE176.out) | exact HB.out))) | (with_reducible refine Kd.C_alloc ?_ _) | (with_reducible refine Kd.C_drewN ?_ _) | (with_reducible refine Kd.C_drew ?_))); (case side2 => exact HC0.out); rintro e w16 ⟨v181, rfl, ho0, hb⟩; refine ⟨_, rfl, ?_⟩; have n0_ := Aside0.mk (Kd.R_lower (Kd.R_newB ho0 (g := gb176) (o := .cells #[.int .i64 a1_0, .int .i64 a1_1, .int .i64 a1_2, .int .i64 a1_3] 34 (0, 0)) (by (with_reducible repeat (first | refine blk_drewN ?_ _ | refine blk_drew ?_ | refine blk_alloc ?_ _)); exact BK176.out)) (below_size (by repeat (first | (with_reducible first | exact HB.out | apply below_alloc | apply pw_below_drewN | apply below_drew1 | refine below_set ?_ GE176.out) | exact HB.out)))); have n1_ := Aside0.mk (blk_below (g := gb176) (o := .cells #[.int .i64 a1_0, .int .i64 a1_1, .int .i64 a1_2, .int .i64 a1_3] 34 (0, 0)) (by (with_reducible repeat (first | refine blk_drewN ?_ _ | refine blk_drew ?_ | refine blk_alloc ?_ _)); exact BK176.out) hb); have n2_ := Aside0.mk (below_step (by repeat (first | (with_reducible first | exact HB.out | apply below_alloc | apply pw_below_drewN | apply below_drew1 | refine below_set ?_ GE176.out) | exact HB.out)) hb); clear BK176; clear HB; have HO182 := n0_; have BK176 := n1_; have HB := n2_; clear n0_ n1_ n2_; (try clear hb); (try clear hb2); (try clear hk); (try clear hi); (try clear ho0)))
        go_ret2
        exact ⟨_, by first | rfl | (simp [errW_none, errW_some] <;> rfl) | (simp [*, errW_none, errW_some] <;> rfl), by (with_reducible repeat (first | apply Kd.R_alloc | apply Kd.R_drewN | apply Kd.R_drew)); exact Kd.R_mono HO182.out (fun _ hk => trivial), by repeat (first | (with_reducible first | exact HB.out | apply below_alloc | apply pw_below_drewN | apply below_drew1 | refine below_set ?_ GE176.out) | exact HB.out)⟩
      · replace c9 := Bool.eq_false_iff.mpr c9
        subst c9
        have H1 : (some (([] : List (S34)), 1)) = some (r1, r2) := by rw [if_neg (show ¬ (false = true) by decide)] at H; exact H
        clear H
        have H := H1
        clear H1
        simp only [Option.some.injEq, Prod.mk.injEq] at H
        obtain ⟨rfl, rfl⟩ := H
        go_enter Try.func28, Try.ntmps28
        go_wp2_with (first | ((with_reducible refine gate_dst (N := 4) rfl ?_); refine box_event ?hg (N := 4) ?hd (cs := #[.int .i64 a1_0, .int .i64 a1_1, .int .i64 a1_2, .int .i64 a1_3]) (t := 34) ?hr ?_; (case hd => rfl); (case hg => rfl); (case hr => first | (go_simp; done) | (go_simp; rfl)); intro gb176 hg w17 hbox hb; have n0_ := Aside0.mk (below_step (by repeat (first | (with_reducible first | exact HB.out | apply below_alloc | apply pw_below_drewN | apply below_drew1) | exact HB.out)) hb); have n1_ := Aside0.mk (hbox); have n2_ := Aside0.mk ((by rw [hg]; exact (below_size (by repeat (first | (with_reducible first | exact HB.out | apply below_alloc | apply pw_below_drewN | apply below_drew1) | exact HB.out))) : w.heap.size ≤ gb176)); have n3_ := Aside0.mk ((by rw [hg]; exact (below_size (by repeat (first | (with_reducible first | exact HB.out | apply below_alloc | apply pw_below_drewN | apply below_drew1) | exact HB.out))) : w.heap.size ≤ gb176)); clear HB; have HB := n0_; have BK176 := n1_; have GW176 := n2_; have GE176 := n3_; clear n0_ n1_ n2_ n3_; clear hb hbox hg) | ((with_reducible refine gate_callee (f := 35) rfl ?_); refine goesL_ (some 9) rfl rfl Try.func35 (by kernel_rfl) rfl #[.slice A0 l0.length c0] rfl (by (try simp only [List.map_toArray, List.map_cons, List.map_nil]); first | done | rfl | (simp only [List.length_drop, List.length_take]; rfl)) ?_; (with_reducible refine (impl_areLeases.calls k _ _ l0 true _ ?side1 ?side2 A4.out).mono ?_); (case side1 => repeat (first | exact (Kd.C_below HR0.out HB.out) | exact HR0.out | (with_reducible refine Kd.C_alloc ?_ _) | (with_reducible refine Kd.C_drewN ?_ _) | (with_reducible refine Kd.C_drew ?_))); (case side2 => exact HC0.out); rintro e w18 ⟨rfl, hb⟩; refine ⟨_, rfl, ?_⟩; have n0_ := Aside0.mk (blk_below (g := gb176) (o := .cells #[.int .i64 a1_0, .int .i64 a1_1, .int .i64 a1_2, .int .i64 a1_3] 34 (0, 0)) (by (with_reducible repeat (first | refine blk_drewN ?_ _ | refine blk_drew ?_ | refine blk_alloc ?_ _)); exact BK176.out) hb); have n1_ := Aside0.mk (below_step (by repeat (first | (with_reducible first | exact HB.out | apply below_alloc | apply pw_below_drewN | apply below_drew1 | refine below_set ?_ GE176.out) | exact HB.out)) hb); clear BK176; clear HB; have BK176 := n0_; have HB := n1_; clear n0_ n1_; (try clear hb); (try clear hb2); (try clear hk); (try clear hi); have hcz19_0 : w18.cell? ⟨gb176, 0, none⟩ = some (.int .i64 a1_0) := (blk_cell BK176.out 0).trans rfl; have hcz19_1 : w18.cell? ⟨gb176, 1, none⟩ = some (.int .i64 a1_1) := (blk_cell BK176.out 1).trans rfl; have hcz19_2 : w18.cell? ⟨gb176, 2, none⟩ = some (.int .i64 a1_2) := (blk_cell BK176.out 2).trans rfl; have hcz19_3 : w18.cell? ⟨gb176, 3, none⟩ = some (.int .i64 a1_3) := (blk_cell BK176.out 3).trans rfl; have hfz19_0 := blk_frozen BK176.out 0; have hfz19_1 := blk_frozen BK176.out 1; have hfz19_2 := blk_frozen BK176.out 2; have hfz19_3 := blk_frozen BK176.out 3) | (go_at_call 43; (with_reducible refine (impl_isLease.calls a1_0 a1_1 a1_2 a1_3 true _ A6.out).mono ?_); rintro e w20 ⟨rfl, hb⟩; have n0_ := Aside0.mk (blk_below (g := gb176) (o := .cells #[.int .i64 a1_0, .int .i64 a1_1, .int .i64 a1_2, .int .i64 a1_3] 34 (0, 0)) (by (with_reducible repeat (first | refine blk_drewN ?_ _ | refine blk_drew ?_ | refine blk_alloc ?_ _)); exact BK176.out) hb); have n1_ := Aside0.mk (below_step (by repeat (first | (with_reducible first | exact HB.out | apply below_alloc | apply pw_below_drewN | apply below_drew1 | refine below_set ?_ GE176.out) | exact HB.out)) hb); clear BK176; clear HB; have BK176 := n0_; have HB := n1_; clear n0_ n1_; (try clear hb); (try clear hb2); (try clear hk); (try clear hi)) | (go_at_call 51; (with_reducible refine (impl_isClock.calls a2 false _ A8.out).mono ?_); rintro e w' ⟨rfl, ⟨nd, rfl⟩⟩))
        go_ret2
        exact ⟨_, by first | rfl | (simp [errW_none, errW_some] <;> rfl) | (simp [*, errW_none, errW_some] <;> rfl), by first | exact Kd.R_nil _ _ _ _ _ | exact Kd.N_nil _ _ _ _ _ | exact Kd.V_nil _ _ _ _ _ | exact Kd.Q_nil _ _ _ _ _ | exact Kd.S_nil _ _ _ _ _, by repeat (first | (with_reducible first | exact HB.out | apply below_alloc | apply pw_below_drewN | apply below_drew1 | refine below_set ?_ GE176.out) | exact HB.out)⟩
    · replace c7 := Bool.eq_false_iff.mpr c7
      subst c7
      have H1 : (some (([] : List (S34)), 1)) = some (r1, r2) := by rw [if_neg (show ¬ (false = true) by decide)] at H; exact H
      clear H
      have H := H1
      clear H1
      simp only [Option.some.injEq, Prod.mk.injEq] at H
      obtain ⟨rfl, rfl⟩ := H
      go_enter Try.func28, Try.ntmps28
      go_wp2_with (first | ((with_reducible refine gate_dst (N := 4) rfl ?_); refine box_event ?hg (N := 4) ?hd (cs := #[.int .i64 a1_0, .int .i64 a1_1, .int .i64 a1_2, .int .i64 a1_3]) (t := 34) ?hr ?_; (case hd => rfl); (case hg => rfl); (case hr => first | (go_simp; done) | (go_simp; rfl)); intro gb176 hg w21 hbox hb; have n0_ := Aside0.mk (below_step (by repeat (first | (with_reducible first | exact HB.out | apply below_alloc | apply pw_below_drewN | apply below_drew1) | exact HB.out)) hb); have n1_ := Aside0.mk (hbox); have n2_ := Aside0.mk ((by rw [hg]; exact (below_size (by repeat (first | (with_reducible first | exact HB.out | apply below_alloc | apply pw_below_drewN | apply below_drew1) | exact HB.out))) : w.heap.size ≤ gb176)); have n3_ := Aside0.mk ((by rw [hg]; exact (below_size (by repeat (first | (with_reducible first | exact HB.out | apply below_alloc | apply pw_below_drewN | apply below_drew1) | exact HB.out))) : w.heap.size ≤ gb176)); clear HB; have HB := n0_; have BK176 := n1_; have GW176 := n2_; have GE176 := n3_; clear n0_ n1_ n2_ n3_; clear hb hbox hg) | ((with_reducible refine gate_callee (f := 35) rfl ?_); refine goesL_ (some 9) rfl rfl Try.func35 (by kernel_rfl) rfl #[.slice A0 l0.length c0] rfl (by (try simp only [List.map_toArray, List.map_cons, List.map_nil]); first | done | rfl | (simp only [List.length_drop, List.length_take]; rfl)) ?_; (with_reducible refine (impl_areLeases.calls k _ _ l0 true _ ?side1 ?side2 A4.out).mono ?_); (case side1 => repeat (first | exact (Kd.C_below HR0.out HB.out) | exact HR0.out | (with_reducible refine Kd.C_alloc ?_ _) | (with_reducible refine Kd.C_drewN ?_ _) | (with_reducible refine Kd.C_drew ?_))); (case side2 => exact HC0.out); rintro e w22 ⟨rfl, hb⟩; refine ⟨_, rfl, ?_⟩; have n0_ := Aside0.mk (blk_below (g := gb176) (o := .cells #[.int .i64 a1_0, .int .i64 a1_1, .int .i64 a1_2, .int .i64 a1_3] 34 (0, 0)) (by (with_reducible repeat (first | refine blk_drewN ?_ _ | refine blk_drew ?_ | refine blk_alloc ?_ _)); exact BK176.out) hb); have n1_ := Aside0.mk (below_step (by repeat (first | (with_reducible first | exact HB.out | apply below_alloc | apply pw_below_drewN | apply below_drew1 | refine below_set ?_ GE176.out) | exact HB.out)) hb); clear BK176; clear HB; have BK176 := n0_; have HB := n1_; clear n0_ n1_; (try clear hb); (try clear hb2); (try clear hk); (try clear hi); have hcz23_0 : w22.cell? ⟨gb176, 0, none⟩ = some (.int .i64 a1_0) := (blk_cell BK176.out 0).trans rfl; have hcz23_1 : w22.cell? ⟨gb176, 1, none⟩ = some (.int .i64 a1_1) := (blk_cell BK176.out 1).trans rfl; have hcz23_2 : w22.cell? ⟨gb176, 2, none⟩ = some (.int .i64 a1_2) := (blk_cell BK176.out 2).trans rfl; have hcz23_3 : w22.cell? ⟨gb176, 3, none⟩ = some (.int .i64 a1_3) := (blk_cell BK176.out 3).trans rfl; have hfz23_0 := blk_frozen BK176.out 0; have hfz23_1 := blk_frozen BK176.out 1; have hfz23_2 := blk_frozen BK176.out 2; have hfz23_3 := blk_frozen BK176.out 3) | (go_at_call 43; (with_reducible refine (impl_isLease.calls a1_0 a1_1 a1_2 a1_3 false _ A6.out).mono ?_); rintro e w24 ⟨rfl, hb⟩; have n0_ := Aside0.mk (blk_below (g := gb176) (o := .cells #[.int .i64 a1_0, .int .i64 a1_1, .int .i64 a1_2, .int .i64 a1_3] 34 (0, 0)) (by (with_reducible repeat (first | refine blk_drewN ?_ _ | refine blk_drew ?_ | refine blk_alloc ?_ _)); exact BK176.out) hb); have n1_ := Aside0.mk (below_step (by repeat (first | (with_reducible first | exact HB.out | apply below_alloc | apply pw_below_drewN | apply below_drew1 | refine below_set ?_ GE176.out) | exact HB.out)) hb); clear BK176; clear HB; have BK176 := n0_; have HB := n1_; clear n0_ n1_; (try clear hb); (try clear hb2); (try clear hk); (try clear hi)))
      go_ret2
      exact ⟨_, by first | rfl | (simp [errW_none, errW_some] <;> rfl) | (simp [*, errW_none, errW_some] <;> rfl), by first | exact Kd.R_nil _ _ _ _ _ | exact Kd.N_nil _ _ _ _ _ | exact Kd.V_nil _ _ _ _ _ | exact Kd.Q_nil _ _ _ _ _ | exact Kd.S_nil _ _ _ _ _, by repeat (first | (with_reducible first | exact HB.out | apply below_alloc | apply pw_below_drewN | apply below_drew1 | refine below_set ?_ GE176.out) | exact HB.out)⟩
  · replace c5 := Bool.eq_false_iff.mpr c5
    subst c5
    have H1 : (some (([] : List (S34)), 1)) = some (r1, r2) := by rw [if_neg (show ¬ (false = true) by decide)] at H; exact H
    clear H
    have H := H1
    clear H1
    simp only [Option.some.injEq, Prod.mk.injEq] at H
    obtain ⟨rfl, rfl⟩ := H
    go_enter Try.func28, Try.ntmps28
    go_wp2_with (first | ((with_reducible refine gate_dst (N := 4) rfl ?_); refine box_event ?hg (N := 4) ?hd (cs := #[.int .i64 a1_0, .int .i64 a1_1, .int .i64 a1_2, .int .i64 a1_3]) (t := 34) ?hr ?_; (case hd => rfl); (case hg => rfl); (case hr => first | (go_simp; done) | (go_simp; rfl)); intro gb176 hg w25 hbox hb; have n0_ := Aside0.mk (below_step (by repeat (first | (with_reducible first | exact HB.out | apply below_alloc | apply pw_below_drewN | apply below_drew1) | exact HB.out)) hb); have n1_ := Aside0.mk (hbox); have n2_ := Aside0.mk ((by rw [hg]; exact (below_size (by repeat (first | (with_reducible first | exact HB.out | apply below_alloc | apply pw_below_drewN | apply below_drew1) | exact HB.out))) : w.heap.size ≤ gb176)); have n3_ := Aside0.mk ((by rw [hg]; exact (below_size (by repeat (first | (with_reducible first | exact HB.out | apply below_alloc | apply pw_below_drewN | apply below_drew1) | exact HB.out))) : w.heap.size ≤ gb176)); clear HB; have HB := n0_; have BK176 := n1_; have GW176 := n2_; have GE176 := n3_; clear n0_ n1_ n2_ n3_; clear hb hbox hg) | ((with_reducible refine gate_callee (f := 35) rfl ?_); refine goesL_ (some 9) rfl rfl Try.func35 (by kernel_rfl) rfl #[.slice A0 l0.length c0] rfl (by (try simp only [List.map_toArray, List.map_cons, List.map_nil]); first | done | rfl | (simp only [List.length_drop, List.length_take]; rfl)) ?_; (with_reducible refine (impl_areLeases.calls k _ _ l0 false _ ?side1 ?side2 A4.out).mono ?_); (case side1 => repeat (first | exact (Kd.C_below HR0.out HB.out) | exact HR0.out | (with_reducible refine Kd.C_alloc ?_ _) | (with_reducible refine Kd.C_drewN ?_ _) | (with_reducible refine Kd.C_drew ?_))); (case side2 => exact HC0.out); rintro e w26 ⟨rfl, hb⟩; refine ⟨_, rfl, ?_⟩; have n0_ := Aside0.mk (blk_below (g := gb176) (o := .cells #[.int .i64 a1_0, .int .i64 a1_1, .int .i64 a1_2, .int .i64 a1_3] 34 (0, 0)) (by (with_reducible repeat (first | refine blk_drewN ?_ _ | refine blk_drew ?_ | refine blk_alloc ?_ _)); exact BK176.out) hb); have n1_ := Aside0.mk (below_step (by repeat (first | (with_reducible first | exact HB.out | apply below_alloc | apply pw_below_drewN | apply below_drew1 | refine below_set ?_ GE176.out) | exact HB.out)) hb); clear BK176; clear HB; have BK176 := n0_; have HB := n1_; clear n0_ n1_; (try clear hb); (try clear hb2); (try clear hk); (try clear hi)))
    go_ret2
    exact ⟨_, by first | rfl | (simp [errW_none, errW_some] <;> rfl) | (simp [*, errW_none, errW_some] <;> rfl), by first | exact Kd.R_nil _ _ _ _ _ | exact Kd.N_nil _ _ _ _ _ | exact Kd.V_nil _ _ _ _ _ | exact Kd.Q_nil _ _ _ _ _ | exact Kd.S_nil _ _ _ _ _, by repeat (first | (with_reducible first | exact HB.out | apply below_alloc | apply pw_below_drewN | apply below_drew1 | refine below_set ?_ GE176.out) | exact HB.out)⟩

end Go.Proofs.Ytoelccjfdiidpaa.PFnExactLeaseRenew
