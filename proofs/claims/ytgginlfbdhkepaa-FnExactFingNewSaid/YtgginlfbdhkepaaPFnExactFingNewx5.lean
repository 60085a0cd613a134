-- Written by wip/xprint.py (the session's program over the kit's printer) for the claim of FnExactFingNew; Lean checks it.
import Derived.Test.YtgginlfbdhkepaaPFnExactFingNewx0
import Derived.Test.YtgginlfbdhkepaaPFnExactFingNewx2
import Derived.Test.YtgginlfbdhkepaaPFnExactFingNewx3
import Derived.Test.YtgginlfbdhkepaaPFnExactFingNewx4
namespace Go.Proofs.Ytgginlfbdhkepaa.PFnExactFingNew
open Go.RowKit Go.Proofs.YtgginlfbdhkepaaW.PrintWords Go.Proofs.YtgginlfbdhkepaaW.PrintLast Go.Proofs.YtgginlfbdhkepaaW.PrintMore
attribute [local go_sem] max2_int min2_int max_two min_two max_three min_three max_four min_four   -- for this text's walks alone
set_option linter.unusedVariables false
set_option linter.unusedSimpArgs false


/-! ### laws_FnExactFingNew: function 3 -/
def laws_FnExactFingNew.f (k : Nat) (a0 : Int) : Option Bool := (spec_FingNew.f k a0).bind fun q => (impl_FingNew.f k a0).bind fun g0 => (laws_eqFing.f k g0 q).bind fun b1 => if b1 = true then (laws_markFing.f k g0 1).bind fun m => (laws_heldFing.f k m.2 1).bind fun q1 => if q1 < 0 then some false else if q1 = m.1 then (impl_FingNew.f k a0).bind fun h0 => (laws_eqFing.f k h0 q).bind fun b2 => if b2 = true then (laws_heldFing.f k m.2 1).bind fun q2 => if q2 < 0 then some false else if q2 = m.1 then some true else some false else some false else some false else some false
theorem LF.cut {b : Bool} {x : Option Bool} (h : (if b = true then x else some false) = some true) : b = true ∧ x = some true := by
  cases b with
  | true => exact ⟨rfl, by simpa using h⟩
  | false => exact absurd h (by simp)
theorem LF.held {a m : Int} {x : Option Bool} (h : (if a < 0 then some false else if a = m then x else some false) = some true) : a = m ∧ ¬ a < 0 ∧ x = some true := by
  by_cases h1 : a < 0
  · rw [if_pos h1] at h; exact absurd h (by simp)
  · rw [if_neg h1] at h
    by_cases h2 : a = m
    · rw [if_pos h2] at h; exact ⟨h2, h1, h⟩
    · rw [if_neg h2] at h; exact absurd h (by simp)
set_option maxHeartbeats 16000000 in
set_option maxRecDepth 1000000 in
/-- The law's own walk: its rows lie in ranges of blocks that do not meet. -/
theorem laws_FnExactFingNew.calls (k : Nat) (a0 : Int) (r : Bool) (w : World) (ht_ : r = true) (h : laws_FnExactFingNew.f k a0 = some r) :
    Calls Try.prog 3 #[.int .i64 a0] w fun e w' => e = .returned (.bool r) ∧ Below w.heap.size w w' := by
  have hu24 := Try.underlying24
  subst ht_
  unfold laws_FnExactFingNew.f at h
  obtain ⟨q, e0, h⟩ := Option.bind_eq_some_iff.1 h
  obtain ⟨g0, e1, h⟩ := Option.bind_eq_some_iff.1 h
  obtain ⟨b1, e2, h⟩ := Option.bind_eq_some_iff.1 h
  obtain ⟨z1, h⟩ := LF.cut h
  subst z1
  obtain ⟨⟨m1, g1⟩, e3, h⟩ := Option.bind_eq_some_iff.1 h
  obtain ⟨q1, e4, h⟩ := Option.bind_eq_some_iff.1 h
  obtain ⟨z2, z3, h⟩ := LF.held h
  obtain rfl : q1 = m1 := z2
  have c1 : decide (q1 < 0) = false := decide_eq_false z3
  obtain ⟨h0, e5, h⟩ := Option.bind_eq_some_iff.1 h
  obtain ⟨b2, e6, h⟩ := Option.bind_eq_some_iff.1 h
  obtain ⟨z4, h⟩ := LF.cut h
  subst z4
  obtain ⟨q2, e7, h⟩ := Option.bind_eq_some_iff.1 h
  obtain ⟨z5, z6, _⟩ := LF.held h
  obtain rfl : q2 = q1 := z5
  replace e4 : laws_heldFing.f k g1 1 = some q2 := e4
  have E0 := Aside0.mk e0
  have E1 := Aside0.mk e1
  have E2 := Aside0.mk e2
  have E3 := Aside0.mk e3
  have E4 := Aside0.mk e4
  have E5 := Aside0.mk e5
  have E6 := Aside0.mk e6
  clear e0 e1 e2 e3 e4 e5 e6 e7 z3 z6 h
  go_enter Try.func3, Try.ntmps3
  go_wp2_with fail
  refine (spec_FingNew.calls k a0 q w E0.out).mono ?_
  rintro e w1 ⟨vq, rfl, hs, hb⟩
  have B1 := Aside0.mk hb
  obtain ⟨lo0, hi0, _, _, hh0, hs⟩ := Deep.S_new hs (Below.refl _ _) hb (Nat.le_refl _)
  have SQ1 := Aside0.mk hs
  have Z1 := Aside0.mk hh0
  clear hs hb hh0
  obtain ⟨Aq, cq, eq_⟩ := Kd.S_slice SQ1.out
  subst eq_
  go_wp2_with (first | ((with_reducible refine gate_dst (N := 3) rfl ?_); refine box_event ?hg (N := 3) ?hd (cs := #[.slice none 0 0]) (t := 24) ?hr ?_; (case hd => rfl); (case hg => rfl); (case hr => first | (go_simp; done) | (go_simp; rfl)); intro b3 hg_ w2x hbox hb; have B2x := Aside0.mk (below_step B1.out hb); have KX := Aside0.mk hbox; have QX := Aside0.mk hb; have GEb3 := Aside0.mk ((by rw [hg_]; exact Nat.le_refl _) : w1.heap.size ≤ b3); have GZb3 := Aside0.mk (Nat.le_trans (below_size B1.out) GEb3.out); clear hg_ hbox hb; have hcx3 : w2x.cell? ⟨b3, 0, none⟩ = some (.slice none 0 0) := (blk_cell KX.out 0).trans rfl; have hfx3 : w2x.frozen? ⟨b3, 0, none⟩ = false := blk_frozen KX.out 0) | ((with_reducible refine gate_store (t := 24) (p := 3) rfl ?_); refine store_event (t := 24) (p := 3) (v := ?vo3) (w1 := (w2x.setCell ⟨b3, 0, none⟩ (.slice Aq q.length cq))) ?hg ?ho ?hn ?hr ?_; (case ho => rfl); (case hg => rfl); (case hn => rfl); (case hr => first | (go_simp; done) | (go_simp; rfl)); intro w2 hw; have Kb3 : Aside0 (w2.heap[b3]? = some (.cells #[.slice Aq q.length cq] 24 (0, 0))) := ⟨by rw [hw]; exact blk_put KX.out 0 _ rfl⟩; have B2 : Aside0 (Below w.heap.size w w2) := ⟨by rw [hw]; exact below_set B2x.out GZb3.out⟩; have Lb3 : Aside0 (Below w1.heap.size w1 w2) := ⟨by rw [hw]; exact below_set QX.out GEb3.out⟩; clear hw hcx3 hfx3))
  have SQ2 := Aside0.mk (Kd.S_below SQ1.out Lb3.out)
  refine (impl_FingNew.calls k a0 g0 w2 E1.out).mono ?_
  rintro e w3 ⟨vg, rfl, hs, hb⟩
  have B3 := Aside0.mk (below_step B2.out hb)
  obtain ⟨lo1, hi1, hl1, _, hh1, hs⟩ := Deep.S_new hs B2.out hb (Nat.le_refl _)
  have SG3 := Aside0.mk hs
  have Y3 := Aside0.mk hl1
  have Z3 := Aside0.mk hh1
  have SQ3 := Aside0.mk (Kd.S_below SQ2.out hb)
  have KB3 := Aside0.mk (blk_below Kb3.out hb)
  have N3 := Aside0.mk (blk_lt Kb3.out)
  clear hs hb hl1 hh1
  obtain ⟨Ag, cg, eg_⟩ := Kd.S_slice SG3.out
  subst eg_
  go_wp2_with (first | ((with_reducible refine gate_dst (N := 4) rfl ?_); refine box_event ?hg (N := 4) ?hd (cs := #[.slice none 0 0]) (t := 24) ?hr ?_; (case hd => rfl); (case hg => rfl); (case hr => first | (go_simp; done) | (go_simp; rfl)); intro b4 hg_ w4x hbox hb; have B4x := Aside0.mk (below_step B3.out hb); have KX := Aside0.mk hbox; have QX := Aside0.mk hb; have GEb4 := Aside0.mk ((by rw [hg_]; exact Nat.le_refl _) : w3.heap.size ≤ b4); have GZb4 := Aside0.mk (Nat.le_trans (below_size B3.out) GEb4.out); clear hg_ hbox hb; have hcx4 : w4x.cell? ⟨b4, 0, none⟩ = some (.slice none 0 0) := (blk_cell KX.out 0).trans rfl; have hfx4 : w4x.frozen? ⟨b4, 0, none⟩ = false := blk_frozen KX.out 0) | ((with_reducible refine gate_store (t := 24) (p := 4) rfl ?_); refine store_event (t := 24) (p := 4) (v := ?vo4) (w1 := (w4x.setCell ⟨b4, 0, none⟩ (.slice Ag g0.length cg))) ?hg ?ho ?hn ?hr ?_; (case ho => rfl); (case hg => rfl); (case hn => rfl); (case hr => first | (go_simp; done) | (go_simp; rfl)); intro w4 hw; have Kb4 : Aside0 (w4.heap[b4]? = some (.cells #[.slice Ag g0.length cg] 24 (0, 0))) := ⟨by rw [hw]; exact blk_put KX.out 0 _ rfl⟩; have B4 : Aside0 (Below w.heap.size w w4) := ⟨by rw [hw]; exact below_set B4x.out GZb4.out⟩; have Lb4 : Aside0 (Below w3.heap.size w3 w4) := ⟨by rw [hw]; exact below_set QX.out GEb4.out⟩; clear hw hcx4 hfx4; have hc4g : w4.cell? ⟨b4, 0, none⟩ = some (.slice Ag g0.length cg) := (blk_cell Kb4.out 0).trans rfl; have hc4q : w4.cell? ⟨b3, 0, none⟩ = some (.slice Aq q.length cq) := (blk_cell (blk_below KB3.out Lb4.out) 0).trans rfl))
  have SQ4 := Aside0.mk (Kd.S_below SQ3.out Lb4.out)
  have SG4 := Aside0.mk (Kd.S_below SG3.out Lb4.out)
  have KB4 := Aside0.mk (blk_below KB3.out Lb4.out)
  refine (laws_eqFing.calls k Ag cg g0 Aq cq q true w4 (Kd.S_reads' SG4.out).2.2 (Kd.S_reads' SG4.out).2.1 (Kd.S_reads' SQ4.out).2.2 (Kd.S_reads' SQ4.out).2.1 E2.out).mono ?_
  rintro e w5 ⟨rfl, hb⟩
  have B5 := Aside0.mk (below_step B4.out hb)
  have SQ5 := Aside0.mk (Kd.S_below SQ4.out hb)
  have SG5 := Aside0.mk (Kd.S_below SG4.out hb)
  have KB5 := Aside0.mk (blk_below KB4.out hb)
  have KG5 := Aside0.mk (blk_below Kb4.out hb)
  clear hb
  have hc5g : w5.cell? ⟨b4, 0, none⟩ = some (.slice Ag g0.length cg) := (blk_cell KG5.out 0).trans rfl
  have hc5q : w5.cell? ⟨b3, 0, none⟩ = some (.slice Aq q.length cq) := (blk_cell KB5.out 0).trans rfl
  go_wp2_with fail
  refine (laws_markFing.calls k (Deep.Rng lo1 hi1) _ g0 1 q2 g1 w w5 B5.out SG5.out E3.out).mono ?_
  rintro e w6 ⟨rfl, ho, hb, hk⟩
  have hl_ : g0.length = g1.length := (Kd.S_reads' ho).1
  have hne3 : ¬ Deep.Rng lo1 hi1 b3 := fun hs_ => by have a1 : lo1 ≤ b3 ∧ b3 < hi1 := hs_; have a2 := Y3.out; have a3 := N3.out; omega
  have hne4 : ¬ Deep.Rng lo1 hi1 b4 := fun hs_ => by have a1 : lo1 ≤ b4 ∧ b4 < hi1 := hs_; have a2 := Z3.out; have a3 := GEb4.out; omega
  have B6 := Aside0.mk hb
  have SG6 := Aside0.mk ho
  have SQ6 := Aside0.mk (Kd.S_kept SQ5.out hk (Deep.apart (.inl (by have a1 := Z1.out; have a2 := Y3.out; have a3 := below_size Lb3.out; omega))))
  have KB6 := Aside0.mk (blk_kept KB5.out hk hne3)
  have KG6 := Aside0.mk (blk_kept KG5.out hk hne4)
  clear ho hb hk hne3 hne4 hc5g hc5q
  rw [hl_] at SG6 KG6
  rw [hl_]
  clear hl_
  have hc6g : w6.cell? ⟨b4, 0, none⟩ = some (.slice Ag g1.length cg) := (blk_cell KG6.out 0).trans rfl
  go_wp2_with fail
  refine (laws_heldFing.calls k Ag cg g1 1 q2 w6 (Kd.S_reads' SG6.out).2.2 (Kd.S_reads' SG6.out).2.1 E4.out).mono ?_
  rintro e w7 ⟨rfl, hb⟩
  have B7 := Aside0.mk (below_step B6.out hb)
  have SQ7 := Aside0.mk (Kd.S_below SQ6.out hb)
  have SG7 := Aside0.mk (Kd.S_below SG6.out hb)
  have KB7 := Aside0.mk (blk_below KB6.out hb)
  have KG7 := Aside0.mk (blk_below KG6.out hb)
  clear hb
  go_wp2_with fail
  refine (impl_FingNew.calls k a0 h0 w7 E5.out).mono ?_
  rintro e w8 ⟨vh, rfl, hs, hb⟩
  have B8 := Aside0.mk (below_step B7.out hb)
  have SH8 := Aside0.mk (Kd.S_lower hs (below_size B7.out))
  have SQ8 := Aside0.mk (Kd.S_below SQ7.out hb)
  have SG8 := Aside0.mk (Kd.S_below SG7.out hb)
  have KB8 := Aside0.mk (blk_below KB7.out hb)
  have KG8 := Aside0.mk (blk_below KG7.out hb)
  clear hs hb
  obtain ⟨Ah, ch, eh_⟩ := Kd.S_slice SH8.out
  subst eh_
  go_wp2_with (first | ((with_reducible refine gate_dst (N := 7) rfl ?_); refine box_event ?hg (N := 7) ?hd (cs := #[.slice none 0 0]) (t := 24) ?hr ?_; (case hd => rfl); (case hg => rfl); (case hr => first | (go_simp; done) | (go_simp; rfl)); intro b7 hg_ w9x hbox hb; have B9x := Aside0.mk (below_step B8.out hb); have KX := Aside0.mk hbox; have QX := Aside0.mk hb; have GEb7 := Aside0.mk ((by rw [hg_]; exact Nat.le_refl _) : w8.heap.size ≤ b7); have GZb7 := Aside0.mk (Nat.le_trans (below_size B8.out) GEb7.out); clear hg_ hbox hb; have hcx7 : w9x.cell? ⟨b7, 0, none⟩ = some (.slice none 0 0) := (blk_cell KX.out 0).trans rfl; have hfx7 : w9x.frozen? ⟨b7, 0, none⟩ = false := blk_frozen KX.out 0) | ((with_reducible refine gate_store (t := 24) (p := 7) rfl ?_); refine store_event (t := 24) (p := 7) (v := ?vo7) (w1 := (w9x.setCell ⟨b7, 0, none⟩ (.slice Ah h0.length ch))) ?hg ?ho ?hn ?hr ?_; (case ho => rfl); (case hg => rfl); (case hn => rfl); (case hr => first | (go_simp; done) | (go_simp; rfl)); intro w9 hw; have Kb7 : Aside0 (w9.heap[b7]? = some (.cells #[.slice Ah h0.length ch] 24 (0, 0))) := ⟨by rw [hw]; exact blk_put KX.out 0 _ rfl⟩; have B9 : Aside0 (Below w.heap.size w w9) := ⟨by rw [hw]; exact below_set B9x.out GZb7.out⟩; have Lb7 : Aside0 (Below w8.heap.size w8 w9) := ⟨by rw [hw]; exact below_set QX.out GEb7.out⟩; clear hw hcx7 hfx7; have hc9h : w9.cell? ⟨b7, 0, none⟩ = some (.slice Ah h0.length ch) := (blk_cell Kb7.out 0).trans rfl; have hc9q : w9.cell? ⟨b3, 0, none⟩ = some (.slice Aq q.length cq) := (blk_cell (blk_below KB8.out Lb7.out) 0).trans rfl))
  have SH9 := Aside0.mk (Kd.S_below SH8.out Lb7.out)
  have SQ9 := Aside0.mk (Kd.S_below SQ8.out Lb7.out)
  have SG9 := Aside0.mk (Kd.S_below SG8.out Lb7.out)
  have KB9 := Aside0.mk (blk_below KB8.out Lb7.out)
  have KG9 := Aside0.mk (blk_below KG8.out Lb7.out)
  refine (laws_eqFing.calls k Ah ch h0 Aq cq q true w9 (Kd.S_reads' SH9.out).2.2 (Kd.S_reads' SH9.out).2.1 (Kd.S_reads' SQ9.out).2.2 (Kd.S_reads' SQ9.out).2.1 E6.out).mono ?_
  rintro e wa ⟨rfl, hb⟩
  have Ba := Aside0.mk (below_step B9.out hb)
  have SGa := Aside0.mk (Kd.S_below SG9.out hb)
  have KGa := Aside0.mk (blk_below KG9.out hb)
  clear hb
  have hcag : wa.cell? ⟨b4, 0, none⟩ = some (.slice Ag g1.length cg) := (blk_cell KGa.out 0).trans rfl
  go_wp2_with fail
  refine (laws_heldFing.calls k Ag cg g1 1 q2 wa (Kd.S_reads' SGa.out).2.2 (Kd.S_reads' SGa.out).2.1 E4.out).mono ?_
  rintro e wb ⟨rfl, hb⟩
  have Bb := Aside0.mk (below_step Ba.out hb)
  clear hb
  go_wp2
  go_ret
  exact ⟨rfl, Bb.out⟩

end Go.Proofs.Ytgginlfbdhkepaa.PFnExactFingNew
