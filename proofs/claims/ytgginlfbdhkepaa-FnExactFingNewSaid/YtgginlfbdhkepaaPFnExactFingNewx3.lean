-- Written by wip/xprint.py (the session's program over the kit's printer) for the claim of FnExactFingNew; Lean checks it.
import Derived.Test.YtgginlfbdhkepaaPFnExactFingNewx0
import Derived.Test.YtgginlfbdhkepaaPFnExactFingNewx2
namespace Go.Proofs.Ytgginlfbdhkepaa.PFnExactFingNew
open Go.RowKit Go.Proofs.YtgginlfbdhkepaaW.PrintWords Go.Proofs.YtgginlfbdhkepaaW.PrintLast Go.Proofs.YtgginlfbdhkepaaW.PrintMore
attribute [local go_sem] max2_int min2_int max_two min_two max_three min_three max_four min_four   -- for this text's walks alone
set_option linter.unusedVariables false
set_option linter.unusedSimpArgs false


/-! ### impl_Fing_pushBack: function 12 -/
/-- A level whose two rows lie apart. -/
def LA.kd : Kd S37 where
  sz := 2
  E := [9]
  K := k37.K
  M := fun w base ok x cs => ∃ (p : Nat → Prop) (v0 v1 : Value), cs = [v0, v1] ∧ Kd.string.R 9 w base (fun k => ok k ∧ p k) v0 x.f0 ∧ Kd.string.R 9 w base (fun k => ok k ∧ ¬ p k) v1 x.f1
  K_len := fun h => k37.K_len h
  K_one := fun h => k37.K_one h
  K_below := fun hb h => k37.K_below hb h
  K_of_M := fun h => by
    obtain ⟨p, v0, v1, rfl, h0, h1⟩ := h
    exact k37.K_of_M (k37_mkM _ _ (fun _ => True) _ (Kd.R_mono h0 (fun _ _ => trivial)) (Kd.R_mono h1 (fun _ _ => trivial)))
  M_mono := fun hok h => by
    obtain ⟨p, v0, v1, rfl, h0, h1⟩ := h
    exact ⟨p, v0, v1, rfl, Kd.R_mono h0 (fun k hk => ⟨hok k hk.1, hk.2⟩), Kd.R_mono h1 (fun k hk => ⟨hok k hk.1, hk.2⟩)⟩
  M_bound := fun h => by
    obtain ⟨p, v0, v1, rfl, h0, h1⟩ := h
    exact ⟨p, v0, v1, rfl, Kd.R_mono (Kd.R_bound h0) (fun k hk => ⟨⟨hk.1.1, hk.2⟩, hk.1.2⟩), Kd.R_mono (Kd.R_bound h1) (fun k hk => ⟨⟨hk.1.1, hk.2⟩, hk.1.2⟩)⟩
  M_move := fun hm h => by
    obtain ⟨p, v0, v1, rfl, h0, h1⟩ := h
    exact ⟨p, v0, v1, rfl, Kd.R_move h0 (fun k hk => hm k hk.1), Kd.R_move h1 (fun k hk => hm k hk.1)⟩
  M_lower := fun hb h => by
    obtain ⟨p, v0, v1, rfl, h0, h1⟩ := h
    exact ⟨p, v0, v1, rfl, Kd.R_lower h0 hb, Kd.R_lower h1 hb⟩
theorem LA.M_k {w : World} {base : Nat} {ok : Nat → Prop} {x : S37} {cs : List Value} (h : LA.kd.M w base ok x cs) : k37.M w base ok x cs := by
  obtain ⟨p, v0, v1, rfl, h0, h1⟩ := h
  exact k37_mkM _ _ _ _ (Kd.R_mono h0 (fun _ hk => hk.1)) (Kd.R_mono h1 (fun _ hk => hk.1))
theorem LA.R_k {e : Nat} {w : World} {base : Nat} {ok : Nat → Prop} {v : Value} {xs : List S37} (h : LA.kd.R e w base ok v xs) : k37.R e w base ok v xs := by
  obtain ⟨h0, inner, ho, hr⟩ := h
  exact ⟨h0, inner, ho, hr.imp_ (fun _ _ hp => LA.M_k hp)⟩
/-- Both rows of an element, made. -/
theorem LA.mk {w : World} {base : Nat} {ok : Nat → Prop} {x : S37} (p : Nat → Prop) {v0 v1 : Value} (h0 : Kd.string.R 9 w base (fun k => ok k ∧ p k) v0 x.f0) (h1 : Kd.string.R 9 w base (fun k => ok k ∧ ¬ p k) v1 x.f1) : LA.kd.M w base ok x [v0, v1] := ⟨p, v0, v1, rfl, h0, h1⟩
def impl_Fing_pushBack.f : Nat → List S37 → Int → ByteArray → Option (List S37)
  | 0, _, _, _ => none
  | k + 1, ls, d, s => if d = (ls.length : Int) then (if ls.length < 1048576 then some (ls ++ [⟨[s], []⟩]) else none) else (if 0 ≤ d then (if d < (ls.length : Int) then (if (rd_T37 ls d).f1.length < 4 then some (ls.set d.toNat ⟨(rd_T37 ls d).f0, (rd_T37 ls d).f1 ++ [s]⟩) else (impl_nodeOf.f ((rd_T37 ls d).f1.take 3)).bind fun t => impl_Fing_pushBack.f k (ls.set d.toNat ⟨(rd_T37 ls d).f0, [rdOf ByteArray.empty (rd_T37 ls d).f1 3, s]⟩) (wrap64 (d + 1)) t) else none) else none)
set_option maxHeartbeats 8000000 in
set_option maxRecDepth 1000000 in
/-- A node is pushed at the back of the levels of a tree that lies in a box. -/
theorem impl_Fing_pushBack.calls (k : Nat) : ∀ (d : Int) (s : ByteArray) (ls r : List S37) (g : Nat) (v : Value) (P0 : Nat → Prop) (w0 w : World) (hB : Below w0.heap.size w0 w) (hg : w0.heap.size ≤ g) (hgP : ∀ k, P0 k → k ≠ g) (hF : ∀ k, w.heap.size ≤ k → P0 k)
    (hbox : w.heap[g]? = some (.cells #[v] 24 (0, 0))) (hS : Kd.S LA.kd 37 w w0.heap.size P0 v ls) (h : impl_Fing_pushBack.f k ls d s = some r),
    Calls Try.prog 12 #[.pointer (some ⟨g, 0, none⟩), .int .i64 d, .string s] w fun e w' => e = .returned (.tuple #[]) ∧ ∃ v', w'.heap[g]? = some (.cells #[v'] 24 (0, 0)) ∧ Kd.S LA.kd 37 w' w0.heap.size P0 v' r ∧ Below w0.heap.size w0 w' ∧ Kept w w' (fun k => P0 k ∨ k = g) := by
  induction k with
  | zero =>
    intro d s ls r g v P0 w0 w hB hg hgP hF hbox hS h
    cases h
  | succ k ih =>
    intro d s ls r g v P0 w0 w hB hg hgP hF hbox hS h
    have hu37 := Try.underlying37
    have hu24 := Try.underlying24
    simp only [impl_Fing_pushBack.f] at h
    obtain ⟨A, c, ev⟩ := Kd.S_slice hS
    subst ev
    have HB := Aside0.mk hB
    have HG := Aside0.mk hg
    have HGP := Aside0.mk hgP
    have HF := Aside0.mk hF
    have BK := Aside0.mk hbox
    have HS := Aside0.mk hS
    have HL := Aside0.mk (Kd.S_lt hS)
    clear hB hg hgP hF hS
    have hcz : w.cell? ⟨g, 0, none⟩ = some (.slice A ls.length c) := (blk_cell hbox 0).trans rfl
    have hfz : w.frozen? ⟨g, 0, none⟩ = false := blk_frozen hbox 0
    clear hbox
    by_cases hd : d = (ls.length : Int)
    · rw [if_pos hd] at h
      by_cases hl : ls.length < 1048576
      case neg => rw [if_neg hl] at h; cases h
      rw [if_pos hl] at h
      obtain rfl := Option.some.inj h
      clear h
      have LM := Aside0.mk hl
      have c1 : (d == (ls.length : Int)) = true := beq_iff_eq.2 hd
      clear hd hl
      obtain ⟨y, hy⟩ : ∃ y : List ByteArray, y = [s] := ⟨_, rfl⟩
      have NY := Aside0.mk hy
      rw [← hy]
      clear hy
      go_enter Try.func12, Try.ntmps12
      go_wp2_with (first | ((with_reducible refine gate_dst (N := 21) rfl ?_); refine Kd.R_lit Kd.string _ 9 ?hg (N := 21) ?hd (xs := [s]) (inner := [.string s]) (ok := fun _ => True) (okp := fun _ => True) ?hr ?hp (fun _ hk => hk) trivial (Below.refl _ _) (Nat.le_refl _) (by simp) ?_; (case hd => rfl); (case hg => rfl); (case hr => first | (go_simp; done) | (go_simp; rfl)); (case hp => exact (Reps.one (show Kd.M Kd.string _ _ _ s [.string s] from rfl) (Reps.none _ _))); intro v1 w1 ho hb hg_ hnew_; clear hg_ hnew_; rw [← NY.out] at ho; have HO1 := Aside0.mk (Kd.R_tight rfl (Kd.R_lower ho (below_size HB.out))); have HN1 := Aside0.mk (Kd.R_base ho); have HS1 := Aside0.mk (Kd.S_below (Kd.S_bound HS.out) hb); have BK1 := Aside0.mk (blk_below BK.out hb); have HB1 := Aside0.mk (below_step HB.out hb); have HZ1 := Aside0.mk (below_size hb); have HK1 := Aside0.mk (Kept.of_below hb (fun k => P0 k ∨ k = g)); clear ho hb; obtain ⟨A1, co1, eo1⟩ := Kd.R_slice HO1.out; subst eo1; have hcz1 : w1.cell? ⟨g, 0, none⟩ = some (.slice A ls.length c) := (blk_cell BK1.out 0).trans rfl; have hfz1 : w1.frozen? ⟨g, 0, none⟩ = false := blk_frozen BK1.out 0) | ((with_reducible refine gate_builtin (b := .append) (xs := #[.tmp 19, .tmp 23]) rfl ?_); at_builtin; refine Kd.S_append LA.kd (w0 := w0) w0.heap.size rfl (.tmp 19) (.tmp 23) 22 37 (.agg #[(.slice none 0 0), (.slice none 0 0)]) 48 rfl Try.underlying22 info37 rfl (by decide) (by omega) (.slice A ls.length c) ls ⟨y, []⟩ [.slice A1 y.length co1, .slice none 0 0] P0 (fun k_ => some k_ = (.slice A1 y.length co1 : Value).ownBlock) rfl rfl ?aP ?aQ ?aF ?aO ?aB ?aS ?aL ?_; (case aP => exact LA.mk (fun _ => True) (Kd.R_mono HO1.out (fun _ hk => ⟨hk, trivial⟩)) (Kd.R_nil _ _ _ _ _)); (case aQ => exact fun k_ hk_ => ⟨HF.out k_ (HN1.out k_ hk_.symm), fun e_ => by have h1 := HL.out k_ e_.symm; have h2 := HN1.out k_ hk_.symm; omega⟩); (case aF => exact fun k_ hk_ => HF.out k_ (Nat.le_trans HZ1.out hk_)); (case aO => exact Kd.S_mono HS1.out (fun k_ hk_ => ⟨hk_.1, fun e_ => by have h2 := HN1.out k_ e_.symm; have h1 := hk_.2.2.1; omega⟩)); (case aB => exact HB1.out); (case aS => exact below_size HB1.out); (case aL => have := LM.out; omega); intro v2 w2 ho hb hgr hat; have HO2 := Aside0.mk ho; have HB2 := Aside0.mk hb; have BK2 := Aside0.mk (blk_grown BK1.out hgr (fun e_ => HGP.out g ((Kd.S_R HS.out).1 g e_.symm) rfl)); have HK2 := Aside0.mk (Kept.of_grown (S := fun k => P0 k ∨ k = g) hgr HK1.out (fun k_ e_ => .inl (.inl ((Kd.S_R HS.out).1 k_ e_)))); clear ho hb hgr hat; obtain ⟨A2, co2, eo2⟩ := Kd.S_slice HO2.out; subst eo2; have hcz2 : w2.cell? ⟨g, 0, none⟩ = some (.slice A ls.length c) := (blk_cell BK2.out 0).trans rfl; have hfz2 : w2.frozen? ⟨g, 0, none⟩ = false := blk_frozen BK2.out 0))
      refine bodyPost_ret (results_none rfl _ _ _) rfl ?_
      have hln : (ls ++ [(⟨y, []⟩ : S37)]).length = ls.length + 1 := by simp
      have ho := HO2.out
      rw [hln] at ho
      exact ⟨rfl, _, blk_put BK2.out 0 _ rfl, Kd.S_far (p := ⟨g, 0, none⟩) ho (fun k hk => HGP.out k hk) _, below_set HB2.out HG.out, HK2.out.setCell (p := ⟨g, 0, none⟩) (.inl (.inr rfl)) _⟩
    · rw [if_neg hd] at h
      have c1 : (d == (ls.length : Int)) = false := beq_eq_false_iff_ne.2 hd
      by_cases p0 : 0 ≤ d
      case neg => rw [if_neg p0] at h; cases h
      rw [if_pos p0] at h
      by_cases q0 : d < (ls.length : Int)
      case neg => rw [if_neg q0] at h; cases h
      rw [if_pos q0] at h
      obtain ⟨go, co5, eo5, gb5, gl5, cl5, HG5⟩ := Kd.S_form HS.out (by omega)
      injection eo5 with ea_ en_ ec_
      subst ea_
      subst ec_
      clear en_ gb5 gl5 cl5 HG5 hd
      obtain ⟨oki, cc, hcl, hM, hcc, hfr, hoki, hH⟩ := Kd.S_elem HS.out z37 d p0 q0
      replace hM : LA.kd.M w w0.heap.size oki (rd_T37 ls d) cc := hM
      generalize rd_T37 ls d = x at *
      obtain ⟨pp, v0, v1, rfl, h0, h1⟩ := hM
      obtain ⟨A0, c0, rfl⟩ := Kd.R_slice h0
      obtain ⟨A1, c1_, rfl⟩ := Kd.R_slice h1
      have hx1 : w.cell? ⟨go, d.toNat * 2 + 1, none⟩ = some (.slice A1 x.f1.length c1_) := hcc 1 _ rfl
      have hf1 : w.frozen? ⟨go, d.toNat * 2 + 1, none⟩ = false := hfr 1
      have HH := Aside0.mk hH
      have H0 := Aside0.mk h0
      have H1 := Aside0.mk h1
      have HOK := Aside0.mk hoki
      clear hcl hcc hfr hoki hH h0 h1
      by_cases h4 : x.f1.length < 4
      · rw [if_pos h4] at h
        obtain rfl := Option.some.inj h
        clear h
        have c2 : decide ((x.f1.length : Int) < 4) = true := decide_eq_true (by omega)
        have H4 := Aside0.mk h4
        clear h4
        obtain ⟨y, hy⟩ : ∃ y : List ByteArray, y = x.f1 ++ [s] := ⟨_, rfl⟩
        have NY := Aside0.mk hy
        rw [← hy]
        clear hy
        go_enter Try.func12, Try.ntmps12
        go_wp2_with (first | ((with_reducible refine gate_builtin (b := .append) (xs := #[.tmp 43, .tmp 45]) rfl ?_); at_builtin; refine Kd.R_append Kd.string (w0 := w0) w0.heap.size rfl (.tmp 43) (.tmp 45) 35 9 (.string ⟨#[]⟩) 16 rfl Try.underlying35 info9 rfl (by decide) (by omega) (.slice A1 x.f1.length c1_) x.f1 s [.string s] (fun k_ => (oki k_ ∧ ¬ pp k_) ∨ w.heap.size ≤ k_) (fun _ => False) rfl rfl ?aP (fun _ hk => hk.elim) ?aF ?aO ?aB ?aS ?aL ?_; (case aP => exact rfl); (case aF => exact fun _ hk => .inr hk); (case aO => exact Kd.R_mono H1.out (fun _ hk => .inl hk)); (case aB => exact HB.out); (case aS => exact below_size HB.out); (case aL => have := H4.out; omega); intro v2 w2 ho hb hgr hat; rw [← NY.out] at ho; have HO2 := Aside0.mk ho; have HB2 := Aside0.mk hb; have HX2 := Aside0.mk (Kd.R_grown (Kd.R_bound H0.out) hgr (fun k_ hk_ e_ => (H1.out.1 k_ e_.symm).2 hk_.1.2)); have HH2 := Aside0.mk (Kd.H_grown (Kd.H_widen HH.out) hgr (fun k_ e_ => .inl (H1.out.1 k_ e_).1)); have BK2 := Aside0.mk (blk_grown BK.out hgr (fun e_ => HGP.out g (HOK.out g (H1.out.1 g e_.symm).1).1 rfl)); have HK2 := Aside0.mk (Kept.of_grown (S := fun k => P0 k ∨ k = g) hgr (Kept.refl w _) (fun k_ e_ => .inl (.inl (HOK.out k_ (H1.out.1 k_ e_).1).1))); clear ho hb hgr hat; obtain ⟨A2, co2, eo2⟩ := Kd.R_slice HO2.out; subst eo2) | ((with_reducible refine gate_store (t := 35) (p := 48) rfl ?_); refine Kd.H_store LA.kd (w0 := w0) w0.heap.size rfl rfl 35 (.tmp 48) (.tmp 46) rfl 37 (g := go) (n := ls.length) (cap := c) d 1 ls ⟨x.f0, y⟩ (.slice A2 y.length co2) [.slice A2 y.length co2] [.slice A0 x.f0.length c0, .slice A1 x.f1.length c1_] P0 (fun k_ => oki k_ ∨ P0 k_ ∧ w.heap.size ≤ k_) (fun k_ => oki k_ ∨ P0 k_ ∧ w.heap.size ≤ k_) (by rfl) (by rfl) (by rfl) (by rfl) (by kernel_rfl) (fun q_ hq_ => by rw [List.mem_singleton.1 hq_]; rfl) HH2.out p0 q0 (Nat.le_refl 2) ?aM (fun _ hk_ => hk_) HB2.out ?_; (case aM => exact LA.mk (fun k_ => pp k_ ∧ k_ < w.heap.size) (Kd.R_mono HX2.out (fun k_ hk_ => ⟨.inl hk_.1.1, hk_.1.2, hk_.2.2.1⟩)) (Kd.R_mono HO2.out (fun k_ hk_ => hk_.elim (fun h_ => ⟨.inl h_.1, fun h2_ => h_.2 h2_.1⟩) (fun h_ => ⟨.inr ⟨HF.out k_ h_, h_⟩, fun h2_ => Nat.lt_irrefl _ (Nat.lt_of_lt_of_le h2_.2 h_)⟩)))); intro w3 hs3 hb3 hg3; have HS3 := Aside0.mk hs3; have HB3 := Aside0.mk hb3; have BK3 := Aside0.mk (blk_grown BK2.out hg3 (fun e_ => HGP.out g ((Kd.S_R HS.out).1 g (by rw [e_]; rfl)) rfl)); have HK3 := Aside0.mk (Kept.of_grown (S := fun k => P0 k ∨ k = g) hg3 HK2.out (fun k_ e_ => .inl (.inl ((Kd.S_R HS.out).1 k_ (by rw [← e_]; rfl))))); clear hs3 hb3 hg3))
        refine bodyPost_ret (results_none rfl _ _ _) rfl ?_
        exact ⟨rfl, _, BK3.out, HS3.out, HB3.out, HK3.out⟩
      · rw [if_neg h4] at h
        obtain ⟨tt, ht, h⟩ := Option.bind_eq_some_iff.1 h
        have HT := Aside0.mk ht
        clear ht
        have c2 : decide ((x.f1.length : Int) < 4) = false := decide_eq_false (by omega)
        have q3 : (3 : Int) < (x.f1.length : Int) := by omega
        have p3 : (0 : Int) ≤ 3 := by decide
        obtain ⟨y, hy⟩ : ∃ y : List ByteArray, y = [rdOf ByteArray.empty x.f1 3, s] := ⟨_, rfl⟩
        have NY := Aside0.mk hy
        rw [← hy] at h
        clear hy
        have HRC := Aside0.mk h
        clear h
        obtain ⟨ae, e2, hxs⟩ := Kd.at_string (Kd.R_reads' H1.out).2.2 3 p3 q3
        subst e2
        obtain ⟨gs, rfl⟩ := Kd.R_head H1.out
        replace hxs : w.cell? ⟨gs, 3, none⟩ = some (.string (rdOf ByteArray.empty x.f1 3)) := (congrArg w.cell? (add_plain gs 3)).symm.trans hxs
        obtain ⟨i0, hi0, _, hsz0, _⟩ := info_parts info9
        obtain ⟨hcut, hA, hC⟩ := print_take_of (P := Try.prog) Value.string ByteArray.empty 35 9 .i64 Try.underlying35 hi0 hsz0 (some ⟨gs, 0, none⟩) c1_ x.f1 3 p3 (by omega) (Kd.R_reads' H1.out).2.1
        have HR := Aside0.mk (Kd.C_of_reads (h1 := fun _ => rfl) (hA _ (Kd.reads_of_C (Kd.R_reads' H1.out).2.2)))
        have HC := Aside0.mk hC
        clear hA hC hi0 hsz0 h4
        go_enter Try.func12, Try.ntmps12
        go_wp2_with (first | (go_at_call 19; rw [show min 3 x.f1.length = (x.f1.take 3).length from List.length_take.symm]; refine (impl_nodeOf.calls _ _ (x.f1.take 3) tt _ HR.out HC.out HT.out).mono ?_; rintro e w2 ⟨rfl, hb⟩; have HB2 := Aside0.mk (below_step HB.out hb); have BK2 := Aside0.mk (blk_below BK.out hb); have HH2 := Aside0.mk (Kd.H_below (Kd.H_widen HH.out) hb); have HX2 := Aside0.mk (Kd.R_below (Kd.R_bound H0.out) hb); have HK2 := Aside0.mk (Kept.of_below hb (fun k => P0 k ∨ k = g)); have HZ2 := Aside0.mk (below_size hb); have hx2 : w2.cell? ⟨go, d.toNat * 2 + 1, none⟩ = some (.slice (some ⟨gs, 0, none⟩) x.f1.length c1_) := pw_cell_below hb hx1; have hxs2 : w2.cell? ⟨gs, 3, none⟩ = some (.string (rdOf ByteArray.empty x.f1 3)) := pw_cell_below hb hxs; clear hb) | ((with_reducible refine gate_dst (N := 63) rfl ?_); refine Kd.R_lit Kd.string _ 9 ?hg (N := 63) ?hd (xs := [rdOf ByteArray.empty x.f1 3, s]) (inner := [.string (rdOf ByteArray.empty x.f1 3), .string s]) (ok := fun _ => True) (okp := fun _ => True) ?hr ?hp (fun _ hk => hk) trivial (Below.refl _ _) (Nat.le_refl _) (by simp) ?_; (case hd => rfl); (case hg => rfl); (case hr => first | (go_simp; done) | (go_simp; rfl)); (case hp => exact (Reps.one (show Kd.M Kd.string _ _ _ (rdOf ByteArray.empty x.f1 3) [.string (rdOf ByteArray.empty x.f1 3)] from rfl) (Reps.one (show Kd.M Kd.string _ _ _ s [.string s] from rfl) (Reps.none _ _)))); intro v3 w3 ho hb hg_ hnew_; clear hg_ hnew_; rw [← NY.out] at ho; have HO3 := Aside0.mk (Kd.R_tight rfl (Kd.R_lower ho (below_size HB2.out))); have HN3 := Aside0.mk (Kd.R_base ho); have HB3 := Aside0.mk (below_step HB2.out hb); have BK3 := Aside0.mk (blk_below BK2.out hb); have HH3 := Aside0.mk (Kd.H_below HH2.out hb); have HX3 := Aside0.mk (Kd.R_below HX2.out hb); have HK3 := Aside0.mk (HK2.out.below hb); clear ho hb; obtain ⟨A3, co3, eo3⟩ := Kd.R_slice HO3.out; subst eo3) | ((with_reducible refine gate_store (t := 35) (p := 65) rfl ?_); refine Kd.H_store LA.kd (w0 := w0) w0.heap.size rfl rfl 35 (.tmp 65) (.tmp 63) rfl 37 (g := go) (n := ls.length) (cap := c) d 1 ls ⟨x.f0, y⟩ (.slice A3 y.length co3) [.slice A3 y.length co3] [.slice A0 x.f0.length c0, .slice (some ⟨gs, 0, none⟩) x.f1.length c1_] P0 (fun k_ => oki k_ ∨ P0 k_ ∧ w.heap.size ≤ k_) (fun k_ => oki k_ ∨ P0 k_ ∧ w.heap.size ≤ k_) (by rfl) (by rfl) (by rfl) (by rfl) (by kernel_rfl) (fun q_ hq_ => by rw [List.mem_singleton.1 hq_]; rfl) HH3.out p0 q0 (Nat.le_refl 2) ?aM (fun _ hk_ => hk_) HB3.out ?_; (case aM => exact LA.mk (fun k_ => pp k_ ∧ k_ < w.heap.size) (Kd.R_mono HX3.out (fun k_ hk_ => ⟨.inl hk_.1.1, hk_.1.2, hk_.2.2.1⟩)) (Kd.R_mono HO3.out (fun k_ hk_ => (fun h_ : w.heap.size ≤ k_ => ⟨.inr ⟨HF.out k_ h_, h_⟩, fun h2_ => Nat.lt_irrefl _ (Nat.lt_of_lt_of_le h2_.2 h_)⟩) (Nat.le_trans HZ2.out (HN3.out k_ hk_.symm))))); intro w4 hs4 hb4 hg4; have HS4 := Aside0.mk hs4; have HB4 := Aside0.mk hb4; have BK4 := Aside0.mk (blk_grown BK3.out hg4 (fun e_ => HGP.out g ((Kd.S_R HS.out).1 g (by rw [e_]; rfl)) rfl)); have HK4 := Aside0.mk (Kept.of_grown (S := fun k => P0 k ∨ k = g) hg4 HK3.out (fun k_ e_ => .inl (.inl ((Kd.S_R HS.out).1 k_ (by rw [← e_]; rfl))))); clear hs4 hb4 hg4) | (go_at_call 12; refine (ih (wrap64 (d + 1)) tt (ls.set d.toNat ⟨x.f0, y⟩) r g _ P0 w0 w4 HB4.out HG.out HGP.out (fun k_ hk_ => HF.out k_ (Nat.le_trans HK4.out.1 hk_)) BK4.out HS4.out HRC.out).mono ?_; rintro e w5 ⟨rfl, v5, hbx, hs, hb, hk⟩; have BK5 := Aside0.mk hbx; have HS5 := Aside0.mk hs; have HB5 := Aside0.mk hb; have HK5 := Aside0.mk (HK4.out.then_ hk (fun _ h_ => .inl h_)); clear hbx hs hb hk))
        go_end0
        exact ⟨rfl, _, BK5.out, HS5.out, HB5.out, HK5.out⟩


/-! ### impl_FingNew: function 5 -/
def impl_FingNew.l0 : Nat → Int → Int → List S37 → Option (List S37)
  | 0, _, _, _ => none
  | k + 1, n, i, ls => if i < n then (impl_Fing_pushBack.f k ls 0 ⟨#[120]⟩).bind fun t => impl_FingNew.l0 k n (wrap64 (i + 1)) t else some ls
def impl_FingNew.f (k : Nat) (a0 : Int) : Option (List S37) := (impl_in.f a0 0 200).bind fun b => if b = true then impl_FingNew.l0 k a0 0 [] else some []
set_option maxHeartbeats 8000000 in
set_option maxRecDepth 1000000 in
/-- The tree of so many leaves: all in new memory, the rows apart. -/
theorem impl_FingNew.calls (k : Nat) (a0 : Int) (r : List S37) (w : World) (h : impl_FingNew.f k a0 = some r) :
    Calls Try.prog 5 #[.int .i64 a0] w fun e w' => ∃ v0_ : Value, e = .returned (.agg #[v0_]) ∧ Kd.S LA.kd 37 w' w.heap.size (fun _ => True) v0_ r ∧ Below w.heap.size w w' := by
  have hu24 := Try.underlying24
  unfold impl_FingNew.f at h
  obtain ⟨b, hb0, h⟩ := Option.bind_eq_some_iff.1 h
  have HI := Aside0.mk hb0
  have H := Aside0.mk h
  clear h hb0
  cases b with
  | false =>
    have h := H.out
    rw [if_neg (by decide)] at h
    obtain rfl := Option.some.inj h
    clear h
    go_enter Try.func5, Try.ntmps5
    go_wp2_with (first | ((with_reducible refine gate_dst (N := 2) rfl ?_); refine box_event ?hg (N := 2) ?hd (cs := #[.slice none 0 0]) (t := 24) ?hr ?_; (case hd => rfl); (case hg => rfl); (case hr => first | (go_simp; done) | (go_simp; rfl)); intro g2 hg2 w1 hbox hb; have B1 := Aside0.mk hb; have K1 := Aside0.mk hbox; have G2 := Aside0.mk hg2; clear hg2 hbox hb) | ((with_reducible refine gate_dst (N := 3) rfl ?_); refine box_event ?hg (N := 3) ?hd (cs := #[.slice none 0 0]) (t := 24) ?hr ?_; (case hd => rfl); (case hg => rfl); (case hr => first | (go_simp; done) | (go_simp; rfl)); intro g hg w2 hbox hb; have B2 := Aside0.mk (below_step B1.out hb); have KR2 := Aside0.mk (blk_below K1.out hb); have K2 := Aside0.mk hbox; have NL := Aside0.mk ((by rw [hg]; exact blk_lt K1.out) : g2 < g); have HGB := Aside0.mk ((by rw [hg]; exact below_size B1.out) : w.heap.size ≤ g); have HG2 := Aside0.mk ((by rw [G2.out]; exact Nat.le_refl _) : w.heap.size ≤ g2); clear hg hbox hb; have hcz2 : w2.cell? ⟨g, 0, none⟩ = some (.slice none 0 0) := (blk_cell K2.out 0).trans rfl; have hfz2 : w2.frozen? ⟨g, 0, none⟩ = false := blk_frozen K2.out 0) | ((with_reducible refine gate_store (t := 24) (p := 3) rfl ?_); refine store_event (t := 24) (p := 3) (v := ?vo1) (w1 := (w2.setCell ⟨g, 0, none⟩ (.slice none 0 0))) ?hg ?ho ?hn ?hr ?_; (case ho => rfl); (case hg => rfl); (case hn => rfl); (case hr => first | (go_simp; done) | (go_simp; rfl)); intro w3 hw; have K3 : Aside0 (w3.heap[g]? = some (.cells #[.slice none 0 0] 24 (0, 0))) := ⟨by rw [hw]; exact blk_put K2.out 0 _ rfl⟩; have KR3 : Aside0 (w3.heap[g2]? = some (.cells #[.slice none 0 0] 24 (0, 0))) := ⟨by rw [hw]; exact blk_far (p := ⟨g, 0, none⟩) KR2.out (Nat.ne_of_lt NL.out) _⟩; have B3 : Aside0 (Below w.heap.size w w3) := ⟨by rw [hw]; exact below_set B2.out HGB.out⟩; clear hw) | (go_at_call 11; refine (impl_in.calls a0 0 200 false _ HI.out).mono ?_; rintro e w4 ⟨rfl, hd_⟩; have B4 := Aside0.mk (below_step B3.out hd_.below); have K4 := Aside0.mk (blk_below K3.out hd_.below); have KR4 := Aside0.mk (blk_below KR3.out hd_.below); clear hd_; have hcz4 : w4.cell? ⟨g, 0, none⟩ = some (.slice none 0 0) := (blk_cell K4.out 0).trans rfl; have hrz4 : w4.cell? ⟨g2, 0, none⟩ = some (.slice none 0 0) := (blk_cell KR4.out 0).trans rfl; have hrf4 : w4.frozen? ⟨g2, 0, none⟩ = false := blk_frozen KR4.out 0) | ((with_reducible refine gate_store (t := 24) (p := 2) rfl ?_); refine store_event (t := 24) (p := 2) (v := ?vo2) (w1 := (w4.setCell ⟨g2, 0, none⟩ (.slice none 0 0))) ?hg ?ho ?hn ?hr ?_; (case ho => rfl); (case hg => rfl); (case hn => rfl); (case hr => first | (go_simp; done) | (go_simp; rfl)); intro w5 hw; have KR5 : Aside0 (w5.heap[g2]? = some (.cells #[.slice none 0 0] 24 (0, 0))) := ⟨by rw [hw]; exact blk_put KR4.out 0 _ rfl⟩; have B5 : Aside0 (Below w.heap.size w w5) := ⟨by rw [hw]; exact below_set B4.out HG2.out⟩; clear hw))
    refine bodyPost_ret (results_cell_row rfl _ _ g2 24 #[.slice none 0 0] (0, 0) _ rfl KR5.out Try.underlying24 rfl (by kernel_rfl)) rfl ?_
    exact ⟨_, rfl, Kd.S_nil _ _ _ _ _, B5.out⟩
  | true =>
    have h := H.out
    rw [if_pos rfl] at h
    have HL := Aside0.mk h
    clear h H
    go_enter Try.func5, Try.ntmps5
    go_wp2_with (first | ((with_reducible refine gate_dst (N := 2) rfl ?_); refine box_event ?hg (N := 2) ?hd (cs := #[.slice none 0 0]) (t := 24) ?hr ?_; (case hd => rfl); (case hg => rfl); (case hr => first | (go_simp; done) | (go_simp; rfl)); intro g2 hg2 w1 hbox hb; have B1 := Aside0.mk hb; have K1 := Aside0.mk hbox; have G2 := Aside0.mk hg2; clear hg2 hbox hb) | ((with_reducible refine gate_dst (N := 3) rfl ?_); refine box_event ?hg (N := 3) ?hd (cs := #[.slice none 0 0]) (t := 24) ?hr ?_; (case hd => rfl); (case hg => rfl); (case hr => first | (go_simp; done) | (go_simp; rfl)); intro g hg w2 hbox hb; have B2 := Aside0.mk (below_step B1.out hb); have KR2 := Aside0.mk (blk_below K1.out hb); have K2 := Aside0.mk hbox; have NL := Aside0.mk ((by rw [hg]; exact blk_lt K1.out) : g2 < g); have HGB := Aside0.mk ((by rw [hg]; exact below_size B1.out) : w.heap.size ≤ g); have HG2 := Aside0.mk ((by rw [G2.out]; exact Nat.le_refl _) : w.heap.size ≤ g2); clear hg hbox hb; have hcz2 : w2.cell? ⟨g, 0, none⟩ = some (.slice none 0 0) := (blk_cell K2.out 0).trans rfl; have hfz2 : w2.frozen? ⟨g, 0, none⟩ = false := blk_frozen K2.out 0) | ((with_reducible refine gate_store (t := 24) (p := 3) rfl ?_); refine store_event (t := 24) (p := 3) (v := ?vo3) (w1 := (w2.setCell ⟨g, 0, none⟩ (.slice none 0 0))) ?hg ?ho ?hn ?hr ?_; (case ho => rfl); (case hg => rfl); (case hn => rfl); (case hr => first | (go_simp; done) | (go_simp; rfl)); intro w3 hw; have K3 : Aside0 (w3.heap[g]? = some (.cells #[.slice none 0 0] 24 (0, 0))) := ⟨by rw [hw]; exact blk_put K2.out 0 _ rfl⟩; have KR3 : Aside0 (w3.heap[g2]? = some (.cells #[.slice none 0 0] 24 (0, 0))) := ⟨by rw [hw]; exact blk_far (p := ⟨g, 0, none⟩) KR2.out (Nat.ne_of_lt NL.out) _⟩; have B3 : Aside0 (Below w.heap.size w w3) := ⟨by rw [hw]; exact below_set B2.out HGB.out⟩; clear hw) | (go_at_call 11; refine (impl_in.calls a0 0 200 true _ HI.out).mono ?_; rintro e w4 ⟨rfl, hd_⟩; have B4 := Aside0.mk (below_step B3.out hd_.below); have K4 := Aside0.mk (blk_below K3.out hd_.below); have KR4 := Aside0.mk (blk_below KR3.out hd_.below); clear hd_; have hcz4 : w4.cell? ⟨g, 0, none⟩ = some (.slice none 0 0) := (blk_cell K4.out 0).trans rfl; have hrz4 : w4.cell? ⟨g2, 0, none⟩ = some (.slice none 0 0) := (blk_cell KR4.out 0).trans rfl; have hrf4 : w4.frozen? ⟨g2, 0, none⟩ = false := blk_frozen KR4.out 0))
    go_loopg [10] k (fun kq v10 w' => ∃ (i : Int) (ls : List S37) (v : Value), v10 = .int .i64 i ∧ Aside0 (impl_FingNew.l0 kq a0 i ls = some r) ∧ Aside0 (kq ≤ k) ∧ Aside0 (w'.heap[g]? = some (.cells #[v] 24 (0, 0))) ∧ Aside0 (w'.heap[g2]? = some (.cells #[.slice none 0 0] 24 (0, 0))) ∧ Aside0 (Kd.S LA.kd 37 w' w.heap.size (fun k_ => g < k_) v ls) ∧ Aside0 (Below w.heap.size w w'))
    case atStart => exact ⟨0, [], .slice none 0 0, rfl, HL, ⟨Nat.le_refl _⟩, K4, KR4, ⟨Kd.S_nil _ _ _ _ _⟩, B4⟩
    case round =>
      clear HL K4 KR4 B4 hcz4 hrz4 hrf4
      obtain ⟨i, ls, v, rfl, HA, HK1, K, KR, HS, HB⟩ := hrel
      cases gk with
      | zero => exact absurd HA.out (by simp [impl_FingNew.l0])
      | succ k1 =>
        have h := HA.out
        clear HA
        simp only [impl_FingNew.l0] at h
        obtain ⟨A, c, ev⟩ := Kd.S_slice HS.out
        subst ev
        by_cases ci : i < a0
        · rw [if_pos ci] at h
          have c3 : decide (i < a0) = true := decide_eq_true ci
          clear ci
          obtain ⟨t, ht, h⟩ := Option.bind_eq_some_iff.1 h
          have HP := Aside0.mk ht
          have HN := Aside0.mk h
          clear h ht
          go_wp2_with (first | (go_at_call 12; refine (impl_Fing_pushBack.calls k1 0 ⟨#[120]⟩ ls t g _ (fun k_ => g < k_) w wr HB.out HGB.out (fun k_ hk_ => Nat.ne_of_gt hk_) (fun k_ hk_ => Nat.lt_of_lt_of_le (blk_lt K.out) hk_) K.out HS.out HP.out).mono ?_; rintro e w6 ⟨rfl, v6, hbx, hs, hb, hk⟩; have K6 := Aside0.mk hbx; have S6 := Aside0.mk hs; have B6 := Aside0.mk hb; have KR6 := Aside0.mk (blk_kept KR.out hk (fun h_ => h_.elim (fun h2_ : g < g2 => Nat.lt_asymm h2_ NL.out) (fun h2_ : g2 = g => Nat.ne_of_lt NL.out h2_))); clear hbx hs hb hk))
          go_roundg k1
          case measure => have := HK1.out; omega
          case rel => exact ⟨wrap64 (i + 1), t, v6, by first | rfl | (simp; done), HN, ⟨by have := HK1.out; omega⟩, K6, KR6, S6, B6⟩
        · rw [if_neg ci] at h
          have c3 : decide (i < a0) = false := decide_eq_false ci
          clear ci
          obtain rfl := Option.some.inj h
          clear h
          have hcz : wr.cell? ⟨g, 0, none⟩ = some (.slice A ls.length c) := (blk_cell K.out 0).trans rfl
          have hrz : wr.cell? ⟨g2, 0, none⟩ = some (.slice none 0 0) := (blk_cell KR.out 0).trans rfl
          have hrf : wr.frozen? ⟨g2, 0, none⟩ = false := blk_frozen KR.out 0
          go_wp2_with (first | ((with_reducible refine gate_store (t := 24) (p := 2) rfl ?_); refine store_event (t := 24) (p := 2) (v := ?voz) (w1 := (wr.setCell ⟨g2, 0, none⟩ (.slice A ls.length c))) ?hg ?ho ?hn ?hr ?_; (case ho => rfl); (case hg => rfl); (case hn => rfl); (case hr => first | (go_simp; done) | (go_simp; rfl)); intro w7 hw; have KR7 : Aside0 (w7.heap[g2]? = some (.cells #[.slice A ls.length c] 24 (0, 0))) := ⟨by rw [hw]; exact blk_put KR.out 0 _ rfl⟩; have B7 : Aside0 (Below w.heap.size w w7) := ⟨by rw [hw]; exact below_set HB.out HG2.out⟩; have S7 : Aside0 (Kd.S LA.kd 37 w7 w.heap.size (fun _ => True) (.slice A ls.length c) ls) := ⟨by rw [hw]; exact Kd.S_mono (Kd.S_far (p := ⟨g2, 0, none⟩) HS.out (fun k_ (hk_ : g < k_) => Nat.ne_of_gt (Nat.lt_trans NL.out hk_)) _) (fun _ _ => trivial)⟩; clear hw))
          refine bodyPost_ret (results_cell_row rfl _ _ g2 24 #[.slice A ls.length c] (0, 0) _ rfl KR7.out Try.underlying24 rfl (by kernel_rfl)) rfl ?_
          exact ⟨_, rfl, S7.out, B7.out⟩

/-! ### laws_eqStringS: function 25 -/
def laws_eqStringS.l0 : Nat → List ByteArray → List ByteArray → Int → Option (Bool)
  | 0, _, _, _ => none
  | k + 1, x0, x1, x5 => if x5 < (x0.length : Int) then (if 0 ≤ x5 then (if x5 < (x1.length : Int) then (if (rdOf ByteArray.empty x0 x5).toList = (rdOf ByteArray.empty x1 x5).toList then (laws_eqStringS.l0 k x0 x1 (wrap64 (x5 + 1))) else (some false)) else (none)) else (none)) else (some true)
def laws_eqStringS.f (k : Nat) (l0 : List ByteArray) (l1 : List ByteArray) : Option (Bool) := if (l0.length : Int) = (l1.length : Int) then (laws_eqStringS.l0 k l0 l1 0) else (some false)
theorem laws_eqStringS.mono_l : ∀ k, (∀ y0 y1 y2, LeO (laws_eqStringS.l0 k y0 y1 y2) (laws_eqStringS.l0 (k + 1) y0 y1 y2))
  | 0 => fun _ _ _ r h => by simp [laws_eqStringS.l0] at h
  | k + 1 => by
    have ih0 := laws_eqStringS.mono_l k
    · intro y0 y1 y2
      unfold laws_eqStringS.l0
      repeat' first
      | (with_reducible exact ih0 _ _ _)
      | (with_reducible exact LeO.refl _)
      | (with_reducible exact LeO.none _)
      | (with_reducible refine LeO.ite ?_ ?_)
      | (with_reducible refine LeO.bind ?_ (fun _ => ?_))
      | exact ih0 _ _ _
      | exact LeO.none _
      | refine LeO.ite ?_ ?_
      | refine LeO.bind ?_ (fun _ => ?_)
theorem laws_eqStringS.mono : ∀ a0 a1 k, LeO (laws_eqStringS.f k a0 a1) (laws_eqStringS.f (k + 1) a0 a1) := by
  intro a0 a1 k
  have ih0 := laws_eqStringS.mono_l k
  unfold laws_eqStringS.f
  repeat' first
      | (with_reducible exact ih0 _ _ _)
      | (with_reducible exact LeO.refl _)
      | (with_reducible exact LeO.none _)
      | (with_reducible refine LeO.ite ?_ ?_)
      | (with_reducible refine LeO.bind ?_ (fun _ => ?_))
      | exact ih0 _ _ _
      | exact LeO.none _
      | refine LeO.ite ?_ ?_
      | refine LeO.bind ?_ (fun _ => ?_)
set_option maxHeartbeats 8000000 in
set_option maxRecDepth 100000 in
theorem laws_eqStringS.calls (k : Nat) (A0 : Option Addr) (c0 : Nat) (l0 : List ByteArray) (A1 : Option Addr) (c1 : Nat) (l1 : List ByteArray) (r : Bool) (w : World) (hr0 : Kd.C Kd.string w A0 l0.length l0) (hc0 : l0.length ≤ c0) (hr1 : Kd.C Kd.string w A1 l1.length l1) (hc1 : l1.length ≤ c1) (h : laws_eqStringS.f k l0 l1 = some r) :
    Calls Try.prog 25 #[.slice A0 l0.length c0, .slice A1 l1.length c1] w fun e w' => e = .returned (.bool r) ∧ Drawn0 w w' := by
  have HR0 := Aside0.mk hr0
  have HC0 := Aside0.mk hc0
  clear hr0 hc0
  have HR1 := Aside0.mk hr1
  have HC1 := Aside0.mk hc1
  clear hr1 hc1
  have H : (if (l0.length : Int) = (l1.length : Int) then (laws_eqStringS.l0 k l0 l1 0) else (some false)) = some r := h
  clear h
  by_cases c3 : (l0.length : Int) = (l1.length : Int)
  · rw [if_pos c3] at H
    have c3b0 : ((l0.length : Int) == (l1.length : Int)) = true := beq_iff_eq.mpr c3
    have c3b1 : ((l0.length : Int) != (l1.length : Int)) = false := bne_eq_false_iff_eq.mpr c3
    have c3b2 : (l0.length == l1.length) = true := by first | simpa using c3 | (simp at c3 ⊢; omega)
    clear c3
    have H' := Aside0.mk H
    clear H
    go_enter Try.func25, Try.ntmps25
    go_wp2
    repeat (go_quiet (fail); try go_wp2)
    go_loopg [5] k (fun kq v5 w' => ∃ (x5_1 : Int), v5 = .int .i64 x5_1 ∧ Aside0 (laws_eqStringS.l0 kq l0 l1 x5_1 = some r) ∧ Aside0 (kq ≤ k) ∧ Drawn0 w w')
    case atStart => exact ⟨(0), (by first | rfl | (simp; done) | (simp [*]; done)), H', ⟨Nat.le_refl _⟩, by repeat (first | exact Drawn0.refl _ | apply Drawn0.step)⟩
    case round =>
      clear H'
      try clear c1
      try clear c2
      try clear p2
      try clear c3
      try clear c3b0
      try clear c3b1
      try clear c3b2
      obtain ⟨x5_1, rfl, HA, HK1, ⟨m1, rfl⟩⟩ := hrel
      cases gk with
      | zero => exact absurd HA.out (by simp [laws_eqStringS.l0])
      | succ k1 =>
        have H := HA.out
        clear HA
        simp only [laws_eqStringS.l0] at H
        by_cases c4 : x5_1 < (l0.length : Int)
        · rw [if_pos c4] at H
          have c4b0 : decide (x5_1 < (l0.length : Int)) = true := decide_eq_true c4
          clear c4
          by_cases c5 : 0 ≤ x5_1
          · rw [if_pos c5] at H
            have c5b0 : decide (0 ≤ x5_1) = true := decide_eq_true c5
            clear c5
            by_cases c6 : x5_1 < (l1.length : Int)
            · rw [if_pos c6] at H
              have c6b0 : decide (x5_1 < (l1.length : Int)) = true := decide_eq_true c6
              clear c6
              by_cases c7 : (rdOf ByteArray.empty l0 x5_1).toList = (rdOf ByteArray.empty l1 x5_1).toList
              · rw [if_pos c7] at H
                have c7b0 : ((rdOf ByteArray.empty l0 x5_1).toList == (rdOf ByteArray.empty l1 x5_1).toList) = true := beq_iff_eq.mpr c7
                have c7b1 : ((rdOf ByteArray.empty l0 x5_1).toList != (rdOf ByteArray.empty l1 x5_1).toList) = false := bne_eq_false_iff_eq.mpr c7
                clear c7
                have H' := Aside0.mk H
                clear H
                have p130 : 0 ≤ (x5_1 : Int) := of_decide_eq_true (by first | (with_reducible assumption) | assumption)
                have q130 : x5_1 < (l0.length : Int) := of_decide_eq_true (by first | (with_reducible assumption) | assumption)
                obtain ⟨ad130, e130, hx130_0⟩ := Kd.at_string HR0.out x5_1 p130 q130
                cases e130
                replace p130 := eq_true p130
                replace q130 := eq_true q130
                have p131 : 0 ≤ (x5_1 : Int) := of_decide_eq_true (by first | (with_reducible assumption) | assumption)
                have q131 : x5_1 < (l1.length : Int) := of_decide_eq_true (by first | (with_reducible assumption) | assumption)
                obtain ⟨ad131, e131, hx131_0⟩ := Kd.at_string HR1.out x5_1 p131 q131
                cases e131
                replace p131 := eq_true p131
                replace q131 := eq_true q131
                go_wp2
                repeat (go_quiet (fail); try go_wp2)
                go_roundg k1
                case measure => have := HK1.out; omega
                case rel => exact ⟨(wrap64 (x5_1 + 1)), (by first | rfl | (simp; done) | (simp [*]; done)), H', ⟨by have := HK1.out; omega⟩, by repeat (first | exact Drawn0.refl _ | apply Drawn0.step)⟩
              · rw [if_neg c7] at H
                have c7b0 : ((rdOf ByteArray.empty l0 x5_1).toList == (rdOf ByteArray.empty l1 x5_1).toList) = false := beq_eq_false_iff_ne.mpr c7
                have c7b1 : ((rdOf ByteArray.empty l0 x5_1).toList != (rdOf ByteArray.empty l1 x5_1).toList) = true := bne_iff_ne.mpr c7
                obtain rfl := Option.some.inj H
                have p130 : 0 ≤ (x5_1 : Int) := of_decide_eq_true (by first | (with_reducible assumption) | assumption)
                have q130 : x5_1 < (l0.length : Int) := of_decide_eq_true (by first | (with_reducible assumption) | assumption)
                obtain ⟨ad130, e130, hx130_0⟩ := Kd.at_string HR0.out x5_1 p130 q130
                cases e130
                replace p130 := eq_true p130
                replace q130 := eq_true q130
                have p131 : 0 ≤ (x5_1 : Int) := of_decide_eq_true (by first | (with_reducible assumption) | assumption)
                have q131 : x5_1 < (l1.length : Int) := of_decide_eq_true (by first | (with_reducible assumption) | assumption)
                obtain ⟨ad131, e131, hx131_0⟩ := Kd.at_string HR1.out x5_1 p131 q131
                cases e131
                replace p131 := eq_true p131
                replace q131 := eq_true q131
                go_wp2
                repeat (go_quiet (fail); try go_wp2)
                go_ret
                exact ⟨by first | rfl | (simp; done) | (simp [*]; done), by repeat (first | exact Drawn0.refl _ | apply Drawn0.step)⟩
            · rw [if_neg c6] at H
              exact absurd H (by simp)
          · rw [if_neg c5] at H
            exact absurd H (by simp)
        · rw [if_neg c4] at H
          have c4b0 : decide (x5_1 < (l0.length : Int)) = false := decide_eq_false c4
          clear c4
          obtain rfl := Option.some.inj H
          go_wp2
          repeat (go_quiet (fail); try go_wp2)
          go_ret
          exact ⟨by first | rfl | (simp; done) | (simp [*]; done), by repeat (first | exact Drawn0.refl _ | apply Drawn0.step)⟩
  · rw [if_neg c3] at H
    have c3b0 : ((l0.length : Int) == (l1.length : Int)) = false := beq_eq_false_iff_ne.mpr c3
    have c3b1 : ((l0.length : Int) != (l1.length : Int)) = true := bne_iff_ne.mpr c3
    have c3b2 : (l0.length == l1.length) = false := by first | simpa using c3 | (simp at c3 ⊢; omega)
    obtain rfl := Option.some.inj H
    go_enter Try.func25, Try.ntmps25
    go_wp2
    repeat (go_quiet (fail); try go_wp2)
    go_ret
    exact ⟨by first | rfl | (simp; done) | (simp [*]; done), by repeat (first | exact Drawn0.refl _ | apply Drawn0.step)⟩

/-! ### laws_eqLevel: function 20 -/
def laws_eqLevel.f (k : Nat) (l0_0 : List ByteArray) (l0_1 : List ByteArray) (l1_0 : List ByteArray) (l1_1 : List ByteArray) : Option (Bool) := (laws_eqStringS.f k l0_0 l1_0).bind fun t134 => (if t134 = true then ((laws_eqStringS.f k l0_1 l1_1).bind fun t135 => (if t135 = true then (some true) else (some false))) else (some false))
theorem laws_eqLevel.mono : ∀ a0 a1 a2 a3 k, LeO (laws_eqLevel.f k a0 a1 a2 a3) (laws_eqLevel.f (k + 1) a0 a1 a2 a3) := by
  intro a0 a1 a2 a3 k
  unfold laws_eqLevel.f
  repeat' first
      | (with_reducible exact laws_eqStringS.mono _ _ _)
      | (with_reducible exact LeO.refl _)
      | (with_reducible exact LeO.none _)
      | (with_reducible refine LeO.ite ?_ ?_)
      | (with_reducible refine LeO.bind ?_ (fun _ => ?_))
      | exact laws_eqStringS.mono _ _ _
      | exact LeO.none _
      | refine LeO.ite ?_ ?_
      | refine LeO.bind ?_ (fun _ => ?_)
set_option maxHeartbeats 8000000 in
set_option maxRecDepth 100000 in
theorem laws_eqLevel.calls (k : Nat) (A0_0 : Option Addr) (c0_0 : Nat) (l0_0 : List ByteArray) (A0_1 : Option Addr) (c0_1 : Nat) (l0_1 : List ByteArray) (A1_0 : Option Addr) (c1_0 : Nat) (l1_0 : List ByteArray) (A1_1 : Option Addr) (c1_1 : Nat) (l1_1 : List ByteArray) (r : Bool) (w : World) (hr0_0 : Kd.C Kd.string w A0_0 l0_0.length l0_0) (hc0_0 : l0_0.length ≤ c0_0) (hr0_1 : Kd.C Kd.string w A0_1 l0_1.length l0_1) (hc0_1 : l0_1.length ≤ c0_1) (hr1_0 : Kd.C Kd.string w A1_0 l1_0.length l1_0) (hc1_0 : l1_0.length ≤ c1_0) (hr1_1 : Kd.C Kd.string w A1_1 l1_1.length l1_1) (hc1_1 : l1_1.length ≤ c1_1) (h : laws_eqLevel.f k l0_0 l0_1 l1_0 l1_1 = some r) :
    Calls Try.prog 20 #[.agg #[.slice A0_0 l0_0.length c0_0, .slice A0_1 l0_1.length c0_1], .agg #[.slice A1_0 l1_0.length c1_0, .slice A1_1 l1_1.length c1_1]] w fun e w' => e = .returned (.bool r) ∧ Below w.heap.size w w' := by
  have hu37 := Try.underlying37
  have HR0_0 := Aside0.mk hr0_0
  have HC0_0 := Aside0.mk hc0_0
  clear hr0_0 hc0_0
  have HR0_1 := Aside0.mk hr0_1
  have HC0_1 := Aside0.mk hc0_1
  clear hr0_1 hc0_1
  have HR1_0 := Aside0.mk hr1_0
  have HC1_0 := Aside0.mk hc1_0
  clear hr1_0 hc1_0
  have HR1_1 := Aside0.mk hr1_1
  have HC1_1 := Aside0.mk hc1_1
  clear hr1_1 hc1_1
  have HB := Aside0.mk (Below.refl w.heap.size w)
  have H : ((laws_eqStringS.f k l0_0 l1_0).bind fun t134 => (if t134 = true then ((laws_eqStringS.f k l0_1 l1_1).bind fun t135 => (if t135 = true then (some true) else (some false))) else (some false))) = some r := h
  clear h
  replace H := Option.bind_eq_some_iff.mp H
  obtain ⟨t134, A30, H⟩ := H
  replace H : (if t134 = true then ((laws_eqStringS.f k l0_1 l1_1).bind fun t135 => (if t135 = true then (some true) else (some false))) else (some false)) = some r := H
  have A3 := Aside0.mk A30
  clear A30
  by_cases c4 : t134 = true
  · subst c4
    have H1 : ((laws_eqStringS.f k l0_1 l1_1).bind fun t135 => (if t135 = true then (some true) else (some false))) = some r := by rw [if_pos rfl] at H; exact H
    clear H
    have H := H1
    clear H1
    replace H := Option.bind_eq_some_iff.mp H
    obtain ⟨t135, A50, H⟩ := H
    replace H : (if t135 = true then (some true) else (some false)) = some r := H
    have A5 := Aside0.mk A50
    clear A50
    by_cases c6 : t135 = true
    · subst c6
      have H1 : (some true) = some r := by rw [if_pos rfl] at H; exact H
      clear H
      have H := H1
      clear H1
      obtain rfl := Option.some.inj H
      go_enter Try.func20, Try.ntmps20
      go_wp2_with (first | ((with_reducible refine gate_dst (N := 2) rfl ?_); refine box_event ?hg (N := 2) ?hd (cs := #[.slice A0_0 l0_0.length c0_0, .slice A0_1 l0_1.length c0_1]) (t := 37) ?hr ?_; (case hd => rfl); (case hg => rfl); (case hr => first | (go_simp; done) | (go_simp; rfl)); intro gb132 hg w7 hbox hb; have n0_ := Aside0.mk (below_step (by repeat (first | (with_reducible first | exact HB.out | apply below_alloc | apply pw_below_drewN | apply below_drew1) | exact HB.out)) hb); have n1_ := Aside0.mk (hbox); have n2_ := Aside0.mk ((by rw [hg]; exact (below_size (by repeat (first | (with_reducible first | exact HB.out | apply below_alloc | apply pw_below_drewN | apply below_drew1) | exact HB.out))) : w.heap.size ≤ gb132)); have n3_ := Aside0.mk ((by rw [hg]; exact (below_size (by repeat (first | (with_reducible first | exact HB.out | apply below_alloc | apply pw_below_drewN | apply below_drew1) | exact HB.out))) : w.heap.size ≤ gb132)); clear HB; have HB := n0_; have BK132 := n1_; have GW132 := n2_; have GE132 := n3_; clear n0_ n1_ n2_ n3_; clear hb hbox hg) | ((with_reducible refine gate_dst (N := 3) rfl ?_); refine box_event ?hg (N := 3) ?hd (cs := #[.slice A1_0 l1_0.length c1_0, .slice A1_1 l1_1.length c1_1]) (t := 37) ?hr ?_; (case hd => rfl); (case hg => rfl); (case hr => first | (go_simp; done) | (go_simp; rfl)); intro gb133 hg w8 hbox hb; have n0_ := Aside0.mk (blk_below (g := gb132) (o := .cells #[.slice A0_0 l0_0.length c0_0, .slice A0_1 l0_1.length c0_1] 37 (0, 0)) (by (with_reducible repeat (first | refine blk_drewN ?_ _ | refine blk_drew ?_ | refine blk_alloc ?_ _)); exact BK132.out) hb); have n1_ := Aside0.mk (below_step (by repeat (first | (with_reducible first | exact HB.out | apply below_alloc | apply pw_below_drewN | apply below_drew1 | refine below_set ?_ GE132.out) | exact HB.out)) hb); have n2_ := Aside0.mk (hbox); have n3_ := Aside0.mk ((by rw [hg]; exact (below_size (by repeat (first | (with_reducible first | exact HB.out | apply below_alloc | apply pw_below_drewN | apply below_drew1 | refine below_set ?_ GE132.out) | exact HB.out))) : w.heap.size ≤ gb133)); have n4_ := Aside0.mk ((by rw [hg]; exact (below_size (by repeat (first | (with_reducible first | exact HB.out | apply below_alloc | apply pw_below_drewN | apply below_drew1 | refine below_set ?_ GE132.out) | exact HB.out))) : w.heap.size ≤ gb133)); have n5_ := Aside0.mk ((by rw [hg]; exact Nat.ne_of_lt (blk_lt (g := gb132) (o := .cells #[.slice A0_0 l0_0.length c0_0, .slice A0_1 l0_1.length c0_1] 37 (0, 0)) (by (with_reducible repeat (first | refine blk_drewN ?_ _ | refine blk_drew ?_ | refine blk_alloc ?_ _)); exact BK132.out)) : gb132 ≠ gb133)); have n6_ := Aside0.mk ((by rw [hg]; exact Nat.ne_of_gt (blk_lt (g := gb132) (o := .cells #[.slice A0_0 l0_0.length c0_0, .slice A0_1 l0_1.length c0_1] 37 (0, 0)) (by (with_reducible repeat (first | refine blk_drewN ?_ _ | refine blk_drew ?_ | refine blk_alloc ?_ _)); exact BK132.out)) : gb133 ≠ gb132)); clear BK132; clear HB; have BK132 := n0_; have HB := n1_; have BK133 := n2_; have GW133 := n3_; have GE133 := n4_; have NB132_133 := n5_; have NB133_132 := n6_; clear n0_ n1_ n2_ n3_ n4_ n5_ n6_; clear hb hbox hg; have hnb9 := NB132_133.out; have hnc9 := NB133_132.out; have hcz10_0 : w8.cell? ⟨gb132, 0, none⟩ = some (.slice A0_0 l0_0.length c0_0) := (blk_cell BK132.out 0).trans rfl; have hcz10_1 : w8.cell? ⟨gb132, 1, none⟩ = some (.slice A0_1 l0_1.length c0_1) := (blk_cell BK132.out 1).trans rfl; have hfz10_0 := blk_frozen BK132.out 0; have hfz10_1 := blk_frozen BK132.out 1; have hcz11_0 : w8.cell? ⟨gb133, 0, none⟩ = some (.slice A1_0 l1_0.length c1_0) := (blk_cell BK133.out 0).trans rfl; have hcz11_1 : w8.cell? ⟨gb133, 1, none⟩ = some (.slice A1_1 l1_1.length c1_1) := (blk_cell BK133.out 1).trans rfl; have hfz11_0 := blk_frozen BK133.out 0; have hfz11_1 := blk_frozen BK133.out 1) | ((with_reducible refine gate_callee (f := 25) rfl ?_); refine goesL_ (some 9) rfl rfl Try.func25 (by kernel_rfl) rfl #[.slice A0_0 l0_0.length c0_0, .slice A1_0 l1_0.length c1_0] rfl (by (try simp only [List.map_toArray, List.map_cons, List.map_nil]); first | done | rfl | (simp only [List.length_drop, List.length_take]; rfl)) ?_; (with_reducible refine (laws_eqStringS.calls k _ _ l0_0 _ _ l1_0 true _ ?side1 ?side2 ?side3 ?side4 A3.out).mono ?_); (case side1 => repeat (first | exact (Kd.C_below HR0_0.out HB.out) | exact HR0_0.out | (with_reducible refine Kd.C_alloc ?_ _) | (with_reducible refine Kd.C_drewN ?_ _) | (with_reducible refine Kd.C_drew ?_))); (case side2 => exact HC0_0.out); (case side3 => repeat (first | exact (Kd.C_below HR1_0.out HB.out) | exact HR1_0.out | (with_reducible refine Kd.C_alloc ?_ _) | (with_reducible refine Kd.C_drewN ?_ _) | (with_reducible refine Kd.C_drew ?_))); (case side4 => exact HC1_0.out); rintro e w' ⟨rfl, ⟨nd, rfl⟩⟩; refine ⟨_, rfl, ?_⟩) | ((with_reducible refine gate_callee (f := 25) rfl ?_); refine goesL_ (some 15) rfl rfl Try.func25 (by kernel_rfl) rfl #[.slice A0_1 l0_1.length c0_1, .slice A1_1 l1_1.length c1_1] rfl (by (try simp only [List.map_toArray, List.map_cons, List.map_nil]); first | done | rfl | (simp only [List.length_drop, List.length_take]; rfl)) ?_; (with_reducible refine (laws_eqStringS.calls k _ _ l0_1 _ _ l1_1 true _ ?side1 ?side2 ?side3 ?side4 A5.out).mono ?_); (case side1 => repeat (first | exact (Kd.C_below HR0_1.out (by repeat (first | (with_reducible first | exact HB.out | apply below_alloc | apply pw_below_drewN | apply below_drew1 | refine below_set ?_ GE132.out | refine below_set ?_ GE133.out) | exact HB.out))) | (with_reducible refine Kd.C_alloc ?_ _) | (with_reducible refine Kd.C_drewN ?_ _) | (with_reducible refine Kd.C_drew ?_))); (case side2 => exact HC0_1.out); (case side3 => repeat (first | exact (Kd.C_below HR1_1.out (by repeat (first | (with_reducible first | exact HB.out | apply below_alloc | apply pw_below_drewN | apply below_drew1 | refine below_set ?_ GE132.out | refine below_set ?_ GE133.out) | exact HB.out))) | (with_reducible refine Kd.C_alloc ?_ _) | (with_reducible refine Kd.C_drewN ?_ _) | (with_reducible refine Kd.C_drew ?_))); (case side4 => exact HC1_1.out); rintro e w' ⟨rfl, ⟨nd, rfl⟩⟩; refine ⟨_, rfl, ?_⟩))
      go_ret
      exact ⟨by first | rfl | (simp [errW_none, errW_some] <;> rfl) | (simp [*, errW_none, errW_some] <;> rfl), by repeat (first | (with_reducible first | exact HB.out | apply below_alloc | apply pw_below_drewN | apply below_drew1 | refine below_set ?_ GE132.out | refine below_set ?_ GE133.out) | exact HB.out)⟩
    · replace c6 := Bool.eq_false_iff.mpr c6
      subst c6
      have H1 : (some false) = some r := by rw [if_neg (show ¬ (false = true) by decide)] at H; exact H
      clear H
      have H := H1
      clear H1
      obtain rfl := Option.some.inj H
      go_enter Try.func20, Try.ntmps20
      go_wp2_with (first | ((with_reducible refine gate_dst (N := 2) rfl ?_); refine box_event ?hg (N := 2) ?hd (cs := #[.slice A0_0 l0_0.length c0_0, .slice A0_1 l0_1.length c0_1]) (t := 37) ?hr ?_; (case hd => rfl); (case hg => rfl); (case hr => first | (go_simp; done) | (go_simp; rfl)); intro gb132 hg w12 hbox hb; have n0_ := Aside0.mk (below_step (by repeat (first | (with_reducible first | exact HB.out | apply below_alloc | apply pw_below_drewN | apply below_drew1) | exact HB.out)) hb); have n1_ := Aside0.mk (hbox); have n2_ := Aside0.mk ((by rw [hg]; exact (below_size (by repeat (first | (with_reducible first | exact HB.out | apply below_alloc | apply pw_below_drewN | apply below_drew1) | exact HB.out))) : w.heap.size ≤ gb132)); have n3_ := Aside0.mk ((by rw [hg]; exact (below_size (by repeat (first | (with_reducible first | exact HB.out | apply below_alloc | apply pw_below_drewN | apply below_drew1) | exact HB.out))) : w.heap.size ≤ gb132)); clear HB; have HB := n0_; have BK132 := n1_; have GW132 := n2_; have GE132 := n3_; clear n0_ n1_ n2_ n3_; clear hb hbox hg) | ((with_reducible refine gate_dst (N := 3) rfl ?_); refine box_event ?hg (N := 3) ?hd (cs := #[.slice A1_0 l1_0.length c1_0, .slice A1_1 l1_1.length c1_1]) (t := 37) ?hr ?_; (case hd => rfl); (case hg => rfl); (case hr => first | (go_simp; done) | (go_simp; rfl)); intro gb133 hg w13 hbox hb; have n0_ := Aside0.mk (blk_below (g := gb132) (o := .cells #[.slice A0_0 l0_0.length c0_0, .slice A0_1 l0_1.length c0_1] 37 (0, 0)) (by (with_reducible repeat (first | refine blk_drewN ?_ _ | refine blk_drew ?_ | refine blk_alloc ?_ _)); exact BK132.out) hb); have n1_ := Aside0.mk (below_step (by repeat (first | (with_reducible first | exact HB.out | apply below_alloc | apply pw_below_drewN | apply below_drew1 | refine below_set ?_ GE132.out) | exact HB.out)) hb); have n2_ := Aside0.mk (hbox); have n3_ := Aside0.mk ((by rw [hg]; exact (below_size (by repeat (first | (with_reducible first | exact HB.out | apply below_alloc | apply pw_below_drewN | apply below_drew1 | refine below_set ?_ GE132.out) | exact HB.out))) : w.heap.size ≤ gb133)); have n4_ := Aside0.mk ((by rw [hg]; exact (below_size (by repeat (first | (with_reducible first | exact HB.out | apply below_alloc | apply pw_below_drewN | apply below_drew1 | refine below_set ?_ GE132.out) | exact HB.out))) : w.heap.size ≤ gb133)); have n5_ := Aside0.mk ((by rw [hg]; exact Nat.ne_of_lt (blk_lt (g := gb132) (o := .cells #[.slice A0_0 l0_0.length c0_0, .slice A0_1 l0_1.length c0_1] 37 (0, 0)) (by (with_reducible repeat (first | refine blk_drewN ?_ _ | refine blk_drew ?_ | refine blk_alloc ?_ _)); exact BK132.out)) : gb132 ≠ gb133)); have n6_ := Aside0.mk ((by rw [hg]; exact Nat.ne_of_gt (blk_lt (g := gb132) (o := .cells #[.slice A0_0 l0_0.length c0_0, .slice A0_1 l0_1.length c0_1] 37 (0, 0)) (by (with_reducible repeat (first | refine blk_drewN ?_ _ | refine blk_drew ?_ | refine blk_alloc ?_ _)); exact BK132.out)) : gb133 ≠ gb132)); clear BK132; clear HB; have BK132 := n0_; have HB := n1_; have BK133 := n2_; have GW133 := n3_; have GE133 := n4_; have NB132_133 := n5_; have NB133_132 := n6_; clear n0_ n1_ n2_ n3_ n4_ n5_ n6_; clear hb hbox hg; have hnb14 := NB132_133.out; have hnc14 := NB133_132.out; have hcz15_0 : w13.cell? ⟨gb132, 0, none⟩ = some (.slice A0_0 l0_0.length c0_0) := (blk_cell BK132.out 0).trans rfl; have hcz15_1 : w13.cell? ⟨gb132, 1, none⟩ = some (.slice A0_1 l0_1.length c0_1) := (blk_cell BK132.out 1).trans rfl; have hfz15_0 := blk_frozen BK132.out 0; have hfz15_1 := blk_frozen BK132.out 1; have hcz16_0 : w13.cell? ⟨gb133, 0, none⟩ = some (.slice A1_0 l1_0.length c1_0) := (blk_cell BK133.out 0).trans rfl; have hcz16_1 : w13.cell? ⟨gb133, 1, none⟩ = some (.slice A1_1 l1_1.length c1_1) := (blk_cell BK133.out 1).trans rfl; have hfz16_0 := blk_frozen BK133.out 0; have hfz16_1 := blk_frozen BK133.out 1) | ((with_reducible refine gate_callee (f := 25) rfl ?_); refine goesL_ (some 9) rfl rfl Try.func25 (by kernel_rfl) rfl #[.slice A0_0 l0_0.length c0_0, .slice A1_0 l1_0.length c1_0] rfl (by (try simp only [List.map_toArray, List.map_cons, List.map_nil]); first | done | rfl | (simp only [List.length_drop, List.length_take]; rfl)) ?_; (with_reducible refine (laws_eqStringS.calls k _ _ l0_0 _ _ l1_0 true _ ?side1 ?side2 ?side3 ?side4 A3.out).mono ?_); (case side1 => repeat (first | exact (Kd.C_below HR0_0.out HB.out) | exact HR0_0.out | (with_reducible refine Kd.C_alloc ?_ _) | (with_reducible refine Kd.C_drewN ?_ _) | (with_reducible refine Kd.C_drew ?_))); (case side2 => exact HC0_0.out); (case side3 => repeat (first | exact (Kd.C_below HR1_0.out HB.out) | exact HR1_0.out | (with_reducible refine Kd.C_alloc ?_ _) | (with_reducible refine Kd.C_drewN ?_ _) | (with_reducible refine Kd.C_drew ?_))); (case side4 => exact HC1_0.out); rintro e w' ⟨rfl, ⟨nd, rfl⟩⟩; refine ⟨_, rfl, ?_⟩) | ((with_reducible refine gate_callee (f := 25) rfl ?_); refine goesL_ (some 15) rfl rfl Try.func25 (by kernel_rfl) rfl #[.slice A0_1 l0_1.length c0_1, .slice A1_1 l1_1.length c1_1] rfl (by (try simp only [List.map_toArray, List.map_cons, List.map_nil]); first | done | rfl | (simp only [List.length_drop, List.length_take]; rfl)) ?_; (with_reducible refine (laws_eqStringS.calls k _ _ l0_1 _ _ l1_1 false _ ?side1 ?side2 ?side3 ?side4 A5.out).mono ?_); (case side1 => repeat (first | exact (Kd.C_below HR0_1.out (by repeat (first | (with_reducible first | exact HB.out | apply below_alloc | apply pw_below_drewN | apply below_drew1 | refine below_set ?_ GE132.out | refine below_set ?_ GE133.out) | exact HB.out))) | (with_reducible refine Kd.C_alloc ?_ _) | (with_reducible refine Kd.C_drewN ?_ _) | (with_reducible refine Kd.C_drew ?_))); (case side2 => exact HC0_1.out); (case side3 => repeat (first | exact (Kd.C_below HR1_1.out (by repeat (first | (with_reducible first | exact HB.out | apply below_alloc | apply pw_below_drewN | apply below_drew1 | refine below_set ?_ GE132.out | refine below_set ?_ GE133.out) | exact HB.out))) | (with_reducible refine Kd.C_alloc ?_ _) | (with_reducible refine Kd.C_drewN ?_ _) | (with_reducible refine Kd.C_drew ?_))); (case side4 => exact HC1_1.out); rintro e w' ⟨rfl, ⟨nd, rfl⟩⟩; refine ⟨_, rfl, ?_⟩))
      go_ret
      exact ⟨by first | rfl | (simp [errW_none, errW_some] <;> rfl) | (simp [*, errW_none, errW_some] <;> rfl), by repeat (first | (with_reducible first | exact HB.out | apply below_alloc | apply pw_below_drewN | apply below_drew1 | refine below_set ?_ GE132.out | refine below_set ?_ GE133.out) | exact HB.out)⟩
  · replace c4 := Bool.eq_false_iff.mpr c4
    subst c4
    have H1 : (some false) = some r := by rw [if_neg (show ¬ (false = true) by decide)] at H; exact H
    clear H
    have H := H1
    clear H1
    obtain rfl := Option.some.inj H
    go_enter Try.func20, Try.ntmps20
    go_wp2_with (first | ((with_reducible refine gate_dst (N := 2) rfl ?_); refine box_event ?hg (N := 2) ?hd (cs := #[.slice A0_0 l0_0.length c0_0, .slice A0_1 l0_1.length c0_1]) (t := 37) ?hr ?_; (case hd => rfl); (case hg => rfl); (case hr => first | (go_simp; done) | (go_simp; rfl)); intro gb132 hg w17 hbox hb; have n0_ := Aside0.mk (below_step (by repeat (first | (with_reducible first | exact HB.out | apply below_alloc | apply pw_below_drewN | apply below_drew1) | exact HB.out)) hb); have n1_ := Aside0.mk (hbox); have n2_ := Aside0.mk ((by rw [hg]; exact (below_size (by repeat (first | (with_reducible first | exact HB.out | apply below_alloc | apply pw_below_drewN | apply below_drew1) | exact HB.out))) : w.heap.size ≤ gb132)); have n3_ := Aside0.mk ((by rw [hg]; exact (below_size (by repeat (first | (with_reducible first | exact HB.out | apply below_alloc | apply pw_below_drewN | apply below_drew1) | exact HB.out))) : w.heap.size ≤ gb132)); clear HB; have HB := n0_; have BK132 := n1_; have GW132 := n2_; have GE132 := n3_; clear n0_ n1_ n2_ n3_; clear hb hbox hg) | ((with_reducible refine gate_dst (N := 3) rfl ?_); refine box_event ?hg (N := 3) ?hd (cs := #[.slice A1_0 l1_0.length c1_0, .slice A1_1 l1_1.length c1_1]) (t := 37) ?hr ?_; (case hd => rfl); (case hg => rfl); (case hr => first | (go_simp; done) | (go_simp; rfl)); intro gb133 hg w18 hbox hb; have n0_ := Aside0.mk (blk_below (g := gb132) (o := .cells #[.slice A0_0 l0_0.length c0_0, .slice A0_1 l0_1.length c0_1] 37 (0, 0)) (by (with_reducible repeat (first | refine blk_drewN ?_ _ | refine blk_drew ?_ | refine blk_alloc ?_ _)); exact BK132.out) hb); have n1_ := Aside0.mk (below_step (by repeat (first | (with_reducible first | exact HB.out | apply below_alloc | apply pw_below_drewN | apply below_drew1 | refine below_set ?_ GE132.out) | exact HB.out)) hb); have n2_ := Aside0.mk (hbox); have n3_ := Aside0.mk ((by rw [hg]; exact (below_size (by repeat (first | (with_reducible first | exact HB.out | apply below_alloc | apply pw_below_drewN | apply below_drew1 | refine below_set ?_ GE132.out) | exact HB.out))) : w.heap.size ≤ gb133)); have n4_ := Aside0.mk ((by rw [hg]; exact (below_size (by repeat (first | (with_reducible first | exact HB.out | apply below_alloc | apply pw_below_drewN | apply below_drew1 | refine below_set ?_ GE132.out) | exact HB.out))) : w.heap.size ≤ gb133)); have n5_ := Aside0.mk ((by rw [hg]; exact Nat.ne_of_lt (blk_lt (g := gb132) (o := .cells #[.slice A0_0 l0_0.length c0_0, .slice A0_1 l0_1.length c0_1] 37 (0, 0)) (by (with_reducible repeat (first | refine blk_drewN ?_ _ | refine blk_drew ?_ | refine blk_alloc ?_ _)); exact BK132.out)) : gb132 ≠ gb133)); have n6_ := Aside0.mk ((by rw [hg]; exact Nat.ne_of_gt (blk_lt (g := gb132) (o := .cells #[.slice A0_0 l0_0.length c0_0, .slice A0_1 l0_1.length c0_1] 37 (0, 0)) (by (with_reducible repeat (first | refine blk_drewN ?_ _ | refine blk_drew ?_ | refine blk_alloc ?_ _)); exact BK132.out)) : gb133 ≠ gb132)); clear BK132; clear HB; have BK132 := n0_; have HB := n1_; have BK133 := n2_; have GW133 := n3_; have GE133 := n4_; have NB132_133 := n5_; have NB133_132 := n6_; clear n0_ n1_ n2_ n3_ n4_ n5_ n6_; clear hb hbox hg; have hnb19 := NB132_133.out; have hnc19 := NB133_132.out; have hcz20_0 : w18.cell? ⟨gb132, 0, none⟩ = some (.slice A0_0 l0_0.length c0_0) := (blk_cell BK132.out 0).trans rfl; have hcz20_1 : w18.cell? ⟨gb132, 1, none⟩ = some (.slice A0_1 l0_1.length c0_1) := (blk_cell BK132.out 1).trans rfl; have hfz20_0 := blk_frozen BK132.out 0; have hfz20_1 := blk_frozen BK132.out 1; have hcz21_0 : w18.cell? ⟨gb133, 0, none⟩ = some (.slice A1_0 l1_0.length c1_0) := (blk_cell BK133.out 0).trans rfl; have hcz21_1 : w18.cell? ⟨gb133, 1, none⟩ = some (.slice A1_1 l1_1.length c1_1) := (blk_cell BK133.out 1).trans rfl; have hfz21_0 := blk_frozen BK133.out 0; have hfz21_1 := blk_frozen BK133.out 1) | ((with_reducible refine gate_callee (f := 25) rfl ?_); refine goesL_ (some 9) rfl rfl Try.func25 (by kernel_rfl) rfl #[.slice A0_0 l0_0.length c0_0, .slice A1_0 l1_0.length c1_0] rfl (by (try simp only [List.map_toArray, List.map_cons, List.map_nil]); first | done | rfl | (simp only [List.length_drop, List.length_take]; rfl)) ?_; (with_reducible refine (laws_eqStringS.calls k _ _ l0_0 _ _ l1_0 false _ ?side1 ?side2 ?side3 ?side4 A3.out).mono ?_); (case side1 => repeat (first | exact (Kd.C_below HR0_0.out HB.out) | exact HR0_0.out | (with_reducible refine Kd.C_alloc ?_ _) | (with_reducible refine Kd.C_drewN ?_ _) | (with_reducible refine Kd.C_drew ?_))); (case side2 => exact HC0_0.out); (case side3 => repeat (first | exact (Kd.C_below HR1_0.out HB.out) | exact HR1_0.out | (with_reducible refine Kd.C_alloc ?_ _) | (with_reducible refine Kd.C_drewN ?_ _) | (with_reducible refine Kd.C_drew ?_))); (case side4 => exact HC1_0.out); rintro e w' ⟨rfl, ⟨nd, rfl⟩⟩; refine ⟨_, rfl, ?_⟩))
    go_ret
    exact ⟨by first | rfl | (simp [errW_none, errW_some] <;> rfl) | (simp [*, errW_none, errW_some] <;> rfl), by repeat (first | (with_reducible first | exact HB.out | apply below_alloc | apply pw_below_drewN | apply below_drew1 | refine below_set ?_ GE132.out | refine below_set ?_ GE133.out) | exact HB.out)⟩

/-! ### laws_eqLevelS: function 13 -/
def laws_eqLevelS.l0 : Nat → List (S37) → List (S37) → Int → Option (Bool)
  | 0, _, _, _ => none
  | k + 1, x0, x1, x5 => if x5 < (x0.length : Int) then (if 0 ≤ x5 then (if x5 < (x1.length : Int) then ((laws_eqLevel.f k ((rd_T37 x0 x5).f0) ((rd_T37 x0 x5).f1) ((rd_T37 x1 x5).f0) ((rd_T37 x1 x5).f1)).bind fun t138 => (if t138 = true then (laws_eqLevelS.l0 k x0 x1 (wrap64 (x5 + 1))) else (some false))) else (none)) else (none)) else (some true)
def laws_eqLevelS.f (k : Nat) (l0 : List (S37)) (l1 : List (S37)) : Option (Bool) := if (l0.length : Int) = (l1.length : Int) then (laws_eqLevelS.l0 k l0 l1 0) else (some false)
theorem laws_eqLevelS.mono_l : ∀ k, (∀ y0 y1 y2, LeO (laws_eqLevelS.l0 k y0 y1 y2) (laws_eqLevelS.l0 (k + 1) y0 y1 y2))
  | 0 => fun _ _ _ r h => by simp [laws_eqLevelS.l0] at h
  | k + 1 => by
    have ih0 := laws_eqLevelS.mono_l k
    · intro y0 y1 y2
      unfold laws_eqLevelS.l0
      repeat' first
      | (with_reducible exact ih0 _ _ _)
      | (with_reducible exact laws_eqLevel.mono _ _ _ _ _)
      | (with_reducible exact LeO.refl _)
      | (with_reducible exact LeO.none _)
      | (with_reducible refine LeO.ite ?_ ?_)
      | (with_reducible refine LeO.bind ?_ (fun _ => ?_))
      | exact ih0 _ _ _
      | exact laws_eqLevel.mono _ _ _ _ _
      | exact LeO.none _
      | refine LeO.ite ?_ ?_
      | refine LeO.bind ?_ (fun _ => ?_)
theorem laws_eqLevelS.mono : ∀ a0 a1 k, LeO (laws_eqLevelS.f k a0 a1) (laws_eqLevelS.f (k + 1) a0 a1) := by
  intro a0 a1 k
  have ih0 := laws_eqLevelS.mono_l k
  unfold laws_eqLevelS.f
  repeat' first
      | (with_reducible exact ih0 _ _ _)
      | (with_reducible exact laws_eqLevel.mono _ _ _ _ _)
      | (with_reducible exact LeO.refl _)
      | (with_reducible exact LeO.none _)
      | (with_reducible refine LeO.ite ?_ ?_)
      | (with_reducible refine LeO.bind ?_ (fun _ => ?_))
      | exact ih0 _ _ _
      | exact laws_eqLevel.mono _ _ _ _ _
      | exact LeO.none _
      | refine LeO.ite ?_ ?_
      | refine LeO.bind ?_ (fun _ => ?_)
def laws_eqLevelS.T6 : Bool × List (List Nat × List Nat) := (true, [([], []), ([], []), ([0, 1], [0, 1]), ([2], [2]), ([], []), ([], []), ([4, 5], [4, 5]), ([6], [6]), ([3, 7], [3, 7]), ([8], [8])])
def laws_eqLevelS.B6 : List Nat := [0, 0, 3, 7, 0, 0, 48, 112, 255, 511]
theorem laws_eqLevelS.tab6 : rtab .any (opsOf Try.f13 6) = laws_eqLevelS.T6 := by kernel_rfl
theorem laws_eqLevelS.bits6 : waitsOk laws_eqLevelS.T6.2 laws_eqLevelS.B6 = true := by kernel_rfl
set_option maxHeartbeats 8000000 in
set_option maxRecDepth 100000 in
theorem laws_eqLevelS.calls (k : Nat) (A0 : Option Addr) (c0 : Nat) (l0 : List (S37)) (A1 : Option Addr) (c1 : Nat) (l1 : List (S37)) (r : Bool) (w : World) (hr0 : Kd.C k37 w A0 l0.length l0) (hc0 : l0.length ≤ c0) (hr1 : Kd.C k37 w A1 l1.length l1) (hc1 : l1.length ≤ c1) (h : laws_eqLevelS.f k l0 l1 = some r) :
    Calls Try.prog 13 #[.slice A0 l0.length c0, .slice A1 l1.length c1] w fun e w' => e = .returned (.bool r) ∧ Below w.heap.size w w' := by
  have hu37 := Try.underlying37
  have HR0 := Aside0.mk hr0
  have HC0 := Aside0.mk hc0
  clear hr0 hc0
  have HR1 := Aside0.mk hr1
  have HC1 := Aside0.mk hc1
  clear hr1 hc1
  have HB := Aside0.mk (Below.refl w.heap.size w)
  have H : (if (l0.length : Int) = (l1.length : Int) then (laws_eqLevelS.l0 k l0 l1 0) else (some false)) = some r := h
  clear h
  by_cases c3 : (l0.length : Int) = (l1.length : Int)
  · rw [if_pos c3] at H
    have c3b0 : ((l0.length : Int) == (l1.length : Int)) = true := beq_iff_eq.mpr c3
    have c3b1 : ((l0.length : Int) != (l1.length : Int)) = false := bne_eq_false_iff_eq.mpr c3
    have c3b2 : (l0.length == l1.length) = true := by first | simpa using c3 | (simp at c3 ⊢; omega)
    clear c3
    have H' := Aside0.mk H
    clear H
    go_enter Try.func13, Try.ntmps13
    go_wp2
    go_loopg [5] k (fun kq v5 w' => ∃ (x5_1 : Int), v5 = .int .i64 x5_1 ∧ Aside0 (laws_eqLevelS.l0 kq l0 l1 x5_1 = some r) ∧ Aside0 (kq ≤ k) ∧ Aside0 (Below w.heap.size w w'))
    case atStart => exact ⟨(0), (by first | rfl | (simp; done) | (simp [*]; done)), H', ⟨Nat.le_refl _⟩, ⟨by repeat (first | (with_reducible first | exact HB.out | apply below_alloc | apply pw_below_drewN | apply below_drew1) | exact HB.out)⟩⟩
    case round =>
      clear H'
      try clear c1
      try clear p2
      try clear c3
      try clear c3b0
      try clear c3b1
      try clear c3b2
      obtain ⟨x5_1, rfl, HA, HK1, HB⟩ := hrel
      cases gk with
      | zero => exact absurd HA.out (by simp [laws_eqLevelS.l0])
      | succ k1 =>
        have H := HA.out
        clear HA
        simp only [laws_eqLevelS.l0] at H
        by_cases c4 : x5_1 < (l0.length : Int)
        · rw [if_pos c4] at H
          have c4b0 : decide (x5_1 < (l0.length : Int)) = true := decide_eq_true c4
          clear c4
          by_cases c5 : 0 ≤ x5_1
          · rw [if_pos c5] at H
            have c5b0 : decide (0 ≤ x5_1) = true := decide_eq_true c5
            clear c5
            by_cases c6 : x5_1 < (l1.length : Int)
            · rw [if_pos c6] at H
              have c6b0 : decide (x5_1 < (l1.length : Int)) = true := decide_eq_true c6
              clear c6
              replace H := Option.bind_eq_some_iff.mp H
              obtain ⟨t138, A70, H⟩ := H
              replace H : (if t138 = true then (laws_eqLevelS.l0 k1 l0 l1 (wrap64 (x5_1 + 1))) else (some false)) = some r := H
              have A7 := Aside0.mk A70
              clear A70
              by_cases c8 : t138 = true
              · subst c8
                have H1 : (laws_eqLevelS.l0 k1 l0 l1 (wrap64 (x5_1 + 1))) = some r := by rw [if_pos rfl] at H; exact H
                clear H
                have H := H1
                clear H1
                have H' := Aside0.mk H
                clear H
                try go_wp2
                have n0_ := Aside0.mk (below_drew1 HB.out)
                clear HB
                have HB := n0_
                clear n0_
                have p136 : 0 ≤ (x5_1 : Int) := of_decide_eq_true (by first | (with_reducible assumption) | assumption)
                have q136 : x5_1 < (l0.length : Int) := of_decide_eq_true (by first | (with_reducible assumption) | assumption)
                obtain ⟨ad136, A136_0, c136_0, A136_1, c136_1, e136, hx136_0, hx136_1, hl136_0, hi136_0, hl136_1, hi136_1⟩ := at_T37 HR0.out x5_1 p136 q136
                have hw136_1 := hx136_1
                have hw136_0 := hx136_0
                cases e136
                (try replace hx136_0 := (HB.out.cell (World.block_lt_of_cell? w _ hx136_0)).trans hx136_0)
                (try replace hx136_1 := (HB.out.cell (World.block_lt_of_cell? w _ hx136_1)).trans hx136_1)
                have HR136_0 := Aside0.mk hi136_0
                have HC136_0 := Aside0.mk hl136_0
                clear hi136_0 hl136_0
                have HR136_1 := Aside0.mk hi136_1
                have HC136_1 := Aside0.mk hl136_1
                clear hi136_1 hl136_1
                replace p136 := eq_true p136
                replace q136 := eq_true q136
                have p137 : 0 ≤ (x5_1 : Int) := of_decide_eq_true (by first | (with_reducible assumption) | assumption)
                have q137 : x5_1 < (l1.length : Int) := of_decide_eq_true (by first | (with_reducible assumption) | assumption)
                obtain ⟨ad137, A137_0, c137_0, A137_1, c137_1, e137, hx137_0, hx137_1, hl137_0, hi137_0, hl137_1, hi137_1⟩ := at_T37 HR1.out x5_1 p137 q137
                have hw137_1 := hx137_1
                have hw137_0 := hx137_0
                cases e137
                (try replace hx137_0 := (HB.out.cell (World.block_lt_of_cell? w _ hx137_0)).trans hx137_0)
                (try replace hx137_1 := (HB.out.cell (World.block_lt_of_cell? w _ hx137_1)).trans hx137_1)
                have HR137_0 := Aside0.mk hi137_0
                have HC137_0 := Aside0.mk hl137_0
                clear hi137_0 hl137_0
                have HR137_1 := Aside0.mk hi137_1
                have HC137_1 := Aside0.mk hl137_1
                clear hi137_1 hl137_1
                replace p137 := eq_true p137
                replace q137 := eq_true q137
                refine start_ (n := 10) (S := fun w' => w'.cell? (ad136.add ((x5_1).toNat * 2)) = some (.slice A136_0 ((rd_T37 l0 x5_1).f0).length c136_0) ∧ w'.cell? ⟨(ad136.add ((x5_1).toNat * 2)).block, (ad136.add ((x5_1).toNat * 2)).off + 1, none⟩ = some (.slice A136_1 ((rd_T37 l0 x5_1).f1).length c136_1) ∧ w'.cell? (ad137.add ((x5_1).toNat * 2)) = some (.slice A137_0 ((rd_T37 l1 x5_1).f0).length c137_0) ∧ w'.cell? ⟨(ad137.add ((x5_1).toNat * 2)).block, (ad137.add ((x5_1).toNat * 2)).off + 1, none⟩ = some (.slice A137_1 ((rd_T37 l1 x5_1).f1).length c137_1)) (ds := []) #[false, false, false, false, false, false, false, false, false, false] (by kernel_rfl) rfl rfl ⟨((HB.out.cell (World.block_lt_of_cell? w _ hw136_0)).trans hw136_0), ((HB.out.cell (World.block_lt_of_cell? w _ hw136_1)).trans hw136_1), ((HB.out.cell (World.block_lt_of_cell? w _ hw137_0)).trans hw137_0), ((HB.out.cell (World.block_lt_of_cell? w _ hw137_1)).trans hw137_1)⟩ (fun hHeld => ?_); refine with_tabW laws_eqLevelS.tab6 laws_eqLevelS.bits6 (fun HT_ HW_ => ?_)
                generalize wr.drew = w9 at HB HR136_0 HR136_1 HR137_0 HR137_1 hx136_0 hx136_1 hx137_0 hx137_1 hHeld ⊢
                refine pure_ (i := 0) (N := some 17) (v := ?_) (a' := ?_) #[true, false, false, false, false, false, false, false, false, false] rfl rfl (any_of HT_.out (by kernel_rfl)) (fun _ _ _ h => h) (Or.inl ⟨by rfl, ?_⟩) ?_ ?_
                rotate_left
                · intro w'
                  go_simp
                  with_reducible rfl
                rotate_left
                · simp only [Act.put, List.setIfInBounds_toArray, List.set_cons_zero, List.set_cons_succ, i64_w, i32_w]
                  rfl
                refine pure_ (i := 1) (N := some 18) (v := ?_) (a' := ?_) #[true, true, false, false, false, false, false, false, false, false] rfl rfl (any_of HT_.out (by kernel_rfl)) (fun _ _ _ h => h) (Or.inl ⟨by rfl, ?_⟩) ?_ ?_
                rotate_left
                · intro w'
                  go_simp
                  with_reducible rfl
                rotate_left
                · simp only [Act.put, List.setIfInBounds_toArray, List.set_cons_zero, List.set_cons_succ, i64_w, i32_w]
                  rfl
                refine pure_ (i := 2) (N := some 19) (v := ?_) (a' := ?_) #[true, true, true, false, false, false, false, false, false, false] rfl rfl (any_of HT_.out (by kernel_rfl)) (fun _ _ _ h => h) (Or.inl ⟨by rfl, ?_⟩) ?_ ?_
                rotate_left
                · intro w'
                  go_simp
                  with_reducible rfl
                rotate_left
                · simp only [Act.put, List.setIfInBounds_toArray, List.set_cons_zero, List.set_cons_succ, i64_w, i32_w]
                  rfl
                refine pure_ (i := 4) (N := some 21) (v := ?_) (a' := ?_) #[true, true, true, false, true, false, false, false, false, false] rfl rfl (any_of HT_.out (by kernel_rfl)) (fun _ _ _ h => h) (Or.inl ⟨by rfl, ?_⟩) ?_ ?_
                rotate_left
                · intro w'
                  go_simp
                  with_reducible rfl
                rotate_left
                · simp only [Act.put, List.setIfInBounds_toArray, List.set_cons_zero, List.set_cons_succ, i64_w, i32_w]
                  rfl
                refine pure_ (i := 5) (N := some 22) (v := ?_) (a' := ?_) #[true, true, true, false, true, true, false, false, false, false] rfl rfl (any_of HT_.out (by kernel_rfl)) (fun _ _ _ h => h) (Or.inl ⟨by rfl, ?_⟩) ?_ ?_
                rotate_left
                · intro w'
                  go_simp
                  with_reducible rfl
                rotate_left
                · simp only [Act.put, List.setIfInBounds_toArray, List.set_cons_zero, List.set_cons_succ, i64_w, i32_w]
                  rfl
                refine pure_ (i := 6) (N := some 23) (v := ?_) (a' := ?_) #[true, true, true, false, true, true, true, false, false, false] rfl rfl (any_of HT_.out (by kernel_rfl)) (fun _ _ _ h => h) (Or.inl ⟨by rfl, ?_⟩) ?_ ?_
                rotate_left
                · intro w'
                  go_simp
                  with_reducible rfl
                rotate_left
                · simp only [Act.put, List.setIfInBounds_toArray, List.set_cons_zero, List.set_cons_succ, i64_w, i32_w]
                  rfl
                refine take_ (i := 3) (N := some 20) (v := ?_) (a' := ?_) #[true, true, true, true, true, true, true, false, false, false] rfl rfl (take_ofW HT_.out HW_.out (by kernel_rfl)) (fun _ _ _ h => h) (Or.inl ⟨by rfl, ?_⟩) hHeld ?_ ?_
                rotate_left
                · rintro w' ⟨s0, s1, s2, s3⟩
                  go_simp
                  with_reducible rfl
                rotate_left
                · simp only [Act.put, List.setIfInBounds_toArray, List.set_cons_zero, List.set_cons_succ, i64_w, i32_w]
                  rfl
                refine take_ (i := 7) (N := some 24) (v := ?_) (a' := ?_) #[true, true, true, true, true, true, true, true, false, false] rfl rfl (take_ofW HT_.out HW_.out (by kernel_rfl)) (fun _ _ _ h => h) (Or.inl ⟨by rfl, ?_⟩) hHeld ?_ ?_
                rotate_left
                · rintro w' ⟨s0, s1, s2, s3⟩
                  go_simp
                  with_reducible rfl
                rotate_left
                · simp only [Act.put, List.setIfInBounds_toArray, List.set_cons_zero, List.set_cons_succ, i64_w, i32_w]
                  rfl
                refine one_ (i := 8) (N := some 25) #[true, true, true, true, true, true, true, true, true, false] rfl rfl (one_of HT_.out (by kernel_rfl)) (by decide) (fun K hK => ?_)
                refine goes_ Try.func20 (by kernel_rfl) rfl #[.agg #[.slice A136_0 ((rd_T37 l0 x5_1).f0).length c136_0, .slice A136_1 ((rd_T37 l0 x5_1).f1).length c136_1], .agg #[.slice A137_0 ((rd_T37 l1 x5_1).f0).length c137_0, .slice A137_1 ((rd_T37 l1 x5_1).f1).length c137_1]] (by rfl) rfl rfl (by (try simp only [List.map_toArray, List.map_cons, List.map_nil]); first | done | rfl | (simp only [List.length_drop, List.length_take]; rfl)) ?_
                with_reducible refine (laws_eqLevel.calls k1 _ _ ((rd_T37 l0 x5_1).f0) _ _ ((rd_T37 l0 x5_1).f1) _ _ ((rd_T37 l1 x5_1).f0) _ _ ((rd_T37 l1 x5_1).f1) true _ ?side1 ?side2 ?side3 ?side4 ?side5 ?side6 ?side7 ?side8 A7.out).mono ?_
                (case side1 => repeat (first | exact (Kd.C_below HR136_0.out HB.out) | exact HR136_0.out | (with_reducible refine Kd.C_alloc ?_ _) | (with_reducible refine Kd.C_drewN ?_ _) | (with_reducible refine Kd.C_drew ?_)))
                (case side2 => exact HC136_0.out)
                (case side3 => repeat (first | exact (Kd.C_below HR136_1.out HB.out) | exact HR136_1.out | (with_reducible refine Kd.C_alloc ?_ _) | (with_reducible refine Kd.C_drewN ?_ _) | (with_reducible refine Kd.C_drew ?_)))
                (case side4 => exact HC136_1.out)
                (case side5 => repeat (first | exact (Kd.C_below HR137_0.out HB.out) | exact HR137_0.out | (with_reducible refine Kd.C_alloc ?_ _) | (with_reducible refine Kd.C_drewN ?_ _) | (with_reducible refine Kd.C_drew ?_)))
                (case side6 => exact HC137_0.out)
                (case side7 => repeat (first | exact (Kd.C_below HR137_1.out HB.out) | exact HR137_1.out | (with_reducible refine Kd.C_alloc ?_ _) | (with_reducible refine Kd.C_drewN ?_ _) | (with_reducible refine Kd.C_drew ?_)))
                (case side8 => exact HC137_1.out)
                rintro e w10 ⟨rfl, hb⟩
                refine ⟨_, rfl, ?_⟩
                have n0_ := Aside0.mk (below_step (by repeat (first | (with_reducible first | exact HB.out | apply below_alloc | apply pw_below_drewN | apply below_drew1) | exact HB.out)) hb)
                clear HB
                have HB := n0_
                clear n0_
                (try clear hb)
                (try clear hb2)
                (try clear hk)
                (try clear hi)
                refine hK.out _ _ ⟨((HB.out.cell (World.block_lt_of_cell? w _ hw136_0)).trans hw136_0), ((HB.out.cell (World.block_lt_of_cell? w _ hw136_1)).trans hw136_1), ((HB.out.cell (World.block_lt_of_cell? w _ hw137_0)).trans hw137_0), ((HB.out.cell (World.block_lt_of_cell? w _ hw137_1)).trans hw137_1)⟩ (fun hHeld => ?_)
                clear hK K
                refine norm_ (a' := ?_) ?_ ?_
                rotate_left
                · show Act.put _ (some 25) _ = _
                  simp only [Act.put, List.setIfInBounds_toArray, List.set_cons_zero, List.set_cons_succ, i64_w, i32_w]
                  rfl
                refine pure_ (i := 9) (N := some 26) (v := ?_) (a' := ?_) #[true, true, true, true, true, true, true, true, true, true] rfl rfl (any_of HT_.out (by kernel_rfl)) (fun _ _ _ h => h) (Or.inl ⟨by rfl, ?_⟩) ?_ ?_
                rotate_left
                · intro w'
                  go_simp
                  with_reducible rfl
                rotate_left
                · simp only [Act.put, List.setIfInBounds_toArray, List.set_cons_zero, List.set_cons_succ, i64_w, i32_w]
                  rfl
                refine done_ (done_of HT_.out (by kernel_rfl)) ?_
                try go_wp2
                go_roundg k1
                case measure => have := HK1.out; omega
                case rel => exact ⟨(wrap64 (x5_1 + 1)), (by first | rfl | (simp; done) | (simp [*]; done)), H', ⟨by have := HK1.out; omega⟩, ⟨by repeat (first | (with_reducible first | exact HB.out | apply below_alloc | apply pw_below_drewN | apply below_drew1) | exact HB.out)⟩⟩
              · replace c8 := Bool.eq_false_iff.mpr c8
                subst c8
                have H1 : (some false) = some r := by rw [if_neg (show ¬ (false = true) by decide)] at H; exact H
                clear H
                have H := H1
                clear H1
                obtain rfl := Option.some.inj H
                try go_wp2
                have n0_ := Aside0.mk (below_drew1 HB.out)
                clear HB
                have HB := n0_
                clear n0_
                have p136 : 0 ≤ (x5_1 : Int) := of_decide_eq_true (by first | (with_reducible assumption) | assumption)
                have q136 : x5_1 < (l0.length : Int) := of_decide_eq_true (by first | (with_reducible assumption) | assumption)
                obtain ⟨ad136, A136_0, c136_0, A136_1, c136_1, e136, hx136_0, hx136_1, hl136_0, hi136_0, hl136_1, hi136_1⟩ := at_T37 HR0.out x5_1 p136 q136
                have hw136_1 := hx136_1
                have hw136_0 := hx136_0
                cases e136
                (try replace hx136_0 := (HB.out.cell (World.block_lt_of_cell? w _ hx136_0)).trans hx136_0)
                (try replace hx136_1 := (HB.out.cell (World.block_lt_of_cell? w _ hx136_1)).trans hx136_1)
                have HR136_0 := Aside0.mk hi136_0
                have HC136_0 := Aside0.mk hl136_0
                clear hi136_0 hl136_0
                have HR136_1 := Aside0.mk hi136_1
                have HC136_1 := Aside0.mk hl136_1
                clear hi136_1 hl136_1
                replace p136 := eq_true p136
                replace q136 := eq_true q136
                have p137 : 0 ≤ (x5_1 : Int) := of_decide_eq_true (by first | (with_reducible assumption) | assumption)
                have q137 : x5_1 < (l1.length : Int) := of_decide_eq_true (by first | (with_reducible assumption) | assumption)
                obtain ⟨ad137, A137_0, c137_0, A137_1, c137_1, e137, hx137_0, hx137_1, hl137_0, hi137_0, hl137_1, hi137_1⟩ := at_T37 HR1.out x5_1 p137 q137
                have hw137_1 := hx137_1
                have hw137_0 := hx137_0
                cases e137
                (try replace hx137_0 := (HB.out.cell (World.block_lt_of_cell? w _ hx137_0)).trans hx137_0)
                (try replace hx137_1 := (HB.out.cell (World.block_lt_of_cell? w _ hx137_1)).trans hx137_1)
                have HR137_0 := Aside0.mk hi137_0
                have HC137_0 := Aside0.mk hl137_0
                clear hi137_0 hl137_0
                have HR137_1 := Aside0.mk hi137_1
                have HC137_1 := Aside0.mk hl137_1
                clear hi137_1 hl137_1
                replace p137 := eq_true p137
                replace q137 := eq_true q137
                refine start_ (n := 10) (S := fun w' => w'.cell? (ad136.add ((x5_1).toNat * 2)) = some (.slice A136_0 ((rd_T37 l0 x5_1).f0).length c136_0) ∧ w'.cell? ⟨(ad136.add ((x5_1).toNat * 2)).block, (ad136.add ((x5_1).toNat * 2)).off + 1, none⟩ = some (.slice A136_1 ((rd_T37 l0 x5_1).f1).length c136_1) ∧ w'.cell? (ad137.add ((x5_1).toNat * 2)) = some (.slice A137_0 ((rd_T37 l1 x5_1).f0).length c137_0) ∧ w'.cell? ⟨(ad137.add ((x5_1).toNat * 2)).block, (ad137.add ((x5_1).toNat * 2)).off + 1, none⟩ = some (.slice A137_1 ((rd_T37 l1 x5_1).f1).length c137_1)) (ds := []) #[false, false, false, false, false, false, false, false, false, false] (by kernel_rfl) rfl rfl ⟨((HB.out.cell (World.block_lt_of_cell? w _ hw136_0)).trans hw136_0), ((HB.out.cell (World.block_lt_of_cell? w _ hw136_1)).trans hw136_1), ((HB.out.cell (World.block_lt_of_cell? w _ hw137_0)).trans hw137_0), ((HB.out.cell (World.block_lt_of_cell? w _ hw137_1)).trans hw137_1)⟩ (fun hHeld => ?_); refine with_tabW laws_eqLevelS.tab6 laws_eqLevelS.bits6 (fun HT_ HW_ => ?_)
                generalize wr.drew = w11 at HB HR136_0 HR136_1 HR137_0 HR137_1 hx136_0 hx136_1 hx137_0 hx137_1 hHeld ⊢
                refine pure_ (i := 0) (N := some 17) (v := ?_) (a' := ?_) #[true, false, false, false, false, false, false, false, false, false] rfl rfl (any_of HT_.out (by kernel_rfl)) (fun _ _ _ h => h) (Or.inl ⟨by rfl, ?_⟩) ?_ ?_
                rotate_left
                · intro w'
                  go_simp
                  with_reducible rfl
                rotate_left
                · simp only [Act.put, List.setIfInBounds_toArray, List.set_cons_zero, List.set_cons_succ, i64_w, i32_w]
                  rfl
                refine pure_ (i := 1) (N := some 18) (v := ?_) (a' := ?_) #[true, true, false, false, false, false, false, false, false, false] rfl rfl (any_of HT_.out (by kernel_rfl)) (fun _ _ _ h => h) (Or.inl ⟨by rfl, ?_⟩) ?_ ?_
                rotate_left
                · intro w'
                  go_simp
                  with_reducible rfl
                rotate_left
                · simp only [Act.put, List.setIfInBounds_toArray, List.set_cons_zero, List.set_cons_succ, i64_w, i32_w]
                  rfl
                refine pure_ (i := 2) (N := some 19) (v := ?_) (a' := ?_) #[true, true, true, false, false, false, false, false, false, false] rfl rfl (any_of HT_.out (by kernel_rfl)) (fun _ _ _ h => h) (Or.inl ⟨by rfl, ?_⟩) ?_ ?_
                rotate_left
                · intro w'
                  go_simp
                  with_reducible rfl
                rotate_left
                · simp only [Act.put, List.setIfInBounds_toArray, List.set_cons_zero, List.set_cons_succ, i64_w, i32_w]
                  rfl
                refine pure_ (i := 4) (N := some 21) (v := ?_) (a' := ?_) #[true, true, true, false, true, false, false, false, false, false] rfl rfl (any_of HT_.out (by kernel_rfl)) (fun _ _ _ h => h) (Or.inl ⟨by rfl, ?_⟩) ?_ ?_
                rotate_left
                · intro w'
                  go_simp
                  with_reducible rfl
                rotate_left
                · simp only [Act.put, List.setIfInBounds_toArray, List.set_cons_zero, List.set_cons_succ, i64_w, i32_w]
                  rfl
                refine pure_ (i := 5) (N := some 22) (v := ?_) (a' := ?_) #[true, true, true, false, true, true, false, false, false, false] rfl rfl (any_of HT_.out (by kernel_rfl)) (fun _ _ _ h => h) (Or.inl ⟨by rfl, ?_⟩) ?_ ?_
                rotate_left
                · intro w'
                  go_simp
                  with_reducible rfl
                rotate_left
                · simp only [Act.put, List.setIfInBounds_toArray, List.set_cons_zero, List.set_cons_succ, i64_w, i32_w]
                  rfl
                refine pure_ (i := 6) (N := some 23) (v := ?_) (a' := ?_) #[true, true, true, false, true, true, true, false, false, false] rfl rfl (any_of HT_.out (by kernel_rfl)) (fun _ _ _ h => h) (Or.inl ⟨by rfl, ?_⟩) ?_ ?_
                rotate_left
                · intro w'
                  go_simp
                  with_reducible rfl
                rotate_left
                · simp only [Act.put, List.setIfInBounds_toArray, List.set_cons_zero, List.set_cons_succ, i64_w, i32_w]
                  rfl
                refine take_ (i := 3) (N := some 20) (v := ?_) (a' := ?_) #[true, true, true, true, true, true, true, false, false, false] rfl rfl (take_ofW HT_.out HW_.out (by kernel_rfl)) (fun _ _ _ h => h) (Or.inl ⟨by rfl, ?_⟩) hHeld ?_ ?_
                rotate_left
                · rintro w' ⟨s0, s1, s2, s3⟩
                  go_simp
                  with_reducible rfl
                rotate_left
                · simp only [Act.put, List.setIfInBounds_toArray, List.set_cons_zero, List.set_cons_succ, i64_w, i32_w]
                  rfl
                refine take_ (i := 7) (N := some 24) (v := ?_) (a' := ?_) #[true, true, true, true, true, true, true, true, false, false] rfl rfl (take_ofW HT_.out HW_.out (by kernel_rfl)) (fun _ _ _ h => h) (Or.inl ⟨by rfl, ?_⟩) hHeld ?_ ?_
                rotate_left
                · rintro w' ⟨s0, s1, s2, s3⟩
                  go_simp
                  with_reducible rfl
                rotate_left
                · simp only [Act.put, List.setIfInBounds_toArray, List.set_cons_zero, List.set_cons_succ, i64_w, i32_w]
                  rfl
                refine one_ (i := 8) (N := some 25) #[true, true, true, true, true, true, true, true, true, false] rfl rfl (one_of HT_.out (by kernel_rfl)) (by decide) (fun K hK => ?_)
                refine goes_ Try.func20 (by kernel_rfl) rfl #[.agg #[.slice A136_0 ((rd_T37 l0 x5_1).f0).length c136_0, .slice A136_1 ((rd_T37 l0 x5_1).f1).length c136_1], .agg #[.slice A137_0 ((rd_T37 l1 x5_1).f0).length c137_0, .slice A137_1 ((rd_T37 l1 x5_1).f1).length c137_1]] (by rfl) rfl rfl (by (try simp only [List.map_toArray, List.map_cons, List.map_nil]); first | done | rfl | (simp only [List.length_drop, List.length_take]; rfl)) ?_
                with_reducible refine (laws_eqLevel.calls k1 _ _ ((rd_T37 l0 x5_1).f0) _ _ ((rd_T37 l0 x5_1).f1) _ _ ((rd_T37 l1 x5_1).f0) _ _ ((rd_T37 l1 x5_1).f1) false _ ?side1 ?side2 ?side3 ?side4 ?side5 ?side6 ?side7 ?side8 A7.out).mono ?_
                (case side1 => repeat (first | exact (Kd.C_below HR136_0.out HB.out) | exact HR136_0.out | (with_reducible refine Kd.C_alloc ?_ _) | (with_reducible refine Kd.C_drewN ?_ _) | (with_reducible refine Kd.C_drew ?_)))
                (case side2 => exact HC136_0.out)
                (case side3 => repeat (first | exact (Kd.C_below HR136_1.out HB.out) | exact HR136_1.out | (with_reducible refine Kd.C_alloc ?_ _) | (with_reducible refine Kd.C_drewN ?_ _) | (with_reducible refine Kd.C_drew ?_)))
                (case side4 => exact HC136_1.out)
                (case side5 => repeat (first | exact (Kd.C_below HR137_0.out HB.out) | exact HR137_0.out | (with_reducible refine Kd.C_alloc ?_ _) | (with_reducible refine Kd.C_drewN ?_ _) | (with_reducible refine Kd.C_drew ?_)))
                (case side6 => exact HC137_0.out)
                (case side7 => repeat (first | exact (Kd.C_below HR137_1.out HB.out) | exact HR137_1.out | (with_reducible refine Kd.C_alloc ?_ _) | (with_reducible refine Kd.C_drewN ?_ _) | (with_reducible refine Kd.C_drew ?_)))
                (case side8 => exact HC137_1.out)
                rintro e w12 ⟨rfl, hb⟩
                refine ⟨_, rfl, ?_⟩
                have n0_ := Aside0.mk (below_step (by repeat (first | (with_reducible first | exact HB.out | apply below_alloc | apply pw_below_drewN | apply below_drew1) | exact HB.out)) hb)
                clear HB
                have HB := n0_
                clear n0_
                (try clear hb)
                (try clear hb2)
                (try clear hk)
                (try clear hi)
                refine hK.out _ _ ⟨((HB.out.cell (World.block_lt_of_cell? w _ hw136_0)).trans hw136_0), ((HB.out.cell (World.block_lt_of_cell? w _ hw136_1)).trans hw136_1), ((HB.out.cell (World.block_lt_of_cell? w _ hw137_0)).trans hw137_0), ((HB.out.cell (World.block_lt_of_cell? w _ hw137_1)).trans hw137_1)⟩ (fun hHeld => ?_)
                clear hK K
                refine norm_ (a' := ?_) ?_ ?_
                rotate_left
                · show Act.put _ (some 25) _ = _
                  simp only [Act.put, List.setIfInBounds_toArray, List.set_cons_zero, List.set_cons_succ, i64_w, i32_w]
                  rfl
                refine pure_ (i := 9) (N := some 26) (v := ?_) (a' := ?_) #[true, true, true, true, true, true, true, true, true, true] rfl rfl (any_of HT_.out (by kernel_rfl)) (fun _ _ _ h => h) (Or.inl ⟨by rfl, ?_⟩) ?_ ?_
                rotate_left
                · intro w'
                  go_simp
                  with_reducible rfl
                rotate_left
                · simp only [Act.put, List.setIfInBounds_toArray, List.set_cons_zero, List.set_cons_succ, i64_w, i32_w]
                  rfl
                refine done_ (done_of HT_.out (by kernel_rfl)) ?_
                try go_wp2
                go_ret
                exact ⟨by first | rfl | (simp [errW_none, errW_some] <;> rfl) | (simp [*, errW_none, errW_some] <;> rfl), by repeat (first | (with_reducible first | exact HB.out | apply below_alloc | apply pw_below_drewN | apply below_drew1) | exact HB.out)⟩
            · rw [if_neg c6] at H
              exact absurd H (by simp)
          · rw [if_neg c5] at H
            exact absurd H (by simp)
        · rw [if_neg c4] at H
          have c4b0 : decide (x5_1 < (l0.length : Int)) = false := decide_eq_false c4
          clear c4
          obtain rfl := Option.some.inj H
          go_wp2
          go_ret
          exact ⟨by first | rfl | (simp [errW_none, errW_some] <;> rfl) | (simp [*, errW_none, errW_some] <;> rfl), by repeat (first | (with_reducible first | exact HB.out | apply below_alloc | apply pw_below_drewN | apply below_drew1) | exact HB.out)⟩
  · rw [if_neg c3] at H
    have c3b0 : ((l0.length : Int) == (l1.length : Int)) = false := beq_eq_false_iff_ne.mpr c3
    have c3b1 : ((l0.length : Int) != (l1.length : Int)) = true := bne_iff_ne.mpr c3
    have c3b2 : (l0.length == l1.length) = false := by first | simpa using c3 | (simp at c3 ⊢; omega)
    obtain rfl := Option.some.inj H
    go_enter Try.func13, Try.ntmps13
    go_wp2
    go_ret
    exact ⟨by first | rfl | (simp [errW_none, errW_some] <;> rfl) | (simp [*, errW_none, errW_some] <;> rfl), by repeat (first | (with_reducible first | exact HB.out | apply below_alloc | apply pw_below_drewN | apply below_drew1) | exact HB.out)⟩

end Go.Proofs.Ytgginlfbdhkepaa.PFnExactFingNew
