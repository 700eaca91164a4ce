-- Printed for this claim by wip/pp.py over the kit's printer; Lean checks it.
import Derived.Test.YtcdikbiikmhmhaaPFnExactPlacementsOfx0
import Derived.Test.YtcdikbiikmhmhaaPFnExactPlacementsOfx1
import Derived.Test.YtcdikbiikmhmhaaPFnExactPlacementsOfx5
import Derived.Test.YtcdikbiikmhmhaaPFnExactPlacementsOfx6
import Derived.Test.YtcdikbiikmhmhaaPFnExactPlacementsOfx7
namespace Go.Proofs.Ytcdikbiikmhmhaa.PFnExactPlacementsOf
open Go.RowKit Go.Proofs.YtcdikbiikmhmhaaW.PrintWords Go.Proofs.YtcdikbiikmhmhaaW.PrintLast Go.Proofs.YtcdikbiikmhmhaaW.PrintMore
attribute [local go_sem] max2_int min2_int max_two min_two max_three min_three max_four min_four   -- for this text's walks alone
set_option linter.unusedVariables false
set_option linter.unusedSimpArgs false

/-! ### laws_FnExactPlacementsOf: function 3 (by hand) -/
def laws_FnExactPlacementsOf.f (k : Nat) (a0_0 : Int) (a0_1 : Int) (l0_2 : List Int) (a1 : Int) : Option Bool :=
  (laws_szBoard.f a0_0 a0_1 l0_2 1048576).bind fun s => if s < 0 then some true else (laws_toBoard.f k a0_0 a0_1 l0_2).bind fun a => (spec_PlacementsOf.f k a.1 a.2.1 a.2.2 a1).bind fun w => (impl_PlacementsOf.f k a.1 a.2.1 a.2.2 a1).bind fun g => (laws_eqIntSS.f k g.1 w.1).bind fun e => (laws_eqBoard.f k a.1 a.2.1 a.2.2 a.1 a.2.1 a.2.2).bind fun e2 => (laws_markBoard.f k a.1 a.2.1 a.2.2 1).bind fun b => (laws_markIntSS.f k g.1 1).bind fun m => (laws_heldIntSS.f k m.2 1).bind fun q => if e = true ∧ e2 = true ∧ 0 ≤ b.1 ∧ g.2 = w.2 ∧ 0 ≤ q ∧ q = m.1 then some true else some false
-- (walk)
set_option maxHeartbeats 2000000 in
set_option maxRecDepth 100000 in
theorem laws_FnExactPlacementsOf.calls (k : Nat) (a0_0 : Int) (a0_1 : Int) (A0 : Option Addr) (c0 : Nat) (l0 : List Int) (a1 : Int) (w : World) (hr0 : Kd.C (Kd.int .i64) w A0 l0.length l0) (hc0 : l0.length ≤ c0) (h : laws_FnExactPlacementsOf.f k a0_0 a0_1 l0 a1 = some true) :
    Calls Try.prog 3 #[.agg #[.int .i64 a0_0, .int .i64 a0_1, .slice A0 l0.length c0], .int .i64 a1] w fun e w' => e = .returned (.bool true) ∧ Below w.heap.size w w' := by
  unfold laws_FnExactPlacementsOf.f at h
  obtain ⟨s, A0', h⟩ := Option.bind_eq_some_iff.1 h
  have AS := Aside0.mk A0'
  have HR0 := Aside0.mk hr0
  have HC0 := Aside0.mk hc0
  clear A0' hr0 hc0
  by_cases hs : s < 0
  case pos =>
    have c1 : decide (s < 0) = true := decide_eq_true hs
    clear h hs
    go_enter Try.func3, Try.ntmps3
    go_wp2_with ((with_reducible refine gate_dst (N := 2) rfl ?_); refine box_event ?hg (N := 2) ?hd (cs := #[.int .i64 a0_0, .int .i64 a0_1, .slice A0 l0.length c0]) (t := 24) ?hr ?_; (case hd => rfl); (case hg => rfl); (case hr => first | (go_simp; done) | (go_simp; rfl)); intro gb hgb wb bb hbb; have BB := Aside0.mk bb; have HBB := Aside0.mk hbb; have HR1 := Aside0.mk (Kd.C_below HR0.out hbb); have cx0 := blk_cell bb 0; have cx1 := blk_cell bb 1; have cx2 := blk_cell bb 2; clear hgb bb hbb)
    clear cx0 cx1 cx2
    go_at_call 7
    refine (laws_szBoard.calls a0_0 a0_1 A0 c0 l0 1048576 s _ HR1.out HC0.out AS.out).mono ?_
    rintro e W0 ⟨rfl, hb0⟩
    have B0 := Aside0.mk hb0
    clear hb0
    go_wp2_with fail
    go_ret
    exact ⟨rfl, below_step HBB.out B0.out⟩
  rw [if_neg hs] at h
  obtain ⟨⟨b0, b1, a⟩, A1, h⟩ := Option.bind_eq_some_iff.1 h
  obtain ⟨⟨w1, w2⟩, A2, h⟩ := Option.bind_eq_some_iff.1 h
  obtain ⟨⟨g1, g2⟩, A3, h⟩ := Option.bind_eq_some_iff.1 h
  obtain ⟨e, A4, h⟩ := Option.bind_eq_some_iff.1 h
  obtain ⟨e2, A5, h⟩ := Option.bind_eq_some_iff.1 h
  obtain ⟨⟨y1, y2⟩, A6, h⟩ := Option.bind_eq_some_iff.1 h
  obtain ⟨⟨m1, m2⟩, A7, h⟩ := Option.bind_eq_some_iff.1 h
  obtain ⟨q, A8, h⟩ := Option.bind_eq_some_iff.1 h
  by_cases hc : e = true ∧ e2 = true ∧ 0 ≤ y1 ∧ g2 = w2 ∧ 0 ≤ q ∧ q = m1
  case neg => rw [if_neg hc] at h; exact absurd (Option.some.inj h) (by decide)
  obtain ⟨rfl, rfl, hb1, rfl, hq, rfl⟩ := hc
  clear h
  have cs : decide (s < 0) = false := decide_eq_false hs
  have cb : decide (y1 < 0) = false := decide_eq_false (by omega)
  have cq : decide (q < 0) = false := decide_eq_false (by omega)
  have A1 := Aside0.mk A1
  have A2 := Aside0.mk A2
  have A3 := Aside0.mk A3
  have A4 := Aside0.mk A4
  have A5 := Aside0.mk A5
  have A6 := Aside0.mk A6
  have A7 := Aside0.mk A7
  have A8 := Aside0.mk A8
  clear hb1 hq hs
  go_enter Try.func3, Try.ntmps3
  go_wp2_with ((with_reducible refine gate_dst (N := 2) rfl ?_); refine box_event ?hg (N := 2) ?hd (cs := #[.int .i64 a0_0, .int .i64 a0_1, .slice A0 l0.length c0]) (t := 24) ?hr ?_; (case hd => rfl); (case hg => rfl); (case hr => first | (go_simp; done) | (go_simp; rfl)); intro gb hgb wb bb hbb; have BB := Aside0.mk bb; have HBB := Aside0.mk hbb; have HR1 := Aside0.mk (Kd.C_below HR0.out hbb); have cx0 := blk_cell bb 0; have cx1 := blk_cell bb 1; have cx2 := blk_cell bb 2; clear hgb bb hbb)
  clear cx0 cx1 cx2
  go_at_call 7
  refine (laws_szBoard.calls a0_0 a0_1 A0 c0 l0 1048576 s _ HR1.out HC0.out AS.out).mono ?_
  rintro e W0 ⟨rfl, hb0⟩
  have B0 := Aside0.mk hb0
  clear hb0
  have bx := blk_below BB.out B0.out
  have cx0 := blk_cell bx 0
  have cx1 := blk_cell bx 1
  have cx2 := blk_cell bx 2
  clear bx
  go_wp2_with fail
  clear cx0 cx1 cx2
  go_at_call 9
  refine (laws_toBoard.calls k a0_0 a0_1 A0 c0 l0 b0 b1 a _ (Kd.C_below HR1.out B0.out) HC0.out A1.out).mono ?_
  rintro e W1 ⟨v1, rfl, ho1, hb1⟩
  obtain ⟨Aa, ca, rfl⟩ := Kd.R_slice ho1
  have O1 := Aside0.mk ho1
  have B1 := Aside0.mk (below_step B0.out hb1)
  clear ho1 hb1
  go_wp2_with fail
  go_at_call 8
  refine (spec_PlacementsOf.calls k b0 b1 _ _ a a1 w1 g2 _ (Kd.R_reads' O1.out).2.2 (Kd.R_reads' O1.out).2.1 A2.out).mono ?_
  rintro e W2 ⟨v2, rfl, ho2, hb2⟩
  obtain ⟨Aw, cw, rfl⟩ := Kd.N_slice ho2
  have RW := Aside0.mk (Kd.N_reads' ho2)
  have T2 := Aside0.mk (below_step B1.out hb2)
  clear ho2 hb2 O1 B1
  have bx := blk_below BB.out T2.out
  have cx0 := blk_cell bx 0
  have cx1 := blk_cell bx 1
  have cx2 := blk_cell bx 2
  clear bx
  go_wp2_with fail
  clear cx0 cx1 cx2
  go_at_call 9
  refine (laws_toBoard.calls k a0_0 a0_1 A0 c0 l0 b0 b1 a _ (Kd.C_below HR1.out T2.out) HC0.out A1.out).mono ?_
  rintro e W3a ⟨v3, rfl, ho3, hb3⟩
  obtain ⟨Ax, cx, rfl⟩ := Kd.R_slice ho3
  have O3a := Aside0.mk ho3
  have B3a := Aside0.mk hb3
  clear ho3 hb3
  go_wp2_with fail
  have bx := blk_new W3a (.cells #[.int .i64 b0, .int .i64 b1, .slice Ax a.length cx] 29)
  have hbx := below_alloc (Below.refl W3a.heap.size W3a) (.cells #[.int .i64 b0, .int .i64 b1, .slice Ax a.length cx] 29)
  have B3 := Aside0.mk (below_step B3a.out hbx)
  have O3 := Aside0.mk (Kd.R_below O3a.out hbx)
  have BX := Aside0.mk bx
  clear bx hbx O3a B3a
  generalize W3a.heap.size = gx at BX ⊢
  generalize W3a.alloc _ = W3 at BX B3 O3 ⊢
  go_at_call 10
  refine (impl_PlacementsOf.calls k b0 b1 _ _ a a1 g1 g2 _ (Kd.R_reads' O3.out).2.2 (Kd.R_reads' O3.out).2.1 A3.out).mono ?_
  rintro e W4 ⟨v4, rfl, ho4, hb4⟩
  obtain ⟨Ag, cg, rfl⟩ := Kd.S_slice ho4
  have O4 := Aside0.mk ho4
  have B4 := Aside0.mk hb4
  clear ho4 hb4
  go_wp2_with fail
  go_at_call 11
  refine (laws_eqIntSS.calls k _ _ g1 _ _ w1 true _ (Kd.S_reads' O4.out).2.2 (Kd.S_reads' O4.out).2.1 (Kd.C_below RW.out.2.2 (below_step B3.out B4.out)) RW.out.2.1 A4.out).mono ?_
  rintro e w' ⟨rfl, ⟨n5, rfl⟩⟩
  go_wp2_with fail
  have B4n := Aside0.mk (pw_below_drewN B4.out n5)
  have BBn := Aside0.mk (blk_below BB.out (below_step (below_step T2.out B3.out) B4n.out))
  have BXn := Aside0.mk (blk_below BX.out B4n.out)
  have T4n := Aside0.mk (below_step (below_step T2.out B3.out) B4n.out)
  have O4n := Aside0.mk (Kd.S_drewN O4.out n5)
  clear B4 O4
  generalize W4.drewN n5 = W5 at BBn BXn T4n O4n B4n ⊢
  have cx0 := blk_cell BXn.out 0
  have cx1 := blk_cell BXn.out 1
  have cx2 := blk_cell BXn.out 2
  have cy0 := blk_cell BBn.out 0
  have cy1 := blk_cell BBn.out 1
  have cy2 := blk_cell BBn.out 2
  go_cut [49] (fun v49 wc => v49 = .bool false ∧ Aside0 (Below W5.heap.size W5 wc))
  case first =>
    go_region_with (first
      | (go_at_call 9; (refine (laws_toBoard.calls k a0_0 a0_1 A0 c0 l0 b0 b1 a _ ?sr1 HC0.out A1.out).mono ?_); (case sr1 => exact Kd.C_below HR1.out (by repeat (first | exact T4n.out | apply pw_below_drewN | apply below_drew1))); rintro e W6 ⟨v6, rfl, ho6, hb6⟩; obtain ⟨Az, cz, rfl⟩ := Kd.R_slice ho6; have T6 := Aside0.mk (below_step (by repeat (first | exact Below.refl _ _ | apply pw_below_drewN | apply below_drew1) : Below W5.heap.size W5 _) hb6); have RZ := Aside0.mk (Kd.R_reads' ho6); have cz0 := blk_cell (blk_below BXn.out T6.out) 0; have cz1 := blk_cell (blk_below BXn.out T6.out) 1; have cz2 := blk_cell (blk_below BXn.out T6.out) 2; clear ho6 hb6)
      | (go_at_call 12; (refine (laws_eqBoard.calls k b0 b1 _ _ a b0 b1 _ _ a true _ ?sr2 ?sr3 ?sr4 ?sr5 A5.out).mono ?_); (case sr2 => exact Kd.C_below (Kd.R_reads' O3.out).2.2 (below_step B4n.out (by repeat (first | exact T6.out | apply pw_below_drewN | apply below_drew1)))); (case sr3 => exact (Kd.R_reads' O3.out).2.1); (case sr4 => repeat (first | exact RZ.out.2.2 | (with_reducible refine Kd.C_drewN ?_ _) | (with_reducible refine Kd.C_drew ?_))); (case sr5 => exact RZ.out.2.1); rintro e W7 ⟨rfl, hb7⟩; have T7 := Aside0.mk (below_step (by repeat (first | exact T6.out | apply pw_below_drewN | apply below_drew1) : Below W5.heap.size W5 _) hb7); clear hb7))
    all_goals (simp only [Exit.then]; go_wp2; go_meet; (case rel => exact ⟨rfl, ⟨by repeat (first | exact T7.out | apply pw_below_drewN | apply below_drew1)⟩⟩))
  clear cx0 cx1 cx2 cy0 cy1 cy2
  obtain ⟨rfl, T57⟩ := hcut
  have T7 := Aside0.mk (below_step B4n.out T57.out)
  have O7 := Aside0.mk (Kd.S_below O4n.out T57.out)
  clear O4n T57 B4n BBn BXn T4n
  have bx := blk_below BX.out T7.out
  have cx0 := blk_cell bx 0
  have cx1 := blk_cell bx 1
  have cx2 := blk_cell bx 2
  clear bx
  go_wp2_with fail
  clear cx0 cx1 cx2
  go_at_call 13
  refine (laws_markBoard.calls k b0 b1 (fun k_ => k_ < W3.heap.size) _ a 1 y1 y2 W2 _ (below_step B3.out T7.out) (Kd.R_below (Kd.R_mono (Kd.R_bound O3.out) (fun k_ hk => hk.2.2.1)) T7.out) A6.out).mono ?_
  rintro e W8 ⟨rfl, ho8, hb8, hk8⟩
  have B8 := Aside0.mk hb8
  have O8 := Aside0.mk (Kd.S_kept (Kd.S_mono (Kd.S_bound O7.out) (ok' := fun k_ => W3.heap.size ≤ k_) (fun k_ hk => hk.2.1)) hk8 (fun k_ h1 h2 => Nat.not_le.2 h2 h1))
  clear ho8 hb8 hk8
  go_wp2_with fail
  go_at_call 11
  refine (laws_eqIntSS.calls k _ _ g1 _ _ w1 true _ (Kd.S_reads' O8.out).2.2 (Kd.S_reads' O8.out).2.1 (Kd.C_below RW.out.2.2 B8.out) RW.out.2.1 A4.out).mono ?_
  rintro e w' ⟨rfl, ⟨n9, rfl⟩⟩
  go_wp2_with fail
  go_at_call 14
  refine (laws_markIntSS.calls k (fun k_ => W3.heap.size ≤ k_) _ g1 1 q m2 W2 _ (pw_below_drewN B8.out n9) (Kd.S_lower (Kd.S_drewN O8.out n9) B3.out.size) A7.out).mono ?_
  rintro e W10 ⟨rfl, ho10, hb10, _⟩
  have hl := (Kd.S_reads' ho10).1
  rw [hl]
  rw [hl] at ho10
  have O10 := Aside0.mk ho10
  have B10 := Aside0.mk hb10
  clear ho10 hb10 hl O3 O7 O8 B8 T7 BX
  go_wp2_with fail
  go_at_call 15
  refine (laws_heldIntSS.calls k _ _ m2 1 q _ (Kd.S_reads' O10.out).2.2 (Kd.S_reads' O10.out).2.1 A8.out).mono ?_
  rintro e w' ⟨rfl, ⟨n11, rfl⟩⟩
  have bx := blk_below BB.out (pw_below_drewN (below_step T2.out B10.out) n11)
  have cx0 := blk_cell bx 0
  have cx1 := blk_cell bx 1
  have cx2 := blk_cell bx 2
  clear bx
  go_wp2_with fail
  clear cx0 cx1 cx2
  go_at_call 9
  refine (laws_toBoard.calls k a0_0 a0_1 A0 c0 l0 b0 b1 a _ (Kd.C_below HR1.out (pw_below_drewN (below_step T2.out B10.out) n11)) HC0.out A1.out).mono ?_
  rintro e W12 ⟨v12, rfl, ho12, hb12⟩
  obtain ⟨Ay, cy, rfl⟩ := Kd.R_slice ho12
  have O12 := Aside0.mk ho12
  have T12 := Aside0.mk (below_step (pw_below_drewN B10.out n11) hb12)
  have O13 := Aside0.mk (Kd.S_below (Kd.S_drewN O10.out n11) hb12)
  clear ho12 hb12
  go_wp2_with fail
  go_at_call 10
  refine (impl_PlacementsOf.calls k b0 b1 _ _ a a1 g1 g2 _ (Kd.R_reads' O12.out).2.2 (Kd.R_reads' O12.out).2.1 A3.out).mono ?_
  rintro e W13 ⟨v13, rfl, ho13, hb13⟩
  obtain ⟨Ah, ch, rfl⟩ := Kd.S_slice ho13
  have RH := Aside0.mk (Kd.S_reads' ho13)
  have T13 := Aside0.mk (below_step T12.out hb13)
  have O14 := Aside0.mk (Kd.S_below O13.out hb13)
  clear ho13 hb13
  go_wp2_with fail
  go_at_call 11
  refine (laws_eqIntSS.calls k _ _ g1 _ _ w1 true _ RH.out.2.2 RH.out.2.1 (Kd.C_below RW.out.2.2 T13.out) RW.out.2.1 A4.out).mono ?_
  rintro e w' ⟨rfl, ⟨n14, rfl⟩⟩
  go_wp2_with fail
  go_at_call 15
  refine (laws_heldIntSS.calls k _ _ m2 1 q _ (Kd.S_reads' (Kd.S_drewN O14.out n14)).2.2 (Kd.S_reads' O14.out).2.1 A8.out).mono ?_
  rintro e w' ⟨rfl, ⟨n15, rfl⟩⟩
  go_wp2_with fail
  go_ret
  exact ⟨rfl, pw_below_drewN (below_step (below_step HBB.out T2.out) T13.out) _⟩


/-- The pure statement of laws_FnExactPlacementsOf. -/
def laws_FnExactPlacementsOf.Pure : Prop := ∀ (a0_0 : Int) (a0_1 : Int) (l0_2 : List Int) (a1 : Int), (Lit.int .i64 a0_0).wf = true → (Lit.int .i64 a0_1).wf = true → l0_2.length ≤ maxLen → (∀ x ∈ l0_2, (Lit.int .i64 x).wf = true) → (Lit.int .i64 a1).wf = true → ∃ k, laws_FnExactPlacementsOf.f k a0_0 a0_1 l0_2 a1 = some true

end Go.Proofs.Ytcdikbiikmhmhaa.PFnExactPlacementsOf
