-- Printed for this claim by wip/pp.py over the kit's printer; Lean checks it.
import Derived.Test.YtlbffjkckpdclaaPFnExactMeetOfx0
import Derived.Test.YtlbffjkckpdclaaPFnExactMeetOfx3
import Derived.Test.YtlbffjkckpdclaaPFnExactMeetOfx4
namespace Go.Proofs.Ytlbffjkckpdclaa.PFnExactMeetOf
open Go.RowKit Go.Proofs.YtlbffjkckpdclaaW.PrintWords Go.Proofs.YtlbffjkckpdclaaW.PrintLast Go.Proofs.YtlbffjkckpdclaaW.PrintMore
attribute [local go_sem] max2_int min2_int max_two min_two max_three min_three max_four min_four   -- for this text's walks alone
set_option linter.unusedVariables false
set_option linter.unusedSimpArgs false

/-! ### impl_MeetOf: function 31 (by hand) -/
def impl_MeetOf.f (a0_0 a0_1 : Int) (l0_2 : List Int) (a1_0 a1_1 : Int) (l1_2 : List Int) : Option (Int × Int × List Int × Bool) := if GoodB a0_0 a0_1 l0_2 ∧ GoodB a1_0 a1_1 l1_2 ∧ a0_0 = a1_0 ∧ a0_1 = a1_1 then some (a0_0, a0_1, (List.range l0_2.length).map (fun i => Go.bits .and .i64 (l0_2.getD i 0) (l1_2.getD i 0)), true) else some (0, 0, [], false)
-- (walk)
set_option maxHeartbeats 1000000 in
theorem un_one {g g2 i : Nat} {R C R' C' : Int} {cp cp1 : Nat} {A A1 : Option Addr} {l p : List Int} {w : World} (hb : w.heap[g]? = some (.cells #[.int .i64 R, .int .i64 C, .slice A l.length cp] 26 (0, 0))) (hp : w.heap[g2]? = some (.cells #[.int .i64 R', .int .i64 C', .slice A1 p.length cp1] 26 (0, 0))) (hA : Kd.C (Kd.int .i64) w A l.length l) (hA1 : Kd.C (Kd.int .i64) w A1 p.length p) (hi : i < l.length) (hi2 : i < p.length) :
    Calls Try.prog 65 #[.int .i64 i, .pointer (some ⟨g, 0, none⟩), .pointer (some ⟨g2, 0, none⟩)] w fun e w2 => e = .returned (.int .i64 (Go.bits .and .i64 (l.getD i 0) (p.getD i 0))) ∧ Below w.heap.size w w2 := by
  have c2 := blk_cell hb 2
  have d2 := blk_cell hp 2
  obtain ⟨ad, e, hx⟩ := Kd.at_int hA (i : Int) (by omega) (by omega)
  cases e
  obtain ⟨ad2, e2, hx2⟩ := Kd.at_int hA1 (i : Int) (by omega) (by omega)
  cases e2
  rw [Int.toNat_natCast, show rd l (i : Int) = l.getD i 0 from rfl] at hx
  rw [Int.toNat_natCast, show rd p (i : Int) = p.getD i 0 from rfl] at hx2
  have hlt : decide ((i : Int) < (l.length : Int)) = true := decide_eq_true (by omega)
  have hlt2 : decide ((i : Int) < (p.length : Int)) = true := decide_eq_true (by omega)
  have hge : decide ((0 : Int) ≤ (i : Int)) = true := decide_eq_true (by omega)
  generalize l.getD i 0 = x at hx ⊢
  generalize p.getD i 0 = y at hx2 ⊢
  have HBB := Aside0.mk (Below.refl w.heap.size w)
  clear hA hA1 hb hp
  go_enter Try.func65, Try.ntmps65
  go_wp2
  go_region
  all_goals (simp only [Exit.then]; go_wp2)
  all_goals go_ret
  all_goals exact ⟨rfl, by repeat (first | exact HBB.out | apply pw_below_drewN | apply below_drew1)⟩
theorem fit_eq (a0_0 a0_1 : Int) (l0_2 : List Int) (a1_0 a1_1 : Int) (l1_2 : List Int) : impl_fit.f a0_0 a0_1 l0_2 a1_0 a1_1 l1_2 = some (decide (a0_0 = a1_0 ∧ a0_1 = a1_1), decide (GoodB a0_0 a0_1 l0_2 ∧ GoodB a1_0 a1_1 l1_2)) := by
  have hI : ∀ a b l, impl_IsBoard.f a b l = some (decide (GoodB a b l)) := fun _ _ _ => rfl
  unfold impl_fit.f
  simp only [hI, Option.bind_some, decide_eq_true_eq]
  have hbe : (a0_1 == a1_1) = decide (a0_1 = a1_1) := by rw [Bool.eq_iff_iff]; simp
  by_cases h1 : a0_0 = a1_0
  · subst h1
    by_cases h2 : GoodB a0_0 a0_1 l0_2
    · rw [if_pos rfl, if_pos h2, hbe]; simp [h2]
    · rw [if_pos rfl, if_neg h2, hbe]; simp [h2]
  · by_cases h2 : GoodB a0_0 a0_1 l0_2
    · rw [if_neg h1, if_pos h2]; simp [h1, h2]
    · rw [if_neg h1, if_neg h2]; simp [h1, h2]
set_option maxHeartbeats 2000000 in
set_option maxRecDepth 4000 in
theorem impl_MeetOf.calls (a0_0 : Int) (a0_1 : Int) (A0_2 : Option Addr) (c0_2 : Nat) (l0_2 : List Int) (a1_0 : Int) (a1_1 : Int) (A1_2 : Option Addr) (c1_2 : Nat) (l1_2 : List Int) (r1 : Int) (r2 : Int) (r3 : List Int) (r4 : Bool) (w : World) (hr0_2 : Kd.C (Kd.int .i64) w A0_2 l0_2.length l0_2) (hc0_2 : l0_2.length ≤ c0_2) (hr1_2 : Kd.C (Kd.int .i64) w A1_2 l1_2.length l1_2) (hc1_2 : l1_2.length ≤ c1_2) (h : impl_MeetOf.f a0_0 a0_1 l0_2 a1_0 a1_1 l1_2 = some (r1, r2, r3, r4)) :
    Calls Try.prog 31 #[.agg #[.int .i64 a0_0, .int .i64 a0_1, .slice A0_2 l0_2.length c0_2], .agg #[.int .i64 a1_0, .int .i64 a1_1, .slice A1_2 l1_2.length c1_2]] w fun e w' => ∃ v2_ : Value, e = .returned (.tuple #[.agg #[.int .i64 r1, .int .i64 r2, v2_], .bool r4]) ∧ Kd.R (Kd.int .i64) 3 w' w.heap.size (fun _ => True) v2_ r3 ∧ Below w.heap.size w w' := by
  unfold impl_MeetOf.f at h
  have hu := Try.underlying26
  have HA := Aside0.mk hr0_2
  have HA1 := Aside0.mk hr1_2
  clear hr0_2 hr1_2
  have HF := Aside0.mk (fit_eq a0_0 a0_1 l0_2 a1_0 a1_1 l1_2)
  by_cases hy : a0_0 = a1_0 ∧ a0_1 = a1_1
  case neg =>
    rw [if_neg (fun x => hy x.2.2)] at h
    simp only [Option.some.injEq, Prod.mk.injEq] at h
    obtain ⟨rfl, rfl, rfl, rfl⟩ := h
    have HI := Aside0.mk (show impl_fit.f a0_0 a0_1 l0_2 a1_0 a1_1 l1_2 = some (false, decide (GoodB a0_0 a0_1 l0_2 ∧ GoodB a1_0 a1_1 l1_2)) by rw [HF.out, decide_eq_false hy])
    clear hy HF
    generalize decide (GoodB a0_0 a0_1 l0_2 ∧ GoodB a1_0 a1_1 l1_2) = o at HI
    go_enter Try.func31, Try.ntmps31
    go_wp2_with (first
      | ((with_reducible refine gate_dst (N := 2) rfl ?_); refine box_event ?hg (N := 2) ?hd (cs := #[.int .i64 a0_0, .int .i64 a0_1, .slice A0_2 l0_2.length c0_2]) (t := 26) ?hr ?_; (case hd => rfl); (case hg => rfl); (case hr => first | (go_simp; done) | (go_simp; rfl)); intro gb hgb w1 bb hb1; have GB := Aside0.mk hgb; have BB := Aside0.mk bb; have HB1 := Aside0.mk hb1; clear hgb bb hb1)
      | ((with_reducible refine gate_dst (N := 3) rfl ?_); refine box_event ?hg (N := 3) ?hd (cs := #[.int .i64 a1_0, .int .i64 a1_1, .slice A1_2 l1_2.length c1_2]) (t := 26) ?hr ?_; (case hd => rfl); (case hg => rfl); (case hr => first | (go_simp; done) | (go_simp; rfl)); intro gp hgp w1b bp hb1b; have GP := Aside0.mk hgp; have BP := Aside0.mk bp; have HB1b := Aside0.mk hb1b; clear hgp bp hb1b)
      | ((with_reducible refine gate_dst (N := 4) rfl ?_); refine box_event ?hg (N := 4) ?hd (cs := #[.int .i64 0, .int .i64 0, .slice none 0 0]) (t := 26) ?hr ?_; (case hd => rfl); (case hg => rfl); (case hr => first | (go_simp; done) | (go_simp; rfl)); intro gr hgr w2 br hb2; have GR := Aside0.mk hgr; have BR := Aside0.mk br; have HB2 := Aside0.mk (below_step HB1b.out hb2); have BB2 := Aside0.mk (blk_below BB.out HB2.out); have BP2 := Aside0.mk (blk_below BP.out hb2); have cb0 := blk_cell BB2.out 0; have cb1 := blk_cell BB2.out 1; have cb2 := blk_cell BB2.out 2; have cp0 := blk_cell BP2.out 0; have cp1 := blk_cell BP2.out 1; have cp2 := blk_cell BP2.out 2; clear hgr br hb2)
      | (go_at_call 63; refine (impl_fit.calls _ _ _ _ l0_2 _ _ _ _ l1_2 _ _ _ (Kd.C_below HA.out (below_step HB1.out HB2.out)) hc0_2 (Kd.C_below HA1.out (below_step HB1.out HB2.out)) hc1_2 HI.out).mono ?_; rintro e w3 ⟨rfl, hb3⟩; have HB3 := Aside0.mk hb3; have BB3 := Aside0.mk (blk_below BB2.out hb3); have BP3 := Aside0.mk (blk_below BP2.out hb3); have BR3 := Aside0.mk (blk_below BR.out hb3); clear cb0 cb1 cb2 cp0 cp1 cp2; have cb0 := blk_cell BB3.out 0; have cb1 := blk_cell BB3.out 1; have cb2 := blk_cell BB3.out 2; have cr0 := blk_cell BR3.out 0; have cr1 := blk_cell BR3.out 1; have cr2 := blk_cell BR3.out 2; have fr0 := blk_frozen BR3.out 0; have fr1 := blk_frozen BR3.out 1; have fr2 := blk_frozen BR3.out 2; clear hb3)
      )
    have T3 := below_step (below_step HB1.out HB2.out) HB3.out
    have hgr : w.heap.size ≤ gr := by have := GR.out; have := HB1.out.size; have := HB1b.out.size; omega
    have HE := mp_end (R := 0) (C := 0) BR3.out T3 (Below.refl _ _) hgr (Kd.R_nil _ _ _ _ _)
    refine bodyPost_ret (results_ct rfl _ _ gr 26 #[.int .i64 0, .int .i64 0, .slice none 0 0] (0, 0) _ rfl HE.1 hu rfl (by kernel_rfl)) rfl ?_
    exact ⟨_, rfl, HE.2.1, HE.2.2⟩
  by_cases ho : GoodB a0_0 a0_1 l0_2 ∧ GoodB a1_0 a1_1 l1_2
  case neg =>
    rw [if_neg (fun x => ho ⟨x.1, x.2.1⟩)] at h
    simp only [Option.some.injEq, Prod.mk.injEq] at h
    obtain ⟨rfl, rfl, rfl, rfl⟩ := h
    have HI := Aside0.mk (show impl_fit.f a0_0 a0_1 l0_2 a1_0 a1_1 l1_2 = some (true, false) by rw [HF.out, decide_eq_true hy, decide_eq_false ho])
    clear hy HF ho
    go_enter Try.func31, Try.ntmps31
    go_wp2_with (first
      | ((with_reducible refine gate_dst (N := 2) rfl ?_); refine box_event ?hg (N := 2) ?hd (cs := #[.int .i64 a0_0, .int .i64 a0_1, .slice A0_2 l0_2.length c0_2]) (t := 26) ?hr ?_; (case hd => rfl); (case hg => rfl); (case hr => first | (go_simp; done) | (go_simp; rfl)); intro gb hgb w1 bb hb1; have GB := Aside0.mk hgb; have BB := Aside0.mk bb; have HB1 := Aside0.mk hb1; clear hgb bb hb1)
      | ((with_reducible refine gate_dst (N := 3) rfl ?_); refine box_event ?hg (N := 3) ?hd (cs := #[.int .i64 a1_0, .int .i64 a1_1, .slice A1_2 l1_2.length c1_2]) (t := 26) ?hr ?_; (case hd => rfl); (case hg => rfl); (case hr => first | (go_simp; done) | (go_simp; rfl)); intro gp hgp w1b bp hb1b; have GP := Aside0.mk hgp; have BP := Aside0.mk bp; have HB1b := Aside0.mk hb1b; clear hgp bp hb1b)
      | ((with_reducible refine gate_dst (N := 4) rfl ?_); refine box_event ?hg (N := 4) ?hd (cs := #[.int .i64 0, .int .i64 0, .slice none 0 0]) (t := 26) ?hr ?_; (case hd => rfl); (case hg => rfl); (case hr => first | (go_simp; done) | (go_simp; rfl)); intro gr hgr w2 br hb2; have GR := Aside0.mk hgr; have BR := Aside0.mk br; have HB2 := Aside0.mk (below_step HB1b.out hb2); have BB2 := Aside0.mk (blk_below BB.out HB2.out); have BP2 := Aside0.mk (blk_below BP.out hb2); have cb0 := blk_cell BB2.out 0; have cb1 := blk_cell BB2.out 1; have cb2 := blk_cell BB2.out 2; have cp0 := blk_cell BP2.out 0; have cp1 := blk_cell BP2.out 1; have cp2 := blk_cell BP2.out 2; clear hgr br hb2)
      | (go_at_call 63; refine (impl_fit.calls _ _ _ _ l0_2 _ _ _ _ l1_2 _ _ _ (Kd.C_below HA.out (below_step HB1.out HB2.out)) hc0_2 (Kd.C_below HA1.out (below_step HB1.out HB2.out)) hc1_2 HI.out).mono ?_; rintro e w3 ⟨rfl, hb3⟩; have HB3 := Aside0.mk hb3; have BB3 := Aside0.mk (blk_below BB2.out hb3); have BP3 := Aside0.mk (blk_below BP2.out hb3); have BR3 := Aside0.mk (blk_below BR.out hb3); clear cb0 cb1 cb2 cp0 cp1 cp2; have cb0 := blk_cell BB3.out 0; have cb1 := blk_cell BB3.out 1; have cb2 := blk_cell BB3.out 2; have cr0 := blk_cell BR3.out 0; have cr1 := blk_cell BR3.out 1; have cr2 := blk_cell BR3.out 2; have fr0 := blk_frozen BR3.out 0; have fr1 := blk_frozen BR3.out 1; have fr2 := blk_frozen BR3.out 2; clear hb3)
      )
    have T3 := below_step (below_step HB1.out HB2.out) HB3.out
    have hgr : w.heap.size ≤ gr := by have := GR.out; have := HB1.out.size; have := HB1b.out.size; omega
    have HE := mp_end (R := 0) (C := 0) BR3.out T3 (Below.refl _ _) hgr (Kd.R_nil _ _ _ _ _)
    refine bodyPost_ret (results_ct rfl _ _ gr 26 #[.int .i64 0, .int .i64 0, .slice none 0 0] (0, 0) _ rfl HE.1 hu rfl (by kernel_rfl)) rfl ?_
    exact ⟨_, rfl, HE.2.1, HE.2.2⟩
  rw [if_pos ⟨ho.1, ho.2, hy.1, hy.2⟩] at h
  simp only [Option.some.injEq, Prod.mk.injEq] at h
  obtain ⟨rfl, rfl, rfl, rfl⟩ := h
  have HI := Aside0.mk (show impl_fit.f a0_0 a0_1 l0_2 a1_0 a1_1 l1_2 = some (true, true) by rw [HF.out, decide_eq_true hy, decide_eq_true ho])
  have HQL := Aside0.mk (show l1_2.length = l0_2.length by have := ho.1.2.2.1; have := ho.2.2.2.1; omega)
  have HG := Aside0.mk ho.1
  clear hy ho HF
  · go_enter Try.func31, Try.ntmps31
    go_wp2_with (first
      | ((with_reducible refine gate_dst (N := 2) rfl ?_); refine box_event ?hg (N := 2) ?hd (cs := #[.int .i64 a0_0, .int .i64 a0_1, .slice A0_2 l0_2.length c0_2]) (t := 26) ?hr ?_; (case hd => rfl); (case hg => rfl); (case hr => first | (go_simp; done) | (go_simp; rfl)); intro gb hgb w1 bb hb1; have GB := Aside0.mk hgb; have BB := Aside0.mk bb; have HB1 := Aside0.mk hb1; clear hgb bb hb1)
      | ((with_reducible refine gate_dst (N := 3) rfl ?_); refine box_event ?hg (N := 3) ?hd (cs := #[.int .i64 a1_0, .int .i64 a1_1, .slice A1_2 l1_2.length c1_2]) (t := 26) ?hr ?_; (case hd => rfl); (case hg => rfl); (case hr => first | (go_simp; done) | (go_simp; rfl)); intro gp hgp w1b bp hb1b; have GP := Aside0.mk hgp; have BP := Aside0.mk bp; have HB1b := Aside0.mk hb1b; clear hgp bp hb1b)
      | ((with_reducible refine gate_dst (N := 4) rfl ?_); refine box_event ?hg (N := 4) ?hd (cs := #[.int .i64 0, .int .i64 0, .slice none 0 0]) (t := 26) ?hr ?_; (case hd => rfl); (case hg => rfl); (case hr => first | (go_simp; done) | (go_simp; rfl)); intro gr hgr w2 br hb2; have GR := Aside0.mk hgr; have BR := Aside0.mk br; have HB2 := Aside0.mk (below_step HB1b.out hb2); have BB2 := Aside0.mk (blk_below BB.out HB2.out); have BP2 := Aside0.mk (blk_below BP.out hb2); have cb0 := blk_cell BB2.out 0; have cb1 := blk_cell BB2.out 1; have cb2 := blk_cell BB2.out 2; have cp0 := blk_cell BP2.out 0; have cp1 := blk_cell BP2.out 1; have cp2 := blk_cell BP2.out 2; clear hgr br hb2)
      | (go_at_call 63; refine (impl_fit.calls _ _ _ _ l0_2 _ _ _ _ l1_2 _ _ _ (Kd.C_below HA.out (below_step HB1.out HB2.out)) hc0_2 (Kd.C_below HA1.out (below_step HB1.out HB2.out)) hc1_2 HI.out).mono ?_; rintro e w3 ⟨rfl, hb3⟩; have HB3 := Aside0.mk hb3; have BB3 := Aside0.mk (blk_below BB2.out hb3); have BP3 := Aside0.mk (blk_below BP2.out hb3); have BR3 := Aside0.mk (blk_below BR.out hb3); clear cb0 cb1 cb2 cp0 cp1 cp2; have cb0 := blk_cell BB3.out 0; have cb1 := blk_cell BB3.out 1; have cb2 := blk_cell BB3.out 2; clear hb3)
      )
    have T3 := below_step (below_step HB1.out HB2.out) HB3.out
    have hgr : w.heap.size ≤ gr := by have := GR.out; have := HB1.out.size; have := HB1b.out.size; omega
    have hg := HG.out
    obtain ⟨g1, g2, g3, g4⟩ := hg
    obtain ⟨C, rfl⟩ := Int.eq_ofNat_of_zero_le (show 0 ≤ a0_1 by omega)
    subst g3
    have T3' := Aside0.mk (T3)
    refine (mp_all (R := l0_2.length) (C := C) (cp := c0_2) (A := A0_2) (l := l0_2) (fid := 65) (caps := #[.pointer (some ⟨gb, 0, none⟩), .pointer (some ⟨gp, 0, none⟩)]) (w := w3) (f := fun i => Go.bits .and .i64 (l0_2.getD i 0) (l1_2.getD i 0)) (by omega) (by omega) (fun _ _ => by kernel_rfl) (fun w1 i hb hi => un_one (blk_below BB3.out hb) (blk_below BP3.out hb) (Kd.C_below HA.out (below_step T3'.out hb)) (Kd.C_below HA1.out (below_step T3'.out hb)) (by omega) (by have := HQL.out; omega))).mono ?_
    rintro e w4 ⟨v4, rfl, ho4, hb4⟩
    obtain ⟨A4, c4, ev⟩ := Kd.R_slice ho4
    rw [List.length_map, List.length_range] at ev
    subst ev
    have HO4 := Aside0.mk ho4
    have HB4 := Aside0.mk hb4
    have r4 := blk_below BR3.out hb4
    have BR4 := Aside0.mk r4
    have cr0 := blk_cell r4 0
    have cr1 := blk_cell r4 1
    have cr2 := blk_cell r4 2
    have fr0 := blk_frozen r4 0
    have fr1 := blk_frozen r4 1
    have fr2 := blk_frozen r4 2
    clear ho4 hb4 r4 cb0 cb1 cb2
    go_wp2
    have HE := mp_end (R := (l0_2.length : Int)) (C := (C : Int)) BR4.out T3'.out HB4.out hgr HO4.out
    refine bodyPost_ret (results_ct rfl _ _ gr 26 #[.int .i64 l0_2.length, .int .i64 C, .slice A4 l0_2.length c4] (0, 0) _ rfl HE.1 hu rfl (by kernel_rfl)) rfl ?_
    exact ⟨_, rfl, HE.2.1, HE.2.2⟩

end Go.Proofs.Ytlbffjkckpdclaa.PFnExactMeetOf
