-- Printed for this claim by wip/pp.py over the kit's printer; Lean checks it.
import Derived.Test.YtllhofdgbpnkkaaPFnBoardsJoinedx0
import Derived.Test.YtllhofdgbpnkkaaPFnBoardsJoinedx5
import Derived.Test.YtllhofdgbpnkkaaPFnBoardsJoinedx6
import Derived.Test.YtllhofdgbpnkkaaPFnBoardsJoinedx7
namespace Go.Proofs.Ytllhofdgbpnkkaa.PFnBoardsJoined
open Go.RowKit Go.Proofs.YtllhofdgbpnkkaaW.PrintWords Go.Proofs.YtllhofdgbpnkkaaW.PrintLast Go.Proofs.YtllhofdgbpnkkaaW.PrintMore
attribute [local go_sem] max2_int min2_int max_two min_two max_three min_three max_four min_four   -- for this text's walks alone
set_option linter.unusedVariables false
set_option linter.unusedSimpArgs false

/-! ### impl_MeetOf: function 10 (by hand) -/
def impl_MeetOf.f (a0_0 a0_1 : Int) (l0_2 : List Int) (a1_0 a1_1 : Int) (l1_2 : List Int) : Option (Int × Int × List Int × Bool) := if GoodB a0_0 a0_1 l0_2 ∧ GoodB a1_0 a1_1 l1_2 ∧ a0_0 = a1_0 ∧ a0_1 = a1_1 then some (a0_0, a0_1, (List.range l0_2.length).map (fun i => Go.bits .and .i64 (l0_2.getD i 0) (l1_2.getD i 0)), true) else some (0, 0, [], false)
-- (walk)
set_option maxHeartbeats 1000000 in
theorem un_onem {g g2 i : Nat} {R C R' C' : Int} {cp cp1 : Nat} {A A1 : Option Addr} {l p : List Int} {w : World} (hb : w.heap[g]? = some (.cells #[.int .i64 R, .int .i64 C, .slice A l.length cp] 26 (0, 0))) (hp : w.heap[g2]? = some (.cells #[.int .i64 R', .int .i64 C', .slice A1 p.length cp1] 26 (0, 0))) (hA : Kd.C (Kd.int .i64) w A l.length l) (hA1 : Kd.C (Kd.int .i64) w A1 p.length p) (hi : i < l.length) (hi2 : i < p.length) :
  Calls Try.prog 59 #[.int .i64 i, .pointer (some ⟨g, 0, none⟩), .pointer (some ⟨g2, 0, none⟩)] w fun e w2 => e = .returned (.int .i64 (Go.bits .and .i64 (l.getD i 0) (p.getD i 0))) ∧ Below w.heap.size w w2 := by
 have c2 := blk_cell hb 2
 have d2 := blk_cell hp 2
 obtain ⟨ad, e, hx⟩ := Kd.at_int hA (i : Int) (by omega) (by omega)
 cases e
 obtain ⟨ad2, e2, hx2⟩ := Kd.at_int hA1 (i : Int) (by omega) (by omega)
 cases e2
 rw [Int.toNat_natCast, show rd l (i : Int) = l.getD i 0 from rfl] at hx
 rw [Int.toNat_natCast, show rd p (i : Int) = p.getD i 0 from rfl] at hx2
 have hlt : decide ((i : Int) < (l.length : Int)) = true := decide_eq_true (by omega)
 have hlt2 : decide ((i : Int) < (p.length : Int)) = true := decide_eq_true (by omega)
 have hge : decide ((0 : Int) ≤ (i : Int)) = true := decide_eq_true (by omega)
 generalize l.getD i 0 = x at hx ⊢
 generalize p.getD i 0 = y at hx2 ⊢
 have HBB := am (Below.refl w.heap.size w)
 clear hA hA1 hb hp
 go_enter Try.func59, Try.ntmps59
 go_wp2
 go_region
 all_goals (simp only [Exit.then]; go_wp2)
 all_goals go_ret
 all_goals exact ⟨rfl, by repeat (first | exact HBB.out | apply pw_below_drewN | apply below_drew1)⟩
theorem fit_eqm (a0_0 a0_1 : Int) (l0_2 : List Int) (a1_0 a1_1 : Int) (l1_2 : List Int) : impl_fit.f a0_0 a0_1 l0_2 a1_0 a1_1 l1_2 = some (decide (a0_0 = a1_0 ∧ a0_1 = a1_1), decide (GoodB a0_0 a0_1 l0_2 ∧ GoodB a1_0 a1_1 l1_2)) := by
 have hI : ∀ a b l, impl_IsBoard.f a b l = some (decide (GoodB a b l)) := fun _ _ _ => rfl
 unfold impl_fit.f
 simp only [hI, Option.bind_some, decide_eq_true_eq]
 have hbe : (a0_1 == a1_1) = decide (a0_1 = a1_1) := by rw [Bool.eq_iff_iff]; simp
 by_cases h1 : a0_0 = a1_0
 ·
  subst h1
  by_cases h2 : GoodB a0_0 a0_1 l0_2
  ·
   rw [if_pos rfl, if_pos h2, hbe]; simp [h2]
  ·
   rw [if_pos rfl, if_neg h2, hbe]; simp [h2]
 ·
  by_cases h2 : GoodB a0_0 a0_1 l0_2
  ·
   rw [if_neg h1, if_pos h2]; simp [h1, h2]
  ·
   rw [if_neg h1, if_neg h2]; simp [h1, h2]
set_option maxHeartbeats 2000000 in
set_option maxRecDepth 4000 in
theorem impl_MeetOf.calls (a0_0 : Int) (a0_1 : Int) (A0_2 : Option Addr) (c0_2 : Nat) (l0_2 : List Int) (a1_0 : Int) (a1_1 : Int) (A1_2 : Option Addr) (c1_2 : Nat) (l1_2 : List Int) (r1 : Int) (r2 : Int) (r3 : List Int) (r4 : Bool) (w : World) (hr0_2 : Kd.C (Kd.int .i64) w A0_2 l0_2.length l0_2) (hc0_2 : l0_2.length ≤ c0_2) (hr1_2 : Kd.C (Kd.int .i64) w A1_2 l1_2.length l1_2) (hc1_2 : l1_2.length ≤ c1_2) (h : impl_MeetOf.f a0_0 a0_1 l0_2 a1_0 a1_1 l1_2 = some (r1, r2, r3, r4)) :
  Calls Try.prog 10 #[.agg #[.int .i64 a0_0, .int .i64 a0_1, .slice A0_2 l0_2.length c0_2], .agg #[.int .i64 a1_0, .int .i64 a1_1, .slice A1_2 l1_2.length c1_2]] w fun e w' => ∃ v2_ : Value, e = .returned (.tuple #[.agg #[.int .i64 r1, .int .i64 r2, v2_], .bool r4]) ∧ Kd.R (Kd.int .i64) 3 w' w.heap.size (fun _ => True) v2_ r3 ∧ Below w.heap.size w w' := by
 unfold impl_MeetOf.f at h
 have hu := Try.underlying26
 have HA := Aside0.mk hr0_2
 have HA1 := Aside0.mk hr1_2
 clear hr0_2 hr1_2
 have HF := am (fit_eqm a0_0 a0_1 l0_2 a1_0 a1_1 l1_2)
 by_cases hy : a0_0 = a1_0 ∧ a0_1 = a1_1
 case neg =>
  rw [if_neg (fun x => hy x.2.2)] at h
  simp only [Option.some.injEq, Prod.mk.injEq] at h
  obtain ⟨rfl, rfl, rfl, rfl⟩ := h
  have HI := am (show impl_fit.f a0_0 a0_1 l0_2 a1_0 a1_1 l1_2 = some (false, decide (GoodB a0_0 a0_1 l0_2 ∧ GoodB a1_0 a1_1 l1_2)) by rw [HF.out, decide_eq_false hy])
  clear hy HF
  generalize decide (GoodB a0_0 a0_1 l0_2 ∧ GoodB a1_0 a1_1 l1_2) = o at HI
  go_enter Try.func10, Try.ntmps10
  go_wp2_with (first
   | ((with_reducible refine gate_dst (N := 2) rfl ?_); refine qv 2 #[.int .i64 a0_0, .int .i64 a0_1, .slice A0_2 l0_2.length c0_2] 26 ?_; intro gb hgb w1 bb hb1; have GB := Aside0.mk hgb; have BB := Aside0.mk bb; have HB1 := Aside0.mk hb1; clear hgb bb hb1)
   | ((with_reducible refine gate_dst (N := 3) rfl ?_); refine qv 3 #[.int .i64 a1_0, .int .i64 a1_1, .slice A1_2 l1_2.length c1_2] 26 ?_; intro gp hgp w1b bp hb1b; have GP := Aside0.mk hgp; have BP := Aside0.mk bp; have HB1b := Aside0.mk hb1b; clear hgp bp hb1b)
   | ((with_reducible refine gate_dst (N := 4) rfl ?_); refine qv 4 #[.int .i64 0, .int .i64 0, .slice none 0 0] 26 ?_; intro gr hgr w2 br hb2; have GR := Aside0.mk hgr; have BR := Aside0.mk br; have HB2 := am (below_step HB1b.out hb2); have BB2 := am (blk_below BB.out HB2.out); have BP2 := am (blk_below BP.out hb2); have cb0 := blk_cell BB2.out 0; have cb1 := blk_cell BB2.out 1; have cb2 := blk_cell BB2.out 2; have cp0 := blk_cell BP2.out 0; have cp1 := blk_cell BP2.out 1; have cp2 := blk_cell BP2.out 2; clear hgr br hb2)
   | (go_at_call 54; refine (impl_fit.calls _ _ _ _ l0_2 _ _ _ _ l1_2 _ _ _ (Kd.C_below HA.out (below_step HB1.out HB2.out)) hc0_2 (Kd.C_below HA1.out (below_step HB1.out HB2.out)) hc1_2 HI.out).mono ?_; rintro e w3 ⟨rfl, hb3⟩; have HB3 := Aside0.mk hb3; have BB3 := am (blk_below BB2.out hb3); have BP3 := am (blk_below BP2.out hb3); have BR3 := am (blk_below BR.out hb3); clear cb0 cb1 cb2 cp0 cp1 cp2; have cb0 := blk_cell BB3.out 0; have cb1 := blk_cell BB3.out 1; have cb2 := blk_cell BB3.out 2; have cr0 := blk_cell BR3.out 0; have cr1 := blk_cell BR3.out 1; have cr2 := blk_cell BR3.out 2; have fr0 := blk_frozen BR3.out 0; have fr1 := blk_frozen BR3.out 1; have fr2 := blk_frozen BR3.out 2; clear hb3)
   )
  have T3 := below_step (below_step HB1.out HB2.out) HB3.out
  have hgr : w.heap.size ≤ gr := by have := GR.out; have := HB1.out.size; have := HB1b.out.size; omega
  have HE := mp_end (R := 0) (C := 0) BR3.out T3 (Below.refl _ _) hgr (Kd.R_nil _ _ _ _ _)
  refine bodyPost_ret (results_ct rfl _ _ gr 26 #[.int .i64 0, .int .i64 0, .slice none 0 0] (0, 0) _ rfl HE.1 hu rfl (by kernel_rfl)) rfl ?_
  exact ⟨_, rfl, HE.2.1, HE.2.2⟩
 by_cases ho : GoodB a0_0 a0_1 l0_2 ∧ GoodB a1_0 a1_1 l1_2
 case neg =>
  rw [if_neg (fun x => ho ⟨x.1, x.2.1⟩)] at h
  simp only [Option.some.injEq, Prod.mk.injEq] at h
  obtain ⟨rfl, rfl, rfl, rfl⟩ := h
  have HI := am (show impl_fit.f a0_0 a0_1 l0_2 a1_0 a1_1 l1_2 = some (true, false) by rw [HF.out, decide_eq_true hy, decide_eq_false ho])
  clear hy HF ho
  go_enter Try.func10, Try.ntmps10
  go_wp2_with (first
   | ((with_reducible refine gate_dst (N := 2) rfl ?_); refine qv 2 #[.int .i64 a0_0, .int .i64 a0_1, .slice A0_2 l0_2.length c0_2] 26 ?_; intro gb hgb w1 bb hb1; have GB := Aside0.mk hgb; have BB := Aside0.mk bb; have HB1 := Aside0.mk hb1; clear hgb bb hb1)
   | ((with_reducible refine gate_dst (N := 3) rfl ?_); refine qv 3 #[.int .i64 a1_0, .int .i64 a1_1, .slice A1_2 l1_2.length c1_2] 26 ?_; intro gp hgp w1b bp hb1b; have GP := Aside0.mk hgp; have BP := Aside0.mk bp; have HB1b := Aside0.mk hb1b; clear hgp bp hb1b)
   | ((with_reducible refine gate_dst (N := 4) rfl ?_); refine qv 4 #[.int .i64 0, .int .i64 0, .slice none 0 0] 26 ?_; intro gr hgr w2 br hb2; have GR := Aside0.mk hgr; have BR := Aside0.mk br; have HB2 := am (below_step HB1b.out hb2); have BB2 := am (blk_below BB.out HB2.out); have BP2 := am (blk_below BP.out hb2); have cb0 := blk_cell BB2.out 0; have cb1 := blk_cell BB2.out 1; have cb2 := blk_cell BB2.out 2; have cp0 := blk_cell BP2.out 0; have cp1 := blk_cell BP2.out 1; have cp2 := blk_cell BP2.out 2; clear hgr br hb2)
   | (go_at_call 54; refine (impl_fit.calls _ _ _ _ l0_2 _ _ _ _ l1_2 _ _ _ (Kd.C_below HA.out (below_step HB1.out HB2.out)) hc0_2 (Kd.C_below HA1.out (below_step HB1.out HB2.out)) hc1_2 HI.out).mono ?_; rintro e w3 ⟨rfl, hb3⟩; have HB3 := Aside0.mk hb3; have BB3 := am (blk_below BB2.out hb3); have BP3 := am (blk_below BP2.out hb3); have BR3 := am (blk_below BR.out hb3); clear cb0 cb1 cb2 cp0 cp1 cp2; have cb0 := blk_cell BB3.out 0; have cb1 := blk_cell BB3.out 1; have cb2 := blk_cell BB3.out 2; have cr0 := blk_cell BR3.out 0; have cr1 := blk_cell BR3.out 1; have cr2 := blk_cell BR3.out 2; have fr0 := blk_frozen BR3.out 0; have fr1 := blk_frozen BR3.out 1; have fr2 := blk_frozen BR3.out 2; clear hb3)
   )
  have T3 := below_step (below_step HB1.out HB2.out) HB3.out
  have hgr : w.heap.size ≤ gr := by have := GR.out; have := HB1.out.size; have := HB1b.out.size; omega
  have HE := mp_end (R := 0) (C := 0) BR3.out T3 (Below.refl _ _) hgr (Kd.R_nil _ _ _ _ _)
  refine bodyPost_ret (results_ct rfl _ _ gr 26 #[.int .i64 0, .int .i64 0, .slice none 0 0] (0, 0) _ rfl HE.1 hu rfl (by kernel_rfl)) rfl ?_
  exact ⟨_, rfl, HE.2.1, HE.2.2⟩
 rw [if_pos ⟨ho.1, ho.2, hy.1, hy.2⟩] at h
 simp only [Option.some.injEq, Prod.mk.injEq] at h
 obtain ⟨rfl, rfl, rfl, rfl⟩ := h
 have HI := am (show impl_fit.f a0_0 a0_1 l0_2 a1_0 a1_1 l1_2 = some (true, true) by rw [HF.out, decide_eq_true hy, decide_eq_true ho])
 have HQL := am (show l1_2.length = l0_2.length by have := ho.1.2.2.1; have := ho.2.2.2.1; omega)
 have HG := Aside0.mk ho.1
 clear hy ho HF
 ·
  go_enter Try.func10, Try.ntmps10
  go_wp2_with (first
   | ((with_reducible refine gate_dst (N := 2) rfl ?_); refine qv 2 #[.int .i64 a0_0, .int .i64 a0_1, .slice A0_2 l0_2.length c0_2] 26 ?_; intro gb hgb w1 bb hb1; have GB := Aside0.mk hgb; have BB := Aside0.mk bb; have HB1 := Aside0.mk hb1; clear hgb bb hb1)
   | ((with_reducible refine gate_dst (N := 3) rfl ?_); refine qv 3 #[.int .i64 a1_0, .int .i64 a1_1, .slice A1_2 l1_2.length c1_2] 26 ?_; intro gp hgp w1b bp hb1b; have GP := Aside0.mk hgp; have BP := Aside0.mk bp; have HB1b := Aside0.mk hb1b; clear hgp bp hb1b)
   | ((with_reducible refine gate_dst (N := 4) rfl ?_); refine qv 4 #[.int .i64 0, .int .i64 0, .slice none 0 0] 26 ?_; intro gr hgr w2 br hb2; have GR := Aside0.mk hgr; have BR := Aside0.mk br; have HB2 := am (below_step HB1b.out hb2); have BB2 := am (blk_below BB.out HB2.out); have BP2 := am (blk_below BP.out hb2); have cb0 := blk_cell BB2.out 0; have cb1 := blk_cell BB2.out 1; have cb2 := blk_cell BB2.out 2; have cp0 := blk_cell BP2.out 0; have cp1 := blk_cell BP2.out 1; have cp2 := blk_cell BP2.out 2; clear hgr br hb2)
   | (go_at_call 54; refine (impl_fit.calls _ _ _ _ l0_2 _ _ _ _ l1_2 _ _ _ (Kd.C_below HA.out (below_step HB1.out HB2.out)) hc0_2 (Kd.C_below HA1.out (below_step HB1.out HB2.out)) hc1_2 HI.out).mono ?_; rintro e w3 ⟨rfl, hb3⟩; have HB3 := Aside0.mk hb3; have BB3 := am (blk_below BB2.out hb3); have BP3 := am (blk_below BP2.out hb3); have BR3 := am (blk_below BR.out hb3); clear cb0 cb1 cb2 cp0 cp1 cp2; have cb0 := blk_cell BB3.out 0; have cb1 := blk_cell BB3.out 1; have cb2 := blk_cell BB3.out 2; clear hb3)
   )
  have T3 := below_step (below_step HB1.out HB2.out) HB3.out
  have hgr : w.heap.size ≤ gr := by have := GR.out; have := HB1.out.size; have := HB1b.out.size; omega
  have hg := HG.out
  obtain ⟨g1, g2, g3, g4⟩ := hg
  obtain ⟨C, rfl⟩ := Int.eq_ofNat_of_zero_le (show 0 ≤ a0_1 by omega)
  subst g3
  have T3' := am (T3)
  refine (mp_all (R := l0_2.length) (C := C) (cp := c0_2) (A := A0_2) (l := l0_2) (fid := 59) (caps := #[.pointer (some ⟨gb, 0, none⟩), .pointer (some ⟨gp, 0, none⟩)]) (w := w3) (f := fun i => Go.bits .and .i64 (l0_2.getD i 0) (l1_2.getD i 0)) (by omega) (by omega) (fun _ _ => by kernel_rfl) (fun w1 i hb hi => un_onem (blk_below BB3.out hb) (blk_below BP3.out hb) (Kd.C_below HA.out (below_step T3'.out hb)) (Kd.C_below HA1.out (below_step T3'.out hb)) (by omega) (by have := HQL.out; omega))).mono ?_
  rintro e w4 ⟨v4, rfl, ho4, hb4⟩
  obtain ⟨A4, c4, ev⟩ := Kd.R_slice ho4
  rw [List.length_map, List.length_range] at ev
  subst ev
  have Oq1 := Aside0.mk ho4
  have HB4 := Aside0.mk hb4
  have r4 := blk_below BR3.out hb4
  have BR4 := Aside0.mk r4
  have cr0 := blk_cell r4 0
  have cr1 := blk_cell r4 1
  have cr2 := blk_cell r4 2
  have fr0 := blk_frozen r4 0
  have fr1 := blk_frozen r4 1
  have fr2 := blk_frozen r4 2
  clear ho4 hb4 r4 cb0 cb1 cb2
  go_wp2
  have HE := mp_end (R := (l0_2.length : Int)) (C := (C : Int)) BR4.out T3'.out HB4.out hgr Oq1.out
  refine bodyPost_ret (results_ct rfl _ _ gr 26 #[.int .i64 l0_2.length, .int .i64 C, .slice A4 l0_2.length c4] (0, 0) _ rfl HE.1 hu rfl (by kernel_rfl)) rfl ?_
  exact ⟨_, rfl, HE.2.1, HE.2.2⟩

/-! ### spec_MeetOf: function 11 -/
def spec_MeetOf.l0 : Nat → Int → Int → Int → Int → List Int → Int → Int → List Int → Option (Int × Int × List Int × Bool)
 | 0, _, _, _, _, _, _, _, _ => none
 | k + 1, x17, x18, x284000, x284001, x284002, x292000, x292001, x292002 => if x18 < x17 then (if 0 ≤ x18 then (if x18 < (x292002.length : Int) then (if x18 < (x284002.length : Int) then (spec_MeetOf.l0 k x17 (wrap64 (x18 + 1)) x284000 x284001 x284002 x292000 x292001 (x292002.set (x18 : Int).toNat (Go.bits .and .i64 (rd x292002 x18) (rd x284002 x18)))) else (none)) else (none)) else (none)) else (some (x292000, x292001, x292002, true))
def spec_MeetOf.f (k : Nat) (a0_0 : Int) (a0_1 : Int) (l0_2 : List Int) (a1_0 : Int) (a1_1 : Int) (l1_2 : List Int) : Option (Int × Int × List Int × Bool) := (spec_boFit.f k a0_0 a0_1 l0_2 a1_0 a1_1 l1_2).bind fun t285 => (if t285 = true then ((spec_boOwn.f a0_0 a0_1 l0_2).bind fun bt286 => (spec_MeetOf.l0 k (bt286.2.2.length : Int) 0 a1_0 a1_1 l1_2 bt286.1 bt286.2.1 bt286.2.2)) else (some (0, 0, ([] : List Int), false)))
def spec_MeetOf.T7 : Bool × List (List Nat × List Nat) := (true, [([], []), ([0], [0]), ([], []), ([1, 2], [1, 2]), ([3], [3]), ([], []), ([5], [5]), ([], []), ([6, 7], [6, 7]), ([8], [8]), ([4, 9], [4, 9]), ([1, 2, 0, 1, 2, 3, 4, 5, 6, 7, 8, 9, 10], [1, 2]), ([11, 10, 0, 1, 2, 3, 4, 5, 6, 7, 8, 9, 10], [10, 11])])
def spec_MeetOf.B7 : List Nat := [0, 1, 0, 7, 15, 0, 32, 0, 224, 480, 1023, 2047, 4095]
theorem spec_MeetOf.tab7 : rtab .any (opsOf Try.f11 7) = spec_MeetOf.T7 := by kernel_rfl
theorem spec_MeetOf.bits7 : waitsOk spec_MeetOf.T7.2 spec_MeetOf.B7 = true := by kernel_rfl
set_option maxHeartbeats 8000000 in
set_option maxRecDepth 100000 in
theorem spec_MeetOf.calls (k : Nat) (a0_0 : Int) (a0_1 : Int) (A0_2 : Option Addr) (c0_2 : Nat) (l0_2 : List Int) (a1_0 : Int) (a1_1 : Int) (A1_2 : Option Addr) (c1_2 : Nat) (l1_2 : List Int) (r1 : Int) (r2 : Int) (r3 : List Int) (r4 : Bool) (w : World) (hr0_2 : Kd.C (Kd.int .i64) w A0_2 l0_2.length l0_2) (hc0_2 : l0_2.length ≤ c0_2) (hr1_2 : Kd.C (Kd.int .i64) w A1_2 l1_2.length l1_2) (hc1_2 : l1_2.length ≤ c1_2) (h : spec_MeetOf.f k a0_0 a0_1 l0_2 a1_0 a1_1 l1_2 = some (r1, r2, r3, r4)) :
  Calls Try.prog 11 #[.agg #[.int .i64 a0_0, .int .i64 a0_1, .slice A0_2 l0_2.length c0_2], .agg #[.int .i64 a1_0, .int .i64 a1_1, .slice A1_2 l1_2.length c1_2]] w fun e w' => ∃ v2_ : Value, e = .returned (.tuple #[.agg #[.int .i64 r1, .int .i64 r2, v2_], .bool r4]) ∧ Kd.R (Kd.int .i64) 3 w' w.heap.size (fun _ => True) v2_ r3 ∧ Below w.heap.size w w' := by
 have hu26 := Try.underlying26
 have HR0_2 := Aside0.mk hr0_2
 have HC0_2 := Aside0.mk hc0_2
 clear hr0_2 hc0_2
 have HR1_2 := Aside0.mk hr1_2
 have HC1_2 := Aside0.mk hc1_2
 clear hr1_2 hc1_2
 have HB := am (Below.refl w.heap.size w)
 have H : ((spec_boFit.f k a0_0 a0_1 l0_2 a1_0 a1_1 l1_2).bind fun t285 => (if t285 = true then ((spec_boOwn.f a0_0 a0_1 l0_2).bind fun bt286 => (spec_MeetOf.l0 k (bt286.2.2.length : Int) 0 a1_0 a1_1 l1_2 bt286.1 bt286.2.1 bt286.2.2)) else (some (0, 0, ([] : List Int), false)))) = some (r1, r2, r3, r4) := h
 clear h
 replace H := qE H
 obtain ⟨t285, A3, H⟩ := H
 replace H : (if t285 = true then ((spec_boOwn.f a0_0 a0_1 l0_2).bind fun bt286 => (spec_MeetOf.l0 k (bt286.2.2.length : Int) 0 a1_0 a1_1 l1_2 bt286.1 bt286.2.1 bt286.2.2)) else (some (0, 0, ([] : List Int), false))) = some (r1, r2, r3, r4) := H
 by_cases c4 : t285 = true
 ·
  subst c4
  have H1 : ((spec_boOwn.f a0_0 a0_1 l0_2).bind fun bt286 => (spec_MeetOf.l0 k (bt286.2.2.length : Int) 0 a1_0 a1_1 l1_2 bt286.1 bt286.2.1 bt286.2.2)) = some (r1, r2, r3, r4) := by first | (rw [if_pos rfl] at H; exact H) | rfl
  clear H
  have H := H1
  clear H1
  replace H := qE H
  obtain ⟨⟨t286, t287, t288⟩, A5, H⟩ := H
  replace H : (spec_MeetOf.l0 k (t288.length : Int) 0 a1_0 a1_1 l1_2 t286 t287 t288) = some (r1, r2, r3, r4) := H
  have H' := Aside0.mk H
  clear H
  go_enter Try.func11, Try.ntmps11
  go_wp2_with (first | ((with_reducible refine gate_dst (N := 2) rfl ?_); refine qv 2 #[.int .i64 a0_0, .int .i64 a0_1, .slice A0_2 l0_2.length c0_2] 26 ?_; intro gb282 hg w6 hbox hb; have BK282 := am hbox; have GW282 := qw hg; have GE282 := qw hg; replace HB := qs hb; clear hb hbox hg) | ((with_reducible refine gate_dst (N := 3) rfl ?_); refine qv 3 #[.int .i64 a1_0, .int .i64 a1_1, .slice A1_2 l1_2.length c1_2] 26 ?_; intro gb283 hg w7 hbox hb; have BK283 := am hbox; have GW283 := qw hg; have GE283 := qw hg; have Nq0 := qn hg BK282; have Nq3 := qN hg BK282; replace BK282 := sqB BK282 hb; replace HB := qs hb; clear hb hbox hg) | ((with_reducible refine gate_dst (N := 4) rfl ?_); refine qv 4 #[.int .i64 0, .int .i64 0, .slice none 0 0] 26 ?_; intro gb284 hg w8 hbox hb; have BK284 := am hbox; have GW284 := qw hg; have GE284 := qw hg; have Nq1 := qn hg BK282; have Nq6 := qN hg BK282; have Nq4 := qn hg BK283; have Nq7 := qN hg BK283; replace BK282 := sqB BK282 hb; replace BK283 := sqB BK283 hb; replace HB := qs hb; clear hb hbox hg; have bq16 := Nq0.out; have cq16 := Nq3.out; have bq0 := Nq1.out; have cq0 := Nq6.out; obtain ⟨zq0, zq1, zq2, fq0, fq1, fq2⟩ := qd BK282; have bq1 := Nq4.out; have cq1 := Nq7.out; obtain ⟨zq3, zq4, zq5, fq3, fq4, fq5⟩ := qd BK283) | ((with_reducible refine gate_callee (f := 57) rfl ?_); refine qg (some 10) Try.func57 #[.agg #[.int .i64 a0_0, .int .i64 a0_1, .slice A0_2 l0_2.length c0_2], .agg #[.int .i64 a1_0, .int .i64 a1_1, .slice A1_2 l1_2.length c1_2]] ?_; (with_reducible refine (spec_boFit.calls k a0_0 a0_1 _ _ l0_2 a1_0 a1_1 _ _ l1_2 true _ ?side1 HC0_2.out ?side3 HC1_2.out A3.out).mono ?_); (case side1 => exact Q0); (case side3 => exact Q6); rintro e w14 ⟨rfl, hb⟩; refine ⟨_, rfl, ?_⟩; replace BK282 := sqB BK282 hb; replace BK283 := sqB BK283 hb; replace BK284 := sqB BK284 hb; replace HB := qs hb; (try clear hb); obtain ⟨zq9, zq10, zq11, fq9, fq10, fq11⟩ := qd BK282) | ((with_reducible refine gate_callee (f := 58) rfl ?_); refine qg (some 14) Try.func58 #[.agg #[.int .i64 a0_0, .int .i64 a0_1, .slice A0_2 l0_2.length c0_2]] ?_; (with_reducible refine (spec_boOwn.calls a0_0 a0_1 _ _ l0_2 t286 t287 t288 _ ?side1 HC0_2.out A5.out).mono ?_); (case side1 => exact Q0); rintro e w16 ⟨v289, rfl, ho0, hb⟩; refine ⟨_, rfl, ?_⟩; have Oq0 := ql ho0; replace BK282 := sqB BK282 hb; replace BK283 := sqB BK283 hb; replace BK284 := sqB BK284 hb; replace HB := qs hb; (try clear hb ho0)) | ((with_reducible refine gate_dst (N := 6) rfl ?_); refine qv 6 #[.int .i64 0, .int .i64 0, .slice none 0 0] 26 ?_; intro gb291 hg w17 hbox hb; have BK291 := am hbox; have GW291 := qw hg; have GE291 := qw hg; have Nq2 := qn hg BK282; have Nq9 := qN hg BK282; have Nq5 := qn hg BK283; have Nq10 := qN hg BK283; have Nq8 := qn hg BK284; have Nq11 := qN hg BK284; replace Oq0 := sqR Oq0 hb; replace BK282 := sqB BK282 hb; replace BK283 := sqB BK283 hb; replace BK284 := sqB BK284 hb; replace HB := qs hb; clear hb hbox hg; have bq3 := Nq9.out; have cq3 := Nq2.out; have bq4 := Nq10.out; have cq4 := Nq5.out; have bq5 := Nq11.out; have cq5 := Nq8.out; obtain ⟨zq12, zq13, zq14, fq12, fq13, fq14⟩ := qd BK291; obtain ⟨Ao22, co22, eo22⟩ := Kd.R_slice Oq0.out; subst eo22))
  go_loopg [18] k (fun kq v18 w' => ∃ (x18_1 : Int) (x292002_1 : List Int) (u292002 : Value), v18 = .int .i64 x18_1 ∧ Aside0 (spec_MeetOf.l0 kq (t288.length : Int) x18_1 a1_0 a1_1 l1_2 t286 t287 x292002_1 = some (r1, r2, r3, r4)) ∧ Aside0 (kq ≤ k) ∧ Aside0 (Kd.R (Kd.int .i64) 3 w' w.heap.size (fun _ => True) u292002 x292002_1) ∧ Aside0 (w'.heap[gb282]? = some (.cells #[.int .i64 a0_0, .int .i64 a0_1, (.slice A0_2 l0_2.length c0_2)] 26 (0, 0))) ∧ Aside0 (w'.heap[gb283]? = some (.cells #[.int .i64 a1_0, .int .i64 a1_1, (.slice A1_2 l1_2.length c1_2)] 26 (0, 0))) ∧ Aside0 (w'.heap[gb284]? = some (.cells #[.int .i64 0, .int .i64 0, (.slice none 0 0)] 26 (0, 0))) ∧ Aside0 (w'.heap[gb291]? = some (.cells #[.int .i64 t286, .int .i64 t287, u292002] 26 (0, 0))) ∧ Aside0 (Below w.heap.size w w'))
  case atStart => exact ⟨(0), (t288), (.slice Ao22 t288.length co22), Q3, H', ⟨Nat.le_refl _⟩, ⟨by (with_reducible repeat (first | apply Kd.R_alloc | apply Kd.R_drewN | apply Kd.R_drew)); exact Kd.R_mono (Kd.R_far (p := ⟨gb291, 2, none⟩) (Kd.R_far (p := ⟨gb291, 1, none⟩) (Kd.R_far (p := ⟨gb291, 0, none⟩) (Kd.R_types Oq0.out BK291.out (by decide)) (fun _ hk => hk.2) (.int .i64 t286)) (fun _ hk => hk.2) (.int .i64 t287)) (fun _ hk => hk.2) (.slice Ao22 t288.length co22)) (fun _ hk => trivial)⟩, ⟨by (with_reducible repeat (first | refine blk_drewN ?_ _ | refine blk_drew ?_ | refine blk_alloc ?_ _)); refine blk_far ?_ Nq2.out _; (with_reducible repeat (first | refine blk_drewN ?_ _ | refine blk_drew ?_ | refine blk_alloc ?_ _)); refine blk_far ?_ Nq2.out _; (with_reducible repeat (first | refine blk_drewN ?_ _ | refine blk_drew ?_ | refine blk_alloc ?_ _)); refine blk_far ?_ Nq2.out _; (with_reducible repeat (first | refine blk_drewN ?_ _ | refine blk_drew ?_ | refine blk_alloc ?_ _)); exact BK282.out⟩, ⟨by (with_reducible repeat (first | refine blk_drewN ?_ _ | refine blk_drew ?_ | refine blk_alloc ?_ _)); refine blk_far ?_ Nq5.out _; (with_reducible repeat (first | refine blk_drewN ?_ _ | refine blk_drew ?_ | refine blk_alloc ?_ _)); refine blk_far ?_ Nq5.out _; (with_reducible repeat (first | refine blk_drewN ?_ _ | refine blk_drew ?_ | refine blk_alloc ?_ _)); refine blk_far ?_ Nq5.out _; (with_reducible repeat (first | refine blk_drewN ?_ _ | refine blk_drew ?_ | refine blk_alloc ?_ _)); exact BK283.out⟩, ⟨by (with_reducible repeat (first | refine blk_drewN ?_ _ | refine blk_drew ?_ | refine blk_alloc ?_ _)); refine blk_far ?_ Nq8.out _; (with_reducible repeat (first | refine blk_drewN ?_ _ | refine blk_drew ?_ | refine blk_alloc ?_ _)); refine blk_far ?_ Nq8.out _; (with_reducible repeat (first | refine blk_drewN ?_ _ | refine blk_drew ?_ | refine blk_alloc ?_ _)); refine blk_far ?_ Nq8.out _; (with_reducible repeat (first | refine blk_drewN ?_ _ | refine blk_drew ?_ | refine blk_alloc ?_ _)); exact BK284.out⟩, ⟨by (with_reducible repeat (first | refine blk_drewN ?_ _ | refine blk_drew ?_ | refine blk_alloc ?_ _)); refine blk_put (cs := #[.int .i64 t286, .int .i64 t287, .slice none 0 0]) ?_ 2 _ rfl; (with_reducible repeat (first | refine blk_drewN ?_ _ | refine blk_drew ?_ | refine blk_alloc ?_ _)); refine blk_put (cs := #[.int .i64 t286, .int .i64 0, .slice none 0 0]) ?_ 1 _ rfl; (with_reducible repeat (first | refine blk_drewN ?_ _ | refine blk_drew ?_ | refine blk_alloc ?_ _)); refine blk_put (cs := #[.int .i64 0, .int .i64 0, .slice none 0 0]) ?_ 0 _ rfl; (with_reducible repeat (first | refine blk_drewN ?_ _ | refine blk_drew ?_ | refine blk_alloc ?_ _)); exact BK291.out⟩, ⟨qb⟩⟩
  case round =>
   clear H'
   try clear c4; try clear zq0; try clear zq1; try clear zq2; try clear zq3; try clear zq4; try clear zq5; try clear zq9; try clear zq10; try clear zq11; try clear zq12; try clear zq13; try clear zq14; try clear fq0; try clear fq1; try clear fq2; try clear fq3; try clear fq4; try clear fq5; try clear fq9; try clear fq10; try clear fq11; try clear fq12; try clear fq13; try clear fq14
   obtain ⟨x18_1, x292002_1, u292002, rfl, HA, HK1, Oq2, BK282, BK283, BK284, BK291, HB⟩ := hrel
   cases gk with
   | zero => exact absurd HA.out (by simp [spec_MeetOf.l0])
   | succ k1 =>
    have H := HA.out
    clear HA
    simp only [spec_MeetOf.l0] at H
    by_cases c23 : x18_1 < (t288.length : Int)
    ·
     rw [if_pos c23] at H
     have c23b0 : decide (x18_1 < (t288.length : Int)) = true := decide_eq_true c23
     clear c23
     by_cases c24 : 0 ≤ x18_1
     ·
      rw [if_pos c24] at H
      have c24b0 : decide (0 ≤ x18_1) = true := decide_eq_true c24
      clear c24
      by_cases c25 : x18_1 < (x292002_1.length : Int)
      ·
       rw [if_pos c25] at H
       have c25b0 : decide (x18_1 < (x292002_1.length : Int)) = true := decide_eq_true c25
       clear c25
       by_cases c26 : x18_1 < (l1_2.length : Int)
       ·
        rw [if_pos c26] at H
        have c26b0 : decide (x18_1 < (l1_2.length : Int)) = true := decide_eq_true c26
        clear c26
        obtain ⟨y294, hy_⟩ : ∃ y_ : List Int, y_ = ((x292002_1.set (x18_1 : Int).toNat (Go.bits .and .i64 (rd x292002_1 x18_1) (rd l1_2 x18_1)))) := ⟨_, rfl⟩
        replace H : (spec_MeetOf.l0 k1 (t288.length : Int) (wrap64 (x18_1 + 1)) a1_0 a1_1 l1_2 t286 t287 y294) = some (r1, r2, r3, r4) := qH
        have Ny294 := Aside0.mk hy_
        clear hy_
        have H' := Aside0.mk H
        clear H
        try go_wp2
        replace Oq2 := am (Kd.R_drew Oq2.out)
        replace BK282 := am (blk_drew BK282.out)
        replace BK283 := am (blk_drew BK283.out)
        replace BK284 := am (blk_drew BK284.out)
        replace BK291 := am (blk_drew BK291.out)
        replace HB := am (below_drew1 HB.out)
        obtain ⟨Ao29, co29, eo29⟩ := Kd.R_slice Oq2.out
        (first | subst eo29 | (injection eo29 with f1_ f2_ f3_; have f4_ := f1_.symm; have f5_ := f3_.symm; clear f1_ f2_ f3_; subst f4_; subst f5_))
        have p292 : 0 ≤ (x18_1 : Int) := of_decide_eq_true Q2
        have q292 : x18_1 < (x292002_1.length : Int) := of_decide_eq_true Q2
        obtain ⟨ad292, e292, hx292_0⟩ := Kd.at_int (Kd.R_reads' Oq2.out).2.2 x18_1 p292 q292
        cases e292
        replace p292 := eq_true p292
        replace q292 := eq_true q292
        have p293 : 0 ≤ (x18_1 : Int) := of_decide_eq_true Q2
        have q293 : x18_1 < (l1_2.length : Int) := of_decide_eq_true Q2
        obtain ⟨ad293, e293, hx293_0⟩ := Kd.at_int HR1_2.out x18_1 p293 q293
        have hw293_0 := hx293_0
        cases e293
        replace hx293_0 := (HB.out.cell (World.block_lt_of_cell? w _ hx293_0)).trans hx293_0
        replace p293 := eq_true p293
        replace q293 := eq_true q293
        have p27 : 0 ≤ (x18_1 : Int) := of_decide_eq_true Q2
        have q27 : (x18_1 : Int) < ((x292002_1.length : Int) : Int) := of_decide_eq_true Q2
        obtain ⟨go27, co27, eo27, gb27, gl27, cl27, HG27⟩ := Kd.R_form Oq2.out (by omega)
        (first | cases eo27 | (injection eo27 with ea_ en_ ec_; (first | subst ea_ | (injection ea_ with ea_; subst ea_)); subst ec_; clear en_))
        have GB27 := Aside0.mk gb27
        have GG27 := Aside0.mk HG27
        clear gb27 gl27 HG27
        (first | simp only [add_plain] at hx292_0 | skip)
        obtain ⟨hx27_0, hf27_0⟩ := Kd.R_celln 0 Oq2.out (x18_1 : Int) p27 q27
        replace p27 := eq_true p27
        replace q27 := eq_true q27
        have HP30 := Kd.R_putn Oq2.out (x18_1 : Int) (Go.bits .and .i64 (rd x292002_1 x18_1) (rd l1_2 x18_1))
        rw [← Ny294.out] at HP30
        have HQ30 := Aside0.mk HP30
        clear HP30
        refine start_ (n := 13) (S := fun w' => w'.cell? ⟨gb291, 0, none⟩ = some (.int .i64 t286) ∧ w'.cell? ⟨gb291, 1, none⟩ = some (.int .i64 t287) ∧ w'.cell? ⟨gb291, 2, none⟩ = some (.slice (some ⟨go27, 0, none⟩) x292002_1.length co29) ∧ w'.cell? ⟨gb283, 0, none⟩ = some (.int .i64 a1_0) ∧ w'.cell? ⟨gb283, 1, none⟩ = some (.int .i64 a1_1) ∧ w'.cell? ⟨gb283, 2, none⟩ = some (.slice (some ad293) l1_2.length c1_2) ∧ w'.cell? ⟨go27, (x18_1).toNat, none⟩ = some (.int .i64 (rd x292002_1 x18_1)) ∧ w'.cell? (ad293.add (x18_1).toNat) = some (.int .i64 (rd l1_2 x18_1))) (ds := [12]) #[false, false, false, false, false, false, false, false, false, false, false, false, false] (by kernel_rfl) rfl rfl ⟨sqc BK291 0, sqc BK291 1, sqc BK291 2, sqc BK283 0, sqc BK283 1, sqc BK283 2, hx292_0, ((HB.out.cell (World.block_lt_of_cell? w _ hw293_0)).trans hw293_0)⟩ (fun hHeld => ?_); refine with_tabW spec_MeetOf.tab7 spec_MeetOf.bits7 (fun HT_ HW_ => ?_)
        generalize wr.drew = w28 at Oq2 BK282 BK283 BK284 BK291 HB GG27 HQ30 hf27_0 hx27_0 hx292_0 hx293_0 hHeld ⊢
        refine qp 0 (some 21) #[true, false, false, false, false, false, false, false, false, false, false, false, false] ?_
        refine qp 2 (some 23) #[true, false, true, false, false, false, false, false, false, false, false, false, false] ?_
        refine qp 5 (some 26) #[true, false, true, false, false, true, false, false, false, false, false, false, false] ?_
        refine qp 7 (some 28) #[true, false, true, false, false, true, false, true, false, false, false, false, false] ?_
        refine take_ (i := 1) (N := some 22) (v := ?_) (a' := ?_) #[true, true, true, false, false, true, false, true, false, false, false, false, false] rfl rfl (take_ofW HT_.out HW_.out (by kernel_rfl)) (fun _ _ _ h => h) (Or.inl ⟨by rfl, ?_⟩) hHeld ?_ ?_
        rotate_left
        ·
         rintro w' ⟨s0, s1, s2, s3, s4, s5, s6, s7⟩
         go_simp
         with_reducible rfl
        rotate_left
        ·
         simp only [Act.put, List.setIfInBounds_toArray, List.set_cons_zero, List.set_cons_succ, i64_w, i32_w]
         rfl
        refine qp 3 (some 24) #[true, true, true, true, false, true, false, true, false, false, false, false, false] ?_
        refine take_ (i := 4) (N := some 25) (v := ?_) (a' := ?_) #[true, true, true, true, true, true, false, true, false, false, false, false, false] rfl rfl (take_ofW HT_.out HW_.out (by kernel_rfl)) (fun _ _ _ h => h) (Or.inl ⟨by rfl, ?_⟩) hHeld ?_ ?_
        rotate_left
        ·
         rintro w' ⟨s0, s1, s2, s3, s4, s5, s6, s7⟩
         go_simp
         with_reducible rfl
        rotate_left
        ·
         simp only [Act.put, List.setIfInBounds_toArray, List.set_cons_zero, List.set_cons_succ, i64_w, i32_w]
         rfl
        refine take_ (i := 6) (N := some 27) (v := ?_) (a' := ?_) #[true, true, true, true, true, true, true, true, false, false, false, false, false] rfl rfl (take_ofW HT_.out HW_.out (by kernel_rfl)) (fun _ _ _ h => h) (Or.inl ⟨by rfl, ?_⟩) hHeld ?_ ?_
        rotate_left
        ·
         rintro w' ⟨s0, s1, s2, s3, s4, s5, s6, s7⟩
         go_simp
         with_reducible rfl
        rotate_left
        ·
         simp only [Act.put, List.setIfInBounds_toArray, List.set_cons_zero, List.set_cons_succ, i64_w, i32_w]
         rfl
        refine qp 8 (some 29) #[true, true, true, true, true, true, true, true, true, false, false, false, false] ?_
        refine take_ (i := 9) (N := some 30) (v := ?_) (a' := ?_) #[true, true, true, true, true, true, true, true, true, true, false, false, false] rfl rfl (take_ofW HT_.out HW_.out (by kernel_rfl)) (fun _ _ _ h => h) (Or.inl ⟨by rfl, ?_⟩) hHeld ?_ ?_
        rotate_left
        ·
         rintro w' ⟨s0, s1, s2, s3, s4, s5, s6, s7⟩
         go_simp
         with_reducible rfl
        rotate_left
        ·
         simp only [Act.put, List.setIfInBounds_toArray, List.set_cons_zero, List.set_cons_succ, i64_w, i32_w]
         rfl
        refine qp 10 (some 31) #[true, true, true, true, true, true, true, true, true, true, true, false, false] ?_
        refine qp 11 (some 32) #[true, true, true, true, true, true, true, true, true, true, true, true, false] ?_
        refine last_ (i := 12) (N := none) #[true, true, true, true, true, true, true, true, true, true, true, true, true] rfl rfl (one_of HT_.out (by kernel_rfl)) (by decide) fun K hK => ?_
        refine skip_ (w1 := ?_) (by rfl) rfl ?_ ?_
        rotate_left
        ·
         go_simp
         rfl
        refine hK.out _ _ ?_
        clear hK K
        refine done_ (done_of HT_.out (by kernel_rfl)) ?_
        try go_wp2
        go_roundg k1
        case measure => have := HK1.out; omega
        case rel => exact ⟨(wrap64 (x18_1 + 1)), (y294), (.slice (some ⟨go27, 0, none⟩) x292002_1.length co29), Q3, H', ⟨Q55⟩, ⟨by (with_reducible repeat (first | apply Kd.R_alloc | apply Kd.R_drewN | apply Kd.R_drew)); exact HQ30.out⟩, ⟨by (with_reducible repeat (first | refine blk_drewN ?_ _ | refine blk_drew ?_ | refine blk_alloc ?_ _)); refine blk_far ?_ (by have h_ := Kd.R_ne Oq2.out BK282.out (by decide); intro e_; exact h_ (by rw [e_]; rfl)) _; (with_reducible repeat (first | refine blk_drewN ?_ _ | refine blk_drew ?_ | refine blk_alloc ?_ _)); exact BK282.out⟩, ⟨by (with_reducible repeat (first | refine blk_drewN ?_ _ | refine blk_drew ?_ | refine blk_alloc ?_ _)); refine blk_far ?_ (by have h_ := Kd.R_ne Oq2.out BK283.out (by decide); intro e_; exact h_ (by rw [e_]; rfl)) _; (with_reducible repeat (first | refine blk_drewN ?_ _ | refine blk_drew ?_ | refine blk_alloc ?_ _)); exact BK283.out⟩, ⟨by (with_reducible repeat (first | refine blk_drewN ?_ _ | refine blk_drew ?_ | refine blk_alloc ?_ _)); refine blk_far ?_ (by have h_ := Kd.R_ne Oq2.out BK284.out (by decide); intro e_; exact h_ (by rw [e_]; rfl)) _; (with_reducible repeat (first | refine blk_drewN ?_ _ | refine blk_drew ?_ | refine blk_alloc ?_ _)); exact BK284.out⟩, ⟨by (with_reducible repeat (first | refine blk_drewN ?_ _ | refine blk_drew ?_ | refine blk_alloc ?_ _)); refine blk_far ?_ (by have h_ := Kd.R_ne Oq2.out BK291.out (by decide); intro e_; exact h_ (by rw [e_]; rfl)) _; (with_reducible repeat (first | refine blk_drewN ?_ _ | refine blk_drew ?_ | refine blk_alloc ?_ _)); exact BK291.out⟩, ⟨by repeat (first | (with_reducible first | exact HB.out | apply below_alloc | apply pw_below_drewN | apply below_drew1 | refine below_set ?_ GB27.out | refine below_set ?_ GE282.out | refine below_set ?_ GE283.out | refine below_set ?_ GE284.out | refine below_set ?_ GE291.out) | exact HB.out)⟩⟩
       ·
        rw [if_neg c26] at H
        exact absurd H (by simp)
      ·
       rw [if_neg c25] at H
       exact absurd H (by simp)
     ·
      rw [if_neg c24] at H
      exact absurd H (by simp)
    ·
     rw [if_neg c23] at H
     have c23b0 : decide (x18_1 < (t288.length : Int)) = false := decide_eq_false c23
     clear c23
     simp only [Option.some.injEq, Prod.mk.injEq] at H
     obtain ⟨rfl, rfl, rfl, rfl⟩ := H
     have bq7 := Nq9.out
     have cq7 := Nq2.out
     have bq8 := Nq10.out
     have cq8 := Nq5.out
     have bq9 := Nq11.out
     have cq9 := Nq8.out
     obtain ⟨zq18, zq19, zq20, fq18, fq19, fq20⟩ := qd BK291
     have bq10 := Nq6.out
     have cq10 := Nq1.out
     have bq11 := Nq7.out
     have cq11 := Nq4.out
     obtain ⟨zq21, zq22, zq23, fq21, fq22, fq23⟩ := qd BK284
     obtain ⟨Ao38, co38, eo38⟩ := Kd.R_slice Oq2.out
     subst eo38
     go_wp2
     refine bodyPost_ret (results_ct rfl _ _ gb284 26 #[.int .i64 t286, .int .i64 t287, .slice Ao38 x292002_1.length co38] (0, 0) _ rfl (by (with_reducible repeat (first | refine blk_drewN ?_ _ | refine blk_drew ?_ | refine blk_alloc ?_ _)); refine blk_put (cs := #[.int .i64 t286, .int .i64 t287, .slice none 0 0]) ?_ 2 _ rfl; (with_reducible repeat (first | refine blk_drewN ?_ _ | refine blk_drew ?_ | refine blk_alloc ?_ _)); refine blk_put (cs := #[.int .i64 t286, .int .i64 0, .slice none 0 0]) ?_ 1 _ rfl; (with_reducible repeat (first | refine blk_drewN ?_ _ | refine blk_drew ?_ | refine blk_alloc ?_ _)); refine blk_put (cs := #[.int .i64 0, .int .i64 0, .slice none 0 0]) ?_ 0 _ rfl; (with_reducible repeat (first | refine blk_drewN ?_ _ | refine blk_drew ?_ | refine blk_alloc ?_ _)); exact BK284.out) Try.underlying26 rfl (by kernel_rfl)) rfl ?_
     exact ⟨_, Q1, by (with_reducible repeat (first | apply Kd.R_alloc | apply Kd.R_drewN | apply Kd.R_drew)); exact Kd.R_mono (Kd.R_far (p := ⟨gb284, 2, none⟩) (Kd.R_far (p := ⟨gb284, 1, none⟩) (Kd.R_far (p := ⟨gb284, 0, none⟩) (Kd.R_types Oq2.out BK284.out (by decide)) (fun _ hk => hk.2) (.int .i64 t286)) (fun _ hk => hk.2) (.int .i64 t287)) (fun _ hk => hk.2) (.slice Ao38 x292002_1.length co38)) (fun _ hk => trivial), qb⟩
 ·
  replace c4 := Bool.eq_false_iff.mpr c4
  subst c4
  have H1 : (some (0, 0, ([] : List Int), false)) = some (r1, r2, r3, r4) := by first | (rw [if_neg (show ¬ (false = true) by decide)] at H; exact H) | rfl
  clear H
  have H := H1
  clear H1
  simp only [Option.some.injEq, Prod.mk.injEq] at H
  obtain ⟨rfl, rfl, rfl, rfl⟩ := H
  go_enter Try.func11, Try.ntmps11
  go_wp2_with (first | ((with_reducible refine gate_dst (N := 2) rfl ?_); refine qv 2 #[.int .i64 a0_0, .int .i64 a0_1, .slice A0_2 l0_2.length c0_2] 26 ?_; intro gb282 hg w39 hbox hb; have BK282 := am hbox; have GW282 := qw hg; have GE282 := qw hg; replace HB := qs hb; clear hb hbox hg) | ((with_reducible refine gate_dst (N := 3) rfl ?_); refine qv 3 #[.int .i64 a1_0, .int .i64 a1_1, .slice A1_2 l1_2.length c1_2] 26 ?_; intro gb283 hg w40 hbox hb; have BK283 := am hbox; have GW283 := qw hg; have GE283 := qw hg; have Nq0 := qn hg BK282; have Nq3 := qN hg BK282; replace BK282 := sqB BK282 hb; replace HB := qs hb; clear hb hbox hg) | ((with_reducible refine gate_dst (N := 4) rfl ?_); refine qv 4 #[.int .i64 0, .int .i64 0, .slice none 0 0] 26 ?_; intro gb284 hg w41 hbox hb; have BK284 := am hbox; have GW284 := qw hg; have GE284 := qw hg; have Nq1 := qn hg BK282; have Nq6 := qN hg BK282; have Nq4 := qn hg BK283; have Nq7 := qN hg BK283; replace BK282 := sqB BK282 hb; replace BK283 := sqB BK283 hb; replace HB := qs hb; clear hb hbox hg; have bq12 := Nq0.out; have cq12 := Nq3.out; have bq13 := Nq1.out; have cq13 := Nq6.out; obtain ⟨zq24, zq25, zq26, fq24, fq25, fq26⟩ := qd BK282; have bq14 := Nq4.out; have cq14 := Nq7.out; obtain ⟨zq27, zq28, zq29, fq27, fq28, fq29⟩ := qd BK283) | ((with_reducible refine gate_callee (f := 57) rfl ?_); refine qg (some 10) Try.func57 #[.agg #[.int .i64 a0_0, .int .i64 a0_1, .slice A0_2 l0_2.length c0_2], .agg #[.int .i64 a1_0, .int .i64 a1_1, .slice A1_2 l1_2.length c1_2]] ?_; (with_reducible refine (spec_boFit.calls k a0_0 a0_1 _ _ l0_2 a1_0 a1_1 _ _ l1_2 false _ ?side1 HC0_2.out ?side3 HC1_2.out A3.out).mono ?_); (case side1 => exact Q0); (case side3 => exact Q6); rintro e w47 ⟨rfl, hb⟩; refine ⟨_, rfl, ?_⟩; replace BK282 := sqB BK282 hb; replace BK283 := sqB BK283 hb; replace BK284 := sqB BK284 hb; replace HB := qs hb; (try clear hb); obtain ⟨zq30, zq31, zq32, fq30, fq31, fq32⟩ := qd BK284))
  refine bodyPost_ret (results_ct rfl _ _ gb284 26 #[.int .i64 0, .int .i64 0, .slice none 0 0] (0, 0) _ rfl (by (with_reducible repeat (first | refine blk_drewN ?_ _ | refine blk_drew ?_ | refine blk_alloc ?_ _)); refine blk_put (cs := #[.int .i64 0, .int .i64 0, .slice none 0 0]) ?_ 2 _ rfl; (with_reducible repeat (first | refine blk_drewN ?_ _ | refine blk_drew ?_ | refine blk_alloc ?_ _)); refine blk_put (cs := #[.int .i64 0, .int .i64 0, .slice none 0 0]) ?_ 1 _ rfl; (with_reducible repeat (first | refine blk_drewN ?_ _ | refine blk_drew ?_ | refine blk_alloc ?_ _)); refine blk_put (cs := #[.int .i64 0, .int .i64 0, .slice none 0 0]) ?_ 0 _ rfl; (with_reducible repeat (first | refine blk_drewN ?_ _ | refine blk_drew ?_ | refine blk_alloc ?_ _)); exact BK284.out) Try.underlying26 rfl (by kernel_rfl)) rfl ?_
  exact ⟨_, Q1, Q11, qb⟩

/-! ### impl_IsPartOf: function 12 -/
mutual
def impl_IsPartOf.j0 : Nat → Bool → Bool → Int → Int → List Int → Int → Int → List Int → Option (Bool × Bool)
 | 0, _, _, _, _, _, _, _, _ => none
 | k + 1, x7, x21, x296000, x296001, x296002, x297000, x297001, x297002 => if x21 = true then (some (false, x7)) else (impl_IsPartOf.l0 k x296002 (x296002.length : Int) 0 x297000 x297001 x297002)
def impl_IsPartOf.l0 : Nat → List Int → Int → Int → Int → Int → List Int → Option (Bool × Bool)
 | 0, _, _, _, _, _, _ => none
 | k + 1, x24, x25, x26, x297000, x297001, x297002 => if x26 < x25 then (if 0 ≤ x26 then (if x26 < (x24.length : Int) then (if x26 < (x297002.length : Int) then (if (Go.bits .andNot .i64 (rd x24 x26) (rd x297002 x26)) = 0 then (impl_IsPartOf.l0 k x24 x25 (wrap64 (x26 + 1)) x297000 x297001 x297002) else (some (false, true))) else (none)) else (none)) else (none)) else (some (true, true))
end
def impl_IsPartOf.f (k : Nat) (a0_0 : Int) (a0_1 : Int) (l0_2 : List Int) (a1_0 : Int) (a1_1 : Int) (l1_2 : List Int) : Option (Bool × Bool) := (impl_fit.f a0_0 a0_1 l0_2 a1_0 a1_1 l1_2).bind fun bt297 => (if bt297.1 = true then (impl_IsPartOf.j0 k bt297.2 (!bt297.2) a0_0 a0_1 l0_2 a1_0 a1_1 l1_2) else (impl_IsPartOf.j0 k bt297.2 true a0_0 a0_1 l0_2 a1_0 a1_1 l1_2))
set_option maxHeartbeats 8000000 in
set_option maxRecDepth 100000 in
theorem impl_IsPartOf.calls (k : Nat) (a0_0 : Int) (a0_1 : Int) (A0_2 : Option Addr) (c0_2 : Nat) (l0_2 : List Int) (a1_0 : Int) (a1_1 : Int) (A1_2 : Option Addr) (c1_2 : Nat) (l1_2 : List Int) (r1 : Bool) (r2 : Bool) (w : World) (hr0_2 : Kd.C (Kd.int .i64) w A0_2 l0_2.length l0_2) (hc0_2 : l0_2.length ≤ c0_2) (hr1_2 : Kd.C (Kd.int .i64) w A1_2 l1_2.length l1_2) (hc1_2 : l1_2.length ≤ c1_2) (h : impl_IsPartOf.f k a0_0 a0_1 l0_2 a1_0 a1_1 l1_2 = some (r1, r2)) :
  Calls Try.prog 12 #[.agg #[.int .i64 a0_0, .int .i64 a0_1, .slice A0_2 l0_2.length c0_2], .agg #[.int .i64 a1_0, .int .i64 a1_1, .slice A1_2 l1_2.length c1_2]] w fun e w' => e = .returned (.tuple #[.bool r1, .bool r2]) ∧ Below w.heap.size w w' := by
 have hu26 := Try.underlying26
 have HR0_2 := Aside0.mk hr0_2
 have HC0_2 := Aside0.mk hc0_2
 clear hr0_2 hc0_2
 have HR1_2 := Aside0.mk hr1_2
 have HC1_2 := Aside0.mk hc1_2
 clear hr1_2 hc1_2
 have HB := am (Below.refl w.heap.size w)
 have H : ((impl_fit.f a0_0 a0_1 l0_2 a1_0 a1_1 l1_2).bind fun bt297 => (if bt297.1 = true then (impl_IsPartOf.j0 k bt297.2 (!bt297.2) a0_0 a0_1 l0_2 a1_0 a1_1 l1_2) else (impl_IsPartOf.j0 k bt297.2 true a0_0 a0_1 l0_2 a1_0 a1_1 l1_2))) = some (r1, r2) := h
 clear h
 replace H := qE H
 obtain ⟨⟨t297, t298⟩, A3, H⟩ := H
 replace H : (if t297 = true then (impl_IsPartOf.j0 k t298 (!t298) a0_0 a0_1 l0_2 a1_0 a1_1 l1_2) else (impl_IsPartOf.j0 k t298 true a0_0 a0_1 l0_2 a1_0 a1_1 l1_2)) = some (r1, r2) := H
 have HC4 := Aside0.mk H
 clear H
 go_enter Try.func12, Try.ntmps12
 go_upto_region 2 with (first | ((with_reducible refine gate_dst (N := 2) rfl ?_); refine qv 2 #[.int .i64 a0_0, .int .i64 a0_1, .slice A0_2 l0_2.length c0_2] 26 ?_; intro gb295 hg w5 hbox hb; have BK295 := am hbox; have GW295 := qw hg; have GE295 := qw hg; replace HB := qs hb; clear hb hbox hg) | ((with_reducible refine gate_dst (N := 3) rfl ?_); refine qv 3 #[.int .i64 a1_0, .int .i64 a1_1, .slice A1_2 l1_2.length c1_2] 26 ?_; intro gb296 hg w6 hbox hb; have BK296 := am hbox; have GW296 := qw hg; have GE296 := qw hg; have Nq12 := qn hg BK295; have Nq13 := qN hg BK295; replace BK295 := sqB BK295 hb; replace HB := qs hb; clear hb hbox hg; have bq15 := Nq12.out; have cq15 := Nq13.out; obtain ⟨zq33, zq34, zq35, fq33, fq34, fq35⟩ := qd BK295; obtain ⟨zq36, zq37, zq38, fq36, fq37, fq38⟩ := qd BK296) | ((with_reducible refine gate_callee (f := 54) rfl ?_); refine qg (some 13) Try.func54 #[.agg #[.int .i64 a0_0, .int .i64 a0_1, .slice A0_2 l0_2.length c0_2], .agg #[.int .i64 a1_0, .int .i64 a1_1, .slice A1_2 l1_2.length c1_2]] ?_; (with_reducible refine (impl_fit.calls a0_0 a0_1 _ _ l0_2 a1_0 a1_1 _ _ l1_2 t297 t298 _ ?side1 HC0_2.out ?side3 HC1_2.out A3.out).mono ?_); (case side1 => exact Q0); (case side3 => exact Q6); rintro e w10 ⟨rfl, hb⟩; refine ⟨_, rfl, ?_⟩; replace BK295 := sqB BK295 hb; replace BK296 := sqB BK296 hb; replace HB := qs hb; (try clear hb)))
 (try simp only [Act.put, List.setIfInBounds_toArray, List.set_cons_zero, List.set_cons_succ])
 go_cut [21] (fun v21 wc => ∃ (kq : Nat) (x21_3 : Bool), v21 = .bool x21_3 ∧ Aside0 (impl_IsPartOf.j0 kq t298 x21_3 a0_0 a0_1 l0_2 a1_0 a1_1 l1_2 = some (r1, r2)) ∧ Aside0 (kq ≤ k) ∧ Aside0 (wc.heap[gb295]? = some (.cells #[.int .i64 a0_0, .int .i64 a0_1, (.slice A0_2 l0_2.length c0_2)] 26 (0, 0))) ∧ Aside0 (wc.heap[gb296]? = some (.cells #[.int .i64 a1_0, .int .i64 a1_1, (.slice A1_2 l1_2.length c1_2)] 26 (0, 0))) ∧ Aside0 (Below w.heap.size w wc))
 case first =>
  have H := HC4.out
  clear HC4
  by_cases c11 : t297 = true
  ·
   subst c11
   have H1 : (impl_IsPartOf.j0 k t298 (!t298) a0_0 a0_1 l0_2 a1_0 a1_1 l1_2) = some (r1, r2) := by first | (rw [if_pos rfl] at H; exact H) | rfl
   clear H
   have H := H1
   clear H1
   have H' := Aside0.mk H
   clear H
   go_wp2
   go_meet
   case rel => exact ⟨_, (!t298), Q3, H', ⟨Q25⟩, ⟨Q29⟩, ⟨Q30⟩, ⟨qb⟩⟩
  ·
   replace c11 := Bool.eq_false_iff.mpr c11
   subst c11
   have H1 : (impl_IsPartOf.j0 k t298 true a0_0 a0_1 l0_2 a1_0 a1_1 l1_2) = some (r1, r2) := by first | (rw [if_neg (show ¬ (false = true) by decide)] at H; exact H) | rfl
   clear H
   have H := H1
   clear H1
   have H' := Aside0.mk H
   clear H
   go_wp2
   go_meet
   case rel => exact ⟨_, (true), Q3, H', ⟨Q25⟩, ⟨Q29⟩, ⟨Q30⟩, ⟨qb⟩⟩
 case rest =>
  clear HC4
  try clear c11; try clear zq33; try clear zq34; try clear zq35; try clear zq36; try clear zq37; try clear zq38; try clear fq33; try clear fq34; try clear fq35; try clear fq36; try clear fq37; try clear fq38
  obtain ⟨kq, x21_3, rfl, HA, HJ3, BK295, BK296, HB⟩ := hcut
  cases kq with
  | zero => exact absurd HA.out (by simp [impl_IsPartOf.j0])
  | succ kj3 =>
   have H := HA.out
   clear HA
   simp only [impl_IsPartOf.j0] at H
   by_cases c12 : x21_3 = true
   ·
    subst c12
    have H1 : (some (false, t298)) = some (r1, r2) := by first | (rw [if_pos rfl] at H; exact H) | rfl
    clear H
    have H := H1
    clear H1
    simp only [Option.some.injEq, Prod.mk.injEq] at H
    obtain ⟨rfl, rfl⟩ := H
    go_wp2
    go_ret2
    exact ⟨Q1, qb⟩
   ·
    replace c12 := Bool.eq_false_iff.mpr c12
    subst c12
    have H1 : (impl_IsPartOf.l0 kj3 l0_2 (l0_2.length : Int) 0 a1_0 a1_1 l1_2) = some (r1, r2) := by first | (rw [if_neg (show ¬ (false = true) by decide)] at H; exact H) | rfl
    clear H
    have H := H1
    clear H1
    have H' := Aside0.mk H
    clear H
    have bq2 := Nq12.out
    have cq2 := Nq13.out
    obtain ⟨zq6, zq7, zq8, fq6, fq7, fq8⟩ := qd BK295
    go_wp2
    go_loopg [26] kj3 (fun kq v26 w' => ∃ (x26_2 : Int), v26 = .int .i64 x26_2 ∧ Aside0 (impl_IsPartOf.l0 kq l0_2 (l0_2.length : Int) x26_2 a1_0 a1_1 l1_2 = some (r1, r2)) ∧ Aside0 (kq ≤ kj3) ∧ Aside0 (w'.heap[gb295]? = some (.cells #[.int .i64 a0_0, .int .i64 a0_1, (.slice A0_2 l0_2.length c0_2)] 26 (0, 0))) ∧ Aside0 (w'.heap[gb296]? = some (.cells #[.int .i64 a1_0, .int .i64 a1_1, (.slice A1_2 l1_2.length c1_2)] 26 (0, 0))) ∧ Aside0 (Below w.heap.size w w'))
    case atStart => exact ⟨(0), Q3, H', ⟨Nat.le_refl _⟩, ⟨Q29⟩, ⟨Q30⟩, ⟨qb⟩⟩
    case round =>
     clear H'
     try clear c11; try clear c12; try clear zq6; try clear zq7; try clear zq8; try clear zq33; try clear zq34; try clear zq35; try clear zq36; try clear zq37; try clear zq38; try clear fq6; try clear fq7; try clear fq8; try clear fq33; try clear fq34; try clear fq35; try clear fq36; try clear fq37; try clear fq38
     obtain ⟨x26_2, rfl, HA, HK2, BK295, BK296, HB⟩ := hrel
     cases gk with
     | zero => exact absurd HA.out (by simp [impl_IsPartOf.l0])
     | succ k2 =>
      have H := HA.out
      clear HA
      simp only [impl_IsPartOf.l0] at H
      by_cases c15 : x26_2 < (l0_2.length : Int)
      ·
       rw [if_pos c15] at H
       have c15b0 : decide (x26_2 < (l0_2.length : Int)) = true := decide_eq_true c15
       clear c15
       by_cases c16 : 0 ≤ x26_2
       ·
        rw [if_pos c16] at H
        have c16b0 : decide (0 ≤ x26_2) = true := decide_eq_true c16
        clear c16
        by_cases c17 : x26_2 < (l0_2.length : Int)
        ·
         rw [if_pos c17] at H
         have c17b0 : decide (x26_2 < (l0_2.length : Int)) = true := decide_eq_true c17
         clear c17
         by_cases c18 : x26_2 < (l1_2.length : Int)
         ·
          rw [if_pos c18] at H
          have c18b0 : decide (x26_2 < (l1_2.length : Int)) = true := decide_eq_true c18
          clear c18
          by_cases c19 : (Go.bits .andNot .i64 (rd l0_2 x26_2) (rd l1_2 x26_2)) = 0
          ·
           rw [if_pos c19] at H
           have c19b0 : ((Go.bits .andNot .i64 (rd l0_2 x26_2) (rd l1_2 x26_2)) == 0) = true := beq_iff_eq.mpr c19
           have c19b1 : ((Go.bits .andNot .i64 (rd l0_2 x26_2) (rd l1_2 x26_2)) != 0) = false := bne_eq_false_iff_eq.mpr c19
           clear c19
           have H' := Aside0.mk H
           clear H
           have p299 : 0 ≤ (x26_2 : Int) := of_decide_eq_true Q2
           have q299 : x26_2 < (l0_2.length : Int) := of_decide_eq_true Q2
           obtain ⟨ad299, e299, hx299_0⟩ := Kd.at_int HR0_2.out x26_2 p299 q299
           cases e299
           replace hx299_0 := (HB.out.cell (World.block_lt_of_cell? w _ hx299_0)).trans hx299_0
           replace p299 := eq_true p299
           replace q299 := eq_true q299
           have bq5 := Nq13.out
           have cq5 := Nq12.out
           obtain ⟨zq12, zq13, zq14, fq12, fq13, fq14⟩ := qd BK296
           have p300 : 0 ≤ (x26_2 : Int) := of_decide_eq_true Q2
           have q300 : x26_2 < (l1_2.length : Int) := of_decide_eq_true Q2
           obtain ⟨ad300, e300, hx300_0⟩ := Kd.at_int HR1_2.out x26_2 p300 q300
           cases e300
           replace hx300_0 := (HB.out.cell (World.block_lt_of_cell? w _ hx300_0)).trans hx300_0
           replace p300 := eq_true p300
           replace q300 := eq_true q300
           go_wp2
           go_roundg k2
           case measure => have := HJ3.out; have := HK2.out; omega
           case rel => exact ⟨(wrap64 (x26_2 + 1)), Q3, H', ⟨by have := HJ3.out; have := HK2.out; omega⟩, ⟨Q29⟩, ⟨Q30⟩, ⟨qb⟩⟩
          ·
           rw [if_neg c19] at H
           have c19b0 : ((Go.bits .andNot .i64 (rd l0_2 x26_2) (rd l1_2 x26_2)) == 0) = false := beq_eq_false_iff_ne.mpr c19
           have c19b1 : ((Go.bits .andNot .i64 (rd l0_2 x26_2) (rd l1_2 x26_2)) != 0) = true := bne_iff_ne.mpr c19
           simp only [Option.some.injEq, Prod.mk.injEq] at H
           obtain ⟨rfl, rfl⟩ := H
           have p299 : 0 ≤ (x26_2 : Int) := of_decide_eq_true Q2
           have q299 : x26_2 < (l0_2.length : Int) := of_decide_eq_true Q2
           obtain ⟨ad299, e299, hx299_0⟩ := Kd.at_int HR0_2.out x26_2 p299 q299
           cases e299
           replace hx299_0 := (HB.out.cell (World.block_lt_of_cell? w _ hx299_0)).trans hx299_0
           replace p299 := eq_true p299
           replace q299 := eq_true q299
           have bq6 := Nq13.out
           have cq6 := Nq12.out
           obtain ⟨zq15, zq16, zq17, fq15, fq16, fq17⟩ := qd BK296
           have p300 : 0 ≤ (x26_2 : Int) := of_decide_eq_true Q2
           have q300 : x26_2 < (l1_2.length : Int) := of_decide_eq_true Q2
           obtain ⟨ad300, e300, hx300_0⟩ := Kd.at_int HR1_2.out x26_2 p300 q300
           cases e300
           replace hx300_0 := (HB.out.cell (World.block_lt_of_cell? w _ hx300_0)).trans hx300_0
           replace p300 := eq_true p300
           replace q300 := eq_true q300
           go_wp2
           go_ret2
           exact ⟨Q1, qb⟩
         ·
          rw [if_neg c18] at H
          exact absurd H (by simp)
        ·
         rw [if_neg c17] at H
         exact absurd H (by simp)
       ·
        rw [if_neg c16] at H
        exact absurd H (by simp)
      ·
       rw [if_neg c15] at H
       have c15b0 : decide (x26_2 < (l0_2.length : Int)) = false := decide_eq_false c15
       clear c15
       simp only [Option.some.injEq, Prod.mk.injEq] at H
       obtain ⟨rfl, rfl⟩ := H
       go_wp2
       go_ret2
       exact ⟨Q1, qb⟩

end Go.Proofs.Ytllhofdgbpnkkaa.PFnBoardsJoined
