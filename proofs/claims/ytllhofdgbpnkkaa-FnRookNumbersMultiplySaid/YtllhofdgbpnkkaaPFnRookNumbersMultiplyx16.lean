-- Printed for this claim by wip/pp.py over the kit's printer; Lean checks it.
import Derived.Test.YtllhofdgbpnkkaaPFnRookNumbersMultiplyx0
import Derived.Test.YtllhofdgbpnkkaaPFnRookNumbersMultiplyx9
import Derived.Test.YtllhofdgbpnkkaaPFnRookNumbersMultiplyx10
import Derived.Test.YtllhofdgbpnkkaaPFnRookNumbersMultiplyx15
namespace Go.Proofs.Ytllhofdgbpnkkaa.PFnRookNumbersMultiply
open Go.RowKit Go.Proofs.YtllhofdgbpnkkaaW.PrintWords Go.Proofs.YtllhofdgbpnkkaaW.PrintLast Go.Proofs.YtllhofdgbpnkkaaW.PrintMore
attribute [local go_sem] max2_int min2_int max_two min_two max_three min_three max_four min_four   -- for this text's walks alone
set_option linter.unusedVariables false
set_option linter.unusedSimpArgs false

/-! ### spec_AreAlike: function 35 -/
def spec_AreAlike.j0 : Nat → Bool → Int → Int → List Int → Int → Int → List Int → Option (Bool × Bool)
 | 0, _, _, _, _, _, _, _ => none
 | k + 1, x13, x559000, x559001, x559002, x560000, x560001, x560002 => if x13 = true then (some (false, false)) else ((spec_roNumbers.f k x559000 x559001 x559002).bind fun t562 => ((spec_roShort.f k t562).bind fun t565 => ((spec_roNumbers.f k x560000 x560001 x560002).bind fun t568 => ((spec_roShort.f k t568).bind fun t571 => ((spec_l1Same.f k t565 t571).bind fun t574 => (some (t574, true)))))))
def spec_AreAlike.f (k : Nat) (a0_0 : Int) (a0_1 : Int) (l0_2 : List Int) (a1_0 : Int) (a1_1 : Int) (l1_2 : List Int) : Option (Bool × Bool) := (spec_boGood.f k a0_0 a0_1 l0_2).bind fun t560 => (if t560 = true then ((spec_boGood.f k a1_0 a1_1 l1_2).bind fun t561 => (spec_AreAlike.j0 k (!t561) a0_0 a0_1 l0_2 a1_0 a1_1 l1_2)) else (spec_AreAlike.j0 k true a0_0 a0_1 l0_2 a1_0 a1_1 l1_2))
def spec_AreAlike.T3 : Bool × List (List Nat × List Nat) := (true, [([], []), ([0], [0]), ([1, 1], [1]), ([], []), ([3, 2], [3]), ([4, 4], [4]), ([2, 5, 5], [2, 5]), ([6, 6, 0, 1, 2, 3, 4, 5, 6], [6]), ([7, 0, 1, 2, 3, 4, 5, 6, 7], [])])
def spec_AreAlike.B3 : List Nat := [0, 1, 3, 0, 15, 31, 63, 127, 255]
theorem spec_AreAlike.tab3 : rtab .any (opsOf Try.f35 3) = spec_AreAlike.T3 := by kernel_rfl
theorem spec_AreAlike.bits3 : waitsOk spec_AreAlike.T3.2 spec_AreAlike.B3 = true := by kernel_rfl
set_option maxHeartbeats 8000000 in
set_option maxRecDepth 100000 in
theorem spec_AreAlike.calls (k : Nat) (a0_0 : Int) (a0_1 : Int) (A0_2 : Option Addr) (c0_2 : Nat) (l0_2 : List Int) (a1_0 : Int) (a1_1 : Int) (A1_2 : Option Addr) (c1_2 : Nat) (l1_2 : List Int) (r1 : Bool) (r2 : Bool) (w : World) (hr0_2 : Kd.C (Kd.int .i64) w A0_2 l0_2.length l0_2) (hc0_2 : l0_2.length ≤ c0_2) (hr1_2 : Kd.C (Kd.int .i64) w A1_2 l1_2.length l1_2) (hc1_2 : l1_2.length ≤ c1_2) (h : spec_AreAlike.f k a0_0 a0_1 l0_2 a1_0 a1_1 l1_2 = some (r1, r2)) :
  Calls Try.prog 35 #[.agg #[.int .i64 a0_0, .int .i64 a0_1, .slice A0_2 l0_2.length c0_2], .agg #[.int .i64 a1_0, .int .i64 a1_1, .slice A1_2 l1_2.length c1_2]] w fun e w' => e = .returned (.tuple #[.bool r1, .bool r2]) ∧ Below w.heap.size w w' := by
 have hu26 := Try.underlying26
 have HR0_2 := Aside0.mk hr0_2
 have HC0_2 := Aside0.mk hc0_2
 clear hr0_2 hc0_2
 have HR1_2 := Aside0.mk hr1_2
 have HC1_2 := Aside0.mk hc1_2
 clear hr1_2 hc1_2
 have HB := am (Below.refl w.heap.size w)
 have H : ((spec_boGood.f k a0_0 a0_1 l0_2).bind fun t560 => (if t560 = true then ((spec_boGood.f k a1_0 a1_1 l1_2).bind fun t561 => (spec_AreAlike.j0 k (!t561) a0_0 a0_1 l0_2 a1_0 a1_1 l1_2)) else (spec_AreAlike.j0 k true a0_0 a0_1 l0_2 a1_0 a1_1 l1_2))) = some (r1, r2) := h
 clear h
 have HC3 := Aside0.mk H
 clear H
 go_enter Try.func35, Try.ntmps35
 go_upto_region 1 with (first | ((with_reducible refine gate_dst (N := 2) rfl ?_); refine qv 2 #[.int .i64 a0_0, .int .i64 a0_1, .slice A0_2 l0_2.length c0_2] 26 ?_; intro gb558 hg w4 hbox hb; have BK558 := am hbox; have GW558 := qw hg; have GE558 := qw hg; replace HB := qs hb; clear hb hbox hg) | ((with_reducible refine gate_dst (N := 3) rfl ?_); refine qv 3 #[.int .i64 a1_0, .int .i64 a1_1, .slice A1_2 l1_2.length c1_2] 26 ?_; intro gb559 hg w5 hbox hb; have BK559 := am hbox; have GW559 := qw hg; have GE559 := qw hg; have Nq0 := qn hg BK558; have Nq1 := qN hg BK558; replace BK558 := sqB BK558 hb; replace HB := qs hb; clear hb hbox hg))
 (try simp only [Act.put, List.setIfInBounds_toArray, List.set_cons_zero, List.set_cons_succ])
 go_cut [13] (fun v13 wc => ∃ (kq : Nat) (x13_2 : Bool), v13 = .bool x13_2 ∧ Aside0 (spec_AreAlike.j0 kq x13_2 a0_0 a0_1 l0_2 a1_0 a1_1 l1_2 = some (r1, r2)) ∧ Aside0 (kq ≤ k) ∧ Aside0 (wc.heap[gb558]? = some (.cells #[.int .i64 a0_0, .int .i64 a0_1, (.slice A0_2 l0_2.length c0_2)] 26 (0, 0))) ∧ Aside0 (wc.heap[gb559]? = some (.cells #[.int .i64 a1_0, .int .i64 a1_1, (.slice A1_2 l1_2.length c1_2)] 26 (0, 0))) ∧ Aside0 (Below w.heap.size w wc))
 case first =>
  have H := HC3.out
  clear HC3
  replace H := qE H
  obtain ⟨t560, A6, H⟩ := H
  replace H : (if t560 = true then ((spec_boGood.f k a1_0 a1_1 l1_2).bind fun t561 => (spec_AreAlike.j0 k (!t561) a0_0 a0_1 l0_2 a1_0 a1_1 l1_2)) else (spec_AreAlike.j0 k true a0_0 a0_1 l0_2 a1_0 a1_1 l1_2)) = some (r1, r2) := H
  by_cases c7 : t560 = true
  ·
   subst c7
   have H1 : ((spec_boGood.f k a1_0 a1_1 l1_2).bind fun t561 => (spec_AreAlike.j0 k (!t561) a0_0 a0_1 l0_2 a1_0 a1_1 l1_2)) = some (r1, r2) := by first | (rw [if_pos rfl] at H; exact H) | rfl
   clear H
   have H := H1
   clear H1
   replace H := qE H
   obtain ⟨t561, A8, H⟩ := H
   replace H : (spec_AreAlike.j0 k (!t561) a0_0 a0_1 l0_2 a1_0 a1_1 l1_2) = some (r1, r2) := H
   have H' := Aside0.mk H
   clear H
   have bq1 := Nq0.out
   have cq1 := Nq1.out
   obtain ⟨zq0, zq1, zq2, fq0, fq1, fq2⟩ := qd BK558
   go_wp2_with (first | ((with_reducible refine gate_callee (f := 60) rfl ?_); refine qg (some 7) Try.func60 #[.agg #[.int .i64 a0_0, .int .i64 a0_1, .slice A0_2 l0_2.length c0_2]] ?_; (with_reducible refine (spec_boGood.calls k a0_0 a0_1 _ _ l0_2 true _ ?side1 HC0_2.out A6.out).mono ?_); (case side1 => exact Q1); rintro e w11 ⟨rfl, hb⟩; refine ⟨_, rfl, ?_⟩; replace BK558 := sqB BK558 hb; replace BK559 := sqB BK559 hb; replace HB := qs hb; (try clear hb); obtain ⟨zq3, zq4, zq5, fq3, fq4, fq5⟩ := qd BK559) | (go_at_call 60; (with_reducible refine (spec_boGood.calls k a1_0 a1_1 _ _ l1_2 t561 _ ?side1 HC1_2.out A8.out).mono ?_); (case side1 => exact Q18); rintro e w13 ⟨rfl, hb⟩; replace BK558 := sqB BK558 hb; replace BK559 := sqB BK559 hb; replace HB := qs hb; (try clear hb)))
   go_meet
   case rel => exact ⟨_, (!t561), Q3, H', ⟨Q41⟩, ⟨by (with_reducible repeat (first | refine blk_drewN ?_ _ | refine blk_drew ?_ | refine blk_alloc ?_ _)); exact BK558.out⟩, ⟨by (with_reducible repeat (first | refine blk_drewN ?_ _ | refine blk_drew ?_ | refine blk_alloc ?_ _)); exact BK559.out⟩, ⟨qb⟩⟩
  ·
   replace c7 := Bool.eq_false_iff.mpr c7
   subst c7
   have H1 : (spec_AreAlike.j0 k true a0_0 a0_1 l0_2 a1_0 a1_1 l1_2) = some (r1, r2) := by first | (rw [if_neg (show ¬ (false = true) by decide)] at H; exact H) | rfl
   clear H
   have H := H1
   clear H1
   have H' := Aside0.mk H
   clear H
   have bq0 := Nq0.out
   have cq0 := Nq1.out
   obtain ⟨zq6, zq7, zq8, fq6, fq7, fq8⟩ := qd BK558
   go_wp2_with (first | ((with_reducible refine gate_callee (f := 60) rfl ?_); refine qg (some 7) Try.func60 #[.agg #[.int .i64 a0_0, .int .i64 a0_1, .slice A0_2 l0_2.length c0_2]] ?_; (with_reducible refine (spec_boGood.calls k a0_0 a0_1 _ _ l0_2 false _ ?side1 HC0_2.out A6.out).mono ?_); (case side1 => exact Q1); rintro e w16 ⟨rfl, hb⟩; refine ⟨_, rfl, ?_⟩; replace BK558 := sqB BK558 hb; replace BK559 := sqB BK559 hb; replace HB := qs hb; (try clear hb)))
   go_meet
   case rel => exact ⟨_, (true), Q3, H', ⟨Q41⟩, ⟨by (with_reducible repeat (first | refine blk_drewN ?_ _ | refine blk_drew ?_ | refine blk_alloc ?_ _)); exact BK558.out⟩, ⟨by (with_reducible repeat (first | refine blk_drewN ?_ _ | refine blk_drew ?_ | refine blk_alloc ?_ _)); exact BK559.out⟩, ⟨qb⟩⟩
 case rest =>
  clear HC3
  try clear c7; try clear zq0; try clear zq1; try clear zq2; try clear zq3; try clear zq4; try clear zq5; try clear zq6; try clear zq7; try clear zq8; try clear fq0; try clear fq1; try clear fq2; try clear fq3; try clear fq4; try clear fq5; try clear fq6; try clear fq7; try clear fq8
  obtain ⟨kq, x13_2, rfl, HA, HJ2, BK558, BK559, HB⟩ := hcut
  cases kq with
  | zero => exact absurd HA.out (by simp [spec_AreAlike.j0])
  | succ kj2 =>
   have H := HA.out
   clear HA
   simp only [spec_AreAlike.j0] at H
   by_cases c17 : x13_2 = true
   ·
    subst c17
    have H1 : (some (false, false)) = some (r1, r2) := by first | (rw [if_pos rfl] at H; exact H) | rfl
    clear H
    have H := H1
    clear H1
    simp only [Option.some.injEq, Prod.mk.injEq] at H
    obtain ⟨rfl, rfl⟩ := H
    go_wp2
    go_ret2
    exact ⟨Q2, qb⟩
   ·
    replace c17 := Bool.eq_false_iff.mpr c17
    subst c17
    have H1 : ((spec_roNumbers.f kj2 a0_0 a0_1 l0_2).bind fun t562 => ((spec_roShort.f kj2 t562).bind fun t565 => ((spec_roNumbers.f kj2 a1_0 a1_1 l1_2).bind fun t568 => ((spec_roShort.f kj2 t568).bind fun t571 => ((spec_l1Same.f kj2 t565 t571).bind fun t574 => (some (t574, true))))))) = some (r1, r2) := by first | (rw [if_neg (show ¬ (false = true) by decide)] at H; exact H) | rfl
    clear H
    have H := H1
    clear H1
    replace H := qE H
    obtain ⟨t562, A18, H⟩ := H
    replace H : ((spec_roShort.f kj2 t562).bind fun t565 => ((spec_roNumbers.f kj2 a1_0 a1_1 l1_2).bind fun t568 => ((spec_roShort.f kj2 t568).bind fun t571 => ((spec_l1Same.f kj2 t565 t571).bind fun t574 => (some (t574, true)))))) = some (r1, r2) := H
    replace H := qE H
    obtain ⟨t565, A19, H⟩ := H
    replace H : ((spec_roNumbers.f kj2 a1_0 a1_1 l1_2).bind fun t568 => ((spec_roShort.f kj2 t568).bind fun t571 => ((spec_l1Same.f kj2 t565 t571).bind fun t574 => (some (t574, true))))) = some (r1, r2) := H
    replace H := qE H
    obtain ⟨t568, A20, H⟩ := H
    replace H : ((spec_roShort.f kj2 t568).bind fun t571 => ((spec_l1Same.f kj2 t565 t571).bind fun t574 => (some (t574, true)))) = some (r1, r2) := H
    replace H := qE H
    obtain ⟨t571, A21, H⟩ := H
    replace H : ((spec_l1Same.f kj2 t565 t571).bind fun t574 => (some (t574, true))) = some (r1, r2) := H
    replace H := qE H
    obtain ⟨t574, A22, H⟩ := H
    replace H : (some (t574, true)) = some (r1, r2) := H
    simp only [Option.some.injEq, Prod.mk.injEq] at H
    obtain ⟨rfl, rfl⟩ := H
    try go_wp2
    replace BK558 := am (blk_drew BK558.out)
    replace BK559 := am (blk_drew BK559.out)
    replace HB := am (below_drew1 HB.out)
    refine start_ (n := 9) (S := fun w' => w'.cell? ⟨gb558, 0, none⟩ = some (.int .i64 a0_0) ∧ w'.cell? ⟨gb558, 1, none⟩ = some (.int .i64 a0_1) ∧ w'.cell? ⟨gb558, 2, none⟩ = some (.slice A0_2 l0_2.length c0_2) ∧ w'.cell? ⟨gb559, 0, none⟩ = some (.int .i64 a1_0) ∧ w'.cell? ⟨gb559, 1, none⟩ = some (.int .i64 a1_1) ∧ w'.cell? ⟨gb559, 2, none⟩ = some (.slice A1_2 l1_2.length c1_2)) (ds := []) #[false, false, false, false, false, false, false, false, false] (by kernel_rfl) rfl rfl ⟨sqc BK558 0, sqc BK558 1, sqc BK558 2, sqc BK559 0, sqc BK559 1, sqc BK559 2⟩ (fun hHeld => ?_); refine with_tabW spec_AreAlike.tab3 spec_AreAlike.bits3 (fun HT_ HW_ => ?_)
    generalize wc.drew = w23 at BK558 BK559 HB hHeld ⊢
    refine take_ (i := 0) (N := some 14) (v := ?_) (a' := ?_) #[true, false, false, false, false, false, false, false, false] rfl rfl (take_ofW HT_.out HW_.out (by kernel_rfl)) (fun _ _ _ h => h) (Or.inl ⟨by rfl, ?_⟩) hHeld ?_ ?_
    rotate_left
    ·
     rintro w' ⟨s0, s1, s2, s3, s4, s5⟩
     go_simp
     with_reducible rfl
    rotate_left
    ·
     simp only [Act.put, List.setIfInBounds_toArray, List.set_cons_zero, List.set_cons_succ, i64_w, i32_w]
     rfl
    refine take_ (i := 3) (N := some 17) (v := ?_) (a' := ?_) #[true, false, false, true, false, false, false, false, false] rfl rfl (take_ofW HT_.out HW_.out (by kernel_rfl)) (fun _ _ _ h => h) (Or.inl ⟨by rfl, ?_⟩) hHeld ?_ ?_
    rotate_left
    ·
     rintro w' ⟨s0, s1, s2, s3, s4, s5⟩
     go_simp
     with_reducible rfl
    rotate_left
    ·
     simp only [Act.put, List.setIfInBounds_toArray, List.set_cons_zero, List.set_cons_succ, i64_w, i32_w]
     rfl
    refine one_ (i := 1) (N := some 15) #[true, true, false, true, false, false, false, false, false] rfl rfl (one_of HT_.out (by kernel_rfl)) (by decide) fun K hK => ?_
    refine qG Try.func83 #[.agg #[.int .i64 a0_0, .int .i64 a0_1, .slice A0_2 l0_2.length c0_2]] ?_
    with_reducible refine (spec_roNumbers.calls kj2 a0_0 a0_1 _ _ l0_2 t562 _ ?side1 ?side2 A18.out).mono ?_
    (case side1 => exact Q1)
    (case side2 => exact HC0_2.out)
    rintro e w24 ⟨v563, rfl, ho0, hb⟩
    refine ⟨_, rfl, ?_⟩
    have Oq0 := ql ho0
    replace BK558 := sqB BK558 hb
    replace BK559 := sqB BK559 hb
    replace HB := qs hb
    (try clear hb ho0)
    obtain ⟨Ao25, co25, eo25⟩ := Kd.R_slice Oq0.out
    (first | subst eo25 | (injection eo25 with f1_ f2_ f3_; have f4_ := f1_.symm; have f5_ := f3_.symm; clear f1_ f2_ f3_; subst f4_; subst f5_))
    refine hK.out _ _ ⟨sqc BK558 0, sqc BK558 1, sqc BK558 2, sqc BK559 0, sqc BK559 1, sqc BK559 2⟩ (fun hHeld => ?_)
    clear hK K
    refine qq (some 15) ?_
    refine one_ (i := 2) (N := some 16) #[true, true, true, true, false, false, false, false, false] rfl rfl (one_of HT_.out (by kernel_rfl)) (by decide) fun K hK => ?_
    refine qG Try.func99 #[.slice Ao25 t562.length co25] ?_
    with_reducible refine (spec_roShort.calls kj2 (fun k_ => some k_ = (.slice Ao25 t562.length co25 : Value).ownBlock) (.slice Ao25 t562.length co25) t562 t565 w _ ?side1 ?side2 A19.out).mono ?_
    (case side1 => exact qb)
    (case side2 => exact Kd.R_tight rfl Oq0.out)
    rintro e w26 ⟨v566, rfl, ho0, hb, hkp⟩
    refine ⟨_, rfl, ?_⟩
    have Oq1 := am (Kd.R_mono (ok' := fun k_ => True) ho0 (fun k_ hk_ => trivial))
    replace BK558 := am (blk_kept (sqb BK558) hkp (fun hs_ => (fun e_ => (Kd.R_ne Oq0.out BK558.out (by decide)) e_) hs_))
    replace BK559 := am (blk_kept (sqb BK559) hkp (fun hs_ => (fun e_ => (Kd.R_ne Oq0.out BK559.out (by decide)) e_) hs_))
    replace HB := am hb
    clear Oq0
    (try clear hb ho0)
    refine hK.out _ _ ⟨sqc BK558 0, sqc BK558 1, sqc BK558 2, sqc BK559 0, sqc BK559 1, sqc BK559 2⟩ (fun hHeld => ?_)
    clear hK K
    refine qq (some 16) ?_
    refine one_ (i := 4) (N := some 18) #[true, true, true, true, true, false, false, false, false] rfl rfl (one_of HT_.out (by kernel_rfl)) (by decide) fun K hK => ?_
    refine qG Try.func83 #[.agg #[.int .i64 a1_0, .int .i64 a1_1, .slice A1_2 l1_2.length c1_2]] ?_
    with_reducible refine (spec_roNumbers.calls kj2 a1_0 a1_1 _ _ l1_2 t568 _ ?side1 ?side2 A20.out).mono ?_
    (case side1 => exact Q18)
    (case side2 => exact HC1_2.out)
    rintro e w27 ⟨v569, rfl, ho0, hb⟩
    refine ⟨_, rfl, ?_⟩
    have Oq2 := am (Kd.R_lower (Kd.R_new' ho0 (sqL Oq1)) (below_size qb))
    replace Oq1 := sqE Oq1 ho0 hb
    replace BK558 := sqB BK558 hb
    replace BK559 := sqB BK559 hb
    replace HB := qs hb
    (try clear hb ho0)
    obtain ⟨Ao28, co28, eo28⟩ := Kd.R_slice Oq2.out
    (first | subst eo28 | (injection eo28 with f1_ f2_ f3_; have f4_ := f1_.symm; have f5_ := f3_.symm; clear f1_ f2_ f3_; subst f4_; subst f5_))
    refine hK.out _ _ ⟨sqc BK558 0, sqc BK558 1, sqc BK558 2, sqc BK559 0, sqc BK559 1, sqc BK559 2⟩ (fun hHeld => ?_)
    clear hK K
    refine qq (some 18) ?_
    refine one_ (i := 5) (N := some 19) #[true, true, true, true, true, true, false, false, false] rfl rfl (one_of HT_.out (by kernel_rfl)) (by decide) fun K hK => ?_
    refine qG Try.func99 #[.slice Ao28 t568.length co28] ?_
    with_reducible refine (spec_roShort.calls kj2 (fun k_ => some k_ = (.slice Ao28 t568.length co28 : Value).ownBlock) (.slice Ao28 t568.length co28) t568 t571 w _ ?side1 ?side2 A21.out).mono ?_
    (case side1 => exact qb)
    (case side2 => exact Kd.R_tight rfl Oq2.out)
    rintro e w29 ⟨v572, rfl, ho0, hb, hkp⟩
    refine ⟨_, rfl, ?_⟩
    have Oq3 := am (Kd.R_mono (ok' := fun k_ => some k_ ≠ (v566 : Value).ownBlock) ho0 (fun k_ hk_ => Or.elim hk_ (fun hs_ => fun e_ => (((Oq1.out).1 k_ e_.symm).2) hs_) (fun hn_ => (Kd.fresh' (sqL Oq1) k_ hn_))))
    replace BK558 := am (blk_kept (sqb BK558) hkp (fun hs_ => (fun e_ => (Kd.R_ne Oq2.out BK558.out (by decide)) e_) hs_))
    replace BK559 := am (blk_kept (sqb BK559) hkp (fun hs_ => (fun e_ => (Kd.R_ne Oq2.out BK559.out (by decide)) e_) hs_))
    replace Oq1 := am (Kd.R_mono (ok' := fun k_ => some k_ ≠ (v572 : Value).ownBlock) (Kd.R_keptB (Oq1.out) hkp (fun k_ hk_ hs_ => (hk_.2) hs_)) (fun k_ hk_ => fun e_ => Or.elim (ho0.1 k_ e_.symm) (fun hs_ => hk_.2.1 hs_) (fun hn_ => Nat.not_le.2 hk_.2.2 hn_)))
    replace HB := am hb
    clear Oq2
    (try clear hb ho0)
    obtain ⟨Ao30, co30, eo30⟩ := Kd.R_slice Oq1.out
    (first | subst eo30 | (injection eo30 with f1_ f2_ f3_; have f4_ := f1_.symm; have f5_ := f3_.symm; clear f1_ f2_ f3_; subst f4_; subst f5_))
    obtain ⟨Ao31, co31, eo31⟩ := Kd.R_slice Oq3.out
    (first | subst eo31 | (injection eo31 with f1_ f2_ f3_; have f4_ := f1_.symm; have f5_ := f3_.symm; clear f1_ f2_ f3_; subst f4_; subst f5_))
    refine hK.out _ _ ⟨sqc BK558 0, sqc BK558 1, sqc BK558 2, sqc BK559 0, sqc BK559 1, sqc BK559 2⟩ (fun hHeld => ?_)
    clear hK K
    refine qq (some 19) ?_
    refine one_ (i := 6) (N := some 20) #[true, true, true, true, true, true, true, false, false] rfl rfl (one_of HT_.out (by kernel_rfl)) (by decide) fun K hK => ?_
    refine qG Try.func98 #[.slice Ao30 t565.length co30, .slice Ao31 t571.length co31] ?_
    with_reducible refine (spec_l1Same.calls kj2 _ _ t565 _ _ t571 t574 _ ?side1 ?side2 ?side3 ?side4 A22.out).mono ?_
    (case side1 => exact Q16)
    (case side2 => exact Q44)
    (case side3 => exact Q24)
    (case side4 => exact Q60)
    rintro e w' ⟨rfl, ⟨nd, rfl⟩⟩
    refine ⟨_, rfl, ?_⟩
    refine hK.out _ _ ⟨sqc BK558 0, sqc BK558 1, sqc BK558 2, sqc BK559 0, sqc BK559 1, sqc BK559 2⟩ (fun hHeld => ?_)
    clear hK K
    refine qq (some 20) ?_
    refine qp 7 (some 4) #[true, true, true, true, true, true, true, true, false] ?_
    refine qp 8 (some 5) #[true, true, true, true, true, true, true, true, true] ?_
    refine done_ (done_of HT_.out (by kernel_rfl)) ?_
    try go_wp2
    go_ret2
    exact ⟨Q2, qb⟩

end Go.Proofs.Ytllhofdgbpnkkaa.PFnRookNumbersMultiply
