-- Printed for this claim by wip/pp.py over the kit's printer; Lean checks it.
import Derived.Test.YtllhofdgbpnkkaaPFnBoardsJoinedx0
import Derived.Test.YtllhofdgbpnkkaaPFnBoardsJoinedx1
import Derived.Test.YtllhofdgbpnkkaaPFnBoardsJoinedx7
namespace Go.Proofs.Ytllhofdgbpnkkaa.PFnBoardsJoined
open Go.RowKit Go.Proofs.YtllhofdgbpnkkaaW.PrintWords Go.Proofs.YtllhofdgbpnkkaaW.PrintLast Go.Proofs.YtllhofdgbpnkkaaW.PrintMore
attribute [local go_sem] max2_int min2_int max_two min_two max_three min_three max_four min_four   -- for this text's walks alone
set_option linter.unusedVariables false
set_option linter.unusedSimpArgs false

/-! ### spec_IsPartOf: function 13 -/
mutual
def spec_IsPartOf.j0 : Nat → Bool → Int → Int → List Int → Int → Int → List Int → Option (Bool × Bool)
 | 0, _, _, _, _, _, _, _ => none
 | k + 1, x15, x302000, x302001, x302002, x303000, x303001, x303002 => if x15 = true then (some (false, false)) else ((spec_boFit.f k x302000 x302001 x302002 x303000 x303001 x303002).bind fun t305 => (if t305 = true then (spec_IsPartOf.l0 k x302002 (x302002.length : Int) 0 x303000 x303001 x303002) else (some (false, true))))
def spec_IsPartOf.l0 : Nat → List Int → Int → Int → Int → Int → List Int → Option (Bool × Bool)
 | 0, _, _, _, _, _, _ => none
 | k + 1, x21, x22, x23, x303000, x303001, x303002 => if x23 < x22 then (if 0 ≤ x23 then (if x23 < (x21.length : Int) then (if x23 < (x303002.length : Int) then (if (Go.bits .andNot .i64 (rd x21 x23) (rd x303002 x23)) = 0 then (spec_IsPartOf.l0 k x21 x22 (wrap64 (x23 + 1)) x303000 x303001 x303002) else (some (false, true))) else (none)) else (none)) else (none)) else (some (true, true))
end
def spec_IsPartOf.f (k : Nat) (a0_0 : Int) (a0_1 : Int) (l0_2 : List Int) (a1_0 : Int) (a1_1 : Int) (l1_2 : List Int) : Option (Bool × Bool) := (spec_boGood.f k a0_0 a0_1 l0_2).bind fun t303 => (if t303 = true then ((spec_boGood.f k a1_0 a1_1 l1_2).bind fun t304 => (spec_IsPartOf.j0 k (!t304) a0_0 a0_1 l0_2 a1_0 a1_1 l1_2)) else (spec_IsPartOf.j0 k true a0_0 a0_1 l0_2 a1_0 a1_1 l1_2))
set_option maxHeartbeats 8000000 in
set_option maxRecDepth 100000 in
theorem spec_IsPartOf.calls (k : Nat) (a0_0 : Int) (a0_1 : Int) (A0_2 : Option Addr) (c0_2 : Nat) (l0_2 : List Int) (a1_0 : Int) (a1_1 : Int) (A1_2 : Option Addr) (c1_2 : Nat) (l1_2 : List Int) (r1 : Bool) (r2 : Bool) (w : World) (hr0_2 : Kd.C (Kd.int .i64) w A0_2 l0_2.length l0_2) (hc0_2 : l0_2.length ≤ c0_2) (hr1_2 : Kd.C (Kd.int .i64) w A1_2 l1_2.length l1_2) (hc1_2 : l1_2.length ≤ c1_2) (h : spec_IsPartOf.f k a0_0 a0_1 l0_2 a1_0 a1_1 l1_2 = some (r1, r2)) :
  Calls Try.prog 13 #[.agg #[.int .i64 a0_0, .int .i64 a0_1, .slice A0_2 l0_2.length c0_2], .agg #[.int .i64 a1_0, .int .i64 a1_1, .slice A1_2 l1_2.length c1_2]] w fun e w' => e = .returned (.tuple #[.bool r1, .bool r2]) ∧ Below w.heap.size w w' := by
 have hu26 := Try.underlying26
 have HR0_2 := Aside0.mk hr0_2
 have HC0_2 := Aside0.mk hc0_2
 clear hr0_2 hc0_2
 have HR1_2 := Aside0.mk hr1_2
 have HC1_2 := Aside0.mk hc1_2
 clear hr1_2 hc1_2
 have HB := am (Below.refl w.heap.size w)
 have H : ((spec_boGood.f k a0_0 a0_1 l0_2).bind fun t303 => (if t303 = true then ((spec_boGood.f k a1_0 a1_1 l1_2).bind fun t304 => (spec_IsPartOf.j0 k (!t304) a0_0 a0_1 l0_2 a1_0 a1_1 l1_2)) else (spec_IsPartOf.j0 k true a0_0 a0_1 l0_2 a1_0 a1_1 l1_2))) = some (r1, r2) := h
 clear h
 have HC3 := Aside0.mk H
 clear H
 go_enter Try.func13, Try.ntmps13
 go_upto_region 1 with (first | ((with_reducible refine gate_dst (N := 2) rfl ?_); refine qv 2 #[.int .i64 a0_0, .int .i64 a0_1, .slice A0_2 l0_2.length c0_2] 26 ?_; intro gb301 hg w4 hbox hb; have BK301 := am hbox; have GW301 := qw hg; have GE301 := qw hg; replace HB := qs hb; clear hb hbox hg) | ((with_reducible refine gate_dst (N := 3) rfl ?_); refine qv 3 #[.int .i64 a1_0, .int .i64 a1_1, .slice A1_2 l1_2.length c1_2] 26 ?_; intro gb302 hg w5 hbox hb; have BK302 := am hbox; have GW302 := qw hg; have GE302 := qw hg; have Nq0 := qn hg BK301; have Nq1 := qN hg BK301; replace BK301 := sqB BK301 hb; replace HB := qs hb; clear hb hbox hg))
 (try simp only [Act.put, List.setIfInBounds_toArray, List.set_cons_zero, List.set_cons_succ])
 go_cut [15] (fun v15 wc => ∃ (kq : Nat) (x15_2 : Bool), v15 = .bool x15_2 ∧ Aside0 (spec_IsPartOf.j0 kq x15_2 a0_0 a0_1 l0_2 a1_0 a1_1 l1_2 = some (r1, r2)) ∧ Aside0 (kq ≤ k) ∧ Aside0 (wc.heap[gb301]? = some (.cells #[.int .i64 a0_0, .int .i64 a0_1, (.slice A0_2 l0_2.length c0_2)] 26 (0, 0))) ∧ Aside0 (wc.heap[gb302]? = some (.cells #[.int .i64 a1_0, .int .i64 a1_1, (.slice A1_2 l1_2.length c1_2)] 26 (0, 0))) ∧ Aside0 (Below w.heap.size w wc))
 case first =>
  have H := HC3.out
  clear HC3
  replace H := qE H
  obtain ⟨t303, A6, H⟩ := H
  replace H : (if t303 = true then ((spec_boGood.f k a1_0 a1_1 l1_2).bind fun t304 => (spec_IsPartOf.j0 k (!t304) a0_0 a0_1 l0_2 a1_0 a1_1 l1_2)) else (spec_IsPartOf.j0 k true a0_0 a0_1 l0_2 a1_0 a1_1 l1_2)) = some (r1, r2) := H
  by_cases c7 : t303 = true
  ·
   subst c7
   have H1 : ((spec_boGood.f k a1_0 a1_1 l1_2).bind fun t304 => (spec_IsPartOf.j0 k (!t304) a0_0 a0_1 l0_2 a1_0 a1_1 l1_2)) = some (r1, r2) := by first | (rw [if_pos rfl] at H; exact H) | rfl
   clear H
   have H := H1
   clear H1
   replace H := qE H
   obtain ⟨t304, A8, H⟩ := H
   replace H : (spec_IsPartOf.j0 k (!t304) a0_0 a0_1 l0_2 a1_0 a1_1 l1_2) = some (r1, r2) := H
   have H' := Aside0.mk H
   clear H
   have bq8 := Nq0.out
   have cq8 := Nq1.out
   obtain ⟨zq0, zq1, zq2, fq0, fq1, fq2⟩ := qd BK301
   go_wp2_with (first | ((with_reducible refine gate_callee (f := 60) rfl ?_); refine qg (some 9) Try.func60 #[.agg #[.int .i64 a0_0, .int .i64 a0_1, .slice A0_2 l0_2.length c0_2]] ?_; (with_reducible refine (spec_boGood.calls k a0_0 a0_1 _ _ l0_2 true _ ?side1 HC0_2.out A6.out).mono ?_); (case side1 => exact Q0); rintro e w11 ⟨rfl, hb⟩; refine ⟨_, rfl, ?_⟩; replace BK301 := sqB BK301 hb; replace BK302 := sqB BK302 hb; replace HB := qs hb; (try clear hb); obtain ⟨zq3, zq4, zq5, fq3, fq4, fq5⟩ := qd BK302) | (go_at_call 60; (with_reducible refine (spec_boGood.calls k a1_0 a1_1 _ _ l1_2 t304 _ ?side1 HC1_2.out A8.out).mono ?_); (case side1 => exact Q6); rintro e w13 ⟨rfl, hb⟩; replace BK301 := sqB BK301 hb; replace BK302 := sqB BK302 hb; replace HB := qs hb; (try clear hb)))
   go_meet
   case rel => exact ⟨_, (!t304), Q3, H', ⟨Q25⟩, ⟨Q31⟩, ⟨Q32⟩, ⟨qb⟩⟩
  ·
   replace c7 := Bool.eq_false_iff.mpr c7
   subst c7
   have H1 : (spec_IsPartOf.j0 k true a0_0 a0_1 l0_2 a1_0 a1_1 l1_2) = some (r1, r2) := by first | (rw [if_neg (show ¬ (false = true) by decide)] at H; exact H) | rfl
   clear H
   have H := H1
   clear H1
   have H' := Aside0.mk H
   clear H
   have bq1 := Nq0.out
   have cq1 := Nq1.out
   obtain ⟨zq9, zq10, zq11, fq9, fq10, fq11⟩ := qd BK301
   go_wp2_with (first | ((with_reducible refine gate_callee (f := 60) rfl ?_); refine qg (some 9) Try.func60 #[.agg #[.int .i64 a0_0, .int .i64 a0_1, .slice A0_2 l0_2.length c0_2]] ?_; (with_reducible refine (spec_boGood.calls k a0_0 a0_1 _ _ l0_2 false _ ?side1 HC0_2.out A6.out).mono ?_); (case side1 => exact Q0); rintro e w16 ⟨rfl, hb⟩; refine ⟨_, rfl, ?_⟩; replace BK301 := sqB BK301 hb; replace BK302 := sqB BK302 hb; replace HB := qs hb; (try clear hb)))
   go_meet
   case rel => exact ⟨_, (true), Q3, H', ⟨Q25⟩, ⟨Q31⟩, ⟨Q32⟩, ⟨qb⟩⟩
 case rest =>
  clear HC3
  try clear c7; try clear zq0; try clear zq1; try clear zq2; try clear zq3; try clear zq4; try clear zq5; try clear zq9; try clear zq10; try clear zq11; try clear fq0; try clear fq1; try clear fq2; try clear fq3; try clear fq4; try clear fq5; try clear fq9; try clear fq10; try clear fq11
  obtain ⟨kq, x15_2, rfl, HA, HJ2, BK301, BK302, HB⟩ := hcut
  cases kq with
  | zero => exact absurd HA.out (by simp [spec_IsPartOf.j0])
  | succ kj2 =>
   have H := HA.out
   clear HA
   simp only [spec_IsPartOf.j0] at H
   by_cases c17 : x15_2 = true
   ·
    subst c17
    have H1 : (some (false, false)) = some (r1, r2) := by first | (rw [if_pos rfl] at H; exact H) | rfl
    clear H
    have H := H1
    clear H1
    simp only [Option.some.injEq, Prod.mk.injEq] at H
    obtain ⟨rfl, rfl⟩ := H
    go_wp2
    go_ret2
    exact ⟨Q1, qb⟩
   ·
    replace c17 := Bool.eq_false_iff.mpr c17
    subst c17
    have H1 : ((spec_boFit.f kj2 a0_0 a0_1 l0_2 a1_0 a1_1 l1_2).bind fun t305 => (if t305 = true then (spec_IsPartOf.l0 kj2 l0_2 (l0_2.length : Int) 0 a1_0 a1_1 l1_2) else (some (false, true)))) = some (r1, r2) := by first | (rw [if_neg (show ¬ (false = true) by decide)] at H; exact H) | rfl
    clear H
    have H := H1
    clear H1
    replace H := qE H
    obtain ⟨t305, A18, H⟩ := H
    replace H : (if t305 = true then (spec_IsPartOf.l0 kj2 l0_2 (l0_2.length : Int) 0 a1_0 a1_1 l1_2) else (some (false, true))) = some (r1, r2) := H
    by_cases c19 : t305 = true
    ·
     subst c19
     have H1 : (spec_IsPartOf.l0 kj2 l0_2 (l0_2.length : Int) 0 a1_0 a1_1 l1_2) = some (r1, r2) := by first | (rw [if_pos rfl] at H; exact H) | rfl
     clear H
     have H := H1
     clear H1
     have H' := Aside0.mk H
     clear H
     have bq3 := Nq0.out
     have cq3 := Nq1.out
     obtain ⟨zq18, zq19, zq20, fq18, fq19, fq20⟩ := qd BK301
     obtain ⟨zq21, zq22, zq23, fq21, fq22, fq23⟩ := qd BK302
     go_wp2_with (first | ((with_reducible refine gate_callee (f := 57) rfl ?_); refine qg (some 18) Try.func57 #[.agg #[.int .i64 a0_0, .int .i64 a0_1, .slice A0_2 l0_2.length c0_2], .agg #[.int .i64 a1_0, .int .i64 a1_1, .slice A1_2 l1_2.length c1_2]] ?_; (with_reducible refine (spec_boFit.calls kj2 a0_0 a0_1 _ _ l0_2 a1_0 a1_1 _ _ l1_2 true _ ?side1 HC0_2.out ?side3 HC1_2.out A18.out).mono ?_); (case side1 => exact Q0); (case side3 => exact Q6); rintro e w23 ⟨rfl, hb⟩; refine ⟨_, rfl, ?_⟩; replace BK301 := sqB BK301 hb; replace BK302 := sqB BK302 hb; replace HB := qs hb; (try clear hb); obtain ⟨zq24, zq25, zq26, fq24, fq25, fq26⟩ := qd BK301))
     go_loopg [23] kj2 (fun kq v23 w' => ∃ (x23_2 : Int), v23 = .int .i64 x23_2 ∧ Aside0 (spec_IsPartOf.l0 kq l0_2 (l0_2.length : Int) x23_2 a1_0 a1_1 l1_2 = some (r1, r2)) ∧ Aside0 (kq ≤ kj2) ∧ Aside0 (w'.heap[gb301]? = some (.cells #[.int .i64 a0_0, .int .i64 a0_1, (.slice A0_2 l0_2.length c0_2)] 26 (0, 0))) ∧ Aside0 (w'.heap[gb302]? = some (.cells #[.int .i64 a1_0, .int .i64 a1_1, (.slice A1_2 l1_2.length c1_2)] 26 (0, 0))) ∧ Aside0 (Below w.heap.size w w'))
     case atStart => exact ⟨(0), Q3, H', ⟨Nat.le_refl _⟩, ⟨Q31⟩, ⟨Q32⟩, ⟨qb⟩⟩
     case round =>
      clear H'
      try clear c7; try clear c17; try clear c19; try clear zq0; try clear zq1; try clear zq2; try clear zq3; try clear zq4; try clear zq5; try clear zq9; try clear zq10; try clear zq11; try clear zq18; try clear zq19; try clear zq20; try clear zq21; try clear zq22; try clear zq23; try clear zq24; try clear zq25; try clear zq26; try clear fq0; try clear fq1; try clear fq2; try clear fq3; try clear fq4; try clear fq5; try clear fq9; try clear fq10; try clear fq11; try clear fq18; try clear fq19; try clear fq20; try clear fq21; try clear fq22; try clear fq23; try clear fq24; try clear fq25; try clear fq26
      obtain ⟨x23_2, rfl, HA, HK2, BK301, BK302, HB⟩ := hrel
      cases gk with
      | zero => exact absurd HA.out (by simp [spec_IsPartOf.l0])
      | succ k2 =>
       have H := HA.out
       clear HA
       simp only [spec_IsPartOf.l0] at H
       by_cases c25 : x23_2 < (l0_2.length : Int)
       ·
        rw [if_pos c25] at H
        have c25b0 : decide (x23_2 < (l0_2.length : Int)) = true := decide_eq_true c25
        clear c25
        by_cases c26 : 0 ≤ x23_2
        ·
         rw [if_pos c26] at H
         have c26b0 : decide (0 ≤ x23_2) = true := decide_eq_true c26
         clear c26
         by_cases c27 : x23_2 < (l0_2.length : Int)
         ·
          rw [if_pos c27] at H
          have c27b0 : decide (x23_2 < (l0_2.length : Int)) = true := decide_eq_true c27
          clear c27
          by_cases c28 : x23_2 < (l1_2.length : Int)
          ·
           rw [if_pos c28] at H
           have c28b0 : decide (x23_2 < (l1_2.length : Int)) = true := decide_eq_true c28
           clear c28
           by_cases c29 : (Go.bits .andNot .i64 (rd l0_2 x23_2) (rd l1_2 x23_2)) = 0
           ·
            rw [if_pos c29] at H
            have c29b0 : ((Go.bits .andNot .i64 (rd l0_2 x23_2) (rd l1_2 x23_2)) == 0) = true := beq_iff_eq.mpr c29
            have c29b1 : ((Go.bits .andNot .i64 (rd l0_2 x23_2) (rd l1_2 x23_2)) != 0) = false := bne_eq_false_iff_eq.mpr c29
            clear c29
            have H' := Aside0.mk H
            clear H
            have p306 : 0 ≤ (x23_2 : Int) := of_decide_eq_true Q2
            have q306 : x23_2 < (l0_2.length : Int) := of_decide_eq_true Q2
            obtain ⟨ad306, e306, hx306_0⟩ := Kd.at_int HR0_2.out x23_2 p306 q306
            cases e306
            replace hx306_0 := (HB.out.cell (World.block_lt_of_cell? w _ hx306_0)).trans hx306_0
            replace p306 := eq_true p306
            replace q306 := eq_true q306
            have bq4 := Nq1.out
            have cq4 := Nq0.out
            obtain ⟨zq27, zq28, zq29, fq27, fq28, fq29⟩ := qd BK302
            have p307 : 0 ≤ (x23_2 : Int) := of_decide_eq_true Q2
            have q307 : x23_2 < (l1_2.length : Int) := of_decide_eq_true Q2
            obtain ⟨ad307, e307, hx307_0⟩ := Kd.at_int HR1_2.out x23_2 p307 q307
            cases e307
            replace hx307_0 := (HB.out.cell (World.block_lt_of_cell? w _ hx307_0)).trans hx307_0
            replace p307 := eq_true p307
            replace q307 := eq_true q307
            go_wp2
            go_roundg k2
            case measure => have := HJ2.out; have := HK2.out; omega
            case rel => exact ⟨(wrap64 (x23_2 + 1)), Q3, H', ⟨by have := HJ2.out; have := HK2.out; omega⟩, ⟨Q31⟩, ⟨Q32⟩, ⟨qb⟩⟩
           ·
            rw [if_neg c29] at H
            have c29b0 : ((Go.bits .andNot .i64 (rd l0_2 x23_2) (rd l1_2 x23_2)) == 0) = false := beq_eq_false_iff_ne.mpr c29
            have c29b1 : ((Go.bits .andNot .i64 (rd l0_2 x23_2) (rd l1_2 x23_2)) != 0) = true := bne_iff_ne.mpr c29
            simp only [Option.some.injEq, Prod.mk.injEq] at H
            obtain ⟨rfl, rfl⟩ := H
            have p306 : 0 ≤ (x23_2 : Int) := of_decide_eq_true Q2
            have q306 : x23_2 < (l0_2.length : Int) := of_decide_eq_true Q2
            obtain ⟨ad306, e306, hx306_0⟩ := Kd.at_int HR0_2.out x23_2 p306 q306
            cases e306
            replace hx306_0 := (HB.out.cell (World.block_lt_of_cell? w _ hx306_0)).trans hx306_0
            replace p306 := eq_true p306
            replace q306 := eq_true q306
            have bq5 := Nq1.out
            have cq5 := Nq0.out
            obtain ⟨zq30, zq31, zq32, fq30, fq31, fq32⟩ := qd BK302
            have p307 : 0 ≤ (x23_2 : Int) := of_decide_eq_true Q2
            have q307 : x23_2 < (l1_2.length : Int) := of_decide_eq_true Q2
            obtain ⟨ad307, e307, hx307_0⟩ := Kd.at_int HR1_2.out x23_2 p307 q307
            cases e307
            replace hx307_0 := (HB.out.cell (World.block_lt_of_cell? w _ hx307_0)).trans hx307_0
            replace p307 := eq_true p307
            replace q307 := eq_true q307
            go_wp2
            go_ret2
            exact ⟨Q1, qb⟩
          ·
           rw [if_neg c28] at H
           exact absurd H (by simp)
         ·
          rw [if_neg c27] at H
          exact absurd H (by simp)
        ·
         rw [if_neg c26] at H
         exact absurd H (by simp)
       ·
        rw [if_neg c25] at H
        have c25b0 : decide (x23_2 < (l0_2.length : Int)) = false := decide_eq_false c25
        clear c25
        simp only [Option.some.injEq, Prod.mk.injEq] at H
        obtain ⟨rfl, rfl⟩ := H
        go_wp2
        go_ret2
        exact ⟨Q1, qb⟩
    ·
     replace c19 := Bool.eq_false_iff.mpr c19
     subst c19
     have H1 : (some (false, true)) = some (r1, r2) := by first | (rw [if_neg (show ¬ (false = true) by decide)] at H; exact H) | rfl
     clear H
     have H := H1
     clear H1
     simp only [Option.some.injEq, Prod.mk.injEq] at H
     obtain ⟨rfl, rfl⟩ := H
     have bq6 := Nq0.out
     have cq6 := Nq1.out
     obtain ⟨zq33, zq34, zq35, fq33, fq34, fq35⟩ := qd BK301
     obtain ⟨zq36, zq37, zq38, fq36, fq37, fq38⟩ := qd BK302
     go_wp2_with (first | ((with_reducible refine gate_callee (f := 57) rfl ?_); refine qg (some 18) Try.func57 #[.agg #[.int .i64 a0_0, .int .i64 a0_1, .slice A0_2 l0_2.length c0_2], .agg #[.int .i64 a1_0, .int .i64 a1_1, .slice A1_2 l1_2.length c1_2]] ?_; (with_reducible refine (spec_boFit.calls kj2 a0_0 a0_1 _ _ l0_2 a1_0 a1_1 _ _ l1_2 false _ ?side1 HC0_2.out ?side3 HC1_2.out A18.out).mono ?_); (case side1 => exact Q0); (case side3 => exact Q6); rintro e w37 ⟨rfl, hb⟩; refine ⟨_, rfl, ?_⟩; replace BK301 := sqB BK301 hb; replace BK302 := sqB BK302 hb; replace HB := qs hb; (try clear hb)))
     go_ret2
     exact ⟨Q1, qb⟩

/-! ### laws_rSame: function 25 -/
def laws_rSame.l0 : Nat → List Int → List Int → Int → Int → Option (Bool)
 | 0, _, _, _, _ => none
 | k + 1, x0, x1, x12, x13 => if x13 < x12 then (if 0 ≤ x13 then (if x13 < (x0.length : Int) then (if x13 < (x1.length : Int) then (if (rd x0 x13) = (rd x1 x13) then (laws_rSame.l0 k x0 x1 x12 (wrap64 (x13 + 1))) else (some false)) else (none)) else (none)) else (none)) else (some true)
def laws_rSame.f (k : Nat) (l0 : List Int) (l1 : List Int) : Option (Bool) := if (l0.length : Int) = (l1.length : Int) then (laws_rSame.l0 k l0 l1 (l0.length : Int) 0) else (some false)
set_option maxHeartbeats 8000000 in
set_option maxRecDepth 100000 in
theorem laws_rSame.calls (k : Nat) (A0 : Option Addr) (c0 : Nat) (l0 : List Int) (A1 : Option Addr) (c1 : Nat) (l1 : List Int) (r : Bool) (w : World) (hr0 : Kd.C (Kd.int .i64) w A0 l0.length l0) (hc0 : l0.length ≤ c0) (hr1 : Kd.C (Kd.int .i64) w A1 l1.length l1) (hc1 : l1.length ≤ c1) (h : laws_rSame.f k l0 l1 = some r) :
  Calls Try.prog 25 #[.slice A0 l0.length c0, .slice A1 l1.length c1] w fun e w' => e = .returned (.bool r) ∧ Drawn0 w w' := by
 have HR0 := Aside0.mk hr0
 have HC0 := Aside0.mk hc0
 clear hr0 hc0
 have HR1 := Aside0.mk hr1
 have HC1 := Aside0.mk hc1
 clear hr1 hc1
 have H : (if (l0.length : Int) = (l1.length : Int) then (laws_rSame.l0 k l0 l1 (l0.length : Int) 0) else (some false)) = some r := h
 clear h
 by_cases c3 : (l0.length : Int) = (l1.length : Int)
 ·
  rw [if_pos c3] at H
  have c3b0 : ((l0.length : Int) == (l1.length : Int)) = true := beq_iff_eq.mpr c3
  have c3b1 : ((l0.length : Int) != (l1.length : Int)) = false := bne_eq_false_iff_eq.mpr c3
  have c3b2 : (l0.length == l1.length) = true := by first | simpa using c3 | (simp at c3 ⊢; omega)
  clear c3
  have H' := Aside0.mk H
  clear H
  go_enter Try.func25, Try.ntmps25
  go_wp2
  repeat (go_quiet (fail); try go_wp2)
  go_loopg [13] k (fun kq v13 w' => ∃ (x13_1 : Int), v13 = .int .i64 x13_1 ∧ Aside0 (laws_rSame.l0 kq l0 l1 (l0.length : Int) x13_1 = some r) ∧ Aside0 (kq ≤ k) ∧ Drawn0 w w')
  case atStart => exact ⟨(0), Q3, H', ⟨Nat.le_refl _⟩, Q12⟩
  case round =>
   clear H'
   try clear c3; try clear c3b0; try clear c3b1; try clear c3b2
   obtain ⟨x13_1, rfl, HA, HK1, ⟨m1, rfl⟩⟩ := hrel
   cases gk with
   | zero => exact absurd HA.out (by simp [laws_rSame.l0])
   | succ k1 =>
    have H := HA.out
    clear HA
    simp only [laws_rSame.l0] at H
    by_cases c4 : x13_1 < (l0.length : Int)
    ·
     rw [if_pos c4] at H
     have c4b0 : decide (x13_1 < (l0.length : Int)) = true := decide_eq_true c4
     clear c4
     by_cases c5 : 0 ≤ x13_1
     ·
      rw [if_pos c5] at H
      have c5b0 : decide (0 ≤ x13_1) = true := decide_eq_true c5
      clear c5
      by_cases c6 : x13_1 < (l0.length : Int)
      ·
       rw [if_pos c6] at H
       have c6b0 : decide (x13_1 < (l0.length : Int)) = true := decide_eq_true c6
       clear c6
       by_cases c7 : x13_1 < (l1.length : Int)
       ·
        rw [if_pos c7] at H
        have c7b0 : decide (x13_1 < (l1.length : Int)) = true := decide_eq_true c7
        clear c7
        by_cases c8 : (rd l0 x13_1) = (rd l1 x13_1)
        ·
         rw [if_pos c8] at H
         have c8b0 : ((rd l0 x13_1) == (rd l1 x13_1)) = true := beq_iff_eq.mpr c8
         have c8b1 : ((rd l0 x13_1) != (rd l1 x13_1)) = false := bne_eq_false_iff_eq.mpr c8
         clear c8
         have H' := Aside0.mk H
         clear H
         have p308 : 0 ≤ (x13_1 : Int) := of_decide_eq_true Q2
         have q308 : x13_1 < (l0.length : Int) := of_decide_eq_true Q2
         obtain ⟨ad308, e308, hx308_0⟩ := Kd.at_int HR0.out x13_1 p308 q308
         cases e308
         replace p308 := eq_true p308
         replace q308 := eq_true q308
         have p309 : 0 ≤ (x13_1 : Int) := of_decide_eq_true Q2
         have q309 : x13_1 < (l1.length : Int) := of_decide_eq_true Q2
         obtain ⟨ad309, e309, hx309_0⟩ := Kd.at_int HR1.out x13_1 p309 q309
         cases e309
         replace p309 := eq_true p309
         replace q309 := eq_true q309
         go_wp2
         repeat (go_quiet (fail); try go_wp2)
         go_roundg k1
         case measure => have := HK1.out; omega
         case rel => exact ⟨(wrap64 (x13_1 + 1)), Q3, H', ⟨Q55⟩, Q12⟩
        ·
         rw [if_neg c8] at H
         have c8b0 : ((rd l0 x13_1) == (rd l1 x13_1)) = false := beq_eq_false_iff_ne.mpr c8
         have c8b1 : ((rd l0 x13_1) != (rd l1 x13_1)) = true := bne_iff_ne.mpr c8
         obtain rfl := Option.some.inj H
         have p308 : 0 ≤ (x13_1 : Int) := of_decide_eq_true Q2
         have q308 : x13_1 < (l0.length : Int) := of_decide_eq_true Q2
         obtain ⟨ad308, e308, hx308_0⟩ := Kd.at_int HR0.out x13_1 p308 q308
         cases e308
         replace p308 := eq_true p308
         replace q308 := eq_true q308
         have p309 : 0 ≤ (x13_1 : Int) := of_decide_eq_true Q2
         have q309 : x13_1 < (l1.length : Int) := of_decide_eq_true Q2
         obtain ⟨ad309, e309, hx309_0⟩ := Kd.at_int HR1.out x13_1 p309 q309
         cases e309
         replace p309 := eq_true p309
         replace q309 := eq_true q309
         go_wp2
         repeat (go_quiet (fail); try go_wp2)
         go_ret
         exact ⟨Q3, Q12⟩
       ·
        rw [if_neg c7] at H
        exact absurd H (by simp)
      ·
       rw [if_neg c6] at H
       exact absurd H (by simp)
     ·
      rw [if_neg c5] at H
      exact absurd H (by simp)
    ·
     rw [if_neg c4] at H
     have c4b0 : decide (x13_1 < (l0.length : Int)) = false := decide_eq_false c4
     clear c4
     obtain rfl := Option.some.inj H
     go_wp2
     repeat (go_quiet (fail); try go_wp2)
     go_ret
     exact ⟨Q3, Q12⟩
 ·
  rw [if_neg c3] at H
  have c3b0 : ((l0.length : Int) == (l1.length : Int)) = false := beq_eq_false_iff_ne.mpr c3
  have c3b1 : ((l0.length : Int) != (l1.length : Int)) = true := bne_iff_ne.mpr c3
  have c3b2 : (l0.length == l1.length) = false := by first | simpa using c3 | (simp at c3 ⊢; omega)
  obtain rfl := Option.some.inj H
  go_enter Try.func25, Try.ntmps25
  go_wp2
  repeat (go_quiet (fail); try go_wp2)
  go_ret
  exact ⟨Q3, Q12⟩

/-! ### laws_rSameBoard: function 14 -/
def laws_rSameBoard.f (k : Nat) (a0_0 : Int) (a0_1 : Int) (l0_2 : List Int) (a1_0 : Int) (a1_1 : Int) (l1_2 : List Int) : Option (Bool) := if a0_0 = a1_0 then (if a0_1 = a1_1 then ((laws_rSame.f k l0_2 l1_2).bind fun t312 => (some t312)) else (some false)) else (some false)
set_option maxHeartbeats 8000000 in
set_option maxRecDepth 100000 in
theorem laws_rSameBoard.calls (k : Nat) (a0_0 : Int) (a0_1 : Int) (A0_2 : Option Addr) (c0_2 : Nat) (l0_2 : List Int) (a1_0 : Int) (a1_1 : Int) (A1_2 : Option Addr) (c1_2 : Nat) (l1_2 : List Int) (r : Bool) (w : World) (hr0_2 : Kd.C (Kd.int .i64) w A0_2 l0_2.length l0_2) (hc0_2 : l0_2.length ≤ c0_2) (hr1_2 : Kd.C (Kd.int .i64) w A1_2 l1_2.length l1_2) (hc1_2 : l1_2.length ≤ c1_2) (h : laws_rSameBoard.f k a0_0 a0_1 l0_2 a1_0 a1_1 l1_2 = some r) :
  Calls Try.prog 14 #[.agg #[.int .i64 a0_0, .int .i64 a0_1, .slice A0_2 l0_2.length c0_2], .agg #[.int .i64 a1_0, .int .i64 a1_1, .slice A1_2 l1_2.length c1_2]] w fun e w' => e = .returned (.bool r) ∧ Below w.heap.size w w' := by
 have hu26 := Try.underlying26
 have HR0_2 := Aside0.mk hr0_2
 have HC0_2 := Aside0.mk hc0_2
 clear hr0_2 hc0_2
 have HR1_2 := Aside0.mk hr1_2
 have HC1_2 := Aside0.mk hc1_2
 clear hr1_2 hc1_2
 have HB := am (Below.refl w.heap.size w)
 have H : (if a0_0 = a1_0 then (if a0_1 = a1_1 then ((laws_rSame.f k l0_2 l1_2).bind fun t312 => (some t312)) else (some false)) else (some false)) = some r := h
 clear h
 by_cases c3 : a0_0 = a1_0
 ·
  rw [if_pos c3] at H
  have c3b0 : (a0_0 == a1_0) = true := beq_iff_eq.mpr c3
  have c3b1 : (a0_0 != a1_0) = false := bne_eq_false_iff_eq.mpr c3
  clear c3
  by_cases c4 : a0_1 = a1_1
  ·
   rw [if_pos c4] at H
   have c4b0 : (a0_1 == a1_1) = true := beq_iff_eq.mpr c4
   have c4b1 : (a0_1 != a1_1) = false := bne_eq_false_iff_eq.mpr c4
   clear c4
   replace H := qE H
   obtain ⟨t312, A5, H⟩ := H
   replace H : (some t312) = some r := H
   obtain rfl := Option.some.inj H
   go_enter Try.func14, Try.ntmps14
   go_wp2_with (first | ((with_reducible refine gate_dst (N := 2) rfl ?_); refine qv 2 #[.int .i64 a0_0, .int .i64 a0_1, .slice A0_2 l0_2.length c0_2] 26 ?_; intro gb310 hg w6 hbox hb; have BK310 := am hbox; have GW310 := qw hg; have GE310 := qw hg; replace HB := qs hb; clear hb hbox hg) | ((with_reducible refine gate_dst (N := 3) rfl ?_); refine qv 3 #[.int .i64 a1_0, .int .i64 a1_1, .slice A1_2 l1_2.length c1_2] 26 ?_; intro gb311 hg w7 hbox hb; have BK311 := am hbox; have GW311 := qw hg; have GE311 := qw hg; have Nq2 := qn hg BK310; have Nq3 := qN hg BK310; replace BK310 := sqB BK310 hb; replace HB := qs hb; clear hb hbox hg; have bq7 := Nq2.out; have cq7 := Nq3.out; obtain ⟨zq39, zq40, zq41, fq39, fq40, fq41⟩ := qd BK310; obtain ⟨zq0, zq1, zq2, fq0, fq1, fq2⟩ := qd BK311) | (go_at_call 25; (with_reducible refine (laws_rSame.calls k _ _ l0_2 _ _ l1_2 t312 _ ?side1 HC0_2.out ?side3 HC1_2.out A5.out).mono ?_); (case side1 => exact Q0); (case side3 => exact Q6); rintro e w' ⟨rfl, ⟨nd, rfl⟩⟩))
   go_ret
   exact ⟨Q1, qb⟩
  ·
   rw [if_neg c4] at H
   have c4b0 : (a0_1 == a1_1) = false := beq_eq_false_iff_ne.mpr c4
   have c4b1 : (a0_1 != a1_1) = true := bne_iff_ne.mpr c4
   obtain rfl := Option.some.inj H
   go_enter Try.func14, Try.ntmps14
   go_wp2_with (first | ((with_reducible refine gate_dst (N := 2) rfl ?_); refine qv 2 #[.int .i64 a0_0, .int .i64 a0_1, .slice A0_2 l0_2.length c0_2] 26 ?_; intro gb310 hg w11 hbox hb; have BK310 := am hbox; have GW310 := qw hg; have GE310 := qw hg; replace HB := qs hb; clear hb hbox hg) | ((with_reducible refine gate_dst (N := 3) rfl ?_); refine qv 3 #[.int .i64 a1_0, .int .i64 a1_1, .slice A1_2 l1_2.length c1_2] 26 ?_; intro gb311 hg w12 hbox hb; have BK311 := am hbox; have GW311 := qw hg; have GE311 := qw hg; have Nq2 := qn hg BK310; have Nq3 := qN hg BK310; replace BK310 := sqB BK310 hb; replace HB := qs hb; clear hb hbox hg; have bq0 := Nq2.out; have cq0 := Nq3.out; obtain ⟨zq6, zq7, zq8, fq6, fq7, fq8⟩ := qd BK310; obtain ⟨zq9, zq10, zq11, fq9, fq10, fq11⟩ := qd BK311))
   go_ret
   exact ⟨Q1, qb⟩
 ·
  rw [if_neg c3] at H
  have c3b0 : (a0_0 == a1_0) = false := beq_eq_false_iff_ne.mpr c3
  have c3b1 : (a0_0 != a1_0) = true := bne_iff_ne.mpr c3
  obtain rfl := Option.some.inj H
  go_enter Try.func14, Try.ntmps14
  go_wp2_with (first | ((with_reducible refine gate_dst (N := 2) rfl ?_); refine qv 2 #[.int .i64 a0_0, .int .i64 a0_1, .slice A0_2 l0_2.length c0_2] 26 ?_; intro gb310 hg w16 hbox hb; have BK310 := am hbox; have GW310 := qw hg; have GE310 := qw hg; replace HB := qs hb; clear hb hbox hg) | ((with_reducible refine gate_dst (N := 3) rfl ?_); refine qv 3 #[.int .i64 a1_0, .int .i64 a1_1, .slice A1_2 l1_2.length c1_2] 26 ?_; intro gb311 hg w17 hbox hb; have BK311 := am hbox; have GW311 := qw hg; have GE311 := qw hg; have Nq2 := qn hg BK310; have Nq3 := qN hg BK310; replace BK310 := sqB BK310 hb; replace HB := qs hb; clear hb hbox hg; have bq2 := Nq2.out; have cq2 := Nq3.out; obtain ⟨zq12, zq13, zq14, fq12, fq13, fq14⟩ := qd BK310; obtain ⟨zq15, zq16, zq17, fq15, fq16, fq17⟩ := qd BK311))
  go_ret
  exact ⟨Q1, qb⟩

/-! ### impl_Board_has: function 120 -/
def impl_Board_has.f (a0_0 : Int) (a0_1 : Int) (l0_2 : List Int) (a1 : Int) (a2 : Int) : Option (Bool) := if 0 ≤ a1 then (if a1 < (l0_2.length : Int) then (if 0 ≤ a2 then (some ((Go.bits .and .i64 (shr .i64 (rd l0_2 a1) a2) 1) == 1)) else (none)) else (none)) else (none)
set_option maxHeartbeats 8000000 in
set_option maxRecDepth 100000 in
theorem impl_Board_has.calls (a0_0 : Int) (a0_1 : Int) (A0_2 : Option Addr) (c0_2 : Nat) (l0_2 : List Int) (a1 : Int) (a2 : Int) (r : Bool) (w : World) (hr0_2 : Kd.C (Kd.int .i64) w A0_2 l0_2.length l0_2) (hc0_2 : l0_2.length ≤ c0_2) (h : impl_Board_has.f a0_0 a0_1 l0_2 a1 a2 = some r) :
  Calls Try.prog 120 #[.agg #[.int .i64 a0_0, .int .i64 a0_1, .slice A0_2 l0_2.length c0_2], .int .i64 a1, .int .i64 a2] w fun e w' => e = .returned (.bool r) ∧ Below w.heap.size w w' := by
 have hu26 := Try.underlying26
 have HR0_2 := Aside0.mk hr0_2
 have HC0_2 := Aside0.mk hc0_2
 clear hr0_2 hc0_2
 have HB := am (Below.refl w.heap.size w)
 have H : (if 0 ≤ a1 then (if a1 < (l0_2.length : Int) then (if 0 ≤ a2 then (some ((Go.bits .and .i64 (shr .i64 (rd l0_2 a1) a2) 1) == 1)) else (none)) else (none)) else (none)) = some r := h
 clear h
 by_cases c4 : 0 ≤ a1
 ·
  rw [if_pos c4] at H
  have c4b0 : decide (0 ≤ a1) = true := decide_eq_true c4
  clear c4
  by_cases c5 : a1 < (l0_2.length : Int)
  ·
   rw [if_pos c5] at H
   have c5b0 : decide (a1 < (l0_2.length : Int)) = true := decide_eq_true c5
   clear c5
   by_cases c6 : 0 ≤ a2
   ·
    rw [if_pos c6] at H
    have c6b0 := eq_true c6
    have c6b1 : decide (0 ≤ a2) = true := decide_eq_true c6
    clear c6
    obtain ⟨ji7, hji7⟩ : ∃ j_ : Int, (shr .i64 (rd l0_2 a1) a2) = j_ := ⟨_, rfl⟩
    replace H : (some ((Go.bits .and .i64 (ji7) 1) == 1)) = some r := by first | (rw [hji7] at H; exact H) | (simp only [hji7] at H ⊢; exact H)
    have hji7_ : ((rd l0_2 a1) / 2 ^ min a2.toNat 64) = ji7 := hji7
    have hji7z : a2 ≤ 64 → ((rd l0_2 a1) / 2 ^ a2.toNat) = ji7 := shr_small hji7
    obtain rfl := Option.some.inj H
    go_enter Try.func120, Try.ntmps120
    go_wp2_with (first | ((with_reducible refine gate_dst (N := 3) rfl ?_); refine qv 3 #[.int .i64 a0_0, .int .i64 a0_1, .slice A0_2 l0_2.length c0_2] 26 ?_; intro gb313 hg w8 hbox hb; have BK313 := am hbox; have GW313 := qw hg; have GE313 := qw hg; replace HB := qs hb; clear hb hbox hg; obtain ⟨zq39, zq40, zq41, fq39, fq40, fq41⟩ := qd BK313; have p314 : 0 ≤ (a1 : Int) := of_decide_eq_true Q2; have q314 : a1 < (l0_2.length : Int) := of_decide_eq_true Q2; obtain ⟨ad314, e314, hx314_0⟩ := Kd.at_int HR0_2.out a1 p314 q314; cases e314; replace hx314_0 := (HB.out.cell (World.block_lt_of_cell? w _ hx314_0)).trans hx314_0; replace p314 := eq_true p314; replace q314 := eq_true q314))
    go_ret
    exact ⟨by first | rfl | (simp [errW_none, errW_some] <;> rfl) | (simp only [← hji7]; first | rfl | (simp [errW_none, errW_some] <;> rfl)) | (simp [*, errW_none, errW_some] <;> rfl), qb⟩
   ·
    rw [if_neg c6] at H
    exact absurd H (by simp)
  ·
   rw [if_neg c5] at H
   exact absurd H (by simp)
 ·
  rw [if_neg c4] at H
  exact absurd H (by simp)

end Go.Proofs.Ytllhofdgbpnkkaa.PFnBoardsJoined
