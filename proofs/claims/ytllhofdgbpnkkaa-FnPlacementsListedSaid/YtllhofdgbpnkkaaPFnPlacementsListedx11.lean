-- Printed for this claim by wip/pp.py over the kit's printer; Lean checks it.
import Derived.Test.YtllhofdgbpnkkaaPFnPlacementsListedx0
import Derived.Test.YtllhofdgbpnkkaaPFnPlacementsListedx1
import Derived.Test.YtllhofdgbpnkkaaPFnPlacementsListedx10
namespace Go.Proofs.Ytllhofdgbpnkkaa.PFnPlacementsListed
open Go.RowKit Go.Proofs.YtllhofdgbpnkkaaW.PrintWords Go.Proofs.YtllhofdgbpnkkaaW.PrintLast Go.Proofs.YtllhofdgbpnkkaaW.PrintMore
attribute [local go_sem] max2_int min2_int max_two min_two max_three min_three max_four min_four   -- for this text's walks alone
set_option linter.unusedVariables false
set_option linter.unusedSimpArgs false

/-! ### impl_Board_isPlacement: function 110 -/
def impl_Board_isPlacement.l0 : Nat → List Int → List Int → Int → Int → Int → Int → List Int → Option (Bool)
 | 0, _, _, _, _, _, _, _ => none
 | k + 1, x1, x12, x13, x14, x376000, x376001, x376002 => if x14 < x13 then (if 0 ≤ x14 then (if x14 < (x12.length : Int) then (if (rd x12 x14) = (-1) then (impl_Board_isPlacement.l0 k x1 x12 x13 (wrap64 (x14 + 1)) x376000 x376001 x376002) else ((impl_Board_place.f x376000 x376001 x376002 x14 (rd x12 x14)).bind fun t377 => (if t377 = true then ((impl_Board_has.f x376000 x376001 x376002 x14 (rd x12 x14)).bind fun t378 => (if t378 = true then (if x14 ≤ (x1.length : Int) then ((slices_Contains_int_int.f k (x1.take (x14 : Int).toNat) (rd x12 x14)).bind fun t380 => (if t380 = true then (some false) else (impl_Board_isPlacement.l0 k x1 x12 x13 (wrap64 (x14 + 1)) x376000 x376001 x376002))) else (none)) else (some false))) else (some false)))) else (none)) else (none)) else (some true)
def impl_Board_isPlacement.f (k : Nat) (a0_0 : Int) (a0_1 : Int) (l0_2 : List Int) (l1 : List Int) : Option (Bool) := if (l1.length : Int) = a0_0 then (impl_Board_isPlacement.l0 k l1 l1 (l1.length : Int) 0 a0_0 a0_1 l0_2) else (some false)
set_option maxHeartbeats 8000000 in
set_option maxRecDepth 100000 in
theorem impl_Board_isPlacement.calls (k : Nat) (a0_0 : Int) (a0_1 : Int) (A0_2 : Option Addr) (c0_2 : Nat) (l0_2 : List Int) (A1 : Option Addr) (c1 : Nat) (l1 : List Int) (r : Bool) (w : World) (hr0_2 : Kd.C (Kd.int .i64) w A0_2 l0_2.length l0_2) (hc0_2 : l0_2.length ≤ c0_2) (hr1 : Kd.C (Kd.int .i64) w A1 l1.length l1) (hc1 : l1.length ≤ c1) (h : impl_Board_isPlacement.f k a0_0 a0_1 l0_2 l1 = some r) :
  Calls Try.prog 110 #[.agg #[.int .i64 a0_0, .int .i64 a0_1, .slice A0_2 l0_2.length c0_2], .slice A1 l1.length c1] w fun e w' => e = .returned (.bool r) ∧ Below w.heap.size w w' := by
 have hu26 := Try.underlying26
 have HR0_2 := Aside0.mk hr0_2
 have HC0_2 := Aside0.mk hc0_2
 clear hr0_2 hc0_2
 have HR1 := Aside0.mk hr1
 have HC1 := Aside0.mk hc1
 clear hr1 hc1
 have HB := am (Below.refl w.heap.size w)
 have H : (if (l1.length : Int) = a0_0 then (impl_Board_isPlacement.l0 k l1 l1 (l1.length : Int) 0 a0_0 a0_1 l0_2) else (some false)) = some r := h
 clear h
 by_cases c3 : (l1.length : Int) = a0_0
 ·
  rw [if_pos c3] at H
  have c3b0 : ((l1.length : Int) == a0_0) = true := beq_iff_eq.mpr c3
  have c3b1 : ((l1.length : Int) != a0_0) = false := bne_eq_false_iff_eq.mpr c3
  clear c3
  have H' := Aside0.mk H
  clear H
  go_enter Try.func110, Try.ntmps110
  go_wp2_with (first | ((with_reducible refine gate_dst (N := 2) rfl ?_); refine qv 2 #[.int .i64 a0_0, .int .i64 a0_1, .slice A0_2 l0_2.length c0_2] 26 ?_; intro gb375 hg w4 hbox hb; have BK375 := am hbox; have GW375 := qw hg; have GE375 := qw hg; replace HB := qs hb; clear hb hbox hg; obtain ⟨zq27, zq28, zq29, fq27, fq28, fq29⟩ := qd BK375))
  go_loopg [14] k (fun kq v14 w' => ∃ (x14_1 : Int), v14 = .int .i64 x14_1 ∧ Aside0 (impl_Board_isPlacement.l0 kq l1 l1 (l1.length : Int) x14_1 a0_0 a0_1 l0_2 = some r) ∧ Aside0 (kq ≤ k) ∧ Aside0 (w'.heap[gb375]? = some (.cells #[.int .i64 a0_0, .int .i64 a0_1, (.slice A0_2 l0_2.length c0_2)] 26 (0, 0))) ∧ Aside0 (Below w.heap.size w w'))
  case atStart => exact ⟨(0), Q3, H', ⟨Nat.le_refl _⟩, ⟨Q50⟩, ⟨qb⟩⟩
  case round =>
   clear H'
   try clear c3; try clear c3b0; try clear c3b1; try clear zq27; try clear zq28; try clear zq29; try clear fq27; try clear fq28; try clear fq29
   obtain ⟨x14_1, rfl, HA, HK1, BK375, HB⟩ := hrel
   cases gk with
   | zero => exact absurd HA.out (by simp [impl_Board_isPlacement.l0])
   | succ k1 =>
    have H := HA.out
    clear HA
    simp only [impl_Board_isPlacement.l0] at H
    by_cases c6 : x14_1 < (l1.length : Int)
    ·
     rw [if_pos c6] at H
     have c6b0 : decide (x14_1 < (l1.length : Int)) = true := decide_eq_true c6
     clear c6
     by_cases c7 : 0 ≤ x14_1
     ·
      rw [if_pos c7] at H
      have c7b0 : decide (0 ≤ x14_1) = true := decide_eq_true c7
      clear c7
      by_cases c8 : x14_1 < (l1.length : Int)
      ·
       rw [if_pos c8] at H
       have c8b0 : decide (x14_1 < (l1.length : Int)) = true := decide_eq_true c8
       clear c8
       by_cases c9 : (rd l1 x14_1) = (-1)
       ·
        rw [if_pos c9] at H
        have c9b0 : ((rd l1 x14_1) == (-1)) = true := beq_iff_eq.mpr c9
        have c9b1 : ((rd l1 x14_1) != (-1)) = false := bne_eq_false_iff_eq.mpr c9
        clear c9
        have H' := Aside0.mk H
        clear H
        have p376 : 0 ≤ (x14_1 : Int) := of_decide_eq_true Q1
        have q376 : x14_1 < (l1.length : Int) := of_decide_eq_true Q1
        obtain ⟨ad376, e376, hx376_0⟩ := Kd.at_int HR1.out x14_1 p376 q376
        cases e376
        replace hx376_0 := (HB.out.cell (World.block_lt_of_cell? w _ hx376_0)).trans hx376_0
        replace p376 := eq_true p376
        replace q376 := eq_true q376
        go_wp2
        go_roundg k1
        case measure => have := HK1.out; omega
        case rel => exact ⟨(wrap64 (x14_1 + 1)), Q3, H', ⟨Q42⟩, ⟨Q50⟩, ⟨qb⟩⟩
       ·
        rw [if_neg c9] at H
        have c9b0 : ((rd l1 x14_1) == (-1)) = false := beq_eq_false_iff_ne.mpr c9
        have c9b1 : ((rd l1 x14_1) != (-1)) = true := bne_iff_ne.mpr c9
        replace H := qE H
        obtain ⟨t377, A10, H⟩ := H
        replace H : (if t377 = true then ((impl_Board_has.f a0_0 a0_1 l0_2 x14_1 (rd l1 x14_1)).bind fun t378 => (if t378 = true then (if x14_1 ≤ (l1.length : Int) then ((slices_Contains_int_int.f k1 (l1.take (x14_1 : Int).toNat) (rd l1 x14_1)).bind fun t380 => (if t380 = true then (some false) else (impl_Board_isPlacement.l0 k1 l1 l1 (l1.length : Int) (wrap64 (x14_1 + 1)) a0_0 a0_1 l0_2))) else (none)) else (some false))) else (some false)) = some r := H
        by_cases c11 : t377 = true
        ·
         subst c11
         have H1 : ((impl_Board_has.f a0_0 a0_1 l0_2 x14_1 (rd l1 x14_1)).bind fun t378 => (if t378 = true then (if x14_1 ≤ (l1.length : Int) then ((slices_Contains_int_int.f k1 (l1.take (x14_1 : Int).toNat) (rd l1 x14_1)).bind fun t380 => (if t380 = true then (some false) else (impl_Board_isPlacement.l0 k1 l1 l1 (l1.length : Int) (wrap64 (x14_1 + 1)) a0_0 a0_1 l0_2))) else (none)) else (some false))) = some r := by first | (rw [if_pos rfl] at H; exact H) | rfl
         clear H
         have H := H1
         clear H1
         replace H := qE H
         obtain ⟨t378, A12, H⟩ := H
         replace H : (if t378 = true then (if x14_1 ≤ (l1.length : Int) then ((slices_Contains_int_int.f k1 (l1.take (x14_1 : Int).toNat) (rd l1 x14_1)).bind fun t380 => (if t380 = true then (some false) else (impl_Board_isPlacement.l0 k1 l1 l1 (l1.length : Int) (wrap64 (x14_1 + 1)) a0_0 a0_1 l0_2))) else (none)) else (some false)) = some r := H
         by_cases c13 : t378 = true
         ·
          subst c13
          have H1 : (if x14_1 ≤ (l1.length : Int) then ((slices_Contains_int_int.f k1 (l1.take (x14_1 : Int).toNat) (rd l1 x14_1)).bind fun t380 => (if t380 = true then (some false) else (impl_Board_isPlacement.l0 k1 l1 l1 (l1.length : Int) (wrap64 (x14_1 + 1)) a0_0 a0_1 l0_2))) else (none)) = some r := by first | (rw [if_pos rfl] at H; exact H) | rfl
          clear H
          have H := H1
          clear H1
          have c14b0 := eq_true (of_decide_eq_true Q1 : 0 ≤ x14_1)
          by_cases c15 : x14_1 ≤ (l1.length : Int)
          ·
           rw [if_pos c15] at H
           have c15b0 := eq_true c15
           have c15b1 : decide (x14_1 ≤ (l1.length : Int)) = true := decide_eq_true c15
           clear c15
           replace H := qE H
           obtain ⟨t380, A16, H⟩ := H
           replace H : (if t380 = true then (some false) else (impl_Board_isPlacement.l0 k1 l1 l1 (l1.length : Int) (wrap64 (x14_1 + 1)) a0_0 a0_1 l0_2)) = some r := H
           by_cases c17 : t380 = true
           ·
            subst c17
            have H1 : (some false) = some r := by first | (rw [if_pos rfl] at H; exact H) | rfl
            clear H
            have H := H1
            clear H1
            obtain rfl := Option.some.inj H
            have p376 : 0 ≤ (x14_1 : Int) := of_decide_eq_true Q1
            have q376 : x14_1 < (l1.length : Int) := of_decide_eq_true Q1
            obtain ⟨ad376, e376, hx376_0⟩ := Kd.at_int HR1.out x14_1 p376 q376
            cases e376
            replace hx376_0 := (HB.out.cell (World.block_lt_of_cell? w _ hx376_0)).trans hx376_0
            replace p376 := eq_true p376
            replace q376 := eq_true q376
            obtain ⟨zq3, zq4, zq5, fq3, fq4, fq5⟩ := qd BK375
            go_wp2_with (first | ((with_reducible refine gate_callee (f := 67) rfl ?_); refine qg (some 24) Try.func67 #[.agg #[.int .i64 a0_0, .int .i64 a0_1, .slice A0_2 l0_2.length c0_2], .int .i64 x14_1, .int .i64 (rd l1 x14_1)] ?_; (with_reducible refine (impl_Board_place.calls a0_0 a0_1 _ _ l0_2 x14_1 (rd l1 x14_1) true _ ?side1 HC0_2.out A10.out).mono ?_); (case side1 => exact Q0); rintro e w19 ⟨rfl, hb⟩; refine ⟨_, rfl, ?_⟩; replace BK375 := sqB BK375 hb; replace HB := qs hb; (try clear hb); obtain ⟨zq6, zq7, zq8, fq6, fq7, fq8⟩ := qd BK375) | (go_at_call 120; (with_reducible refine (impl_Board_has.calls a0_0 a0_1 _ _ l0_2 x14_1 (rd l1 x14_1) true _ ?side1 HC0_2.out A12.out).mono ?_); (case side1 => exact Q0); rintro e w21 ⟨rfl, hb⟩; replace BK375 := sqB BK375 hb; replace HB := qs hb; (try clear hb); obtain ⟨i022, hi022, _, hsz22, _⟩ := info_parts info3; obtain ⟨hcut22, hA22, hC22⟩ := print_take_of (P := Try.prog) (Value.int .i64) 0 24 3 .i64 Try.underlying24 hi022 hsz22 (some ad376) c1 l1 x14_1 (of_decide_eq_true Q1) (of_decide_eq_true Q1) HC1.out; have HR379 := am (Kd.C_of_reads (h1 := fun _ => rfl) (hA22 _ (Kd.reads_of_C HR1.out))); have HC379 := Aside0.mk hC22; clear hA22 hC22 hi022 hsz22) | (go_at_call 135; (try (have hh_ : (x14_1 : Int) ≤ (l1.length : Int) := of_decide_eq_true Q1; rw [show (x14_1 : Int).toNat = (l1.take (x14_1 : Int).toNat).length from (by rw [List.length_take]; omega)]; clear hh_)); (with_reducible refine (slices_Contains_int_int.calls k1 _ _ (l1.take (x14_1 : Int).toNat) (rd l1 x14_1) true _ ?side1 HC379.out A16.out).mono ?_); (case side1 => repeat (first | exact (Kd.C_below HR379.out HB.out) | (with_reducible first | refine Kd.C_alloc ?_ _ | refine Kd.C_drewN ?_ _ | refine Kd.C_drew ?_))); rintro e w' ⟨rfl, ⟨nd, rfl⟩⟩))
            go_ret
            exact ⟨Q2, qb⟩
           ·
            replace c17 := Bool.eq_false_iff.mpr c17
            subst c17
            have H1 : (impl_Board_isPlacement.l0 k1 l1 l1 (l1.length : Int) (wrap64 (x14_1 + 1)) a0_0 a0_1 l0_2) = some r := by first | (rw [if_neg (show ¬ (false = true) by decide)] at H; exact H) | rfl
            clear H
            have H := H1
            clear H1
            have H' := Aside0.mk H
            clear H
            have p376 : 0 ≤ (x14_1 : Int) := of_decide_eq_true Q1
            have q376 : x14_1 < (l1.length : Int) := of_decide_eq_true Q1
            obtain ⟨ad376, e376, hx376_0⟩ := Kd.at_int HR1.out x14_1 p376 q376
            cases e376
            replace hx376_0 := (HB.out.cell (World.block_lt_of_cell? w _ hx376_0)).trans hx376_0
            replace p376 := eq_true p376
            replace q376 := eq_true q376
            obtain ⟨zq9, zq10, zq11, fq9, fq10, fq11⟩ := qd BK375
            go_wp2_with (first | ((with_reducible refine gate_callee (f := 67) rfl ?_); refine qg (some 24) Try.func67 #[.agg #[.int .i64 a0_0, .int .i64 a0_1, .slice A0_2 l0_2.length c0_2], .int .i64 x14_1, .int .i64 (rd l1 x14_1)] ?_; (with_reducible refine (impl_Board_place.calls a0_0 a0_1 _ _ l0_2 x14_1 (rd l1 x14_1) true _ ?side1 HC0_2.out A10.out).mono ?_); (case side1 => exact Q0); rintro e w24 ⟨rfl, hb⟩; refine ⟨_, rfl, ?_⟩; replace BK375 := sqB BK375 hb; replace HB := qs hb; (try clear hb); obtain ⟨zq12, zq13, zq14, fq12, fq13, fq14⟩ := qd BK375) | (go_at_call 120; (with_reducible refine (impl_Board_has.calls a0_0 a0_1 _ _ l0_2 x14_1 (rd l1 x14_1) true _ ?side1 HC0_2.out A12.out).mono ?_); (case side1 => exact Q0); rintro e w26 ⟨rfl, hb⟩; replace BK375 := sqB BK375 hb; replace HB := qs hb; (try clear hb); obtain ⟨i027, hi027, _, hsz27, _⟩ := info_parts info3; obtain ⟨hcut27, hA27, hC27⟩ := print_take_of (P := Try.prog) (Value.int .i64) 0 24 3 .i64 Try.underlying24 hi027 hsz27 (some ad376) c1 l1 x14_1 (of_decide_eq_true Q1) (of_decide_eq_true Q1) HC1.out; have HR379 := am (Kd.C_of_reads (h1 := fun _ => rfl) (hA27 _ (Kd.reads_of_C HR1.out))); have HC379 := Aside0.mk hC27; clear hA27 hC27 hi027 hsz27) | (go_at_call 135; (try (have hh_ : (x14_1 : Int) ≤ (l1.length : Int) := of_decide_eq_true Q1; rw [show (x14_1 : Int).toNat = (l1.take (x14_1 : Int).toNat).length from (by rw [List.length_take]; omega)]; clear hh_)); (with_reducible refine (slices_Contains_int_int.calls k1 _ _ (l1.take (x14_1 : Int).toNat) (rd l1 x14_1) false _ ?side1 HC379.out A16.out).mono ?_); (case side1 => repeat (first | exact (Kd.C_below HR379.out HB.out) | (with_reducible first | refine Kd.C_alloc ?_ _ | refine Kd.C_drewN ?_ _ | refine Kd.C_drew ?_))); rintro e w' ⟨rfl, ⟨nd, rfl⟩⟩))
            go_roundg k1
            case measure => have := HK1.out; omega
            case rel => exact ⟨(wrap64 (x14_1 + 1)), Q3, H', ⟨Q42⟩, ⟨Q50⟩, ⟨qb⟩⟩
          ·
           rw [if_neg c15] at H
           exact absurd H (by simp)
         ·
          replace c13 := Bool.eq_false_iff.mpr c13
          subst c13
          have H1 : (some false) = some r := by first | (rw [if_neg (show ¬ (false = true) by decide)] at H; exact H) | rfl
          clear H
          have H := H1
          clear H1
          obtain rfl := Option.some.inj H
          have p376 : 0 ≤ (x14_1 : Int) := of_decide_eq_true Q1
          have q376 : x14_1 < (l1.length : Int) := of_decide_eq_true Q1
          obtain ⟨ad376, e376, hx376_0⟩ := Kd.at_int HR1.out x14_1 p376 q376
          cases e376
          replace hx376_0 := (HB.out.cell (World.block_lt_of_cell? w _ hx376_0)).trans hx376_0
          replace p376 := eq_true p376
          replace q376 := eq_true q376
          obtain ⟨zq15, zq16, zq17, fq15, fq16, fq17⟩ := qd BK375
          go_wp2_with (first | ((with_reducible refine gate_callee (f := 67) rfl ?_); refine qg (some 24) Try.func67 #[.agg #[.int .i64 a0_0, .int .i64 a0_1, .slice A0_2 l0_2.length c0_2], .int .i64 x14_1, .int .i64 (rd l1 x14_1)] ?_; (with_reducible refine (impl_Board_place.calls a0_0 a0_1 _ _ l0_2 x14_1 (rd l1 x14_1) true _ ?side1 HC0_2.out A10.out).mono ?_); (case side1 => exact Q0); rintro e w29 ⟨rfl, hb⟩; refine ⟨_, rfl, ?_⟩; replace BK375 := sqB BK375 hb; replace HB := qs hb; (try clear hb); obtain ⟨zq18, zq19, zq20, fq18, fq19, fq20⟩ := qd BK375) | (go_at_call 120; (with_reducible refine (impl_Board_has.calls a0_0 a0_1 _ _ l0_2 x14_1 (rd l1 x14_1) false _ ?side1 HC0_2.out A12.out).mono ?_); (case side1 => exact Q0); rintro e w31 ⟨rfl, hb⟩; replace BK375 := sqB BK375 hb; replace HB := qs hb; (try clear hb)))
          go_ret
          exact ⟨Q2, qb⟩
        ·
         replace c11 := Bool.eq_false_iff.mpr c11
         subst c11
         have H1 : (some false) = some r := by first | (rw [if_neg (show ¬ (false = true) by decide)] at H; exact H) | rfl
         clear H
         have H := H1
         clear H1
         obtain rfl := Option.some.inj H
         have p376 : 0 ≤ (x14_1 : Int) := of_decide_eq_true Q1
         have q376 : x14_1 < (l1.length : Int) := of_decide_eq_true Q1
         obtain ⟨ad376, e376, hx376_0⟩ := Kd.at_int HR1.out x14_1 p376 q376
         cases e376
         replace hx376_0 := (HB.out.cell (World.block_lt_of_cell? w _ hx376_0)).trans hx376_0
         replace p376 := eq_true p376
         replace q376 := eq_true q376
         obtain ⟨zq21, zq22, zq23, fq21, fq22, fq23⟩ := qd BK375
         go_wp2_with (first | ((with_reducible refine gate_callee (f := 67) rfl ?_); refine qg (some 24) Try.func67 #[.agg #[.int .i64 a0_0, .int .i64 a0_1, .slice A0_2 l0_2.length c0_2], .int .i64 x14_1, .int .i64 (rd l1 x14_1)] ?_; (with_reducible refine (impl_Board_place.calls a0_0 a0_1 _ _ l0_2 x14_1 (rd l1 x14_1) false _ ?side1 HC0_2.out A10.out).mono ?_); (case side1 => exact Q0); rintro e w33 ⟨rfl, hb⟩; refine ⟨_, rfl, ?_⟩; replace BK375 := sqB BK375 hb; replace HB := qs hb; (try clear hb)))
         go_ret
         exact ⟨Q2, qb⟩
      ·
       rw [if_neg c8] at H
       exact absurd H (by simp)
     ·
      rw [if_neg c7] at H
      exact absurd H (by simp)
    ·
     rw [if_neg c6] at H
     have c6b0 : decide (x14_1 < (l1.length : Int)) = false := decide_eq_false c6
     clear c6
     obtain rfl := Option.some.inj H
     go_wp2
     go_ret
     exact ⟨Q2, qb⟩
 ·
  rw [if_neg c3] at H
  have c3b0 : ((l1.length : Int) == a0_0) = false := beq_eq_false_iff_ne.mpr c3
  have c3b1 : ((l1.length : Int) != a0_0) = true := bne_iff_ne.mpr c3
  obtain rfl := Option.some.inj H
  go_enter Try.func110, Try.ntmps110
  go_wp2_with (first | ((with_reducible refine gate_dst (N := 2) rfl ?_); refine qv 2 #[.int .i64 a0_0, .int .i64 a0_1, .slice A0_2 l0_2.length c0_2] 26 ?_; intro gb375 hg w34 hbox hb; have BK375 := am hbox; have GW375 := qw hg; have GE375 := qw hg; replace HB := qs hb; clear hb hbox hg; obtain ⟨zq24, zq25, zq26, fq24, fq25, fq26⟩ := qd BK375))
  go_ret
  exact ⟨Q2, qb⟩

/-! ### impl_IsPlacement: function 108 -/
def impl_IsPlacement.f (k : Nat) (a0_0 : Int) (a0_1 : Int) (l0_2 : List Int) (l1 : List Int) : Option (Bool × Bool) := (impl_IsBoard.f a0_0 a0_1 l0_2).bind fun t382 => (if t382 = true then ((impl_Board_isPlacement.f k a0_0 a0_1 l0_2 l1).bind fun t383 => (some (t383, true))) else (some (false, false)))
set_option maxHeartbeats 8000000 in
set_option maxRecDepth 100000 in
theorem impl_IsPlacement.calls (k : Nat) (a0_0 : Int) (a0_1 : Int) (A0_2 : Option Addr) (c0_2 : Nat) (l0_2 : List Int) (A1 : Option Addr) (c1 : Nat) (l1 : List Int) (r1 : Bool) (r2 : Bool) (w : World) (hr0_2 : Kd.C (Kd.int .i64) w A0_2 l0_2.length l0_2) (hc0_2 : l0_2.length ≤ c0_2) (hr1 : Kd.C (Kd.int .i64) w A1 l1.length l1) (hc1 : l1.length ≤ c1) (h : impl_IsPlacement.f k a0_0 a0_1 l0_2 l1 = some (r1, r2)) :
  Calls Try.prog 108 #[.agg #[.int .i64 a0_0, .int .i64 a0_1, .slice A0_2 l0_2.length c0_2], .slice A1 l1.length c1] w fun e w' => e = .returned (.tuple #[.bool r1, .bool r2]) ∧ Below w.heap.size w w' := by
 have hu26 := Try.underlying26
 have HR0_2 := Aside0.mk hr0_2
 have HC0_2 := Aside0.mk hc0_2
 clear hr0_2 hc0_2
 have HR1 := Aside0.mk hr1
 have HC1 := Aside0.mk hc1
 clear hr1 hc1
 have HB := am (Below.refl w.heap.size w)
 have H : ((impl_IsBoard.f a0_0 a0_1 l0_2).bind fun t382 => (if t382 = true then ((impl_Board_isPlacement.f k a0_0 a0_1 l0_2 l1).bind fun t383 => (some (t383, true))) else (some (false, false)))) = some (r1, r2) := h
 clear h
 replace H := qE H
 obtain ⟨t382, A3, H⟩ := H
 replace H : (if t382 = true then ((impl_Board_isPlacement.f k a0_0 a0_1 l0_2 l1).bind fun t383 => (some (t383, true))) else (some (false, false))) = some (r1, r2) := H
 by_cases c4 : t382 = true
 ·
  subst c4
  have H1 : ((impl_Board_isPlacement.f k a0_0 a0_1 l0_2 l1).bind fun t383 => (some (t383, true))) = some (r1, r2) := by first | (rw [if_pos rfl] at H; exact H) | rfl
  clear H
  have H := H1
  clear H1
  replace H := qE H
  obtain ⟨t383, A5, H⟩ := H
  replace H : (some (t383, true)) = some (r1, r2) := H
  simp only [Option.some.injEq, Prod.mk.injEq] at H
  obtain ⟨rfl, rfl⟩ := H
  go_enter Try.func108, Try.ntmps108
  go_wp2_with (first | ((with_reducible refine gate_dst (N := 2) rfl ?_); refine qv 2 #[.int .i64 a0_0, .int .i64 a0_1, .slice A0_2 l0_2.length c0_2] 26 ?_; intro gb381 hg w6 hbox hb; have BK381 := am hbox; have GW381 := qw hg; have GE381 := qw hg; replace HB := qs hb; clear hb hbox hg; obtain ⟨zq33, zq34, zq35, fq33, fq34, fq35⟩ := qd BK381) | ((with_reducible refine gate_callee (f := 66) rfl ?_); refine qg (some 7) Try.func66 #[.agg #[.int .i64 a0_0, .int .i64 a0_1, .slice A0_2 l0_2.length c0_2]] ?_; (with_reducible refine (impl_IsBoard.calls a0_0 a0_1 _ _ l0_2 true _ ?side1 HC0_2.out A3.out).mono ?_); (case side1 => exact Q0); rintro e w8 ⟨rfl, hb⟩; refine ⟨_, rfl, ?_⟩; replace BK381 := sqB BK381 hb; replace HB := qs hb; (try clear hb); obtain ⟨zq36, zq37, zq38, fq36, fq37, fq38⟩ := qd BK381) | ((with_reducible refine gate_callee (f := 110) rfl ?_); refine qg (some 11) Try.func110 #[.agg #[.int .i64 a0_0, .int .i64 a0_1, .slice A0_2 l0_2.length c0_2], .slice A1 l1.length c1] ?_; (with_reducible refine (impl_Board_isPlacement.calls k a0_0 a0_1 _ _ l0_2 _ _ l1 t383 _ ?side1 HC0_2.out ?side3 HC1.out A5.out).mono ?_); (case side1 => exact Q0); (case side3 => exact Q10); rintro e w10 ⟨rfl, hb⟩; refine ⟨_, rfl, ?_⟩; replace BK381 := sqB BK381 hb; replace HB := qs hb; (try clear hb)))
  go_ret2
  exact ⟨Q2, qb⟩
 ·
  replace c4 := Bool.eq_false_iff.mpr c4
  subst c4
  have H1 : (some (false, false)) = some (r1, r2) := by first | (rw [if_neg (show ¬ (false = true) by decide)] at H; exact H) | rfl
  clear H
  have H := H1
  clear H1
  simp only [Option.some.injEq, Prod.mk.injEq] at H
  obtain ⟨rfl, rfl⟩ := H
  go_enter Try.func108, Try.ntmps108
  go_wp2_with (first | ((with_reducible refine gate_dst (N := 2) rfl ?_); refine qv 2 #[.int .i64 a0_0, .int .i64 a0_1, .slice A0_2 l0_2.length c0_2] 26 ?_; intro gb381 hg w11 hbox hb; have BK381 := am hbox; have GW381 := qw hg; have GE381 := qw hg; replace HB := qs hb; clear hb hbox hg; obtain ⟨zq0, zq1, zq2, fq0, fq1, fq2⟩ := qd BK381) | ((with_reducible refine gate_callee (f := 66) rfl ?_); refine qg (some 7) Try.func66 #[.agg #[.int .i64 a0_0, .int .i64 a0_1, .slice A0_2 l0_2.length c0_2]] ?_; (with_reducible refine (impl_IsBoard.calls a0_0 a0_1 _ _ l0_2 false _ ?side1 HC0_2.out A3.out).mono ?_); (case side1 => exact Q0); rintro e w13 ⟨rfl, hb⟩; refine ⟨_, rfl, ?_⟩; replace BK381 := sqB BK381 hb; replace HB := qs hb; (try clear hb)))
  go_ret2
  exact ⟨Q2, qb⟩

/-! ### laws_rPlaced: function 44 -/
def laws_rPlaced.f (k : Nat) (a0_0 : Int) (a0_1 : Int) (l0_2 : List Int) (l1 : List Int) : Option (Bool) := (impl_IsPlacement.f k a0_0 a0_1 l0_2 l1).bind fun bt385 => (if bt385.2 = true then (some bt385.1) else (some false))
set_option maxHeartbeats 8000000 in
set_option maxRecDepth 100000 in
theorem laws_rPlaced.calls (k : Nat) (a0_0 : Int) (a0_1 : Int) (A0_2 : Option Addr) (c0_2 : Nat) (l0_2 : List Int) (A1 : Option Addr) (c1 : Nat) (l1 : List Int) (r : Bool) (w : World) (hr0_2 : Kd.C (Kd.int .i64) w A0_2 l0_2.length l0_2) (hc0_2 : l0_2.length ≤ c0_2) (hr1 : Kd.C (Kd.int .i64) w A1 l1.length l1) (hc1 : l1.length ≤ c1) (h : laws_rPlaced.f k a0_0 a0_1 l0_2 l1 = some r) :
  Calls Try.prog 44 #[.agg #[.int .i64 a0_0, .int .i64 a0_1, .slice A0_2 l0_2.length c0_2], .slice A1 l1.length c1] w fun e w' => e = .returned (.bool r) ∧ Below w.heap.size w w' := by
 have hu26 := Try.underlying26
 have HR0_2 := Aside0.mk hr0_2
 have HC0_2 := Aside0.mk hc0_2
 clear hr0_2 hc0_2
 have HR1 := Aside0.mk hr1
 have HC1 := Aside0.mk hc1
 clear hr1 hc1
 have HB := am (Below.refl w.heap.size w)
 have H : ((impl_IsPlacement.f k a0_0 a0_1 l0_2 l1).bind fun bt385 => (if bt385.2 = true then (some bt385.1) else (some false))) = some r := h
 clear h
 replace H := qE H
 obtain ⟨⟨t385, t386⟩, A3, H⟩ := H
 replace H : (if t386 = true then (some t385) else (some false)) = some r := H
 by_cases c4 : t386 = true
 ·
  subst c4
  have H1 : (some t385) = some r := by first | (rw [if_pos rfl] at H; exact H) | rfl
  clear H
  have H := H1
  clear H1
  obtain rfl := Option.some.inj H
  go_enter Try.func44, Try.ntmps44
  go_wp2_with (first | ((with_reducible refine gate_dst (N := 2) rfl ?_); refine qv 2 #[.int .i64 a0_0, .int .i64 a0_1, .slice A0_2 l0_2.length c0_2] 26 ?_; intro gb384 hg w5 hbox hb; have BK384 := am hbox; have GW384 := qw hg; have GE384 := qw hg; replace HB := qs hb; clear hb hbox hg; obtain ⟨zq30, zq31, zq32, fq30, fq31, fq32⟩ := qd BK384) | ((with_reducible refine gate_callee (f := 108) rfl ?_); refine qg (some 10) Try.func108 #[.agg #[.int .i64 a0_0, .int .i64 a0_1, .slice A0_2 l0_2.length c0_2], .slice A1 l1.length c1] ?_; (with_reducible refine (impl_IsPlacement.calls k a0_0 a0_1 _ _ l0_2 _ _ l1 t385 true _ ?side1 HC0_2.out ?side3 HC1.out A3.out).mono ?_); (case side1 => exact Q0); (case side3 => exact Q10); rintro e w7 ⟨rfl, hb⟩; refine ⟨_, rfl, ?_⟩; replace BK384 := sqB BK384 hb; replace HB := qs hb; (try clear hb)))
  go_ret
  exact ⟨Q2, qb⟩
 ·
  replace c4 := Bool.eq_false_iff.mpr c4
  subst c4
  have H1 : (some false) = some r := by first | (rw [if_neg (show ¬ (false = true) by decide)] at H; exact H) | rfl
  clear H
  have H := H1
  clear H1
  obtain rfl := Option.some.inj H
  go_enter Try.func44, Try.ntmps44
  go_wp2_with (first | ((with_reducible refine gate_dst (N := 2) rfl ?_); refine qv 2 #[.int .i64 a0_0, .int .i64 a0_1, .slice A0_2 l0_2.length c0_2] 26 ?_; intro gb384 hg w8 hbox hb; have BK384 := am hbox; have GW384 := qw hg; have GE384 := qw hg; replace HB := qs hb; clear hb hbox hg; obtain ⟨zq36, zq37, zq38, fq36, fq37, fq38⟩ := qd BK384) | ((with_reducible refine gate_callee (f := 108) rfl ?_); refine qg (some 10) Try.func108 #[.agg #[.int .i64 a0_0, .int .i64 a0_1, .slice A0_2 l0_2.length c0_2], .slice A1 l1.length c1] ?_; (with_reducible refine (impl_IsPlacement.calls k a0_0 a0_1 _ _ l0_2 _ _ l1 t385 false _ ?side1 HC0_2.out ?side3 HC1.out A3.out).mono ?_); (case side1 => exact Q0); (case side3 => exact Q10); rintro e w10 ⟨rfl, hb⟩; refine ⟨_, rfl, ?_⟩; replace BK384 := sqB BK384 hb; replace HB := qs hb; (try clear hb)))
  go_ret
  exact ⟨Q2, qb⟩

/-! ### laws_rLess: function 45 -/
def laws_rLess.l0 : Nat → List Int → List Int → Int → Int → Option (Bool)
 | 0, _, _, _, _ => none
 | k + 1, x0, x1, x7, x8 => if x8 < x7 then (if 0 ≤ x8 then (if x8 < (x0.length : Int) then (if x8 < (x1.length : Int) then (if (rd x0 x8) = (rd x1 x8) then (laws_rLess.l0 k x0 x1 x7 (wrap64 (x8 + 1))) else (some (decide ((rd x0 x8) < (rd x1 x8))))) else (none)) else (none)) else (none)) else (some false)
def laws_rLess.f (k : Nat) (l0 : List Int) (l1 : List Int) : Option (Bool) := laws_rLess.l0 k l0 l1 (l0.length : Int) 0
set_option maxHeartbeats 8000000 in
set_option maxRecDepth 100000 in
theorem laws_rLess.calls (k : Nat) (A0 : Option Addr) (c0 : Nat) (l0 : List Int) (A1 : Option Addr) (c1 : Nat) (l1 : List Int) (r : Bool) (w : World) (hr0 : Kd.C (Kd.int .i64) w A0 l0.length l0) (hc0 : l0.length ≤ c0) (hr1 : Kd.C (Kd.int .i64) w A1 l1.length l1) (hc1 : l1.length ≤ c1) (h : laws_rLess.f k l0 l1 = some r) :
  Calls Try.prog 45 #[.slice A0 l0.length c0, .slice A1 l1.length c1] w fun e w' => e = .returned (.bool r) ∧ Drawn0 w w' := by
 have HR0 := Aside0.mk hr0
 have HC0 := Aside0.mk hc0
 clear hr0 hc0
 have HR1 := Aside0.mk hr1
 have HC1 := Aside0.mk hc1
 clear hr1 hc1
 have H : (laws_rLess.l0 k l0 l1 (l0.length : Int) 0) = some r := h
 clear h
 have H' := Aside0.mk H
 clear H
 go_enter Try.func45, Try.ntmps45
 go_wp2
 repeat (go_quiet (fail); try go_wp2)
 go_loopg [8] k (fun kq v8 w' => ∃ (x8_1 : Int), v8 = .int .i64 x8_1 ∧ Aside0 (laws_rLess.l0 kq l0 l1 (l0.length : Int) x8_1 = some r) ∧ Aside0 (kq ≤ k) ∧ Drawn0 w w')
 case atStart => exact ⟨(0), Q3, H', ⟨Nat.le_refl _⟩, Q4⟩
 case round =>
  clear H'
  obtain ⟨x8_1, rfl, HA, HK1, ⟨m1, rfl⟩⟩ := hrel
  cases gk with
  | zero => exact absurd HA.out (by simp [laws_rLess.l0])
  | succ k1 =>
   have H := HA.out
   clear HA
   simp only [laws_rLess.l0] at H
   by_cases c3 : x8_1 < (l0.length : Int)
   ·
    rw [if_pos c3] at H
    have c3b0 : decide (x8_1 < (l0.length : Int)) = true := decide_eq_true c3
    clear c3
    by_cases c4 : 0 ≤ x8_1
    ·
     rw [if_pos c4] at H
     have c4b0 : decide (0 ≤ x8_1) = true := decide_eq_true c4
     clear c4
     by_cases c5 : x8_1 < (l0.length : Int)
     ·
      rw [if_pos c5] at H
      have c5b0 : decide (x8_1 < (l0.length : Int)) = true := decide_eq_true c5
      clear c5
      by_cases c6 : x8_1 < (l1.length : Int)
      ·
       rw [if_pos c6] at H
       have c6b0 : decide (x8_1 < (l1.length : Int)) = true := decide_eq_true c6
       clear c6
       by_cases c7 : (rd l0 x8_1) = (rd l1 x8_1)
       ·
        rw [if_pos c7] at H
        have c7b0 : ((rd l0 x8_1) == (rd l1 x8_1)) = true := beq_iff_eq.mpr c7
        have c7b1 : ((rd l0 x8_1) != (rd l1 x8_1)) = false := bne_eq_false_iff_eq.mpr c7
        clear c7
        have H' := Aside0.mk H
        clear H
        have p387 : 0 ≤ (x8_1 : Int) := of_decide_eq_true Q1
        have q387 : x8_1 < (l0.length : Int) := of_decide_eq_true Q1
        obtain ⟨ad387, e387, hx387_0⟩ := Kd.at_int HR0.out x8_1 p387 q387
        cases e387
        replace p387 := eq_true p387
        replace q387 := eq_true q387
        have p388 : 0 ≤ (x8_1 : Int) := of_decide_eq_true Q1
        have q388 : x8_1 < (l1.length : Int) := of_decide_eq_true Q1
        obtain ⟨ad388, e388, hx388_0⟩ := Kd.at_int HR1.out x8_1 p388 q388
        cases e388
        replace p388 := eq_true p388
        replace q388 := eq_true q388
        go_wp2
        repeat (go_quiet (fail); try go_wp2)
        go_roundg k1
        case measure => have := HK1.out; omega
        case rel => exact ⟨(wrap64 (x8_1 + 1)), Q3, H', ⟨Q42⟩, Q4⟩
       ·
        rw [if_neg c7] at H
        have c7b0 : ((rd l0 x8_1) == (rd l1 x8_1)) = false := beq_eq_false_iff_ne.mpr c7
        have c7b1 : ((rd l0 x8_1) != (rd l1 x8_1)) = true := bne_iff_ne.mpr c7
        obtain rfl := Option.some.inj H
        have p387 : 0 ≤ (x8_1 : Int) := of_decide_eq_true Q1
        have q387 : x8_1 < (l0.length : Int) := of_decide_eq_true Q1
        obtain ⟨ad387, e387, hx387_0⟩ := Kd.at_int HR0.out x8_1 p387 q387
        cases e387
        replace p387 := eq_true p387
        replace q387 := eq_true q387
        have p388 : 0 ≤ (x8_1 : Int) := of_decide_eq_true Q1
        have q388 : x8_1 < (l1.length : Int) := of_decide_eq_true Q1
        obtain ⟨ad388, e388, hx388_0⟩ := Kd.at_int HR1.out x8_1 p388 q388
        cases e388
        replace p388 := eq_true p388
        replace q388 := eq_true q388
        have p389 : 0 ≤ (x8_1 : Int) := of_decide_eq_true Q1
        have q389 : x8_1 < (l0.length : Int) := of_decide_eq_true Q1
        obtain ⟨ad389, e389, hx389_0⟩ := Kd.at_int HR0.out x8_1 p389 q389
        obtain rfl : ad387 = ad389 := (by injection e389)
        replace p389 := eq_true p389
        replace q389 := eq_true q389
        have p390 : 0 ≤ (x8_1 : Int) := of_decide_eq_true Q1
        have q390 : x8_1 < (l1.length : Int) := of_decide_eq_true Q1
        obtain ⟨ad390, e390, hx390_0⟩ := Kd.at_int HR1.out x8_1 p390 q390
        obtain rfl : ad388 = ad390 := (by injection e390)
        replace p390 := eq_true p390
        replace q390 := eq_true q390
        go_wp2
        repeat (go_quiet (fail); try go_wp2)
        go_ret
        exact ⟨Q3, Q4⟩
      ·
       rw [if_neg c6] at H
       exact absurd H (by simp)
     ·
      rw [if_neg c5] at H
      exact absurd H (by simp)
    ·
     rw [if_neg c4] at H
     exact absurd H (by simp)
   ·
    rw [if_neg c3] at H
    have c3b0 : decide (x8_1 < (l0.length : Int)) = false := decide_eq_false c3
    clear c3
    obtain rfl := Option.some.inj H
    go_wp2
    repeat (go_quiet (fail); try go_wp2)
    go_ret
    exact ⟨Q3, Q4⟩

end Go.Proofs.Ytllhofdgbpnkkaa.PFnPlacementsListed
