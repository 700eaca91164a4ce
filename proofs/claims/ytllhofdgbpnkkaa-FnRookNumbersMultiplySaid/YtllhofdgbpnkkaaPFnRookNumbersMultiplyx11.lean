-- Printed for this claim by wip/pp.py over the kit's printer; Lean checks it.
import Derived.Test.YtllhofdgbpnkkaaPFnRookNumbersMultiplyx0
import Derived.Test.YtllhofdgbpnkkaaPFnRookNumbersMultiplyx3
import Derived.Test.YtllhofdgbpnkkaaPFnRookNumbersMultiplyx9
import Derived.Test.YtllhofdgbpnkkaaPFnRookNumbersMultiplyx10
namespace Go.Proofs.Ytllhofdgbpnkkaa.PFnRookNumbersMultiply
open Go.RowKit Go.Proofs.YtllhofdgbpnkkaaW.PrintWords Go.Proofs.YtllhofdgbpnkkaaW.PrintLast Go.Proofs.YtllhofdgbpnkkaaW.PrintMore
attribute [local go_sem] max2_int min2_int max_two min_two max_three min_three max_four min_four   -- for this text's walks alone
set_option linter.unusedVariables false
set_option linter.unusedSimpArgs false

/-! ### spec_NumbersOfComplement: function 31 -/
mutual
def spec_NumbersOfComplement.l0 : Nat → List Int → List Int → Int → Int → Int → Int → List Int → Option (List Int × Bool)
 | 0, _, _, _, _, _, _, _ => none
 | k + 1, x4, x5, x17, x18, x425000, x425001, x425002 => if x18 < x17 then (spec_NumbersOfComplement.l1 k x4 x5 x18 0 1 0 x17 x18 x425000 x425001 x425002) else (some (x4, true))
def spec_NumbersOfComplement.l1 : Nat → List Int → List Int → Int → Int → Int → Int → Int → Int → Int → Int → List Int → Option (List Int × Bool)
 | 0, _, _, _, _, _, _, _, _, _, _, _ => none
 | k + 1, x4, x5, x6, x7, x8, x9, x17, x18, x425000, x425001, x425002 => if x9 ≤ x6 then ((spec_roChoose.f k (wrap64 (x425000 - x9)) (wrap64 (x6 - x9))).bind fun t429 => (if 0 ≤ x9 then (if x9 < (x5.length : Int) then ((spec_roFalling.f k (wrap64 (x6 - x9)) (wrap64 (x6 - x9))).bind fun t431 => (spec_NumbersOfComplement.l1 k x4 x5 x6 (wrap64 (x7 + (wrap64 ((wrap64 ((wrap64 ((wrap64 (x8 * (rd x5 x9))) * t429)) * t429)) * t431)))) (wrap64 (-x8)) (wrap64 (x9 + 1)) x17 x18 x425000 x425001 x425002)) else (none)) else (none))) else (if x4.length < 17592186044416 then (spec_NumbersOfComplement.l0 k (x4 ++ [x7]) x5 x17 (wrap64 (x18 + 1)) x425000 x425001 x425002) else (none))
end
def spec_NumbersOfComplement.f (k : Nat) (a0_0 : Int) (a0_1 : Int) (l0_2 : List Int) : Option (List Int × Bool) := (spec_roSquare.f k a0_0 a0_1 l0_2).bind fun t425 => (if t425 = true then ((spec_roNumbers.f k a0_0 a0_1 l0_2).bind fun t426 => (spec_NumbersOfComplement.l0 k ([] : List Int) t426 (t426.length : Int) 0 a0_0 a0_1 l0_2)) else (some (([] : List Int), false)))
set_option maxHeartbeats 8000000 in
set_option maxRecDepth 100000 in
theorem spec_NumbersOfComplement.calls (k : Nat) (a0_0 : Int) (a0_1 : Int) (A0_2 : Option Addr) (c0_2 : Nat) (l0_2 : List Int) (r1 : List Int) (r2 : Bool) (w : World) (hr0_2 : Kd.C (Kd.int .i64) w A0_2 l0_2.length l0_2) (hc0_2 : l0_2.length ≤ c0_2) (h : spec_NumbersOfComplement.f k a0_0 a0_1 l0_2 = some (r1, r2)) :
  Calls Try.prog 31 #[.agg #[.int .i64 a0_0, .int .i64 a0_1, .slice A0_2 l0_2.length c0_2]] w fun e w' => ∃ v0_ : Value, e = .returned (.tuple #[v0_, .bool r2]) ∧ Kd.R (Kd.int .i64) 3 w' w.heap.size (fun _ => True) v0_ r1 ∧ Below w.heap.size w w' := by
 have hu26 := Try.underlying26
 have HR0_2 := Aside0.mk hr0_2
 have HC0_2 := Aside0.mk hc0_2
 clear hr0_2 hc0_2
 have HB := am (Below.refl w.heap.size w)
 have H : ((spec_roSquare.f k a0_0 a0_1 l0_2).bind fun t425 => (if t425 = true then ((spec_roNumbers.f k a0_0 a0_1 l0_2).bind fun t426 => (spec_NumbersOfComplement.l0 k ([] : List Int) t426 (t426.length : Int) 0 a0_0 a0_1 l0_2)) else (some (([] : List Int), false)))) = some (r1, r2) := h
 clear h
 replace H := qE H
 obtain ⟨t425, A2, H⟩ := H
 replace H : (if t425 = true then ((spec_roNumbers.f k a0_0 a0_1 l0_2).bind fun t426 => (spec_NumbersOfComplement.l0 k ([] : List Int) t426 (t426.length : Int) 0 a0_0 a0_1 l0_2)) else (some (([] : List Int), false))) = some (r1, r2) := H
 by_cases c3 : t425 = true
 ·
  subst c3
  have H1 : ((spec_roNumbers.f k a0_0 a0_1 l0_2).bind fun t426 => (spec_NumbersOfComplement.l0 k ([] : List Int) t426 (t426.length : Int) 0 a0_0 a0_1 l0_2)) = some (r1, r2) := by first | (rw [if_pos rfl] at H; exact H) | rfl
  clear H
  have H := H1
  clear H1
  replace H := qE H
  obtain ⟨t426, A4, H⟩ := H
  replace H : (spec_NumbersOfComplement.l0 k ([] : List Int) t426 (t426.length : Int) 0 a0_0 a0_1 l0_2) = some (r1, r2) := H
  have H' := Aside0.mk H
  clear H
  go_enter Try.func31, Try.ntmps31
  go_wp2_with (first | ((with_reducible refine gate_dst (N := 1) rfl ?_); refine qv 1 #[.int .i64 a0_0, .int .i64 a0_1, .slice A0_2 l0_2.length c0_2] 26 ?_; intro gb424 hg w5 hbox hb; have BK424 := am hbox; have GW424 := qw hg; have GE424 := qw hg; replace HB := qs hb; clear hb hbox hg; obtain ⟨zq6, zq7, zq8, fq6, fq7, fq8⟩ := qd BK424) | (go_at_call 91; (with_reducible refine (spec_roSquare.calls k a0_0 a0_1 _ _ l0_2 true _ ?side1 HC0_2.out A2.out).mono ?_); (case side1 => exact Q1); rintro e w7 ⟨rfl, hb⟩; replace BK424 := sqB BK424 hb; replace HB := qs hb; (try clear hb); obtain ⟨zq9, zq10, zq11, fq9, fq10, fq11⟩ := qd BK424) | (go_at_call 83; (with_reducible refine (spec_roNumbers.calls k a0_0 a0_1 _ _ l0_2 t426 _ ?side1 HC0_2.out A4.out).mono ?_); (case side1 => exact Q1); rintro e w9 ⟨v427, rfl, ho0, hb⟩; have Oq2 := ql ho0; replace BK424 := sqB BK424 hb; replace HB := qs hb; (try clear hb ho0); obtain ⟨Ao10, co10, eo10⟩ := Kd.R_slice Oq2.out; subst eo10))
  repeat (go_quiet (first | ((with_reducible refine gate_dst (N := 1) rfl ?_); refine qv 1 #[.int .i64 a0_0, .int .i64 a0_1, .slice A0_2 l0_2.length c0_2] 26 ?_; intro gb424 hg w5 hbox hb; have BK424 := am hbox; have GW424 := qw hg; have GE424 := qw hg; replace HB := qs hb; clear hb hbox hg; obtain ⟨zq6, zq7, zq8, fq6, fq7, fq8⟩ := qd BK424) | (go_at_call 91; (with_reducible refine (spec_roSquare.calls k a0_0 a0_1 _ _ l0_2 true _ ?side1 HC0_2.out A2.out).mono ?_); (case side1 => exact Q1); rintro e w7 ⟨rfl, hb⟩; replace BK424 := sqB BK424 hb; replace HB := qs hb; (try clear hb); obtain ⟨zq9, zq10, zq11, fq9, fq10, fq11⟩ := qd BK424) | (go_at_call 83; (with_reducible refine (spec_roNumbers.calls k a0_0 a0_1 _ _ l0_2 t426 _ ?side1 HC0_2.out A4.out).mono ?_); (case side1 => exact Q1); rintro e w9 ⟨v427, rfl, ho0, hb⟩; have Oq2 := ql ho0; replace BK424 := sqB BK424 hb; replace HB := qs hb; (try clear hb ho0); obtain ⟨Ao10, co10, eo10⟩ := Kd.R_slice Oq2.out; subst eo10)); try go_wp2_with (first | ((with_reducible refine gate_dst (N := 1) rfl ?_); refine qv 1 #[.int .i64 a0_0, .int .i64 a0_1, .slice A0_2 l0_2.length c0_2] 26 ?_; intro gb424 hg w5 hbox hb; have n0_ := qs hb; have n1_ := am hbox; have n2_ := qw hg; have n3_ := qw hg; clear HB; have HB := n0_; have BK424 := n1_; have GW424 := n2_; have GE424 := n3_; clear n0_ n1_ n2_ n3_; clear hb hbox hg; have zq6 : w5.cell? ⟨gb424, 0, none⟩ = some (.int .i64 a0_0) := sqc BK424 0; have zq7 : w5.cell? ⟨gb424, 1, none⟩ = some (.int .i64 a0_1) := sqc BK424 1; have zq8 : w5.cell? ⟨gb424, 2, none⟩ = some (.slice A0_2 l0_2.length c0_2) := sqc BK424 2; have fq6 := blk_frozen BK424.out 0; have fq7 := blk_frozen BK424.out 1; have fq8 := blk_frozen BK424.out 2) | (go_at_call 91; (with_reducible refine (spec_roSquare.calls k a0_0 a0_1 _ _ l0_2 true _ ?side1 HC0_2.out A2.out).mono ?_); (case side1 => exact Q1); rintro e w7 ⟨rfl, hb⟩; have n1_ := qs hb; clear HB; replace BK424 := sqB BK424 hb; have HB := n1_; clear n1_; (try clear hb); (try clear hb2); (try clear hk); (try clear hi); have zq9 : w7.cell? ⟨gb424, 0, none⟩ = some (.int .i64 a0_0) := sqc BK424 0; have zq10 : w7.cell? ⟨gb424, 1, none⟩ = some (.int .i64 a0_1) := sqc BK424 1; have zq11 : w7.cell? ⟨gb424, 2, none⟩ = some (.slice A0_2 l0_2.length c0_2) := sqc BK424 2; have fq9 := blk_frozen BK424.out 0; have fq10 := blk_frozen BK424.out 1; have fq11 := blk_frozen BK424.out 2) | (go_at_call 83; (with_reducible refine (spec_roNumbers.calls k a0_0 a0_1 _ _ l0_2 t426 _ ?side1 HC0_2.out A4.out).mono ?_); (case side1 => exact Q1); rintro e w9 ⟨v427, rfl, ho0, hb⟩; have n0_ := ql ho0; have n2_ := qs hb; clear HB; have Oq2 := n0_; replace BK424 := sqB BK424 hb; have HB := n2_; clear n0_ n2_; (try clear hb); (try clear hb2); (try clear hk); (try clear hi); (try clear ho0); obtain ⟨Ao10, co10, eo10⟩ := Kd.R_slice Oq2.out; subst eo10)))
  go_loopg [4, 18] k (fun kq v4 v18 w' => ∃ (x4_1 : List Int) (x18_1 : Int), v18 = .int .i64 x18_1 ∧ Aside0 (spec_NumbersOfComplement.l0 kq x4_1 t426 (t426.length : Int) x18_1 a0_0 a0_1 l0_2 = some (r1, r2)) ∧ Aside0 (kq ≤ k) ∧ Aside0 (Kd.R (Kd.int .i64) 3 w' w.heap.size (fun k_ => some k_ ≠ ((.slice Ao10 t426.length co10) : Value).ownBlock) v4 x4_1) ∧ Aside0 (Kd.R (Kd.int .i64) 3 w' w.heap.size (fun k_ => some k_ ≠ (v4 : Value).ownBlock) (.slice Ao10 t426.length co10) t426) ∧ Aside0 (w'.heap[gb424]? = some (.cells #[.int .i64 a0_0, .int .i64 a0_1, (.slice A0_2 l0_2.length c0_2)] 26 (0, 0))) ∧ Aside0 (Below w.heap.size w w'))
  case atStart => exact ⟨(([] : List Int)), (0), Q3, H', ⟨Nat.le_refl _⟩, ⟨Q17⟩, ⟨by exact sqm Oq2 (fun _ hk => (by simp [Value.ownBlock]))⟩, ⟨Q35⟩, ⟨qb⟩⟩
  case round =>
   clear H'
   try clear c3; try clear zq6; try clear zq7; try clear zq8; try clear zq9; try clear zq10; try clear zq11; try clear fq6; try clear fq7; try clear fq8; try clear fq9; try clear fq10; try clear fq11
   obtain ⟨x4_1, x18_1, rfl, HA, HK1, Oq5, Oq6, BK424, HB⟩ := hrel
   cases gk with
   | zero => exact absurd HA.out (by simp [spec_NumbersOfComplement.l0])
   | succ k1 =>
    have H := HA.out
    clear HA
    simp only [spec_NumbersOfComplement.l0] at H
    by_cases c11 : x18_1 < (t426.length : Int)
    ·
     rw [if_pos c11] at H
     have c11b0 : decide (x18_1 < (t426.length : Int)) = true := decide_eq_true c11
     clear c11
     have H' := Aside0.mk H
     clear H
     go_wp2
     repeat (go_quiet (fail); try go_wp2)
     go_loopg [7, 8, 9] k1 (fun kq v7 v8 v9 w' => ∃ (x7_2 : Int) (x8_2 : Int) (x9_2 : Int), v7 = .int .i64 x7_2 ∧ v8 = .int .i64 x8_2 ∧ v9 = .int .i64 x9_2 ∧ Aside0 (spec_NumbersOfComplement.l1 kq x4_1 t426 x18_1 x7_2 x8_2 x9_2 (t426.length : Int) x18_1 a0_0 a0_1 l0_2 = some (r1, r2)) ∧ Aside0 (kq ≤ k1) ∧ Aside0 (Kd.R (Kd.int .i64) 3 w' w.heap.size (fun k_ => some k_ ≠ ((.slice Ao10 t426.length co10) : Value).ownBlock) u4 x4_1) ∧ Aside0 (Kd.R (Kd.int .i64) 3 w' w.heap.size (fun k_ => some k_ ≠ (u4 : Value).ownBlock) (.slice Ao10 t426.length co10) t426) ∧ Aside0 (w'.heap[gb424]? = some (.cells #[.int .i64 a0_0, .int .i64 a0_1, (.slice A0_2 l0_2.length c0_2)] 26 (0, 0))) ∧ Aside0 (Below w.heap.size w w'))
     case atStart => exact ⟨(0), (1), (0), Q3, Q3, Q3, H', ⟨Nat.le_refl _⟩, ⟨Q19⟩, ⟨Q55⟩, ⟨Q35⟩, ⟨qb⟩⟩
     case round =>
      clear H'
      try clear c3; try clear c11; try clear c11b0; try clear zq6; try clear zq7; try clear zq8; try clear zq9; try clear zq10; try clear zq11; try clear fq6; try clear fq7; try clear fq8; try clear fq9; try clear fq10; try clear fq11
      obtain ⟨x7_2, x8_2, x9_2, rfl, rfl, rfl, HA, HK2, Oq5, Oq6, BK424, HB⟩ := hrel
      cases gk with
      | zero => exact absurd HA.out (by simp [spec_NumbersOfComplement.l1])
      | succ k2 =>
       have H := HA.out
       clear HA
       simp only [spec_NumbersOfComplement.l1] at H
       by_cases c12 : x9_2 ≤ x18_1
       ·
        rw [if_pos c12] at H
        have c12b0 : decide (x9_2 ≤ x18_1) = true := decide_eq_true c12
        clear c12
        replace H := qE H
        obtain ⟨t429, A13, H⟩ := H
        replace H : (if 0 ≤ x9_2 then (if x9_2 < (t426.length : Int) then ((spec_roFalling.f k2 (wrap64 (x18_1 - x9_2)) (wrap64 (x18_1 - x9_2))).bind fun t431 => (spec_NumbersOfComplement.l1 k2 x4_1 t426 x18_1 (wrap64 (x7_2 + (wrap64 ((wrap64 ((wrap64 ((wrap64 (x8_2 * (rd t426 x9_2))) * t429)) * t429)) * t431)))) (wrap64 (-x8_2)) (wrap64 (x9_2 + 1)) (t426.length : Int) x18_1 a0_0 a0_1 l0_2)) else (none)) else (none)) = some (r1, r2) := H
        by_cases c14 : 0 ≤ x9_2
        ·
         rw [if_pos c14] at H
         have c14b0 : decide (0 ≤ x9_2) = true := decide_eq_true c14
         clear c14
         by_cases c15 : x9_2 < (t426.length : Int)
         ·
          rw [if_pos c15] at H
          have c15b0 : decide (x9_2 < (t426.length : Int)) = true := decide_eq_true c15
          clear c15
          replace H := qE H
          obtain ⟨t431, A16, H⟩ := H
          replace H : (spec_NumbersOfComplement.l1 k2 x4_1 t426 x18_1 (wrap64 (x7_2 + (wrap64 ((wrap64 ((wrap64 ((wrap64 (x8_2 * (rd t426 x9_2))) * t429)) * t429)) * t431)))) (wrap64 (-x8_2)) (wrap64 (x9_2 + 1)) (t426.length : Int) x18_1 a0_0 a0_1 l0_2) = some (r1, r2) := H
          have H' := Aside0.mk H
          clear H
          obtain ⟨zq0, zq1, zq2, fq0, fq1, fq2⟩ := qd BK424
          go_wp2_with (first | (go_at_call 92; (with_reducible refine (spec_roChoose.calls k2 (wrap64 (a0_0 - x9_2)) (wrap64 (x18_1 - x9_2)) t429 _ A13.out).mono ?_); rintro e w' ⟨rfl, ⟨nd, rfl⟩⟩; (try first | exact ⟨rfl, _, World.drewN_drewN _ _ _⟩ | exact ⟨rfl, _, Eq.trans (World.drewN_drewN _ _ _) (congrArg (World.drewN _) (Nat.add_assoc _ _ _))⟩); have p430 : 0 ≤ (x9_2 : Int) := of_decide_eq_true Q0; have q430 : x9_2 < (t426.length : Int) := of_decide_eq_true Q0; obtain ⟨ad430, e430, hx430_0⟩ := Kd.at_int (Kd.R_reads' Oq6.out).2.2 x9_2 p430 q430; cases e430; replace p430 := eq_true p430; replace q430 := eq_true q430) | (go_at_call 93; (with_reducible refine (spec_roFalling.calls k2 (wrap64 (x18_1 - x9_2)) (wrap64 (x18_1 - x9_2)) t431 _ A16.out).mono ?_); rintro e w' ⟨rfl, ⟨nd, rfl⟩⟩; (try first | exact ⟨rfl, _, World.drewN_drewN _ _ _⟩ | exact ⟨rfl, _, Eq.trans (World.drewN_drewN _ _ _) (congrArg (World.drewN _) (Nat.add_assoc _ _ _))⟩)))
          repeat (go_quiet (first | (go_at_call 92; (with_reducible refine (spec_roChoose.calls k2 (wrap64 (a0_0 - x9_2)) (wrap64 (x18_1 - x9_2)) t429 _ A13.out).mono ?_); rintro e w' ⟨rfl, ⟨nd, rfl⟩⟩; (try first | exact ⟨rfl, _, World.drewN_drewN _ _ _⟩ | exact ⟨rfl, _, Eq.trans (World.drewN_drewN _ _ _) (congrArg (World.drewN _) (Nat.add_assoc _ _ _))⟩); have p430 : 0 ≤ (x9_2 : Int) := of_decide_eq_true Q0; have q430 : x9_2 < (t426.length : Int) := of_decide_eq_true Q0; obtain ⟨ad430, e430, hx430_0⟩ := Kd.at_int (Kd.R_reads' Oq6.out).2.2 x9_2 p430 q430; cases e430; replace p430 := eq_true p430; replace q430 := eq_true q430) | (go_at_call 93; (with_reducible refine (spec_roFalling.calls k2 (wrap64 (x18_1 - x9_2)) (wrap64 (x18_1 - x9_2)) t431 _ A16.out).mono ?_); rintro e w' ⟨rfl, ⟨nd, rfl⟩⟩; (try first | exact ⟨rfl, _, World.drewN_drewN _ _ _⟩ | exact ⟨rfl, _, Eq.trans (World.drewN_drewN _ _ _) (congrArg (World.drewN _) (Nat.add_assoc _ _ _))⟩))); try go_wp2_with (first | (go_at_call 92; (with_reducible refine (spec_roChoose.calls k2 (wrap64 (a0_0 - x9_2)) (wrap64 (x18_1 - x9_2)) t429 _ A13.out).mono ?_); rintro e w' ⟨rfl, ⟨nd, rfl⟩⟩; (try first | exact ⟨rfl, _, World.drewN_drewN _ _ _⟩ | exact ⟨rfl, _, Eq.trans (World.drewN_drewN _ _ _) (congrArg (World.drewN _) (Nat.add_assoc _ _ _))⟩); have p430 : 0 ≤ (x9_2 : Int) := of_decide_eq_true Q0; have q430 : x9_2 < (t426.length : Int) := of_decide_eq_true Q0; obtain ⟨ad430, e430, hx430_0⟩ := Kd.at_int (Kd.R_reads' Oq6.out).2.2 x9_2 p430 q430; cases e430; replace p430 := eq_true p430; replace q430 := eq_true q430) | (go_at_call 93; (with_reducible refine (spec_roFalling.calls k2 (wrap64 (x18_1 - x9_2)) (wrap64 (x18_1 - x9_2)) t431 _ A16.out).mono ?_); rintro e w' ⟨rfl, ⟨nd, rfl⟩⟩; (try first | exact ⟨rfl, _, World.drewN_drewN _ _ _⟩ | exact ⟨rfl, _, Eq.trans (World.drewN_drewN _ _ _) (congrArg (World.drewN _) (Nat.add_assoc _ _ _))⟩))))
          go_roundg k2
          case measure => have := HK1.out; have := HK2.out; omega
          case rel => exact ⟨(wrap64 (x7_2 + (wrap64 ((wrap64 ((wrap64 ((wrap64 (x8_2 * (rd t426 x9_2))) * t429)) * t429)) * t431)))), (wrap64 (-x8_2)), (wrap64 (x9_2 + 1)), Q3, Q3, Q3, H', ⟨Q40⟩, ⟨Q19⟩, ⟨Q55⟩, ⟨Q35⟩, ⟨qb⟩⟩
         ·
          rw [if_neg c15] at H
          exact absurd H (by simp)
        ·
         rw [if_neg c14] at H
         exact absurd H (by simp)
       ·
        rw [if_neg c12] at H
        have c12b0 : decide (x9_2 ≤ x18_1) = false := decide_eq_false c12
        clear c12
        by_cases c18 : x4_1.length < 17592186044416
        ·
         rw [if_pos c18] at H
         have LMc18 := Aside0.mk c18
         clear c18
         obtain ⟨y432, hy_⟩ : ∃ y_ : List Int, y_ = ((x4_1 ++ [x7_2])) := ⟨_, rfl⟩
         replace H : (spec_NumbersOfComplement.l0 k2 y432 t426 (t426.length : Int) (wrap64 (x18_1 + 1)) a0_0 a0_1 l0_2) = some (r1, r2) := qH
         have Ny432 := Aside0.mk hy_
         clear hy_
         have H' := Aside0.mk H
         clear H
         go_wp2_with (first | ((with_reducible refine gate_builtin (b := .append) (xs := #[.tmp 56, .tmp 58]) rfl ?_); at_builtin; refine Kd.R_append (Kd.int .i64) (w0 := w) w.heap.size rfl (.tmp 56) (.tmp 58) 24 3 (.int .i64 0) 8 rfl Try.underlying24 info3 rfl (by decide) (by omega) u4 x4_1 x7_2 [.int .i64 x7_2] (fun k_ => some k_ ≠ (.slice Ao10 t426.length co10 : Value).ownBlock) (fun _ => False) rfl rfl ?aP (fun _ hk => hk.elim) ?aF ?aO ?aB ?aS ?aL ?_; (case aP => exact rfl); (case aB => exact qb); (case aF => exact (fun k_ hk => Kd.fresh' (sqL Oq6) k_ hk)); (case aO => exact (sqr Oq5)); (case aS => exact (below_size qb)); (case aL => have := LMc18.out; omega); intro v433 w19 ho hb hg hat; rw [← Ny432.out] at ho; have Oq3 := am (ho); replace Oq6 := am (Kd.R_after (ok := (fun _ => True)) (by exact sqm Oq6 (fun _ hk => ⟨trivial, hk⟩)) hg hat); replace BK424 := am (blk_grown (g := gb424) (o := .cells #[.int .i64 a0_0, .int .i64 a0_1, .slice A0_2 l0_2.length c0_2] 26 (0, 0)) (sqb BK424) hg (Kd.R_ne Oq5.out BK424.out (by decide))); replace HB := am hb; clear Oq5; clear ho hb hg hat))
         repeat (go_quiet (first | ((with_reducible refine gate_builtin (b := .append) (xs := #[.tmp 56, .tmp 58]) rfl ?_); at_builtin; refine Kd.R_append (Kd.int .i64) (w0 := w) w.heap.size rfl (.tmp 56) (.tmp 58) 24 3 (.int .i64 0) 8 rfl Try.underlying24 info3 rfl (by decide) (by omega) u4 x4_1 x7_2 [.int .i64 x7_2] (fun k_ => some k_ ≠ (.slice Ao10 t426.length co10 : Value).ownBlock) (fun _ => False) rfl rfl ?aP (fun _ hk => hk.elim) ?aF ?aO ?aB ?aS ?aL ?_; (case aP => exact rfl); (case aB => exact qb); (case aF => exact (fun k_ hk => Kd.fresh' (sqL Oq6) k_ hk)); (case aO => exact (sqr Oq5)); (case aS => exact (below_size qb)); (case aL => have := LMc18.out; omega); intro v433 w19 ho hb hg hat; rw [← Ny432.out] at ho; have Oq3 := am (ho); replace Oq6 := am (Kd.R_after (ok := (fun _ => True)) (by exact sqm Oq6 (fun _ hk => ⟨trivial, hk⟩)) hg hat); replace BK424 := am (blk_grown (g := gb424) (o := .cells #[.int .i64 a0_0, .int .i64 a0_1, .slice A0_2 l0_2.length c0_2] 26 (0, 0)) (sqb BK424) hg (Kd.R_ne Oq5.out BK424.out (by decide))); replace HB := am hb; clear Oq5; clear ho hb hg hat)); try go_wp2_with (first | ((with_reducible refine gate_builtin (b := .append) (xs := #[.tmp 56, .tmp 58]) rfl ?_); at_builtin; refine Kd.R_append (Kd.int .i64) (w0 := w) w.heap.size rfl (.tmp 56) (.tmp 58) 24 3 (.int .i64 0) 8 rfl Try.underlying24 info3 rfl (by decide) (by omega) u4 x4_1 x7_2 [.int .i64 x7_2] (fun k_ => some k_ ≠ (.slice Ao10 t426.length co10 : Value).ownBlock) (fun _ => False) rfl rfl ?aP (fun _ hk => hk.elim) ?aF ?aO ?aB ?aS ?aL ?_; (case aP => exact rfl); (case aB => exact qb); (case aF => exact (fun k_ hk => Kd.fresh' (sqL Oq6) k_ hk)); (case aO => exact (sqr Oq5)); (case aS => exact (below_size qb)); (case aL => have := LMc18.out; omega); intro v433 w19 ho hb hg hat; rw [← Ny432.out] at ho; have n0_ := am (Kd.R_after (ok := (fun _ => True)) (by exact sqm Oq6 (fun _ hk => ⟨trivial, hk⟩)) hg hat); have n1_ := am (blk_grown (g := gb424) (o := .cells #[.int .i64 a0_0, .int .i64 a0_1, .slice A0_2 l0_2.length c0_2] 26 (0, 0)) (sqb BK424) hg (Kd.R_ne Oq5.out BK424.out (by decide))); have n2_ := am hb; have n3_ := am (ho); clear Oq6; clear BK424; clear HB; clear Oq5; have Oq6 := n0_; have BK424 := n1_; have HB := n2_; have Oq3 := n3_; clear n0_ n1_ n2_ n3_; clear ho hb hg hat)))
         go_roundg k2
         case measure => have := HK1.out; have := HK2.out; omega
         case rel => exact ⟨(y432), (wrap64 (x18_1 + 1)), Q3, H', ⟨Q40⟩, ⟨Q56⟩, ⟨by exact sqm Oq6 (fun _ hk => hk.2)⟩, ⟨Q35⟩, ⟨qb⟩⟩
        ·
         rw [if_neg c18] at H
         exact absurd H (by simp)
    ·
     rw [if_neg c11] at H
     have c11b0 : decide (x18_1 < (t426.length : Int)) = false := decide_eq_false c11
     clear c11
     simp only [Option.some.injEq, Prod.mk.injEq] at H
     obtain ⟨rfl, rfl⟩ := H
     go_wp2
     repeat (go_quiet (fail); try go_wp2)
     go_ret2
     exact ⟨_, Q2, by exact sqm Oq5 (fun _ hk => trivial), qb⟩
 ·
  replace c3 := Bool.eq_false_iff.mpr c3
  subst c3
  have H1 : (some (([] : List Int), false)) = some (r1, r2) := by first | (rw [if_neg (show ¬ (false = true) by decide)] at H; exact H) | rfl
  clear H
  have H := H1
  clear H1
  simp only [Option.some.injEq, Prod.mk.injEq] at H
  obtain ⟨rfl, rfl⟩ := H
  go_enter Try.func31, Try.ntmps31
  go_wp2_with (first | ((with_reducible refine gate_dst (N := 1) rfl ?_); refine qv 1 #[.int .i64 a0_0, .int .i64 a0_1, .slice A0_2 l0_2.length c0_2] 26 ?_; intro gb424 hg w20 hbox hb; have BK424 := am hbox; have GW424 := qw hg; have GE424 := qw hg; replace HB := qs hb; clear hb hbox hg; obtain ⟨zq3, zq4, zq5, fq3, fq4, fq5⟩ := qd BK424) | (go_at_call 91; (with_reducible refine (spec_roSquare.calls k a0_0 a0_1 _ _ l0_2 false _ ?side1 HC0_2.out A2.out).mono ?_); (case side1 => exact Q1); rintro e w22 ⟨rfl, hb⟩; replace BK424 := sqB BK424 hb; replace HB := qs hb; (try clear hb)))
  repeat (go_quiet (first | ((with_reducible refine gate_dst (N := 1) rfl ?_); refine qv 1 #[.int .i64 a0_0, .int .i64 a0_1, .slice A0_2 l0_2.length c0_2] 26 ?_; intro gb424 hg w20 hbox hb; have BK424 := am hbox; have GW424 := qw hg; have GE424 := qw hg; replace HB := qs hb; clear hb hbox hg; obtain ⟨zq3, zq4, zq5, fq3, fq4, fq5⟩ := qd BK424) | (go_at_call 91; (with_reducible refine (spec_roSquare.calls k a0_0 a0_1 _ _ l0_2 false _ ?side1 HC0_2.out A2.out).mono ?_); (case side1 => exact Q1); rintro e w22 ⟨rfl, hb⟩; replace BK424 := sqB BK424 hb; replace HB := qs hb; (try clear hb))); try go_wp2_with (first | ((with_reducible refine gate_dst (N := 1) rfl ?_); refine qv 1 #[.int .i64 a0_0, .int .i64 a0_1, .slice A0_2 l0_2.length c0_2] 26 ?_; intro gb424 hg w20 hbox hb; have n0_ := qs hb; have n1_ := am hbox; have n2_ := qw hg; have n3_ := qw hg; clear HB; have HB := n0_; have BK424 := n1_; have GW424 := n2_; have GE424 := n3_; clear n0_ n1_ n2_ n3_; clear hb hbox hg; have zq3 : w20.cell? ⟨gb424, 0, none⟩ = some (.int .i64 a0_0) := sqc BK424 0; have zq4 : w20.cell? ⟨gb424, 1, none⟩ = some (.int .i64 a0_1) := sqc BK424 1; have zq5 : w20.cell? ⟨gb424, 2, none⟩ = some (.slice A0_2 l0_2.length c0_2) := sqc BK424 2; have fq3 := blk_frozen BK424.out 0; have fq4 := blk_frozen BK424.out 1; have fq5 := blk_frozen BK424.out 2) | (go_at_call 91; (with_reducible refine (spec_roSquare.calls k a0_0 a0_1 _ _ l0_2 false _ ?side1 HC0_2.out A2.out).mono ?_); (case side1 => exact Q1); rintro e w22 ⟨rfl, hb⟩; have n1_ := qs hb; clear HB; replace BK424 := sqB BK424 hb; have HB := n1_; clear n1_; (try clear hb); (try clear hb2); (try clear hk); (try clear hi))))
  go_ret2
  exact ⟨_, Q2, Q17, qb⟩

/-! ### impl_newBoard: function 119 -/
def impl_newBoard.f (a0 : Int) (a1 : Int) : Option (Int × Int × List Int) := if 0 ≤ a0 then (if (a0 : Int).toNat ≤ 35184372088832 then (some (a0, a1, (List.replicate (a0 : Int).toNat 0))) else (none)) else (none)
set_option maxHeartbeats 8000000 in
set_option maxRecDepth 100000 in
theorem impl_newBoard.calls (a0 : Int) (a1 : Int) (r1 : Int) (r2 : Int) (r3 : List Int) (w : World) (h : impl_newBoard.f a0 a1 = some (r1, r2, r3)) :
  Calls Try.prog 119 #[.int .i64 a0, .int .i64 a1] w fun e w' => ∃ v2_ : Value, e = .returned (.agg #[.int .i64 r1, .int .i64 r2, v2_]) ∧ Kd.R (Kd.int .i64) 3 w' w.heap.size (fun _ => True) v2_ r3 ∧ Below w.heap.size w w' := by
 have hu26 := Try.underlying26
 have HB := am (Below.refl w.heap.size w)
 have H : (if 0 ≤ a0 then (if (a0 : Int).toNat ≤ 35184372088832 then (some (a0, a1, (List.replicate (a0 : Int).toNat 0))) else (none)) else (none)) = some (r1, r2, r3) := h
 clear h
 by_cases c3 : 0 ≤ a0
 ·
  rw [if_pos c3] at H
  have c3b0 := eq_true c3
  have c3b1 : decide (0 ≤ a0) = true := decide_eq_true c3
  clear c3
  by_cases c4 : (a0 : Int).toNat ≤ 35184372088832
  ·
   rw [if_pos c4] at H
   have c4b0 := eq_true c4
   have c4b1 : decide ((a0 : Int).toNat ≤ 35184372088832) = true := decide_eq_true c4
   clear c4
   obtain ⟨y436, hy_⟩ : ∃ y_ : List Int, y_ = ((List.replicate (a0 : Int).toNat 0)) := ⟨_, rfl⟩
   replace H : (some (a0, a1, y436)) = some (r1, r2, r3) := qH
   have Ny436 := Aside0.mk hy_
   clear hy_
   simp only [Option.some.injEq, Prod.mk.injEq] at H
   obtain ⟨rfl, rfl, rfl⟩ := H
   go_enter Try.func119, Try.ntmps119
   go_wp2_with (first | ((with_reducible refine gate_dst (N := 4) rfl ?_); refine qv 4 #[.int .i64 0, .int .i64 0, .slice none 0 0] 26 ?_; intro gb435 hg w5 hbox hb; have BK435 := am hbox; have GW435 := qw hg; have GE435 := qw hg; replace HB := qs hb; clear hb hbox hg) | ((with_reducible refine gate_dst (N := 8) rfl ?_); refine Kd.R_make (Kd.int .i64) _ 3 rfl (N := 8) rfl 24 _ _ rfl a0 rfl rfl Try.underlying24 (.int .i64 0) 8 info3 rfl (by decide) (by omega) 0 (ok := fun _ => True) (okp := fun _ => True) rfl (fun _ hk => hk) trivial (of_decide_eq_true Q0) (Nat.le_trans (Nat.mul_le_mul_right _ (of_decide_eq_true Q0 : a0.toNat ≤ 35184372088832)) (by omega)) (Below.refl _ _) (Nat.le_refl _) ?_; intro v437 w6 ho7 hb hg_ hnew_; clear hg_ hnew_; (first | rw [← Ny436.out] at ho7 | (simp only [Int.reduceToNat] at ho7; rw [← Ny436.out] at ho7)); have Oq4 := ql ho7; replace BK435 := sqB BK435 hb; replace HB := qs hb; clear hb ho7; obtain ⟨Ao8, co8, eo8⟩ := Kd.R_slice Oq4.out; subst eo8; obtain ⟨zq12, zq13, zq14, fq12, fq13, fq14⟩ := qd BK435))
   refine bodyPost_ret (results_cell_row rfl _ _ gb435 26 #[.int .i64 a0, .int .i64 a1, .slice Ao8 y436.length co8] (0, 0) _ rfl (by (with_reducible repeat (first | refine blk_drewN ?_ _ | refine blk_drew ?_ | refine blk_alloc ?_ _)); refine blk_put (cs := #[.int .i64 a0, .int .i64 a1, .slice none 0 0]) ?_ 2 _ rfl; (with_reducible repeat (first | refine blk_drewN ?_ _ | refine blk_drew ?_ | refine blk_alloc ?_ _)); refine blk_put (cs := #[.int .i64 a0, .int .i64 0, .slice none 0 0]) ?_ 1 _ rfl; (with_reducible repeat (first | refine blk_drewN ?_ _ | refine blk_drew ?_ | refine blk_alloc ?_ _)); refine blk_put (cs := #[.int .i64 0, .int .i64 0, .slice none 0 0]) ?_ 0 _ rfl; (with_reducible repeat (first | refine blk_drewN ?_ _ | refine blk_drew ?_ | refine blk_alloc ?_ _)); exact BK435.out) Try.underlying26 rfl (by kernel_rfl)) rfl ?_
   exact ⟨_, Q2, by (with_reducible repeat (first | apply Kd.R_alloc | apply Kd.R_drewN | apply Kd.R_drew)); exact Kd.R_mono (Kd.R_far (p := ⟨gb435, 2, none⟩) (Kd.R_far (p := ⟨gb435, 1, none⟩) (Kd.R_far (p := ⟨gb435, 0, none⟩) (Kd.R_types Oq4.out BK435.out (by decide)) (fun _ hk => hk.2) (.int .i64 a0)) (fun _ hk => hk.2) (.int .i64 a1)) (fun _ hk => hk.2) (.slice Ao8 y436.length co8)) (fun _ hk => trivial), qb⟩
  ·
   rw [if_neg c4] at H
   exact absurd H (by simp)
 ·
  rw [if_neg c3] at H
  exact absurd H (by simp)

/-! ### impl_Board_mapped: function 55 (by hand) -/
-- (walk)
theorem mp_step {R C i g5 gr go co n : Nat} {f : Nat → Int} {w w' w9 : World} (h5 : w'.heap[g5]? = some (.cells #[.int .i64 R, .int .i64 C, .slice (some ⟨go, 0, none⟩) R co] 26 (0, 0))) (ho : Kd.R (Kd.int .i64) 3 w' w.heap.size (fun _ => True) (.slice (some ⟨go, 0, none⟩) R co) ((List.range i).map f ++ List.replicate (R - i) 0)) (hr : w'.heap[gr]? = some (.cells #[.int .i64 0, .int .i64 0, .slice none 0 0] 26 (0, 0))) (hB : Below w.heap.size w w') (hb9 : Below (w'.drewN n).heap.size (w'.drewN n) w9) (hi : i < R) :
  (w9.setCell ⟨go, i, none⟩ (.int .i64 (f i))).heap[g5]? = some (.cells #[.int .i64 R, .int .i64 C, .slice (some ⟨go, 0, none⟩) R co] 26 (0, 0)) ∧ Kd.R (Kd.int .i64) 3 (w9.setCell ⟨go, i, none⟩ (.int .i64 (f i))) w.heap.size (fun _ => True) (.slice (some ⟨go, 0, none⟩) R co) ((List.range (i + 1)).map f ++ List.replicate (R - (i + 1)) 0) ∧ (w9.setCell ⟨go, i, none⟩ (.int .i64 (f i))).heap[gr]? = some (.cells #[.int .i64 0, .int .i64 0, .slice none 0 0] 26 (0, 0)) ∧ Below w.heap.size w (w9.setCell ⟨go, i, none⟩ (.int .i64 (f i))) := by
 have o9 := Kd.R_below (Kd.R_drewN ho n) hb9
 have b5 := blk_below (blk_drewN h5 n) hb9
 have br := blk_below (blk_drewN hr n) hb9
 have hB9 := below_step (pw_below_drewN hB n) hb9
 have hl : ((List.range i).map f ++ List.replicate (R - i) 0).length = R := by simp; omega
 obtain ⟨g, cap, ev, hbase, _, cells, hcells⟩ := Kd.R_form o9 (by omega)
 injection ev with ev _ _
 injection ev with ev
 injection ev with ev _ _
 subst ev
 have hp := Kd.R_putn o9 (i : Int) (f i)
 rw [Int.toNat_natCast] at hp
 refine ⟨blk_far (p := ⟨go, i, none⟩) b5 (blk_ne b5 hcells (by decide)) _, ?_, blk_far (p := ⟨go, i, none⟩) br (blk_ne br hcells (by decide)) _, below_set hB9 hbase⟩
 have e : ((List.range i).map f ++ List.replicate (R - i) (0 : Int)).set i (f i) = (List.range (i + 1)).map f ++ List.replicate (R - (i + 1)) 0 := by
  rw [List.set_append_right _ _ (by simp), List.length_map, List.length_range, Nat.sub_self, show R - i = (R - (i + 1)) + 1 by omega, List.replicate_succ, List.set_cons_zero, List.range_succ, List.map_append, List.append_assoc]; rfl
 rw [← e]; exact hp
set_option maxHeartbeats 2000000 in
set_option maxRecDepth 4000 in
theorem mp_all {R C cp : Nat} {A : Option Addr} {l : List Int} {fid : FuncId} {caps : Array Value} {w : World} {f : Nat → Int} (hR : 0 < R) (hR6 : R ≤ 6)
  (hcall : ∀ (args : Array Value) (W : World), Sem.run Try.prog (callFunc fid args) W = .ok (.enter fid args) W)
  (call : ∀ w1 i, Below w.heap.size w w1 → i < R → Calls Try.prog fid (#[.int .i64 ((i : Nat) : Int)] ++ caps) w1 fun e w2 => e = .returned (.int .i64 (f i)) ∧ Below w1.heap.size w1 w2) :
  Calls Try.prog 55 #[.agg #[.int .i64 R, .int .i64 C, .slice A l.length cp], .func (.func fid) #[] caps] w fun e w' => ∃ v2 : Value, e = .returned (.agg #[.int .i64 R, .int .i64 C, v2]) ∧ Kd.R (Kd.int .i64) 3 w' w.heap.size (fun _ => True) v2 ((List.range R).map f) ∧ Below w.heap.size w w' := by
 have CALL := Aside0.mk @call
 have HB := am (Below.refl w.heap.size w)
 have HN := am (show impl_newBoard.f (R : Int) (C : Int) = some ((R : Int), (C : Int), List.replicate R 0) by
  unfold impl_newBoard.f
  first | (rw [if_pos (by omega), if_pos (by omega)]; simp) | (simp; omega))
 clear call
 go_enter Try.func55, Try.ntmps55
 go_wp2_with (first
  | ((with_reducible refine gate_dst (N := 2) rfl ?_); refine qv 2 #[.int .i64 R, .int .i64 C, .slice A l.length cp] 26 ?_; intro gb hgb w1 bb hb1; have GB := Aside0.mk hgb; have cb0 := blk_cell bb 0; have cb1 := blk_cell bb 1; have BB := Aside0.mk bb; have HB1 := Aside0.mk hb1; clear hgb bb hb1)
  | ((with_reducible refine gate_dst (N := 4) rfl ?_); refine qv 4 #[.int .i64 0, .int .i64 0, .slice none 0 0] 26 ?_; intro gr hgr w2 br hb2; have GR := Aside0.mk hgr; have BR := Aside0.mk br; have HB2 := Aside0.mk hb2; clear cb0 cb1; have cb0 := blk_cell (blk_below BB.out hb2) 0; have cb1 := blk_cell (blk_below BB.out hb2) 1; clear hgr br hb2)
  | (go_at_call 119; refine (impl_newBoard.calls _ _ _ _ _ _ HN.out).mono ?_; rintro e w3 ⟨v3, rfl, ho3, hb3⟩; obtain ⟨go, co, ev, _, _, _⟩ := Kd.R_form ho3 (by rw [List.length_replicate]; exact hR); rw [List.length_replicate] at ev; subst ev; have Oq0 := Aside0.mk ho3; have HB3 := Aside0.mk hb3; clear ho3 hb3 cb0 cb1)
  | ((with_reducible refine gate_dst (N := 5) rfl ?_); refine qv 5 #[.int .i64 0, .int .i64 0, .slice none 0 0] 26 ?_; intro g5 hg5 w5 b5 hb5; have G5 := Aside0.mk hg5; have B5 := Aside0.mk b5; have HB5 := Aside0.mk hb5; have c50 := blk_cell b5 0; have c51 := blk_cell b5 1; have c52 := blk_cell b5 2; have f50 := blk_frozen b5 0; have f51 := blk_frozen b5 1; have f52 := blk_frozen b5 2; clear hg5 b5 hb5)
  )
 obtain ⟨W5, hW5⟩ : ∃ W5 : World, W5 = ((w5.setCell ⟨g5, 0, none⟩ (.int .i64 R)).setCell ⟨g5, 1, none⟩ (.int .i64 C)).setCell ⟨g5, 2, none⟩ (.slice (some ⟨go, 0, none⟩) R co) := ⟨_, rfl⟩
 rw [← hW5]
 have INV := am (show W5.heap[g5]? = some (.cells #[.int .i64 R, .int .i64 C, .slice (some ⟨go, 0, none⟩) R co] 26 (0, 0)) ∧ Kd.R (Kd.int .i64) 3 W5 w.heap.size (fun _ => True) (.slice (some ⟨go, 0, none⟩) R co) ((List.range 0).map f ++ List.replicate (R - 0) 0) ∧ W5.heap[gr]? = some (.cells #[.int .i64 0, .int .i64 0, .slice none 0 0] 26 (0, 0)) ∧ Below w.heap.size w W5 from by
  have hB1 := HB1.out
  have hB2 := HB2.out
  have hB3 := HB3.out
  have hB5 := HB5.out
  have s1 := hB1.size
  have s2 := hB2.size
  have s3 := hB3.size
  have h5 := G5.out
  have hr := blk_lt BR.out
  have T5 : Below w.heap.size w w5 := below_step (below_step (below_step hB1 hB2) hB3) hB5
  have e0 := blk_put (cs' := #[.int .i64 R, .int .i64 0, .slice none 0 0]) B5.out 0 (.int .i64 R) rfl
  have e1 := blk_put (cs' := #[.int .i64 R, .int .i64 C, .slice none 0 0]) e0 1 (.int .i64 C) rfl
  have e2 := blk_put (cs' := #[.int .i64 R, .int .i64 C, .slice (some ⟨go, 0, none⟩) R co]) e1 2 (.slice (some ⟨go, 0, none⟩) R co) rfl
  have O5 := Kd.R_below Oq0.out hB5
  have O6 := Kd.R_set O5 B5.out Q29 0 (.int .i64 R)
  have O7 := Kd.R_set O6 e0 Q29 1 (.int .i64 C)
  have O8 := Kd.R_set O7 e1 Q29 2 (.slice (some ⟨go, 0, none⟩) R co)
  have r5 := blk_below (blk_below BR.out hB3) hB5
  have r6 := blk_far (p := ⟨g5, 0, none⟩) r5 (show gr ≠ g5 by omega) (.int .i64 R)
  have r7 := blk_far (p := ⟨g5, 1, none⟩) r6 (show gr ≠ g5 by omega) (.int .i64 C)
  have r8 := blk_far (p := ⟨g5, 2, none⟩) r7 (show gr ≠ g5 by omega) (.slice (some ⟨go, 0, none⟩) R co)
  rw [hW5]
  exact ⟨e2, by simpa using Kd.R_lower O8 (by omega), r8, below_set (below_set (below_set T5 (by omega)) (by omega)) (by omega)⟩)
 have G0 := am (show w.heap.size ≤ g5 ∧ w.heap.size ≤ gr ∧ gr ≠ g5 by
  have hB1 := HB1.out.size
  have hB2 := HB2.out.size
  have hB3 := HB3.out.size
  have h5 := G5.out
  have hgr := GR.out
  have hr := blk_lt BR.out
  omega)
 clear hW5 c50 c51 c52 f50 f51 f52
 go_loopw [15] (fun v15 w' => ∃ i : Nat, i ≤ R ∧ v15 = .int .i64 i ∧ Aside0 (w'.heap[g5]? = some (.cells #[.int .i64 R, .int .i64 C, .slice (some ⟨go, 0, none⟩) R co] 26 (0, 0)) ∧ Kd.R (Kd.int .i64) 3 w' w.heap.size (fun _ => True) (.slice (some ⟨go, 0, none⟩) R co) ((List.range i).map f ++ List.replicate (R - i) 0) ∧ w'.heap[gr]? = some (.cells #[.int .i64 0, .int .i64 0, .slice none 0 0] 26 (0, 0)) ∧ Below w.heap.size w w')) (fun v15 _ => ((R : Int) - intOf v15).toNat)
 case atStart => exact ⟨0, by omega, rfl, INV⟩
 case round =>
  clear INV
  obtain ⟨i, hi, rfl, INV⟩ := hrel
  by_cases hlt : i < R
  ·
   have hlt2 : decide ((i : Int) < (R : Int)) = true := decide_eq_true (by omega)
   have hge : decide ((0 : Int) ≤ (i : Int)) = true := decide_eq_true (by omega)
   have c52 := blk_cell INV.out.1 2
   go_wp2_with fail
   go_region_with (refine (CALL.out _ i (pw_below_drewN INV.out.2.2.2 _) hlt).mono ?_; rintro e w9 ⟨rfl, hb9⟩; have HB9 := Aside0.mk hb9; have c92 := blk_cell (blk_below (blk_drewN INV.out.1 _) hb9) 2; have hc9 := Kd.R_celln (0 : Int) (Kd.R_below (Kd.R_drewN INV.out.2.1 _) hb9) (i : Int) (by omega) (by omega); rw [Int.toNat_natCast] at hc9; obtain ⟨k91, k92⟩ := hc9; clear hb9)
   all_goals
    have inv2 := show (w9.setCell ⟨go, i, none⟩ (.int .i64 (f i))).heap[g5]? = some (.cells #[.int .i64 R, .int .i64 C, .slice (some ⟨go, 0, none⟩) R co] 26 (0, 0)) ∧ Kd.R (Kd.int .i64) 3 (w9.setCell ⟨go, i, none⟩ (.int .i64 (f i))) w.heap.size (fun _ => True) (.slice (some ⟨go, 0, none⟩) R co) ((List.range (i + 1)).map f ++ List.replicate (R - (i + 1)) 0) ∧ (w9.setCell ⟨go, i, none⟩ (.int .i64 (f i))).heap[gr]? = some (.cells #[.int .i64 0, .int .i64 0, .slice none 0 0] 26 (0, 0)) ∧ Below w.heap.size w (w9.setCell ⟨go, i, none⟩ (.int .i64 (f i))) from mp_step INV.out.1 INV.out.2.1 INV.out.2.2.1 INV.out.2.2.2 HB9.out hlt
    have INV2 := Aside0.mk inv2
    clear inv2 k91 k92 c92 c52 INV
    simp only [Exit.inBlock, Exit.then]
    go_wp2_with fail
    go_roundw
    case rel => exact ⟨i + 1, by omega, rfl, INV2⟩
    case measure => simp [intOf]; omega
  ·
   obtain rfl : i = R := by omega
   have hlt2 : decide ((i : Int) < (i : Int)) = false := decide_eq_false (by omega)
   have c50 := blk_cell INV.out.1 0
   have c51 := blk_cell INV.out.1 1
   have c52 := blk_cell INV.out.1 2
   have cr0 := blk_cell INV.out.2.2.1 0
   have cr1 := blk_cell INV.out.2.2.1 1
   have cr2 := blk_cell INV.out.2.2.1 2
   have fr0 := blk_frozen INV.out.2.2.1 0
   have fr1 := blk_frozen INV.out.2.2.1 1
   have fr2 := blk_frozen INV.out.2.2.1 2
   go_wp2
   have e0 := blk_put (cs' := #[.int .i64 i, .int .i64 0, .slice none 0 0]) INV.out.2.2.1 0 (.int .i64 i) rfl
   have e1 := blk_put (cs' := #[.int .i64 i, .int .i64 C, .slice none 0 0]) e0 1 (.int .i64 C) rfl
   have e2 := blk_put (cs' := #[.int .i64 i, .int .i64 C, .slice (some ⟨go, 0, none⟩) i co]) e1 2 (.slice (some ⟨go, 0, none⟩) i co) rfl
   refine bodyPost_ret (results_cell_row rfl _ _ gr 26 #[.int .i64 i, .int .i64 C, .slice (some ⟨go, 0, none⟩) i co] (0, 0) _ rfl e2 Try.underlying26 rfl rfl) rfl ?_
   have O6 := Kd.R_set INV.out.2.1 INV.out.2.2.1 Q29 0 (.int .i64 i)
   have O7 := Kd.R_set O6 e0 Q29 1 (.int .i64 C)
   have O8 := Kd.R_set O7 e1 Q29 2 (.slice (some ⟨go, 0, none⟩) i co)
   rw [Nat.sub_self, List.replicate_zero, List.append_nil] at O8
   exact ⟨_, rfl, O8, below_set (below_set (below_set INV.out.2.2.2 G0.out.2.1) G0.out.2.1) G0.out.2.1⟩
theorem mp_end {gr n : Nat} {R C : Int} {A4 : Option Addr} {c4 : Nat} {xs : List Int} {w w3 w4 : World} (br : w4.heap[gr]? = some (.cells #[.int .i64 0, .int .i64 0, .slice none 0 0] 26 (0, 0))) (T3 : Below w.heap.size w w3) (hb4 : Below w3.heap.size w3 w4) (hgr : w.heap.size ≤ gr) (ho4 : Kd.R (Kd.int .i64) 3 w4 w3.heap.size (fun _ => True) (.slice A4 n c4) xs) :
  (((w4.setCell ⟨gr, 0, none⟩ (.int .i64 R)).setCell ⟨gr, 1, none⟩ (.int .i64 C)).setCell ⟨gr, 2, none⟩ (.slice A4 n c4)).heap[gr]? = some (.cells #[.int .i64 R, .int .i64 C, .slice A4 n c4] 26 (0, 0)) ∧ Kd.R (Kd.int .i64) 3 (((w4.setCell ⟨gr, 0, none⟩ (.int .i64 R)).setCell ⟨gr, 1, none⟩ (.int .i64 C)).setCell ⟨gr, 2, none⟩ (.slice A4 n c4)) w.heap.size (fun _ => True) (.slice A4 n c4) xs ∧ Below w.heap.size w (((w4.setCell ⟨gr, 0, none⟩ (.int .i64 R)).setCell ⟨gr, 1, none⟩ (.int .i64 C)).setCell ⟨gr, 2, none⟩ (.slice A4 n c4)) := by
 have e0 := blk_put (cs' := #[.int .i64 R, .int .i64 0, .slice none 0 0]) br 0 (.int .i64 R) rfl
 have e1 := blk_put (cs' := #[.int .i64 R, .int .i64 C, .slice none 0 0]) e0 1 (.int .i64 C) rfl
 have e2 := blk_put (cs' := #[.int .i64 R, .int .i64 C, .slice A4 n c4]) e1 2 (.slice A4 n c4) rfl
 have O6 := Kd.R_set ho4 br Q29 0 (.int .i64 R)
 have O7 := Kd.R_set O6 e0 Q29 1 (.int .i64 C)
 have O8 := Kd.R_set O7 e1 Q29 2 (.slice A4 n c4)
 exact ⟨e2, Kd.R_lower O8 T3.size, below_set (below_set (below_set (below_step T3 hb4) hgr) hgr) hgr⟩
theorem range_get (g : Int → Int) : ∀ l : List Int, (List.range l.length).map (fun i => g (l.getD i 0)) = l.map g := by
 intro l
 refine List.ext_getElem (by simp) ?_
 intro i h1 h2
 have : i < l.length := by simpa using h1
 simp [List.getD, this]

/-! ### impl_ComplementOf: function 32 (by hand) -/
/-- A row's other cells. -/
def cmE (c m : Int) : Int := wrap64 (wrap64 (wrap64 (2 ^ c.toNat) - 1) - m)
def impl_ComplementOf.f (a0_0 a0_1 : Int) (l0_2 : List Int) : Option (Int × Int × List Int × Bool) := some (if GoodB a0_0 a0_1 l0_2 then (a0_0, a0_1, l0_2.map (cmE a0_1), true) else (0, 0, [], false))
-- (walk)
set_option maxHeartbeats 1000000 in
theorem co_one {g i : Nat} {R C : Int} {cp : Nat} {A : Option Addr} {l : List Int} {w : World} (hb : w.heap[g]? = some (.cells #[.int .i64 R, .int .i64 C, .slice A l.length cp] 26 (0, 0))) (hA : Kd.C (Kd.int .i64) w A l.length l) (hi : i < l.length) (h1 : 1 ≤ C) (h6 : C ≤ 6) :
  Calls Try.prog 94 #[.int .i64 i, .pointer (some ⟨g, 0, none⟩)] w fun e w2 => e = .returned (.int .i64 (cmE C (l.getD i 0))) ∧ Below w.heap.size w w2 := by
 have c1 := blk_cell hb 1
 have c2 := blk_cell hb 2
 obtain ⟨ad, e, hx⟩ := Kd.at_int hA (i : Int) (by omega) (by omega)
 cases e
 rw [Int.toNat_natCast, show rd l (i : Int) = l.getD i 0 from rfl] at hx
 have hlt : decide ((i : Int) < (l.length : Int)) = true := decide_eq_true (by omega)
 have hge : decide ((0 : Int) ≤ (i : Int)) = true := decide_eq_true (by omega)
 have hc0 : decide ((0 : Int) ≤ C) = true := decide_eq_true (by omega)
 generalize l.getD i 0 = x at hx ⊢
 have HBB := am (Below.refl w.heap.size w)
 clear hA hb
 go_enter Try.func94, Try.ntmps94
 go_wp2
 go_region
 all_goals (simp only [Exit.then]; go_wp2)
 all_goals go_ret
 all_goals exact ⟨by unfold cmE; rfl, by repeat (first | exact HBB.out | apply pw_below_drewN | apply below_drew1)⟩
set_option maxHeartbeats 2000000 in
set_option maxRecDepth 4000 in
theorem impl_ComplementOf.calls (a0_0 : Int) (a0_1 : Int) (A0_2 : Option Addr) (c0_2 : Nat) (l0_2 : List Int) (r1 : Int) (r2 : Int) (r3 : List Int) (r4 : Bool) (w : World) (hr0_2 : Kd.C (Kd.int .i64) w A0_2 l0_2.length l0_2) (hc0_2 : l0_2.length ≤ c0_2) (h : impl_ComplementOf.f a0_0 a0_1 l0_2 = some (r1, r2, r3, r4)) :
  Calls Try.prog 32 #[.agg #[.int .i64 a0_0, .int .i64 a0_1, .slice A0_2 l0_2.length c0_2]] w fun e w' => ∃ v2_ : Value, e = .returned (.tuple #[.agg #[.int .i64 r1, .int .i64 r2, v2_], .bool r4]) ∧ Kd.R (Kd.int .i64) 3 w' w.heap.size (fun _ => True) v2_ r3 ∧ Below w.heap.size w w' := by
 unfold impl_ComplementOf.f at h
 have hu := Try.underlying26
 have HA := Aside0.mk hr0_2
 clear hr0_2
 by_cases hg : GoodB a0_0 a0_1 l0_2
 ·
  rw [if_pos hg] at h
  simp only [Option.some.injEq, Prod.mk.injEq] at h
  obtain ⟨rfl, rfl, rfl, rfl⟩ := h
  obtain ⟨g1, g2, g3, g4⟩ := hg
  have HI := am (show impl_IsBoard.f a0_0 a0_1 l0_2 = some true by unfold impl_IsBoard.f; rw [decide_eq_true ⟨g1, g2, g3, g4⟩])
  obtain ⟨C, rfl⟩ := Int.eq_ofNat_of_zero_le (show 0 ≤ a0_1 by omega)
  subst g3
  clear g4
  go_enter Try.func32, Try.ntmps32
  go_wp2_with (first
   | ((with_reducible refine gate_dst (N := 1) rfl ?_); refine qv 1 #[.int .i64 l0_2.length, .int .i64 C, .slice A0_2 l0_2.length c0_2] 26 ?_; intro gb hgb w1 bb hb1; have GB := Aside0.mk hgb; have BB := Aside0.mk bb; have HB1 := Aside0.mk hb1; clear hgb bb hb1)
   | ((with_reducible refine gate_dst (N := 2) rfl ?_); refine qv 2 #[.int .i64 0, .int .i64 0, .slice none 0 0] 26 ?_; intro gr hgr w2 br hb2; have GR := Aside0.mk hgr; have BR := Aside0.mk br; have HB2 := Aside0.mk hb2; have BB2 := am (blk_below BB.out hb2); have cb0 := blk_cell BB2.out 0; have cb1 := blk_cell BB2.out 1; have cb2 := blk_cell BB2.out 2; clear hgr br hb2)
   | (go_at_call 66; refine (impl_IsBoard.calls _ _ _ _ _ _ _ (Kd.C_below HA.out (below_step HB1.out HB2.out)) hc0_2 HI.out).mono ?_; rintro e w3 ⟨rfl, hb3⟩; have HB3 := Aside0.mk hb3; have BB3 := am (blk_below BB2.out hb3); have BR3 := am (blk_below BR.out hb3); clear cb0 cb1 cb2; have cb0 := blk_cell BB3.out 0; have cb1 := blk_cell BB3.out 1; have cb2 := blk_cell BB3.out 2; clear hb3)
   )
  have T3 := am (below_step (below_step HB1.out HB2.out) HB3.out)
  refine (mp_all (R := l0_2.length) (C := C) (cp := c0_2) (A := A0_2) (l := l0_2) (fid := 94) (caps := #[.pointer (some ⟨gb, 0, none⟩)]) (w := w3) (f := fun i => cmE C (l0_2.getD i 0)) (by omega) (by omega) (fun _ _ => by kernel_rfl) (fun w1 i hb hi => (co_one (blk_below BB3.out hb) (Kd.C_below HA.out (below_step T3.out hb)) hi (by omega) (by omega)).mono (fun e w' h => h))).mono ?_
  rintro e w4 ⟨v4, rfl, ho4, hb4⟩
  obtain ⟨A4, c4, ev⟩ := Kd.R_slice ho4
  rw [List.length_map, List.length_range] at ev
  subst ev
  have Oq1 := Aside0.mk ho4
  have HB4 := Aside0.mk hb4
  have r4 := blk_below BR3.out hb4
  have BR4 := Aside0.mk r4
  have cr0 := blk_cell r4 0
  have cr1 := blk_cell r4 1
  have cr2 := blk_cell r4 2
  have fr0 := blk_frozen r4 0
  have fr1 := blk_frozen r4 1
  have fr2 := blk_frozen r4 2
  clear ho4 hb4 r4 cb0 cb1 cb2
  go_wp2
  have HE := mp_end (R := (l0_2.length : Int)) (C := (C : Int)) BR4.out T3.out HB4.out (by have := GR.out; have := HB1.out.size; omega) Oq1.out
  refine bodyPost_ret (results_ct rfl _ _ gr 26 #[.int .i64 l0_2.length, .int .i64 C, .slice A4 l0_2.length c4] (0, 0) _ rfl HE.1 hu rfl (by kernel_rfl)) rfl ?_
  exact ⟨_, rfl, by rw [← range_get]; exact HE.2.1, HE.2.2⟩
 ·
  rw [if_neg hg] at h
  simp only [Option.some.injEq, Prod.mk.injEq] at h
  obtain ⟨rfl, rfl, rfl, rfl⟩ := h
  have HI := am (show impl_IsBoard.f a0_0 a0_1 l0_2 = some false by unfold impl_IsBoard.f; rw [decide_eq_false hg])
  clear hg
  go_enter Try.func32, Try.ntmps32
  go_wp2_with (first
   | ((with_reducible refine gate_dst (N := 1) rfl ?_); refine qv 1 #[.int .i64 a0_0, .int .i64 a0_1, .slice A0_2 l0_2.length c0_2] 26 ?_; intro gb hgb w1 bb hb1; have GB := Aside0.mk hgb; have BB := Aside0.mk bb; have HB1 := Aside0.mk hb1; clear hgb bb hb1)
   | ((with_reducible refine gate_dst (N := 2) rfl ?_); refine qv 2 #[.int .i64 0, .int .i64 0, .slice none 0 0] 26 ?_; intro gr hgr w2 br hb2; have GR := Aside0.mk hgr; have BR := Aside0.mk br; have HB2 := Aside0.mk hb2; have BB2 := am (blk_below BB.out hb2); have cb0 := blk_cell BB2.out 0; have cb1 := blk_cell BB2.out 1; have cb2 := blk_cell BB2.out 2; clear hgr br hb2)
   | (go_at_call 66; refine (impl_IsBoard.calls _ _ _ _ _ _ _ (Kd.C_below HA.out (below_step HB1.out HB2.out)) hc0_2 HI.out).mono ?_; rintro e w3 ⟨rfl, hb3⟩; have HB3 := Aside0.mk hb3; have BR3 := am (blk_below BR.out hb3); clear cb0 cb1 cb2; have cr0 := blk_cell BR3.out 0; have cr1 := blk_cell BR3.out 1; have cr2 := blk_cell BR3.out 2; have fr0 := blk_frozen BR3.out 0; have fr1 := blk_frozen BR3.out 1; have fr2 := blk_frozen BR3.out 2; clear hb3)
   )
  have HE := mp_end (R := 0) (C := 0) BR3.out (below_step (below_step HB1.out HB2.out) HB3.out) (Below.refl _ _) (by have := GR.out; have := HB1.out.size; omega) (Kd.R_nil _ _ _ _ _)
  refine bodyPost_ret (results_ct rfl _ _ gr 26 #[.int .i64 0, .int .i64 0, .slice none 0 0] (0, 0) _ rfl HE.1 hu rfl (by kernel_rfl)) rfl ?_
  exact ⟨_, rfl, HE.2.1, HE.2.2⟩

end Go.Proofs.Ytllhofdgbpnkkaa.PFnRookNumbersMultiply
