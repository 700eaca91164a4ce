-- Printed for this claim by wip/pp.py over the kit's printer; Lean checks it.
import Derived.Test.YtllhofdgbpnkkaaPFnPlacementsListedx0
import Derived.Test.YtllhofdgbpnkkaaPFnPlacementsListedx1
import Derived.Test.YtllhofdgbpnkkaaPFnPlacementsListedx2
import Derived.Test.YtllhofdgbpnkkaaPFnPlacementsListedx7
import Derived.Test.YtllhofdgbpnkkaaPFnPlacementsListedx8
import Derived.Test.YtllhofdgbpnkkaaPFnPlacementsListedx10
import Derived.Test.YtllhofdgbpnkkaaPFnPlacementsListedx11
import Derived.Test.YtllhofdgbpnkkaaPFnPlacementsListedx12
import Derived.Test.YtllhofdgbpnkkaaPFnPlacementsListedx13
import Derived.Test.YtllhofdgbpnkkaaPFnPlacementsListedx14
import Derived.Test.YtllhofdgbpnkkaaPFnPlacementsListedx15
namespace Go.Proofs.Ytllhofdgbpnkkaa.PFnPlacementsListed
open Go.RowKit Go.Proofs.YtllhofdgbpnkkaaW.PrintWords Go.Proofs.YtllhofdgbpnkkaaW.PrintLast Go.Proofs.YtllhofdgbpnkkaaW.PrintMore
attribute [local go_sem] max2_int min2_int max_two min_two max_three min_three max_four min_four   -- for this text's walks alone
set_option linter.unusedVariables false
set_option linter.unusedSimpArgs false

/-! ### laws_FnPlacementsListed: function 5 -/
mutual
def laws_FnPlacementsListed.j0 : Nat → List Int → List Int → Int → Int → List Int → Bool → Bool → Int → Int → List Int → Option (Bool)
 | 0, _, _, _, _, _, _, _, _, _, _ => none
 | k + 1, x0, x1, x6, x7, x8, x11, x75, x531000, x531001, x531002 => if x75 = true then (some false) else ((spec_DrawPlacementsOf.f k x1).bind fun bt540 => ((impl_PlacementsOf.f k bt540.1 bt540.2.1 bt540.2.2.1 bt540.2.2.2).bind fun bt547 => ((spec_PlacementsOf.f k bt540.1 bt540.2.1 bt540.2.2.1 bt540.2.2.2).bind fun bt551 => (if (bt547.2 != bt551.2) = true then (laws_FnPlacementsListed.j1 k x0 x1 x6 x7 x8 x11 bt540.2.2.2 bt547.1 bt547.2 true x531000 x531001 x531002 bt540.1 bt540.2.1 bt540.2.2.1) else ((laws_rSameRows.f k bt547.1 bt551.1).bind fun t555 => (laws_FnPlacementsListed.j1 k x0 x1 x6 x7 x8 x11 bt540.2.2.2 bt547.1 bt547.2 (!t555) x531000 x531001 x531002 bt540.1 bt540.2.1 bt540.2.2.1))))))
def laws_FnPlacementsListed.j1 : Nat → List Int → List Int → Int → Int → List Int → Bool → Int → List (List Int) → Bool → Bool → Int → Int → List Int → Int → Int → List Int → Option (Bool)
 | 0, _, _, _, _, _, _, _, _, _, _, _, _, _, _, _, _ => none
 | k + 1, x0, x1, x6, x7, x8, x11, x13, x14, x15, x101, x531000, x531001, x531002, x547000, x547001, x547002 => if x101 = true then (some false) else (if x15 = true then ((impl_RookNumbers.f x547000 x547001 x547002).bind fun bt556 => (if x13 < (bt556.1.length : Int) then (if 0 ≤ x13 then (laws_FnPlacementsListed.j2 k x0 x1 x6 x7 x8 x11 x13 x14 bt556.2 (rd bt556.1 x13) x531000 x531001 x531002 x547000 x547001 x547002) else (none)) else (laws_FnPlacementsListed.j2 k x0 x1 x6 x7 x8 x11 x13 x14 bt556.2 0 x531000 x531001 x531002 x547000 x547001 x547002))) else (laws_FnPlacementsListed.j5 k x0 x1 x6 x7 x8 x11 x531000 x531001 x531002))
def laws_FnPlacementsListed.j5 : Nat → List Int → List Int → Int → Int → List Int → Bool → Int → Int → List Int → Option (Bool)
 | 0, _, _, _, _, _, _, _, _, _ => none
 | k + 1, x0, x1, x6, x7, x8, x11, x531000, x531001, x531002 => (spec_DrawTurnPlacement.f k x1).bind fun bt567 => ((impl_TurnPlacement.f k bt567.1 bt567.2.1 bt567.2.2.1 bt567.2.2.2).bind fun bt576 => ((spec_TurnPlacement.f k bt567.1 bt567.2.1 bt567.2.2.1 bt567.2.2.2).bind fun bt580 => (if (bt576.2 != bt580.2) = true then (laws_FnPlacementsListed.j6 k x0 x6 x7 x8 x11 bt567.2.2.2 bt576.1 bt576.2 true x531000 x531001 x531002 bt567.1 bt567.2.1 bt567.2.2.1) else ((laws_rSame.f k bt576.1 bt580.1).bind fun t584 => (if t584 = true then ((laws_rPlaced.f k bt567.1 bt567.2.1 bt567.2.2.1 bt567.2.2.2).bind fun t585 => (laws_FnPlacementsListed.j6 k x0 x6 x7 x8 x11 bt567.2.2.2 bt576.1 bt576.2 (bt576.2 != t585) x531000 x531001 x531002 bt567.1 bt567.2.1 bt567.2.2.1)) else (laws_FnPlacementsListed.j6 k x0 x6 x7 x8 x11 bt567.2.2.2 bt576.1 bt576.2 true x531000 x531001 x531002 bt567.1 bt567.2.1 bt567.2.2.1))))))
def laws_FnPlacementsListed.j6 : Nat → List Int → Int → Int → List Int → Bool → List Int → List Int → Bool → Bool → Int → Int → List Int → Int → Int → List Int → Option (Bool)
 | 0, _, _, _, _, _, _, _, _, _, _, _, _, _, _, _ => none
 | k + 1, x0, x6, x7, x8, x11, x26, x27, x28, x196, x531000, x531001, x531002, x576000, x576001, x576002 => if x196 = true then (some false) else (if x28 = true then ((impl_TurnBoard.f k x576000 x576001 x576002).bind fun bt586 => ((impl_TurnPlacement.f k bt586.1 bt586.2.1 bt586.2.2.1 x27).bind fun bt593 => (if bt586.2.2.2 = true then (if bt593.2 = true then ((laws_rSame.f k bt593.1 x26).bind fun t597 => (if t597 = true then (laws_FnPlacementsListed.j7 k x0 x6 x7 x8 x11 x531000 x531001 x531002) else (some false))) else (some false)) else (some false)))) else (laws_FnPlacementsListed.j7 k x0 x6 x7 x8 x11 x531000 x531001 x531002))
def laws_FnPlacementsListed.j7 : Nat → List Int → Int → Int → List Int → Bool → Int → Int → List Int → Option (Bool)
 | 0, _, _, _, _, _, _, _, _ => none
 | k + 1, x0, x6, x7, x8, x11, x531000, x531001, x531002 => (spec_DrawCountRooks.f k x0).bind fun t598 => ((impl_CountRooks.f t598).bind fun bt601 => ((spec_CountRooks.f k t598).bind fun bt603 => (if (bt601.2 != bt603.2) = true then (laws_FnPlacementsListed.j8 k x6 x7 x8 x11 true x531000 x531001 x531002) else (laws_FnPlacementsListed.j8 k x6 x7 x8 x11 (bt601.1 != bt603.1) x531000 x531001 x531002))))
def laws_FnPlacementsListed.j8 : Nat → Int → Int → List Int → Bool → Bool → Int → Int → List Int → Option (Bool)
 | 0, _, _, _, _, _, _, _, _ => none
 | k + 1, x6, x7, x8, x11, x240, x531000, x531001, x531002 => if x240 = true then (some false) else (if x11 = true then ((impl_RankPlacement.f k x531000 x531001 x531002 x8).bind fun bt605 => ((impl_CountRooks.f x8).bind fun bt607 => (if bt605.2 = true then (if bt607.2 = true then (if bt605.1 = x7 then (some (bt607.1 == x6)) else (some false)) else (some false)) else (some false)))) else (some true))
def laws_FnPlacementsListed.j2 : Nat → List Int → List Int → Int → Int → List Int → Bool → Int → List (List Int) → Bool → Int → Int → Int → List Int → Int → Int → List Int → Option (Bool)
 | 0, _, _, _, _, _, _, _, _, _, _, _, _, _, _, _, _ => none
 | k + 1, x0, x1, x6, x7, x8, x11, x13, x14, x19, x20, x531000, x531001, x531002, x547000, x547001, x547002 => if x19 = true then (laws_FnPlacementsListed.j3 k x0 x1 x6 x7 x8 x11 x13 x14 ((x14.length : Int) != x20) x531000 x531001 x531002 x547000 x547001 x547002) else (laws_FnPlacementsListed.j3 k x0 x1 x6 x7 x8 x11 x13 x14 true x531000 x531001 x531002 x547000 x547001 x547002)
def laws_FnPlacementsListed.j3 : Nat → List Int → List Int → Int → Int → List Int → Bool → Int → List (List Int) → Bool → Int → Int → List Int → Int → Int → List Int → Option (Bool)
 | 0, _, _, _, _, _, _, _, _, _, _, _, _, _, _, _ => none
 | k + 1, x0, x1, x6, x7, x8, x11, x13, x14, x123, x531000, x531001, x531002, x547000, x547001, x547002 => if x123 = true then (some false) else (laws_FnPlacementsListed.l0 k x0 x1 x6 x7 x8 x11 x13 x14 x14 (x14.length : Int) 0 x531000 x531001 x531002 x547000 x547001 x547002)
def laws_FnPlacementsListed.l0 : Nat → List Int → List Int → Int → Int → List Int → Bool → Int → List (List Int) → List (List Int) → Int → Int → Int → Int → List Int → Int → Int → List Int → Option (Bool)
 | 0, _, _, _, _, _, _, _, _, _, _, _, _, _, _, _, _, _ => none
 | k + 1, x0, x1, x6, x7, x8, x11, x13, x14, x124, x125, x126, x531000, x531001, x531002, x547000, x547001, x547002 => if x126 < x125 then (if 0 ≤ x126 then (if x126 < (x124.length : Int) then ((impl_CountRooks.f (rd_L2 x124 x126)).bind fun bt562 => ((laws_rPlaced.f k x547000 x547001 x547002 (rd_L2 x124 x126)).bind fun t564 => (if t564 = true then (if bt562.2 = true then (if bt562.1 = x13 then (if x126 > 0 then (if 0 ≤ (wrap64 (x126 - 1)) then (if (wrap64 (x126 - 1)) < (x14.length : Int) then ((laws_rLess.f k (rd_L2 x14 (wrap64 (x126 - 1))) (rd_L2 x124 x126)).bind fun t566 => (if t566 = true then (laws_FnPlacementsListed.l0 k x0 x1 x6 x7 x8 x11 x13 x14 x124 x125 (wrap64 (x126 + 1)) x531000 x531001 x531002 x547000 x547001 x547002) else (some false))) else (none)) else (none)) else (laws_FnPlacementsListed.l0 k x0 x1 x6 x7 x8 x11 x13 x14 x124 x125 (wrap64 (x126 + 1)) x531000 x531001 x531002 x547000 x547001 x547002)) else (some false)) else (some false)) else (some false)))) else (none)) else (none)) else (laws_FnPlacementsListed.j5 k x0 x1 x6 x7 x8 x11 x531000 x531001 x531002)
end
def laws_FnPlacementsListed.f (k : Nat) (l0 : List Int) (l1 : List Int) : Option (Bool) := (laws_big.f l0 l1).bind fun t522 => (if t522 = true then (some true) else ((spec_DrawPlacementWith.f k l0).bind fun bt523 => ((impl_PlacementWith.f k bt523.1 bt523.2.1 bt523.2.2.1 bt523.2.2.2.1 bt523.2.2.2.2).bind fun bt531 => ((spec_PlacementWith.f k bt523.1 bt523.2.1 bt523.2.2.1 bt523.2.2.2.1 bt523.2.2.2.2).bind fun bt535 => (if (bt531.2 != bt535.2) = true then (laws_FnPlacementsListed.j0 k l0 l1 bt523.2.2.2.1 bt523.2.2.2.2 bt531.1 bt535.2 true bt523.1 bt523.2.1 bt523.2.2.1) else ((laws_rSame.f k bt531.1 bt535.1).bind fun t539 => (laws_FnPlacementsListed.j0 k l0 l1 bt523.2.2.2.1 bt523.2.2.2.2 bt531.1 bt535.2 (!t539) bt523.1 bt523.2.1 bt523.2.2.1)))))))
theorem laws_FnPlacementsListed.j0_no (k : Nat) (x0 : List Int) (x1 : List Int) (x6 : Int) (x7 : Int) (x8 : List Int) (x11 : Bool) (x531000 : Int) (x531001 : Int) (x531002 : List Int) : ¬ (laws_FnPlacementsListed.j0 k x0 x1 x6 x7 x8 x11 true x531000 x531001 x531002 = some true) := by
 cases k <;> simp [laws_FnPlacementsListed.j0]
theorem laws_FnPlacementsListed.j1_no (k : Nat) (x0 : List Int) (x1 : List Int) (x6 : Int) (x7 : Int) (x8 : List Int) (x11 : Bool) (x13 : Int) (x14 : List (List Int)) (x15 : Bool) (x531000 : Int) (x531001 : Int) (x531002 : List Int) (x547000 : Int) (x547001 : Int) (x547002 : List Int) : ¬ (laws_FnPlacementsListed.j1 k x0 x1 x6 x7 x8 x11 x13 x14 x15 true x531000 x531001 x531002 x547000 x547001 x547002 = some true) := by
 cases k <;> simp [laws_FnPlacementsListed.j1]
theorem laws_FnPlacementsListed.j6_no (k : Nat) (x0 : List Int) (x6 : Int) (x7 : Int) (x8 : List Int) (x11 : Bool) (x26 : List Int) (x27 : List Int) (x28 : Bool) (x531000 : Int) (x531001 : Int) (x531002 : List Int) (x576000 : Int) (x576001 : Int) (x576002 : List Int) : ¬ (laws_FnPlacementsListed.j6 k x0 x6 x7 x8 x11 x26 x27 x28 true x531000 x531001 x531002 x576000 x576001 x576002 = some true) := by
 cases k <;> simp [laws_FnPlacementsListed.j6]
theorem laws_FnPlacementsListed.j8_no (k : Nat) (x6 : Int) (x7 : Int) (x8 : List Int) (x11 : Bool) (x531000 : Int) (x531001 : Int) (x531002 : List Int) : ¬ (laws_FnPlacementsListed.j8 k x6 x7 x8 x11 true x531000 x531001 x531002 = some true) := by
 cases k <;> simp [laws_FnPlacementsListed.j8]
theorem laws_FnPlacementsListed.j3_no (k : Nat) (x0 : List Int) (x1 : List Int) (x6 : Int) (x7 : Int) (x8 : List Int) (x11 : Bool) (x13 : Int) (x14 : List (List Int)) (x531000 : Int) (x531001 : Int) (x531002 : List Int) (x547000 : Int) (x547001 : Int) (x547002 : List Int) : ¬ (laws_FnPlacementsListed.j3 k x0 x1 x6 x7 x8 x11 x13 x14 true x531000 x531001 x531002 x547000 x547001 x547002 = some true) := by
 cases k <;> simp [laws_FnPlacementsListed.j3]

/-- A premise that is found later: kept out of the sight of the tactics. -/
structure laws_FnPlacementsListed.Hld (p : Prop) : Prop where
 out : p
set_option maxHeartbeats 200000000 in
set_option maxRecDepth 100000 in
def laws_FnPlacementsListed.S0 : PSigma fun P_ : Prop => laws_FnPlacementsListed.Hld P_ → ∀ (k : Nat) (A0 : Option Addr) (c0 : Nat) (l0 : List Int) (A1 : Option Addr) (c1 : Nat) (l1 : List Int) (w : World) (hr0 : Kd.C (Kd.int .u8) w A0 l0.length l0) (hc0 : l0.length ≤ c0) (hr1 : Kd.C (Kd.int .u8) w A1 l1.length l1) (hc1 : l1.length ≤ c1) (h : laws_FnPlacementsListed.f k l0 l1 = some true), Calls Try.prog 5 #[.slice A0 l0.length c0, .slice A1 l1.length c1] w fun e w' => e = .returned (.bool true) ∧ Below w.heap.size w w' := ⟨_, by
 intro hS_
 intro k A0 c0 l0 A1 c1 l1 w hr0 hc0 hr1 hc1 h
 have hu26 := Try.underlying26
 have HR0 := Aside0.mk hr0
 have HC0 := Aside0.mk hc0
 clear hr0 hc0
 have HR1 := Aside0.mk hr1
 have HC1 := Aside0.mk hc1
 clear hr1 hc1
 have HB := am (Below.refl w.heap.size w)
 have H : ((laws_big.f l0 l1).bind fun t522 => (if t522 = true then (some true) else ((spec_DrawPlacementWith.f k l0).bind fun bt523 => ((impl_PlacementWith.f k bt523.1 bt523.2.1 bt523.2.2.1 bt523.2.2.2.1 bt523.2.2.2.2).bind fun bt531 => ((spec_PlacementWith.f k bt523.1 bt523.2.1 bt523.2.2.1 bt523.2.2.2.1 bt523.2.2.2.2).bind fun bt535 => (if (bt531.2 != bt535.2) = true then (laws_FnPlacementsListed.j0 k l0 l1 bt523.2.2.2.1 bt523.2.2.2.2 bt531.1 bt535.2 true bt523.1 bt523.2.1 bt523.2.2.1) else ((laws_rSame.f k bt531.1 bt535.1).bind fun t539 => (laws_FnPlacementsListed.j0 k l0 l1 bt523.2.2.2.1 bt523.2.2.2.2 bt531.1 bt535.2 (!t539) bt523.1 bt523.2.1 bt523.2.2.1)))))))) = some true := h
 clear h
 replace H := qE H
 obtain ⟨t522, A3, H⟩ := H
 replace H : (if t522 = true then (some true) else ((spec_DrawPlacementWith.f k l0).bind fun bt523 => ((impl_PlacementWith.f k bt523.1 bt523.2.1 bt523.2.2.1 bt523.2.2.2.1 bt523.2.2.2.2).bind fun bt531 => ((spec_PlacementWith.f k bt523.1 bt523.2.1 bt523.2.2.1 bt523.2.2.2.1 bt523.2.2.2.2).bind fun bt535 => (if (bt531.2 != bt535.2) = true then (laws_FnPlacementsListed.j0 k l0 l1 bt523.2.2.2.1 bt523.2.2.2.2 bt531.1 bt535.2 true bt523.1 bt523.2.1 bt523.2.2.1) else ((laws_rSame.f k bt531.1 bt535.1).bind fun t539 => (laws_FnPlacementsListed.j0 k l0 l1 bt523.2.2.2.1 bt523.2.2.2.2 bt531.1 bt535.2 (!t539) bt523.1 bt523.2.1 bt523.2.2.1))))))) = some true := H
 by_cases c4 : t522 = true
 ·
  subst c4
  have H1 : (some true) = some true := by first | (rw [if_pos rfl] at H; exact H) | rfl
  clear H
  have H := H1
  clear H1 H
  go_enter Try.func5, Try.ntmps5
  go_wp2_with (first | ((with_reducible refine gate_callee (f := 6) rfl ?_); refine qg (some 46) Try.func6 #[.slice A0 l0.length c0, .slice A1 l1.length c1] ?_; (with_reducible refine (laws_big.calls _ _ l0 _ _ l1 true _ ?side1 HC0.out ?side3 HC1.out A3.out).mono ?_); (case side1 => exact Q22); (case side3 => repeat (first | exact HR1.out | (with_reducible first | refine Kd.C_alloc ?_ _ | refine Kd.C_drewN ?_ _ | refine Kd.C_drew ?_))); rintro e w' ⟨rfl, ⟨nd, rfl⟩⟩; refine ⟨_, rfl, ?_⟩))
  go_ret
  exact ⟨Q2, qb⟩
 ·
  replace c4 := Bool.eq_false_iff.mpr c4
  subst c4
  have H1 : ((spec_DrawPlacementWith.f k l0).bind fun bt523 => ((impl_PlacementWith.f k bt523.1 bt523.2.1 bt523.2.2.1 bt523.2.2.2.1 bt523.2.2.2.2).bind fun bt531 => ((spec_PlacementWith.f k bt523.1 bt523.2.1 bt523.2.2.1 bt523.2.2.2.1 bt523.2.2.2.2).bind fun bt535 => (if (bt531.2 != bt535.2) = true then (laws_FnPlacementsListed.j0 k l0 l1 bt523.2.2.2.1 bt523.2.2.2.2 bt531.1 bt535.2 true bt523.1 bt523.2.1 bt523.2.2.1) else ((laws_rSame.f k bt531.1 bt535.1).bind fun t539 => (laws_FnPlacementsListed.j0 k l0 l1 bt523.2.2.2.1 bt523.2.2.2.2 bt531.1 bt535.2 (!t539) bt523.1 bt523.2.1 bt523.2.2.1)))))) = some true := by first | (rw [if_neg (show ¬ (false = true) by decide)] at H; exact H) | rfl
  clear H
  have H := H1
  clear H1
  replace H := qE H
  obtain ⟨⟨t523, t524, t525, t528, t529⟩, A5, H⟩ := H
  replace H : ((impl_PlacementWith.f k t523 t524 t525 t528 t529).bind fun bt531 => ((spec_PlacementWith.f k t523 t524 t525 t528 t529).bind fun bt535 => (if (bt531.2 != bt535.2) = true then (laws_FnPlacementsListed.j0 k l0 l1 t528 t529 bt531.1 bt535.2 true t523 t524 t525) else ((laws_rSame.f k bt531.1 bt535.1).bind fun t539 => (laws_FnPlacementsListed.j0 k l0 l1 t528 t529 bt531.1 bt535.2 (!t539) t523 t524 t525))))) = some true := H
  replace H := qE H
  obtain ⟨⟨t531, t534⟩, A6, H⟩ := H
  replace H : ((spec_PlacementWith.f k t523 t524 t525 t528 t529).bind fun bt535 => (if (t534 != bt535.2) = true then (laws_FnPlacementsListed.j0 k l0 l1 t528 t529 t531 bt535.2 true t523 t524 t525) else ((laws_rSame.f k t531 bt535.1).bind fun t539 => (laws_FnPlacementsListed.j0 k l0 l1 t528 t529 t531 bt535.2 (!t539) t523 t524 t525)))) = some true := H
  replace H := qE H
  obtain ⟨⟨t535, t538⟩, A7, H⟩ := H
  replace H : (if (t534 != t538) = true then (laws_FnPlacementsListed.j0 k l0 l1 t528 t529 t531 t538 true t523 t524 t525) else ((laws_rSame.f k t531 t535).bind fun t539 => (laws_FnPlacementsListed.j0 k l0 l1 t528 t529 t531 t538 (!t539) t523 t524 t525))) = some true := H
  have HC8 := Aside0.mk H
  clear H
  go_enter Try.func5, Try.ntmps5
  go_upto_region 6 with (first | ((with_reducible refine gate_callee (f := 6) rfl ?_); refine qg (some 46) Try.func6 #[.slice A0 l0.length c0, .slice A1 l1.length c1] ?_; (with_reducible refine (laws_big.calls _ _ l0 _ _ l1 false _ ?side1 HC0.out ?side3 HC1.out A3.out).mono ?_); (case side1 => exact Q22); (case side3 => repeat (first | exact HR1.out | (with_reducible first | refine Kd.C_alloc ?_ _ | refine Kd.C_drewN ?_ _ | refine Kd.C_drew ?_))); rintro e w' ⟨rfl, ⟨nd, rfl⟩⟩; refine ⟨_, rfl, ?_⟩) | ((with_reducible refine gate_callee (f := 36) rfl ?_); refine qg (some 49) Try.func36 #[.slice A0 l0.length c0] ?_; (with_reducible refine (spec_DrawPlacementWith.calls k _ _ l0 t523 t524 t525 t528 t529 _ ?side1 HC0.out A5.out).mono ?_); (case side1 => exact Q22); rintro e w9 ⟨v526, rfl, ho0, hb⟩; refine ⟨_, rfl, ?_⟩; have Oq0 := ql ho0; replace HB := qs hb; (try clear hb ho0)) | ((with_reducible refine gate_dst (N := 5) rfl ?_); (try (refine gate_guard (by rfl) ?_; dsimp only)); refine qv 5 #[.int .i64 0, .int .i64 0, .slice none 0 0] 26 ?_; intro gb530 hg w10 hbox hb; have BK530 := am hbox; have GW530 := qw hg; have GE530 := qw hg; replace Oq0 := sqR Oq0 hb; replace HB := qs hb; clear hb hbox hg; obtain ⟨zq6, zq7, zq8, fq6, fq7, fq8⟩ := qd BK530; obtain ⟨Ao12, co12, eo12⟩ := Kd.R_slice Oq0.out; subst eo12) | ((with_reducible refine gate_callee (f := 37) rfl ?_); refine qg (some 57) Try.func37 #[.agg #[.int .i64 t523, .int .i64 t524, .slice Ao12 t525.length co12], .int .i64 t528, .int .i64 t529] ?_; (with_reducible refine (impl_PlacementWith.calls k t523 t524 _ _ t525 t528 t529 t531 t534 _ ?side1 ?side2 A6.out).mono ?_); (case side1 => refine (Kd.R_reads' (e := 3) (base := w.heap.size) (ok := fun k_ => True) (n := t525.length) (c := co12) ?_).2.2; exact (sqw (Kd.R_mono (sqo Oq0 BK530) qh))); (case side2 => exact (Kd.R_reads' Oq0.out).2.1); rintro e w13 ⟨v532, rfl, ho0, hb⟩; refine ⟨_, rfl, ?_⟩; have Oq1 := am (Kd.R_lower (Kd.R_new' ho0 (sqv (sqo Oq0 BK530))) (below_size qb)); replace Oq0 := qe (sqw (sqo Oq0 BK530)) ho0 hb; replace BK530 := sqBp BK530 (.int .i64 t523) (.int .i64 t524) (.slice Ao12 t525.length co12) hb; replace HB := qs hb; (try clear hb ho0); obtain ⟨zq12, zq13, zq14, fq12, fq13, fq14⟩ := qd BK530) | ((with_reducible refine gate_callee (f := 38) rfl ?_); refine qg (some 64) Try.func38 #[.agg #[.int .i64 t523, .int .i64 t524, .slice Ao12 t525.length co12], .int .i64 t528, .int .i64 t529] ?_; (with_reducible refine (spec_PlacementWith.calls k t523 t524 _ _ t525 t528 t529 t535 t538 _ ?side1 ?side2 A7.out).mono ?_); (case side1 => repeat (first | exact (Kd.R_reads' Oq0.out).2.2 | (with_reducible first | refine Kd.C_alloc ?_ _ | refine Kd.C_drewN ?_ _ | refine Kd.C_drew ?_))); (case side2 => exact (Kd.R_reads' Oq0.out).2.1); rintro e w15 ⟨v536, rfl, ho0, hb⟩; refine ⟨_, rfl, ?_⟩; have Oq2 := am (Kd.V_lower (Kd.V_mono (ok' := fun k_ => some k_ ≠ (.slice Ao12 t525.length co12 : Value).ownBlock ∧ some k_ ≠ (v532 : Value).ownBlock ∧ k_ ≠ gb530) ho0 (fun k_ hk_ => ⟨(Kd.fresh' (sqL Oq0) k_ hk_), (Kd.fresh' (sqL Oq1) k_ hk_), (Kd.freshB (g := gb530) (o := .cells #[.int .i64 t523, .int .i64 t524, .slice Ao12 t525.length co12] 26 (0, 0)) (sqb BK530) k_ hk_)⟩)) (below_size qb)); replace Oq0 := sqR Oq0 hb; replace Oq1 := sqR Oq1 hb; replace BK530 := sqB BK530 hb; replace HB := qs hb; (try clear hb ho0)))
  (try simp only [Act.put, List.setIfInBounds_toArray, List.set_cons_zero, List.set_cons_succ])
  go_cut [75] (fun v75 wc => ∃ (kq : Nat) (x75_7 : Bool), v75 = .bool x75_7 ∧ Aside0 (laws_FnPlacementsListed.j0 kq l0 l1 t528 t529 t531 t538 x75_7 t523 t524 t525 = some true) ∧ Aside0 (kq ≤ k) ∧ Aside0 (Kd.R (Kd.int .i64) 3 wc w.heap.size (fun k_ => some k_ ≠ ((.slice Ao12 t525.length co12) : Value).ownBlock) v532 t531) ∧ Aside0 (Kd.R (Kd.int .i64) 3 wc w.heap.size (fun k_ => some k_ ≠ (v532 : Value).ownBlock) (.slice Ao12 t525.length co12) t525) ∧ Aside0 (wc.heap[gb530]? = some (.cells #[.int .i64 t523, .int .i64 t524, (.slice Ao12 t525.length co12)] 26 (0, 0))) ∧ Aside0 (Below w.heap.size w wc))
  case first =>
   refine ?zq0
   let rec q0 : type_of% ?zq0 := by
     have H := HC8.out
     clear HC8
     by_cases c16 : (t534 != t538) = true
     ·
      rw [if_pos c16] at H
      have c16b0 : (t534 != t538) = true := c16
      (try (have c16b1 : decide (t534 = t538) = false := by simpa using c16))
      (try (have c16b2 : (t534 == t538) = false := by simpa using c16))
      (try (have c16b3 : ¬ (t534 = t538) := by simpa using c16))
      clear c16
      (first | rw [c16b0] | (simp only [i64_w, i32_w]; rw [c16b0]) | rw [c16b1] | skip)
      exact absurd H (laws_FnPlacementsListed.j0_no _ _ _ _ _ _ _ _ _ _)
     ·
      rw [if_neg c16] at H
      have c16b0 : (t534 != t538) = false := by simpa using c16
      (try (have c16b1 : decide (t534 = t538) = true := by simpa using c16))
      (try (have c16b2 : (t534 == t538) = true := by simpa using c16))
      clear c16
      (first | rw [c16b0] | (simp only [i64_w, i32_w]; rw [c16b0]) | rw [c16b1] | skip)
      replace H := qE H
      obtain ⟨t539, A17, H⟩ := H
      replace H : (laws_FnPlacementsListed.j0 k l0 l1 t528 t529 t531 t538 (!t539) t523 t524 t525) = some true := H
      have H' := Aside0.mk H
      clear H
      obtain ⟨Ao18, co18, eo18⟩ := Kd.R_slice Oq1.out
      subst eo18
      obtain ⟨Ao19, co19, eo19⟩ := Kd.V_slice Oq2.out
      subst eo19
      go_wp2_with (first | (go_at_call 25; (with_reducible refine (laws_rSame.calls k _ _ t531 _ _ t535 t539 _ ?side1 ?side2 ?side3 ?side4 A17.out).mono ?_); (case side1 => repeat (first | exact (Kd.R_reads' Oq1.out).2.2 | (with_reducible first | refine Kd.C_alloc ?_ _ | refine Kd.C_drewN ?_ _ | refine Kd.C_drew ?_))); (case side2 => exact (Kd.R_reads' Oq1.out).2.1); (case side3 => repeat (first | exact (Kd.V_reads' Oq2.out).2.2 | (with_reducible first | refine Kd.C_alloc ?_ _ | refine Kd.C_drewN ?_ _ | refine Kd.C_drew ?_))); (case side4 => exact (Kd.V_reads' Oq2.out).2.1); rintro e w' ⟨rfl, ⟨nd, rfl⟩⟩))
      go_meet
      case rel => exact ⟨_, (!t539), Q3, H', ⟨Q47⟩, ⟨by exact sqm Oq1 (fun _ hk => hk.2)⟩, ⟨by exact sqm Oq0 (fun _ hk => hk.2)⟩, ⟨Q11⟩, ⟨qb⟩⟩
   exact q0
  case rest =>
   refine ?zq1
   let rec q1 : type_of% ?zq1 := by
     clear HC8
     try clear c4; try clear c16; try clear c16b0; try clear c16b1; try clear c16b2; try clear zq6; try clear zq7; try clear zq8; try clear zq12; try clear zq13; try clear zq14; try clear fq6; try clear fq7; try clear fq8; try clear fq12; try clear fq13; try clear fq14
     obtain ⟨kq, x75_7, rfl, HA, HJ7, Oq21, Oq18, BK530, HB⟩ := hcut
     cases kq with
     | zero => exact absurd HA.out (by simp [laws_FnPlacementsListed.j0])
     | succ kj7 =>
      have H := HA.out
      clear HA
      simp only [laws_FnPlacementsListed.j0] at H
      by_cases c20 : x75_7 = true
      ·
       subst c20
       have H1 : (some false) = some true := by first | (rw [if_pos rfl] at H; exact H) | rfl
       clear H
       have H := H1
       clear H1
       exact absurd (Option.some.inj H) (by decide)
      ·
       replace c20 := Bool.eq_false_iff.mpr c20
       subst c20
       have H1 : ((spec_DrawPlacementsOf.f kj7 l1).bind fun bt540 => ((impl_PlacementsOf.f kj7 bt540.1 bt540.2.1 bt540.2.2.1 bt540.2.2.2).bind fun bt547 => ((spec_PlacementsOf.f kj7 bt540.1 bt540.2.1 bt540.2.2.1 bt540.2.2.2).bind fun bt551 => (if (bt547.2 != bt551.2) = true then (laws_FnPlacementsListed.j1 kj7 l0 l1 t528 t529 t531 t538 bt540.2.2.2 bt547.1 bt547.2 true t523 t524 t525 bt540.1 bt540.2.1 bt540.2.2.1) else ((laws_rSameRows.f kj7 bt547.1 bt551.1).bind fun t555 => (laws_FnPlacementsListed.j1 kj7 l0 l1 t528 t529 t531 t538 bt540.2.2.2 bt547.1 bt547.2 (!t555) t523 t524 t525 bt540.1 bt540.2.1 bt540.2.2.1)))))) = some true := by first | (rw [if_neg (show ¬ (false = true) by decide)] at H; exact H) | rfl
       clear H
       have H := H1
       clear H1
       replace H := qE H
       obtain ⟨⟨t540, t541, t542, t545⟩, A21, H⟩ := H
       replace H : ((impl_PlacementsOf.f kj7 t540 t541 t542 t545).bind fun bt547 => ((spec_PlacementsOf.f kj7 t540 t541 t542 t545).bind fun bt551 => (if (bt547.2 != bt551.2) = true then (laws_FnPlacementsListed.j1 kj7 l0 l1 t528 t529 t531 t538 t545 bt547.1 bt547.2 true t523 t524 t525 t540 t541 t542) else ((laws_rSameRows.f kj7 bt547.1 bt551.1).bind fun t555 => (laws_FnPlacementsListed.j1 kj7 l0 l1 t528 t529 t531 t538 t545 bt547.1 bt547.2 (!t555) t523 t524 t525 t540 t541 t542))))) = some true := H
       replace H := qE H
       obtain ⟨⟨t547, t550⟩, A22, H⟩ := H
       replace H : ((spec_PlacementsOf.f kj7 t540 t541 t542 t545).bind fun bt551 => (if (t550 != bt551.2) = true then (laws_FnPlacementsListed.j1 kj7 l0 l1 t528 t529 t531 t538 t545 t547 t550 true t523 t524 t525 t540 t541 t542) else ((laws_rSameRows.f kj7 t547 bt551.1).bind fun t555 => (laws_FnPlacementsListed.j1 kj7 l0 l1 t528 t529 t531 t538 t545 t547 t550 (!t555) t523 t524 t525 t540 t541 t542)))) = some true := H
       replace H := qE H
       obtain ⟨⟨t551, t554⟩, A23, H⟩ := H
       replace H : (if (t550 != t554) = true then (laws_FnPlacementsListed.j1 kj7 l0 l1 t528 t529 t531 t538 t545 t547 t550 true t523 t524 t525 t540 t541 t542) else ((laws_rSameRows.f kj7 t547 t551).bind fun t555 => (laws_FnPlacementsListed.j1 kj7 l0 l1 t528 t529 t531 t538 t545 t547 t550 (!t555) t523 t524 t525 t540 t541 t542))) = some true := H
       have HC24 := Aside0.mk H
       clear H
       go_upto_region 11 with (first | ((with_reducible refine gate_callee (f := 39) rfl ?_); refine qg (some 78) Try.func39 #[.slice A1 l1.length c1] ?_; (with_reducible refine (spec_DrawPlacementsOf.calls kj7 _ _ l1 t540 t541 t542 t545 _ ?side1 HC1.out A21.out).mono ?_); (case side1 => exact Q10); rintro e w25 ⟨v543, rfl, ho0, hb⟩; refine ⟨_, rfl, ?_⟩; have Oq3 := am (Kd.R_lower (Kd.R_new' (Kd.R_new' ho0 (sqL Oq21)) (sqL Oq18)) (below_size qb)); replace Oq21 := sqE Oq21 ho0 hb; replace Oq18 := sqE Oq18 ho0 hb; replace BK530 := sqB BK530 hb; replace HB := qs hb; (try clear hb ho0)) | ((with_reducible refine gate_dst (N := 12) rfl ?_); (try (refine gate_guard (by rfl) ?_; dsimp only)); refine qv 12 #[.int .i64 0, .int .i64 0, .slice none 0 0] 26 ?_; intro gb546 hg w26 hbox hb; have BK546 := am hbox; have GW546 := qw hg; have GE546 := qw hg; have Nq0 := qn hg BK530; have Nq3 := qN hg BK530; replace Oq21 := sqR Oq21 hb; replace Oq18 := sqR Oq18 hb; replace Oq3 := sqR Oq3 hb; replace BK530 := sqB BK530 hb; replace HB := qs hb; clear hb hbox hg; have bq3 := Nq3.out; have cq3 := Nq0.out; obtain ⟨zq15, zq16, zq17, fq15, fq16, fq17⟩ := qd BK546; obtain ⟨Ao29, co29, eo29⟩ := Kd.R_slice Oq3.out; subst eo29) | ((with_reducible refine gate_callee (f := 40) rfl ?_); refine qg (some 84) Try.func40 #[.agg #[.int .i64 t540, .int .i64 t541, .slice Ao29 t542.length co29], .int .i64 t545] ?_; (with_reducible refine (impl_PlacementsOf.calls kj7 t540 t541 _ _ t542 t545 t547 t550 _ ?side1 ?side2 A22.out).mono ?_); (case side1 => refine (Kd.R_reads' (e := 3) (base := w.heap.size) (ok := fun k_ => ((True ∧ some k_ ≠ (v532 : Value).ownBlock) ∧ some k_ ≠ (.slice Ao12 t525.length co12 : Value).ownBlock)) (n := t542.length) (c := co29) ?_).2.2; exact (sqw (Kd.R_mono (sqo Oq3 BK546) qh))); (case side2 => exact (Kd.R_reads' Oq3.out).2.1); rintro e w30 ⟨v548, rfl, ho0, hb⟩; refine ⟨_, rfl, ?_⟩; have Oq4 := am (Kd.N_lower (Kd.N_mono (ok' := fun k_ => some k_ ≠ (v532 : Value).ownBlock ∧ some k_ ≠ (.slice Ao12 t525.length co12 : Value).ownBlock ∧ some k_ ≠ (.slice Ao29 t542.length co29 : Value).ownBlock ∧ k_ ≠ gb530 ∧ k_ ≠ gb546) (Kd.S_N (Kd.S_bound ho0)) (fun k_ hk_ => ⟨(Kd.fresh' (sqv (sqo Oq21 BK546)) k_ hk_.2.1), (Kd.fresh' (sqv (sqo Oq18 BK546)) k_ hk_.2.1), (Kd.fresh' (sqv (sqo Oq3 BK546)) k_ hk_.2.1), (Kd.freshB (g := gb530) (o := .cells #[.int .i64 t523, .int .i64 t524, .slice Ao12 t525.length co12] 26 (0, 0)) (by (with_reducible repeat (first | refine blk_drewN ?_ _ | refine blk_drew ?_ | refine blk_alloc ?_ _)); refine blk_far ?_ Nq0.out _; (with_reducible repeat (first | refine blk_drewN ?_ _ | refine blk_drew ?_ | refine blk_alloc ?_ _)); refine blk_far ?_ Nq0.out _; (with_reducible repeat (first | refine blk_drewN ?_ _ | refine blk_drew ?_ | refine blk_alloc ?_ _)); refine blk_far ?_ Nq0.out _; (with_reducible repeat (first | refine blk_drewN ?_ _ | refine blk_drew ?_ | refine blk_alloc ?_ _)); exact BK530.out) k_ hk_.2.1), (Kd.freshB (g := gb546) (o := .cells #[.int .i64 t540, .int .i64 t541, .slice Ao29 t542.length co29] 26 (0, 0)) (by (with_reducible repeat (first | refine blk_drewN ?_ _ | refine blk_drew ?_ | refine blk_alloc ?_ _)); refine blk_put (cs := #[.int .i64 t540, .int .i64 t541, .slice none 0 0]) ?_ 2 _ rfl; (with_reducible repeat (first | refine blk_drewN ?_ _ | refine blk_drew ?_ | refine blk_alloc ?_ _)); refine blk_put (cs := #[.int .i64 t540, .int .i64 0, .slice none 0 0]) ?_ 1 _ rfl; (with_reducible repeat (first | refine blk_drewN ?_ _ | refine blk_drew ?_ | refine blk_alloc ?_ _)); refine blk_put (cs := #[.int .i64 0, .int .i64 0, .slice none 0 0]) ?_ 0 _ rfl; (with_reducible repeat (first | refine blk_drewN ?_ _ | refine blk_drew ?_ | refine blk_alloc ?_ _)); exact BK546.out) k_ hk_.2.1)⟩)) (below_size qb)); replace Oq21 := am (Kd.R_below (sqw (sqo Oq21 BK546)) hb); replace Oq18 := am (Kd.R_below (sqw (sqo Oq18 BK546)) hb); replace Oq3 := am (Kd.R_below (sqw (sqo Oq3 BK546)) hb); replace BK530 := sqBf BK530 Nq0 (.int .i64 t540) (.int .i64 t541) (.slice Ao29 t542.length co29) hb; replace BK546 := sqBp BK546 (.int .i64 t540) (.int .i64 t541) (.slice Ao29 t542.length co29) hb; replace HB := qs hb; (try clear hb ho0); obtain ⟨zq18, zq19, zq20, fq18, fq19, fq20⟩ := qd BK546) | ((with_reducible refine gate_callee (f := 41) rfl ?_); refine qg (some 90) Try.func41 #[.agg #[.int .i64 t540, .int .i64 t541, .slice Ao29 t542.length co29], .int .i64 t545] ?_; (with_reducible refine (spec_PlacementsOf.calls kj7 t540 t541 _ _ t542 t545 t551 t554 _ ?side1 ?side2 A23.out).mono ?_); (case side1 => repeat (first | exact (Kd.R_reads' Oq3.out).2.2 | (with_reducible first | refine Kd.C_alloc ?_ _ | refine Kd.C_drewN ?_ _ | refine Kd.C_drew ?_))); (case side2 => exact (Kd.R_reads' Oq3.out).2.1); rintro e w32 ⟨v552, rfl, ho0, hb⟩; refine ⟨_, rfl, ?_⟩; have Oq5 := am (Kd.N_lower (Kd.N_mono (ok' := fun k_ => some k_ ≠ (v532 : Value).ownBlock ∧ some k_ ≠ (.slice Ao12 t525.length co12 : Value).ownBlock ∧ some k_ ≠ (.slice Ao29 t542.length co29 : Value).ownBlock ∧ some k_ ≠ (v548 : Value).ownBlock ∧ k_ ≠ gb530 ∧ k_ ≠ gb546) ho0 (fun k_ hk_ => ⟨(Kd.fresh' (sqL Oq21) k_ hk_), (Kd.fresh' (sqL Oq18) k_ hk_), (Kd.fresh' (sqL Oq3) k_ hk_), (Kd.fresh' (Kd.N_lt (by (with_reducible repeat (first | apply Kd.N_alloc | apply Kd.N_drewN | apply Kd.N_drew)); exact Oq4.out)) k_ hk_), (Kd.freshB (g := gb530) (o := .cells #[.int .i64 t523, .int .i64 t524, .slice Ao12 t525.length co12] 26 (0, 0)) (sqb BK530) k_ hk_), (Kd.freshB (g := gb546) (o := .cells #[.int .i64 t540, .int .i64 t541, .slice Ao29 t542.length co29] 26 (0, 0)) (sqb BK546) k_ hk_)⟩)) (below_size qb)); replace Oq21 := sqR Oq21 hb; replace Oq18 := sqR Oq18 hb; replace Oq3 := sqR Oq3 hb; replace BK530 := sqB BK530 hb; replace BK546 := sqB BK546 hb; replace Oq4 := am (Kd.N_elder' (by (with_reducible repeat (first | apply Kd.N_alloc | apply Kd.N_drewN | apply Kd.N_drew)); exact Oq4.out) (Kd.N_base ho0) hb); replace HB := qs hb; (try clear hb ho0)))
       (try simp only [Act.put, List.setIfInBounds_toArray, List.set_cons_zero, List.set_cons_succ])
       go_cut [101] (fun v101 wc => ∃ (kq : Nat) (x101_23 : Bool), v101 = .bool x101_23 ∧ Aside0 (laws_FnPlacementsListed.j1 kq l0 l1 t528 t529 t531 t538 t545 t547 t550 x101_23 t523 t524 t525 t540 t541 t542 = some true) ∧ Aside0 (kq ≤ kj7) ∧ Aside0 (Kd.R (Kd.int .i64) 3 wc w.heap.size (fun k_ => some k_ ≠ ((.slice Ao12 t525.length co12) : Value).ownBlock ∧ some k_ ≠ ((.slice Ao29 t542.length co29) : Value).ownBlock) v532 t531) ∧ Aside0 (Kd.N (Kd.slice 3 (Kd.int .i64)) 24 wc w.heap.size (fun k_ => some k_ ≠ (v532 : Value).ownBlock ∧ some k_ ≠ ((.slice Ao12 t525.length co12) : Value).ownBlock ∧ some k_ ≠ ((.slice Ao29 t542.length co29) : Value).ownBlock ∧ k_ ≠ gb530 ∧ k_ ≠ gb546) v548 t547) ∧ Aside0 (Kd.R (Kd.int .i64) 3 wc w.heap.size (fun k_ => some k_ ≠ (v532 : Value).ownBlock ∧ some k_ ≠ ((.slice Ao29 t542.length co29) : Value).ownBlock) (.slice Ao12 t525.length co12) t525) ∧ Aside0 (Kd.R (Kd.int .i64) 3 wc w.heap.size (fun k_ => some k_ ≠ (v532 : Value).ownBlock ∧ some k_ ≠ ((.slice Ao12 t525.length co12) : Value).ownBlock) (.slice Ao29 t542.length co29) t542) ∧ Aside0 (wc.heap[gb530]? = some (.cells #[.int .i64 t523, .int .i64 t524, (.slice Ao12 t525.length co12)] 26 (0, 0))) ∧ Aside0 (wc.heap[gb546]? = some (.cells #[.int .i64 t540, .int .i64 t541, (.slice Ao29 t542.length co29)] 26 (0, 0))) ∧ Aside0 (Below w.heap.size w wc))
       case first =>
        refine ?zq2
        let rec q2 : type_of% ?zq2 := by
          have H := HC24.out
          clear HC24
          by_cases c33 : (t550 != t554) = true
          ·
           rw [if_pos c33] at H
           have c33b0 : (t550 != t554) = true := c33
           (try (have c33b1 : decide (t550 = t554) = false := by simpa using c33))
           (try (have c33b2 : (t550 == t554) = false := by simpa using c33))
           (try (have c33b3 : ¬ (t550 = t554) := by simpa using c33))
           clear c33
           (first | rw [c33b0] | (simp only [i64_w, i32_w]; rw [c33b0]) | rw [c33b1] | skip)
           exact absurd H (laws_FnPlacementsListed.j1_no _ _ _ _ _ _ _ _ _ _ _ _ _ _ _ _)
          ·
           rw [if_neg c33] at H
           have c33b0 : (t550 != t554) = false := by simpa using c33
           (try (have c33b1 : decide (t550 = t554) = true := by simpa using c33))
           (try (have c33b2 : (t550 == t554) = true := by simpa using c33))
           clear c33
           (first | rw [c33b0] | (simp only [i64_w, i32_w]; rw [c33b0]) | rw [c33b1] | skip)
           replace H := qE H
           obtain ⟨t555, A34, H⟩ := H
           replace H : (laws_FnPlacementsListed.j1 kj7 l0 l1 t528 t529 t531 t538 t545 t547 t550 (!t555) t523 t524 t525 t540 t541 t542) = some true := H
           have H' := Aside0.mk H
           clear H
           obtain ⟨Ao35, co35, eo35⟩ := Kd.N_slice Oq4.out
           subst eo35
           obtain ⟨Ao36, co36, eo36⟩ := Kd.N_slice Oq5.out
           subst eo36
           go_wp2_with (first | (go_at_call 42; (with_reducible refine (laws_rSameRows.calls kj7 _ _ t547 _ _ t551 t555 _ ?side1 ?side2 ?side3 ?side4 A34.out).mono ?_); (case side1 => repeat (first | exact (Kd.N_reads' Oq4.out).2.2 | (with_reducible first | refine Kd.C_alloc ?_ _ | refine Kd.C_drewN ?_ _ | refine Kd.C_drew ?_))); (case side2 => exact (Kd.N_reads' Oq4.out).2.1); (case side3 => repeat (first | exact (Kd.N_reads' Oq5.out).2.2 | (with_reducible first | refine Kd.C_alloc ?_ _ | refine Kd.C_drewN ?_ _ | refine Kd.C_drew ?_))); (case side4 => exact (Kd.N_reads' Oq5.out).2.1); rintro e w' ⟨rfl, ⟨nd, rfl⟩⟩))
           go_meet
           case rel => exact ⟨_, (!t555), Q3, H', ⟨by have := HJ7.out; first | omega | exact Nat.le_refl _⟩, ⟨Q38⟩, ⟨by (with_reducible repeat (first | apply Kd.N_alloc | apply Kd.N_drewN | apply Kd.N_drew)); exact Kd.N_mono Oq4.out (fun _ hk => ⟨hk.1.1, ⟨hk.1.2.1, ⟨hk.1.2.2.1, ⟨hk.1.2.2.2.1, hk.1.2.2.2.2⟩⟩⟩⟩)⟩, ⟨Q39⟩, ⟨by exact sqm Oq3 (fun _ hk => by first | exact ⟨hk.1.2, hk.2⟩ | (and_intros <;> first | trivial | simp only [hk, ne_eq, not_false_eq_true]))⟩, ⟨Q11⟩, ⟨Q25⟩, ⟨qb⟩⟩
        exact q2
       case rest =>
        refine ?zq3
        let rec q3 : type_of% ?zq3 := by
          clear HC24
          try clear c4; try clear c16; try clear c16b0; try clear c16b1; try clear c16b2; try clear c20; try clear c33; try clear c33b0; try clear c33b1; try clear c33b2; try clear zq6; try clear zq7; try clear zq8; try clear zq12; try clear zq13; try clear zq14; try clear zq15; try clear zq16; try clear zq17; try clear zq18; try clear zq19; try clear zq20; try clear fq6; try clear fq7; try clear fq8; try clear fq12; try clear fq13; try clear fq14; try clear fq15; try clear fq16; try clear fq17; try clear fq18; try clear fq19; try clear fq20
          obtain ⟨kq, x101_23, rfl, HA, HJ23, Oq21, Oq15, Oq18, Oq19, BK530, BK546, HB⟩ := hcut
          cases kq with
          | zero => exact absurd HA.out (by simp [laws_FnPlacementsListed.j1])
          | succ kj23 =>
           have H := HA.out
           clear HA
           simp only [laws_FnPlacementsListed.j1] at H
           by_cases c37 : x101_23 = true
           ·
            subst c37
            have H1 : (some false) = some true := by first | (rw [if_pos rfl] at H; exact H) | rfl
            clear H
            have H := H1
            clear H1
            exact absurd (Option.some.inj H) (by decide)
           ·
            replace c37 := Bool.eq_false_iff.mpr c37
            subst c37
            have H1 : (if t550 = true then ((impl_RookNumbers.f t540 t541 t542).bind fun bt556 => (if t545 < (bt556.1.length : Int) then (if 0 ≤ t545 then (laws_FnPlacementsListed.j2 kj23 l0 l1 t528 t529 t531 t538 t545 t547 bt556.2 (rd bt556.1 t545) t523 t524 t525 t540 t541 t542) else (none)) else (laws_FnPlacementsListed.j2 kj23 l0 l1 t528 t529 t531 t538 t545 t547 bt556.2 0 t523 t524 t525 t540 t541 t542))) else (laws_FnPlacementsListed.j5 kj23 l0 l1 t528 t529 t531 t538 t523 t524 t525)) = some true := by first | (rw [if_neg (show ¬ (false = true) by decide)] at H; exact H) | rfl
            clear H
            have H := H1
            clear H1
            have HC38 := Aside0.mk H
            clear H
            go_upto_if 102 with (fail)
            go_cut [] (fun wc => ∃ (kq : Nat), Aside0 (laws_FnPlacementsListed.j5 kq l0 l1 t528 t529 t531 t538 t523 t524 t525 = some true) ∧ Aside0 (kq ≤ kj23) ∧ Aside0 (Kd.R (Kd.int .i64) 3 wc w.heap.size (fun k_ => some k_ ≠ ((.slice Ao12 t525.length co12) : Value).ownBlock) v532 t531) ∧ Aside0 (Kd.R (Kd.int .i64) 3 wc w.heap.size (fun k_ => some k_ ≠ (v532 : Value).ownBlock) (.slice Ao12 t525.length co12) t525) ∧ Aside0 (wc.heap[gb530]? = some (.cells #[.int .i64 t523, .int .i64 t524, (.slice Ao12 t525.length co12)] 26 (0, 0))) ∧ Aside0 (Below w.heap.size w wc))
            case first =>
             refine ?zq4
             let rec q4 : type_of% ?zq4 := by
               have H := HC38.out
               clear HC38
               by_cases c39 : t550 = true
               ·
                subst c39
                have H1 : ((impl_RookNumbers.f t540 t541 t542).bind fun bt556 => (if t545 < (bt556.1.length : Int) then (if 0 ≤ t545 then (laws_FnPlacementsListed.j2 kj23 l0 l1 t528 t529 t531 t538 t545 t547 bt556.2 (rd bt556.1 t545) t523 t524 t525 t540 t541 t542) else (none)) else (laws_FnPlacementsListed.j2 kj23 l0 l1 t528 t529 t531 t538 t545 t547 bt556.2 0 t523 t524 t525 t540 t541 t542))) = some true := by first | (rw [if_pos rfl] at H; exact H) | rfl
                clear H
                have H := H1
                clear H1
                replace H := qE H
                obtain ⟨⟨t556, t559⟩, A40, H⟩ := H
                replace H : (if t545 < (t556.length : Int) then (if 0 ≤ t545 then (laws_FnPlacementsListed.j2 kj23 l0 l1 t528 t529 t531 t538 t545 t547 t559 (rd t556 t545) t523 t524 t525 t540 t541 t542) else (none)) else (laws_FnPlacementsListed.j2 kj23 l0 l1 t528 t529 t531 t538 t545 t547 t559 0 t523 t524 t525 t540 t541 t542)) = some true := H
                have HC41 := Aside0.mk H
                clear H
                have bq4 := Nq3.out
                have cq4 := Nq0.out
                obtain ⟨zq21, zq22, zq23, fq21, fq22, fq23⟩ := qd BK546
                go_upto_if 111 with (first | ((with_reducible refine gate_callee (f := 23) rfl ?_); refine qg (some 105) Try.func23 #[.agg #[.int .i64 t540, .int .i64 t541, .slice Ao29 t542.length co29]] ?_; (with_reducible refine (impl_RookNumbers.calls t540 t541 _ _ t542 t556 t559 _ ?side1 ?side2 A40.out).mono ?_); (case side1 => exact Q43); (case side2 => exact (Kd.R_reads' Oq19.out).2.1); rintro e w44 ⟨v557, rfl, ho0, hb⟩; refine ⟨_, rfl, ?_⟩; have n1_ := am (Kd.N_elder' Q24 (Kd.R_base ho0) hb); have n4_ := am (Kd.R_lower (Kd.R_new' (Kd.R_new' (Kd.R_new' ho0 (sqL Oq21)) (sqL Oq18)) (sqL Oq19)) (below_size qb)); have n7_ := qs hb; clear Oq15; clear HB; replace Oq21 := sqE Oq21 ho0 hb; have Oq15 := n1_; replace Oq18 := sqE Oq18 ho0 hb; replace Oq19 := sqE Oq19 ho0 hb; have Oq6 := n4_; replace BK530 := sqB BK530 hb; replace BK546 := sqB BK546 hb; have HB := n7_; clear n1_ n4_ n7_; (try clear hb); (try clear hb2); (try clear hk); (try clear hi); (try clear ho0); obtain ⟨Ao45, co45, eo45⟩ := Kd.R_slice Oq6.out; subst eo45))
                (try simp only [Act.put, List.setIfInBounds_toArray, List.set_cons_zero, List.set_cons_succ])
                go_cut [20] (fun v20 wc => ∃ (kq : Nat) (x20_40 : Int), v20 = .int .i64 x20_40 ∧ Aside0 (laws_FnPlacementsListed.j2 kq l0 l1 t528 t529 t531 t538 t545 t547 t559 x20_40 t523 t524 t525 t540 t541 t542 = some true) ∧ Aside0 (kq ≤ kj23) ∧ Aside0 (Kd.R (Kd.int .i64) 3 wc w.heap.size (fun k_ => some k_ ≠ ((.slice Ao12 t525.length co12) : Value).ownBlock ∧ some k_ ≠ ((.slice Ao29 t542.length co29) : Value).ownBlock) v532 t531) ∧ Aside0 (Kd.N (Kd.slice 3 (Kd.int .i64)) 24 wc w.heap.size (fun k_ => some k_ ≠ (v532 : Value).ownBlock ∧ some k_ ≠ ((.slice Ao12 t525.length co12) : Value).ownBlock ∧ some k_ ≠ ((.slice Ao29 t542.length co29) : Value).ownBlock ∧ k_ ≠ gb530 ∧ k_ ≠ gb546) v548 t547) ∧ Aside0 (Kd.R (Kd.int .i64) 3 wc w.heap.size (fun k_ => some k_ ≠ (v532 : Value).ownBlock ∧ some k_ ≠ ((.slice Ao29 t542.length co29) : Value).ownBlock) (.slice Ao12 t525.length co12) t525) ∧ Aside0 (Kd.R (Kd.int .i64) 3 wc w.heap.size (fun k_ => some k_ ≠ (v532 : Value).ownBlock ∧ some k_ ≠ ((.slice Ao12 t525.length co12) : Value).ownBlock) (.slice Ao29 t542.length co29) t542) ∧ Aside0 (wc.heap[gb530]? = some (.cells #[.int .i64 t523, .int .i64 t524, (.slice Ao12 t525.length co12)] 26 (0, 0))) ∧ Aside0 (wc.heap[gb546]? = some (.cells #[.int .i64 t540, .int .i64 t541, (.slice Ao29 t542.length co29)] 26 (0, 0))) ∧ Aside0 (Below w.heap.size w wc))
                case first =>
                 refine ?zq5
                 let rec q5 : type_of% ?zq5 := by
                   have H := HC41.out
                   clear HC41
                   by_cases c46 : t545 < (t556.length : Int)
                   ·
                    rw [if_pos c46] at H
                    have c46b0 : decide (t545 < (t556.length : Int)) = true := decide_eq_true c46
                    clear c46
                    (first | rw [c46b0] | (simp only [i64_w, i32_w]; rw [c46b0]) | skip)
                    by_cases c47 : 0 ≤ t545
                    ·
                     rw [if_pos c47] at H
                     have c47b0 : decide (0 ≤ t545) = true := decide_eq_true c47
                     clear c47
                     have H' := Aside0.mk H
                     clear H
                     have p560 : 0 ≤ (t545 : Int) := of_decide_eq_true Q1
                     have q560 : t545 < (t556.length : Int) := of_decide_eq_true Q1
                     obtain ⟨ad560, e560, hx560_0⟩ := Kd.at_int (Kd.R_reads' Oq6.out).2.2 t545 p560 q560
                     cases e560
                     replace p560 := eq_true p560
                     replace q560 := eq_true q560
                     go_wp2
                     go_meet
                     case rel => exact ⟨_, (rd t556 t545), Q3, H', ⟨by have := HJ7.out; have := HJ23.out; first | omega | exact Nat.le_refl _⟩, ⟨by exact sqm Oq21 (fun _ hk => by first | exact ⟨hk.1.1, hk.1.2⟩ | (and_intros <;> first | trivial | simp only [hk, ne_eq, not_false_eq_true]))⟩, ⟨Q48⟩, ⟨by exact sqm Oq18 (fun _ hk => by first | exact ⟨hk.1.1, hk.1.2⟩ | (and_intros <;> first | trivial | simp only [hk, ne_eq, not_false_eq_true]))⟩, ⟨by exact sqm Oq19 (fun _ hk => by first | exact ⟨hk.1.1, hk.1.2⟩ | (and_intros <;> first | trivial | simp only [hk, ne_eq, not_false_eq_true]))⟩, ⟨Q11⟩, ⟨Q25⟩, ⟨qb⟩⟩
                    ·
                     rw [if_neg c47] at H
                     exact absurd H (by simp)
                   ·
                    rw [if_neg c46] at H
                    have c46b0 : decide (t545 < (t556.length : Int)) = false := decide_eq_false c46
                    clear c46
                    (first | rw [c46b0] | (simp only [i64_w, i32_w]; rw [c46b0]) | skip)
                    have H' := Aside0.mk H
                    clear H
                    go_wp2
                    go_meet
                    case rel => exact ⟨_, (0), Q3, H', ⟨by have := HJ7.out; have := HJ23.out; first | omega | exact Nat.le_refl _⟩, ⟨by exact sqm Oq21 (fun _ hk => by first | exact ⟨hk.1.1, hk.1.2⟩ | (and_intros <;> first | trivial | simp only [hk, ne_eq, not_false_eq_true]))⟩, ⟨Q48⟩, ⟨by exact sqm Oq18 (fun _ hk => by first | exact ⟨hk.1.1, hk.1.2⟩ | (and_intros <;> first | trivial | simp only [hk, ne_eq, not_false_eq_true]))⟩, ⟨by exact sqm Oq19 (fun _ hk => by first | exact ⟨hk.1.1, hk.1.2⟩ | (and_intros <;> first | trivial | simp only [hk, ne_eq, not_false_eq_true]))⟩, ⟨Q11⟩, ⟨Q25⟩, ⟨qb⟩⟩
                 exact q5
                case rest =>
                 refine ?zq6
                 let rec q6 : type_of% ?zq6 := by
                   clear HC41
                   try clear c4; try clear c16; try clear c16b0; try clear c16b1; try clear c16b2; try clear c20; try clear c33; try clear c33b0; try clear c33b1; try clear c33b2; try clear c37; try clear c39; try clear c46; try clear c46b0; try clear c47; try clear c47b0; try clear zq6; try clear zq7; try clear zq8; try clear zq12; try clear zq13; try clear zq14; try clear zq15; try clear zq16; try clear zq17; try clear zq18; try clear zq19; try clear zq20; try clear zq21; try clear zq22; try clear zq23; try clear fq6; try clear fq7; try clear fq8; try clear fq12; try clear fq13; try clear fq14; try clear fq15; try clear fq16; try clear fq17; try clear fq18; try clear fq19; try clear fq20; try clear fq21; try clear fq22; try clear fq23; try clear hx560_0; try clear p560; try clear q560
                   obtain ⟨kq, x20_40, rfl, HA, HJ40, Oq21, Oq15, Oq18, Oq19, BK530, BK546, HB⟩ := hcut
                   cases kq with
                   | zero => exact absurd HA.out (by simp [laws_FnPlacementsListed.j2])
                   | succ kj40 =>
                    have H := HA.out
                    clear HA
                    simp only [laws_FnPlacementsListed.j2] at H
                    have HC48 := Aside0.mk H
                    clear H
                    go_upto_region 18 with (fail)
                    go_cut [123] (fun v123 wc => ∃ (kq : Nat) (x123_47 : Bool), v123 = .bool x123_47 ∧ Aside0 (laws_FnPlacementsListed.j3 kq l0 l1 t528 t529 t531 t538 t545 t547 x123_47 t523 t524 t525 t540 t541 t542 = some true) ∧ Aside0 (kq ≤ kj40) ∧ Aside0 (Kd.R (Kd.int .i64) 3 wc w.heap.size (fun k_ => some k_ ≠ ((.slice Ao12 t525.length co12) : Value).ownBlock ∧ some k_ ≠ ((.slice Ao29 t542.length co29) : Value).ownBlock) v532 t531) ∧ Aside0 (Kd.N (Kd.slice 3 (Kd.int .i64)) 24 wc w.heap.size (fun k_ => some k_ ≠ (v532 : Value).ownBlock ∧ some k_ ≠ ((.slice Ao12 t525.length co12) : Value).ownBlock ∧ some k_ ≠ ((.slice Ao29 t542.length co29) : Value).ownBlock ∧ k_ ≠ gb530 ∧ k_ ≠ gb546) v548 t547) ∧ Aside0 (Kd.R (Kd.int .i64) 3 wc w.heap.size (fun k_ => some k_ ≠ (v532 : Value).ownBlock ∧ some k_ ≠ ((.slice Ao29 t542.length co29) : Value).ownBlock) (.slice Ao12 t525.length co12) t525) ∧ Aside0 (Kd.R (Kd.int .i64) 3 wc w.heap.size (fun k_ => some k_ ≠ (v532 : Value).ownBlock ∧ some k_ ≠ ((.slice Ao12 t525.length co12) : Value).ownBlock) (.slice Ao29 t542.length co29) t542) ∧ Aside0 (wc.heap[gb530]? = some (.cells #[.int .i64 t523, .int .i64 t524, (.slice Ao12 t525.length co12)] 26 (0, 0))) ∧ Aside0 (wc.heap[gb546]? = some (.cells #[.int .i64 t540, .int .i64 t541, (.slice Ao29 t542.length co29)] 26 (0, 0))) ∧ Aside0 (Below w.heap.size w wc))
                    case first =>
                     refine ?zq7
                     let rec q7 : type_of% ?zq7 := by
                       have H := HC48.out
                       clear HC48
                       by_cases c49 : t559 = true
                       ·
                        subst c49
                        have H1 : (laws_FnPlacementsListed.j3 kj40 l0 l1 t528 t529 t531 t538 t545 t547 ((t547.length : Int) != x20_40) t523 t524 t525 t540 t541 t542) = some true := by first | (rw [if_pos rfl] at H; exact H) | rfl
                        clear H
                        have H := H1
                        clear H1
                        have H' := Aside0.mk H
                        clear H
                        obtain ⟨Ao50, co50, eo50⟩ := Kd.N_slice Oq15.out
                        subst eo50
                        go_wp2
                        go_meet
                        case rel => exact ⟨_, (((t547.length : Int) != x20_40)), Q3, H', ⟨by have := HJ7.out; have := HJ23.out; have := HJ40.out; first | omega | exact Nat.le_refl _⟩, ⟨Q38⟩, ⟨Q24⟩, ⟨Q39⟩, ⟨Q44⟩, ⟨Q11⟩, ⟨Q25⟩, ⟨qb⟩⟩
                       ·
                        replace c49 := Bool.eq_false_iff.mpr c49
                        subst c49
                        have H1 : (laws_FnPlacementsListed.j3 kj40 l0 l1 t528 t529 t531 t538 t545 t547 true t523 t524 t525 t540 t541 t542) = some true := by first | (rw [if_neg (show ¬ (false = true) by decide)] at H; exact H) | rfl
                        clear H
                        have H := H1
                        clear H1
                        exact absurd H (laws_FnPlacementsListed.j3_no _ _ _ _ _ _ _ _ _ _ _ _ _ _ _)
                     exact q7
                    case rest =>
                     refine ?zq8
                     let rec q8 : type_of% ?zq8 := by
                       clear HC48
                       try clear c4; try clear c16; try clear c16b0; try clear c16b1; try clear c16b2; try clear c20; try clear c33; try clear c33b0; try clear c33b1; try clear c33b2; try clear c37; try clear c39; try clear c46; try clear c46b0; try clear c47; try clear c47b0; try clear c49; try clear zq6; try clear zq7; try clear zq8; try clear zq12; try clear zq13; try clear zq14; try clear zq15; try clear zq16; try clear zq17; try clear zq18; try clear zq19; try clear zq20; try clear zq21; try clear zq22; try clear zq23; try clear fq6; try clear fq7; try clear fq8; try clear fq12; try clear fq13; try clear fq14; try clear fq15; try clear fq16; try clear fq17; try clear fq18; try clear fq19; try clear fq20; try clear fq21; try clear fq22; try clear fq23; try clear hx560_0; try clear p560; try clear q560
                       obtain ⟨kq, x123_47, rfl, HA, HJ47, Oq21, Oq15, Oq18, Oq19, BK530, BK546, HB⟩ := hcut
                       cases kq with
                       | zero => exact absurd HA.out (by simp [laws_FnPlacementsListed.j3])
                       | succ kj47 =>
                        have H := HA.out
                        clear HA
                        simp only [laws_FnPlacementsListed.j3] at H
                        by_cases c51 : x123_47 = true
                        ·
                         subst c51
                         have H1 : (some false) = some true := by first | (rw [if_pos rfl] at H; exact H) | rfl
                         clear H
                         have H := H1
                         clear H1
                         exact absurd (Option.some.inj H) (by decide)
                        ·
                         replace c51 := Bool.eq_false_iff.mpr c51
                         subst c51
                         have H1 : (laws_FnPlacementsListed.l0 kj47 l0 l1 t528 t529 t531 t538 t545 t547 t547 (t547.length : Int) 0 t523 t524 t525 t540 t541 t542) = some true := by first | (rw [if_neg (show ¬ (false = true) by decide)] at H; exact H) | rfl
                         clear H
                         have H := H1
                         clear H1
                         have H' := Aside0.mk H
                         clear H
                         obtain ⟨Ao52, co52, eo52⟩ := Kd.N_slice Oq15.out
                         subst eo52
                         go_wp2
                         go_loopg [126] kj47 (fun kq v126 w' => ∃ (x126_5 : Int), v126 = .int .i64 x126_5 ∧ Aside0 (laws_FnPlacementsListed.l0 kq l0 l1 t528 t529 t531 t538 t545 t547 t547 (t547.length : Int) x126_5 t523 t524 t525 t540 t541 t542 = some true) ∧ Aside0 (kq ≤ kj47) ∧ Aside0 (Kd.R (Kd.int .i64) 3 w' w.heap.size (fun k_ => some k_ ≠ ((.slice Ao12 t525.length co12) : Value).ownBlock ∧ some k_ ≠ ((.slice Ao29 t542.length co29) : Value).ownBlock) v532 t531) ∧ Aside0 (Kd.N (Kd.slice 3 (Kd.int .i64)) 24 w' w.heap.size (fun k_ => some k_ ≠ (v532 : Value).ownBlock ∧ some k_ ≠ ((.slice Ao12 t525.length co12) : Value).ownBlock ∧ some k_ ≠ ((.slice Ao29 t542.length co29) : Value).ownBlock ∧ k_ ≠ gb530 ∧ k_ ≠ gb546) (.slice Ao52 t547.length co52) t547) ∧ Aside0 (Kd.N (Kd.slice 3 (Kd.int .i64)) 24 w' w.heap.size (fun k_ => some k_ ≠ (v532 : Value).ownBlock ∧ some k_ ≠ ((.slice Ao12 t525.length co12) : Value).ownBlock ∧ some k_ ≠ ((.slice Ao29 t542.length co29) : Value).ownBlock ∧ k_ ≠ gb530 ∧ k_ ≠ gb546) (.slice Ao52 t547.length co52) t547) ∧ Aside0 (Kd.R (Kd.int .i64) 3 w' w.heap.size (fun k_ => some k_ ≠ (v532 : Value).ownBlock ∧ some k_ ≠ ((.slice Ao29 t542.length co29) : Value).ownBlock) (.slice Ao12 t525.length co12) t525) ∧ Aside0 (Kd.R (Kd.int .i64) 3 w' w.heap.size (fun k_ => some k_ ≠ (v532 : Value).ownBlock ∧ some k_ ≠ ((.slice Ao12 t525.length co12) : Value).ownBlock) (.slice Ao29 t542.length co29) t542) ∧ Aside0 (w'.heap[gb530]? = some (.cells #[.int .i64 t523, .int .i64 t524, (.slice Ao12 t525.length co12)] 26 (0, 0))) ∧ Aside0 (w'.heap[gb546]? = some (.cells #[.int .i64 t540, .int .i64 t541, (.slice Ao29 t542.length co29)] 26 (0, 0))) ∧ Aside0 (Below w.heap.size w w'))
                         case atStart => exact ⟨(0), Q3, H', ⟨Nat.le_refl _⟩, ⟨Q38⟩, ⟨Q24⟩, ⟨Q24⟩, ⟨Q39⟩, ⟨Q44⟩, ⟨Q11⟩, ⟨Q25⟩, ⟨qb⟩⟩
                         case round =>
                          refine ?zq9
                          let rec q9 : type_of% ?zq9 := by
                            clear H'
                            try clear c4; try clear c16; try clear c16b0; try clear c16b1; try clear c16b2; try clear c20; try clear c33; try clear c33b0; try clear c33b1; try clear c33b2; try clear c37; try clear c39; try clear c46; try clear c46b0; try clear c47; try clear c47b0; try clear c49; try clear c51; try clear zq6; try clear zq7; try clear zq8; try clear zq12; try clear zq13; try clear zq14; try clear zq15; try clear zq16; try clear zq17; try clear zq18; try clear zq19; try clear zq20; try clear zq21; try clear zq22; try clear zq23; try clear fq6; try clear fq7; try clear fq8; try clear fq12; try clear fq13; try clear fq14; try clear fq15; try clear fq16; try clear fq17; try clear fq18; try clear fq19; try clear fq20; try clear fq21; try clear fq22; try clear fq23; try clear hx560_0; try clear p560; try clear q560
                            obtain ⟨x126_5, rfl, HA, HK5, Oq21, Oq15, Oq14, Oq18, Oq19, BK530, BK546, HB⟩ := hrel
                            cases gk with
                            | zero => exact absurd HA.out (by simp [laws_FnPlacementsListed.l0])
                            | succ k5 =>
                             have H := HA.out
                             clear HA
                             simp only [laws_FnPlacementsListed.l0] at H
                             by_cases c53 : x126_5 < (t547.length : Int)
                             ·
                              rw [if_pos c53] at H
                              have c53b0 : decide (x126_5 < (t547.length : Int)) = true := decide_eq_true c53
                              clear c53
                              by_cases c54 : 0 ≤ x126_5
                              ·
                               rw [if_pos c54] at H
                               have c54b0 : decide (0 ≤ x126_5) = true := decide_eq_true c54
                               clear c54
                               by_cases c55 : x126_5 < (t547.length : Int)
                               ·
                                rw [if_pos c55] at H
                                have c55b0 : decide (x126_5 < (t547.length : Int)) = true := decide_eq_true c55
                                clear c55
                                replace H := qE H
                                obtain ⟨⟨t562, t563⟩, A56, H⟩ := H
                                replace H : ((laws_rPlaced.f k5 t540 t541 t542 (rd_L2 t547 x126_5)).bind fun t564 => (if t564 = true then (if t563 = true then (if t562 = t545 then (if x126_5 > 0 then (if 0 ≤ (wrap64 (x126_5 - 1)) then (if (wrap64 (x126_5 - 1)) < (t547.length : Int) then ((laws_rLess.f k5 (rd_L2 t547 (wrap64 (x126_5 - 1))) (rd_L2 t547 x126_5)).bind fun t566 => (if t566 = true then (laws_FnPlacementsListed.l0 k5 l0 l1 t528 t529 t531 t538 t545 t547 t547 (t547.length : Int) (wrap64 (x126_5 + 1)) t523 t524 t525 t540 t541 t542) else (some false))) else (none)) else (none)) else (laws_FnPlacementsListed.l0 k5 l0 l1 t528 t529 t531 t538 t545 t547 t547 (t547.length : Int) (wrap64 (x126_5 + 1)) t523 t524 t525 t540 t541 t542)) else (some false)) else (some false)) else (some false))) = some true := H
                                replace H := qE H
                                obtain ⟨t564, A57, H⟩ := H
                                replace H : (if t564 = true then (if t563 = true then (if t562 = t545 then (if x126_5 > 0 then (if 0 ≤ (wrap64 (x126_5 - 1)) then (if (wrap64 (x126_5 - 1)) < (t547.length : Int) then ((laws_rLess.f k5 (rd_L2 t547 (wrap64 (x126_5 - 1))) (rd_L2 t547 x126_5)).bind fun t566 => (if t566 = true then (laws_FnPlacementsListed.l0 k5 l0 l1 t528 t529 t531 t538 t545 t547 t547 (t547.length : Int) (wrap64 (x126_5 + 1)) t523 t524 t525 t540 t541 t542) else (some false))) else (none)) else (none)) else (laws_FnPlacementsListed.l0 k5 l0 l1 t528 t529 t531 t538 t545 t547 t547 (t547.length : Int) (wrap64 (x126_5 + 1)) t523 t524 t525 t540 t541 t542)) else (some false)) else (some false)) else (some false)) = some true := H
                                by_cases c58 : t564 = true
                                ·
                                 subst c58
                                 have H1 : (if t563 = true then (if t562 = t545 then (if x126_5 > 0 then (if 0 ≤ (wrap64 (x126_5 - 1)) then (if (wrap64 (x126_5 - 1)) < (t547.length : Int) then ((laws_rLess.f k5 (rd_L2 t547 (wrap64 (x126_5 - 1))) (rd_L2 t547 x126_5)).bind fun t566 => (if t566 = true then (laws_FnPlacementsListed.l0 k5 l0 l1 t528 t529 t531 t538 t545 t547 t547 (t547.length : Int) (wrap64 (x126_5 + 1)) t523 t524 t525 t540 t541 t542) else (some false))) else (none)) else (none)) else (laws_FnPlacementsListed.l0 k5 l0 l1 t528 t529 t531 t538 t545 t547 t547 (t547.length : Int) (wrap64 (x126_5 + 1)) t523 t524 t525 t540 t541 t542)) else (some false)) else (some false)) = some true := by first | (rw [if_pos rfl] at H; exact H) | rfl
                                 clear H
                                 have H := H1
                                 clear H1
                                 by_cases c59 : t563 = true
                                 ·
                                  subst c59
                                  have H1 : (if t562 = t545 then (if x126_5 > 0 then (if 0 ≤ (wrap64 (x126_5 - 1)) then (if (wrap64 (x126_5 - 1)) < (t547.length : Int) then ((laws_rLess.f k5 (rd_L2 t547 (wrap64 (x126_5 - 1))) (rd_L2 t547 x126_5)).bind fun t566 => (if t566 = true then (laws_FnPlacementsListed.l0 k5 l0 l1 t528 t529 t531 t538 t545 t547 t547 (t547.length : Int) (wrap64 (x126_5 + 1)) t523 t524 t525 t540 t541 t542) else (some false))) else (none)) else (none)) else (laws_FnPlacementsListed.l0 k5 l0 l1 t528 t529 t531 t538 t545 t547 t547 (t547.length : Int) (wrap64 (x126_5 + 1)) t523 t524 t525 t540 t541 t542)) else (some false)) = some true := by first | (rw [if_pos rfl] at H; exact H) | rfl
                                  clear H
                                  have H := H1
                                  clear H1
                                  by_cases c60 : t562 = t545
                                  ·
                                   rw [if_pos c60] at H
                                   have c60b0 : (t562 == t545) = true := beq_iff_eq.mpr c60
                                   have c60b1 : (t562 != t545) = false := bne_eq_false_iff_eq.mpr c60
                                   clear c60
                                   by_cases c61 : x126_5 > 0
                                   ·
                                    rw [if_pos c61] at H
                                    have c61b0 : decide (0 < x126_5) = true := decide_eq_true c61
                                    clear c61
                                    obtain ⟨ji62, hji62⟩ : ∃ j_ : Int, (wrap64 (x126_5 - 1)) = j_ := ⟨_, rfl⟩
                                    replace H : (if 0 ≤ (ji62) then (if (ji62) < (t547.length : Int) then ((laws_rLess.f k5 (rd_L2 t547 (ji62)) (rd_L2 t547 x126_5)).bind fun t566 => (if t566 = true then (laws_FnPlacementsListed.l0 k5 l0 l1 t528 t529 t531 t538 t545 t547 t547 (t547.length : Int) (wrap64 (x126_5 + 1)) t523 t524 t525 t540 t541 t542) else (some false))) else (none)) else (none)) = some true := by first | (rw [hji62] at H; exact H) | (simp only [hji62] at H ⊢; exact H)
                                    (try rw [hji62] at A56)
                                    (try rw [hji62] at A57)
                                    have hji62w : (IntKind.i64.wrap (x126_5 - 1)) = ji62 := (i64_w _).trans hji62
                                    by_cases c63 : 0 ≤ (ji62)
                                    ·
                                     rw [if_pos c63] at H
                                     have c63b0 : decide (0 ≤ (ji62)) = true := decide_eq_true c63
                                     clear c63
                                     by_cases c64 : (ji62) < (t547.length : Int)
                                     ·
                                      rw [if_pos c64] at H
                                      have c64b0 : decide ((ji62) < (t547.length : Int)) = true := decide_eq_true c64
                                      clear c64
                                      replace H := qE H
                                      obtain ⟨t566, A65, H⟩ := H
                                      replace H : (if t566 = true then (laws_FnPlacementsListed.l0 k5 l0 l1 t528 t529 t531 t538 t545 t547 t547 (t547.length : Int) (wrap64 (x126_5 + 1)) t523 t524 t525 t540 t541 t542) else (some false)) = some true := H
                                      by_cases c66 : t566 = true
                                      ·
                                       subst c66
                                       have H1 : (laws_FnPlacementsListed.l0 k5 l0 l1 t528 t529 t531 t538 t545 t547 t547 (t547.length : Int) (wrap64 (x126_5 + 1)) t523 t524 t525 t540 t541 t542) = some true := by first | (rw [if_pos rfl] at H; exact H) | rfl
                                       clear H
                                       have H := H1
                                       clear H1
                                       have H' := Aside0.mk H
                                       clear H
                                       have p561 : 0 ≤ (x126_5 : Int) := of_decide_eq_true Q1
                                       have q561 : x126_5 < (t547.length : Int) := of_decide_eq_true Q1
                                       obtain ⟨ad561, A561_0, c561_0, e561, hx561_0, hl561_0, hi561_0⟩ := at_L2 (Kd.N_reads' Oq14.out).2.2 x126_5 p561 q561
                                       cases e561
                                       obtain ⟨ce561, hce561, hMe561, hcc561⟩ := Kd.N_get Oq14.out [] x126_5 p561 (by first | exact q561 | exact of_decide_eq_true Q1 | (have e_ := (Kd.N_reads' Oq14.out).1; omega))
                                       obtain ⟨ua561_0, uc561_0, rfl, ul561_0, ge561_0⟩ := Kd.FK_slice_open hMe561
                                       have hv561_0 := hcc561 0 _ rfl
                                       rw [Nat.add_zero, show ((Kd.slice 3 (Kd.int .i64))).sz = 1 from rfl, Nat.mul_one] at hv561_0
                                       replace hv561_0 := Option.some.inj (hv561_0.symm.trans hx561_0)
                                       injection hv561_0 with hva_ hvn_ hvc_
                                       rw [hva_] at ge561_0
                                       rw [hvc_] at ul561_0
                                       have HL561_0 := am (show Kd.V (Kd.int .i64) 3 _ w.heap.size _ _ (rd_L2 t547 x126_5) from Kd.V_mk ul561_0 ge561_0)
                                       clear hva_ hvn_ hvc_ ge561_0 ul561_0 hcc561 hce561
                                       have HR561_0 := Aside0.mk hi561_0
                                       have HC561_0 := Aside0.mk hl561_0
                                       clear hi561_0 hl561_0
                                       replace p561 := eq_true p561
                                       replace q561 := eq_true q561
                                       go_wp2_with (first | ((with_reducible refine gate_callee (f := 43) rfl ?_); refine qg (some 133) Try.func43 #[.slice A561_0 (rd_L2 t547 x126_5).length c561_0] ?_; (with_reducible refine (impl_CountRooks.calls _ _ (rd_L2 t547 x126_5) t562 true _ ?side1 HC561_0.out A56.out).mono ?_); (case side1 => exact Q12); rintro e w' ⟨rfl, ⟨nd, rfl⟩⟩; refine ⟨_, rfl, ?_⟩; have bq5 := Nq3.out; have cq5 := Nq0.out; obtain ⟨zq24, zq25, zq26, fq24, fq25, fq26⟩ := qd BK546) | ((with_reducible refine gate_callee (f := 44) rfl ?_); refine qg (some 138) Try.func44 #[.agg #[.int .i64 t540, .int .i64 t541, .slice Ao29 t542.length co29], .slice A561_0 (rd_L2 t547 x126_5).length c561_0] ?_; (with_reducible refine (laws_rPlaced.calls k5 t540 t541 _ _ t542 _ _ (rd_L2 t547 x126_5) true _ ?side1 ?side2 ?side3 HC561_0.out A57.out).mono ?_); (case side1 => exact Q43); (case side2 => exact (Kd.R_reads' Oq19.out).2.1); (case side3 => exact Q12); rintro e w69 ⟨rfl, hb⟩; refine ⟨_, rfl, ?_⟩; replace Oq21 := sqR Oq21 hb; replace Oq18 := sqR Oq18 hb; replace Oq19 := sqR Oq19 hb; replace BK530 := sqB BK530 hb; replace BK546 := sqB BK546 hb; replace Oq15 := am (Kd.N_below Q24 hb); replace Oq14 := am (Kd.N_below Q45 hb); replace HL561_0 := am (Kd.V_below (by (with_reducible repeat (first | apply Kd.V_alloc | apply Kd.V_drewN | apply Kd.V_drew)); exact HL561_0.out) hb); replace HR561_0 := qC HR561_0 hb; replace HB := qs hb; (try clear hb); have p565 : 0 ≤ ((ji62) : Int) := of_decide_eq_true Q1; have q565 : (ji62) < (t547.length : Int) := of_decide_eq_true Q1; obtain ⟨ad565, A565_0, c565_0, e565, hx565_0, hl565_0, hi565_0⟩ := at_L2 (Kd.N_reads' Oq15.out).2.2 (ji62) p565 q565; obtain rfl : ad561 = ad565 := (by injection e565); obtain ⟨ce565, hce565, hMe565, hcc565⟩ := Kd.N_get Oq15.out [] (ji62) p565 (by first | exact q565 | exact of_decide_eq_true Q1 | (have e_ := (Kd.N_reads' Oq15.out).1; omega)); obtain ⟨ua565_0, uc565_0, rfl, ul565_0, ge565_0⟩ := Kd.FK_slice_open hMe565; have hv565_0 := hcc565 0 _ rfl; rw [Nat.add_zero, show ((Kd.slice 3 (Kd.int .i64))).sz = 1 from rfl, Nat.mul_one] at hv565_0; replace hv565_0 := Option.some.inj (hv565_0.symm.trans hx565_0); injection hv565_0 with hva_ hvn_ hvc_; rw [hva_] at ge565_0; rw [hvc_] at ul565_0; have HL565_0 := am (show Kd.V (Kd.int .i64) 3 _ w.heap.size _ _ (rd_L2 t547 (ji62)) from Kd.V_mk ul565_0 ge565_0); clear hva_ hvn_ hvc_ ge565_0 ul565_0; clear hcc565 hce565; have HR565_0 := Aside0.mk hi565_0; have HC565_0 := Aside0.mk hl565_0; clear hi565_0 hl565_0; replace p565 := eq_true p565; replace q565 := eq_true q565) | (go_at_call 45; (with_reducible refine (laws_rLess.calls k5 _ _ (rd_L2 t547 (ji62)) _ _ (rd_L2 t547 x126_5) true _ ?side1 HC565_0.out ?side3 HC561_0.out A65.out).mono ?_); (case side1 => repeat (first | exact (by repeat (first | (with_reducible exact HR565_0.out) | (with_reducible first | refine Kd.C_alloc ?_ _ | refine Kd.C_drewN ?_ _ | refine Kd.C_drew ?_) | exact HR565_0.out)) | (with_reducible first | refine Kd.C_alloc ?_ _ | refine Kd.C_drewN ?_ _ | refine Kd.C_drew ?_))); (case side3 => exact Q12); rintro e w' ⟨rfl, ⟨nd, rfl⟩⟩))
                                       go_roundg k5
                                       case measure => have := HJ7.out; have := HJ23.out; have := HJ40.out; have := HJ47.out; have := HK5.out; omega
                                       case rel => exact ⟨(wrap64 (x126_5 + 1)), Q3, H', ⟨by have := HJ7.out; have := HJ23.out; have := HJ40.out; have := HJ47.out; have := HK5.out; omega⟩, ⟨Q38⟩, ⟨Q24⟩, ⟨Q45⟩, ⟨Q39⟩, ⟨Q44⟩, ⟨Q11⟩, ⟨Q25⟩, ⟨qb⟩⟩
                                      ·
                                       replace c66 := Bool.eq_false_iff.mpr c66
                                       subst c66
                                       have H1 : (some false) = some true := by first | (rw [if_neg (show ¬ (false = true) by decide)] at H; exact H) | rfl
                                       clear H
                                       have H := H1
                                       clear H1
                                       exact absurd (Option.some.inj H) (by decide)
                                     ·
                                      rw [if_neg c64] at H
                                      exact absurd H (by simp)
                                    ·
                                     rw [if_neg c63] at H
                                     exact absurd H (by simp)
                                   ·
                                    rw [if_neg c61] at H
                                    have c61b0 : decide (0 < x126_5) = false := decide_eq_false c61
                                    clear c61
                                    have H' := Aside0.mk H
                                    clear H
                                    have p561 : 0 ≤ (x126_5 : Int) := of_decide_eq_true Q1
                                    have q561 : x126_5 < (t547.length : Int) := of_decide_eq_true Q1
                                    obtain ⟨ad561, A561_0, c561_0, e561, hx561_0, hl561_0, hi561_0⟩ := at_L2 (Kd.N_reads' Oq14.out).2.2 x126_5 p561 q561
                                    cases e561
                                    obtain ⟨ce561, hce561, hMe561, hcc561⟩ := Kd.N_get Oq14.out [] x126_5 p561 (by first | exact q561 | exact of_decide_eq_true Q1 | (have e_ := (Kd.N_reads' Oq14.out).1; omega))
                                    obtain ⟨ua561_0, uc561_0, rfl, ul561_0, ge561_0⟩ := Kd.FK_slice_open hMe561
                                    have hv561_0 := hcc561 0 _ rfl
                                    rw [Nat.add_zero, show ((Kd.slice 3 (Kd.int .i64))).sz = 1 from rfl, Nat.mul_one] at hv561_0
                                    replace hv561_0 := Option.some.inj (hv561_0.symm.trans hx561_0)
                                    injection hv561_0 with hva_ hvn_ hvc_
                                    rw [hva_] at ge561_0
                                    rw [hvc_] at ul561_0
                                    have HL561_0 := am (show Kd.V (Kd.int .i64) 3 _ w.heap.size _ _ (rd_L2 t547 x126_5) from Kd.V_mk ul561_0 ge561_0)
                                    clear hva_ hvn_ hvc_ ge561_0 ul561_0 hcc561 hce561
                                    have HR561_0 := Aside0.mk hi561_0
                                    have HC561_0 := Aside0.mk hl561_0
                                    clear hi561_0 hl561_0
                                    replace p561 := eq_true p561
                                    replace q561 := eq_true q561
                                    go_wp2_with (first | ((with_reducible refine gate_callee (f := 43) rfl ?_); refine qg (some 133) Try.func43 #[.slice A561_0 (rd_L2 t547 x126_5).length c561_0] ?_; (with_reducible refine (impl_CountRooks.calls _ _ (rd_L2 t547 x126_5) t562 true _ ?side1 HC561_0.out A56.out).mono ?_); (case side1 => exact Q12); rintro e w' ⟨rfl, ⟨nd, rfl⟩⟩; refine ⟨_, rfl, ?_⟩; have bq6 := Nq3.out; have cq6 := Nq0.out; obtain ⟨zq27, zq28, zq29, fq27, fq28, fq29⟩ := qd BK546) | ((with_reducible refine gate_callee (f := 44) rfl ?_); refine qg (some 138) Try.func44 #[.agg #[.int .i64 t540, .int .i64 t541, .slice Ao29 t542.length co29], .slice A561_0 (rd_L2 t547 x126_5).length c561_0] ?_; (with_reducible refine (laws_rPlaced.calls k5 t540 t541 _ _ t542 _ _ (rd_L2 t547 x126_5) true _ ?side1 ?side2 ?side3 HC561_0.out A57.out).mono ?_); (case side1 => exact Q43); (case side2 => exact (Kd.R_reads' Oq19.out).2.1); (case side3 => exact Q12); rintro e w72 ⟨rfl, hb⟩; refine ⟨_, rfl, ?_⟩; replace Oq21 := sqR Oq21 hb; replace Oq18 := sqR Oq18 hb; replace Oq19 := sqR Oq19 hb; replace BK530 := sqB BK530 hb; replace BK546 := sqB BK546 hb; replace Oq15 := am (Kd.N_below Q24 hb); replace Oq14 := am (Kd.N_below Q45 hb); replace HL561_0 := am (Kd.V_below (by (with_reducible repeat (first | apply Kd.V_alloc | apply Kd.V_drewN | apply Kd.V_drew)); exact HL561_0.out) hb); replace HR561_0 := qC HR561_0 hb; replace HB := qs hb; (try clear hb)))
                                    go_roundg k5
                                    case measure => have := HJ7.out; have := HJ23.out; have := HJ40.out; have := HJ47.out; have := HK5.out; omega
                                    case rel => exact ⟨(wrap64 (x126_5 + 1)), Q3, H', ⟨by have := HJ7.out; have := HJ23.out; have := HJ40.out; have := HJ47.out; have := HK5.out; omega⟩, ⟨Q38⟩, ⟨Q24⟩, ⟨Q45⟩, ⟨Q39⟩, ⟨Q44⟩, ⟨Q11⟩, ⟨Q25⟩, ⟨qb⟩⟩
                                  ·
                                   rw [if_neg c60] at H
                                   have c60b0 : (t562 == t545) = false := beq_eq_false_iff_ne.mpr c60
                                   have c60b1 : (t562 != t545) = true := bne_iff_ne.mpr c60
                                   exact absurd (Option.some.inj H) (by decide)
                                 ·
                                  replace c59 := Bool.eq_false_iff.mpr c59
                                  subst c59
                                  have H1 : (some false) = some true := by first | (rw [if_neg (show ¬ (false = true) by decide)] at H; exact H) | rfl
                                  clear H
                                  have H := H1
                                  clear H1
                                  exact absurd (Option.some.inj H) (by decide)
                                ·
                                 replace c58 := Bool.eq_false_iff.mpr c58
                                 subst c58
                                 have H1 : (some false) = some true := by first | (rw [if_neg (show ¬ (false = true) by decide)] at H; exact H) | rfl
                                 clear H
                                 have H := H1
                                 clear H1
                                 exact absurd (Option.some.inj H) (by decide)
                               ·
                                rw [if_neg c55] at H
                                exact absurd H (by simp)
                              ·
                               rw [if_neg c54] at H
                               exact absurd H (by simp)
                             ·
                              rw [if_neg c53] at H
                              have c53b0 : decide (x126_5 < (t547.length : Int)) = false := decide_eq_false c53
                              clear c53
                              have H' := Aside0.mk H
                              clear H
                              go_wp2
                              go_meet
                              case rel => exact ⟨_, H', ⟨by have := HJ7.out; have := HJ23.out; have := HJ40.out; have := HJ47.out; have := HK5.out; first | omega | exact Nat.le_refl _⟩, ⟨by exact sqm Oq21 (fun _ hk => hk.1)⟩, ⟨by exact sqm Oq18 (fun _ hk => hk.1)⟩, ⟨Q11⟩, ⟨qb⟩⟩
                          exact q9
                     exact q8
                 exact q6
               ·
                replace c39 := Bool.eq_false_iff.mpr c39
                subst c39
                have H1 : (laws_FnPlacementsListed.j5 kj23 l0 l1 t528 t529 t531 t538 t523 t524 t525) = some true := by first | (rw [if_neg (show ¬ (false = true) by decide)] at H; exact H) | rfl
                clear H
                have H := H1
                clear H1
                have H' := Aside0.mk H
                clear H
                go_wp2
                go_meet
                case rel => exact ⟨_, H', ⟨by have := HJ7.out; have := HJ23.out; first | omega | exact Nat.le_refl _⟩, ⟨by exact sqm Oq21 (fun _ hk => hk.1)⟩, ⟨by exact sqm Oq18 (fun _ hk => hk.1)⟩, ⟨Q11⟩, ⟨qb⟩⟩
             exact q4
            case rest =>
             refine ?zq10
             let rec q10 : type_of% ?zq10 := by
               clear HC38
               try clear c4; try clear c16; try clear c16b0; try clear c16b1; try clear c16b2; try clear c20; try clear c33; try clear c33b0; try clear c33b1; try clear c33b2; try clear c37; try clear c39; try clear c46; try clear c46b0; try clear c47; try clear c47b0; try clear c49; try clear c51; try clear c53; try clear c53b0; try clear c54; try clear c54b0; try clear c55; try clear c55b0; try clear c58; try clear c59; try clear c60; try clear c60b0; try clear c60b1; try clear c61; try clear c61b0; try clear c63; try clear c63b0; try clear c64; try clear c64b0; try clear c66; try clear zq6; try clear zq7; try clear zq8; try clear zq12; try clear zq13; try clear zq14; try clear zq15; try clear zq16; try clear zq17; try clear zq18; try clear zq19; try clear zq20; try clear zq21; try clear zq22; try clear zq23; try clear zq24; try clear zq25; try clear zq26; try clear zq27; try clear zq28; try clear zq29; try clear fq6; try clear fq7; try clear fq8; try clear fq12; try clear fq13; try clear fq14; try clear fq15; try clear fq16; try clear fq17; try clear fq18; try clear fq19; try clear fq20; try clear fq21; try clear fq22; try clear fq23; try clear fq24; try clear fq25; try clear fq26; try clear fq27; try clear fq28; try clear fq29; try clear hx560_0; try clear hx561_0; try clear hx565_0; try clear p560; try clear p561; try clear p565; try clear q560; try clear q561; try clear q565
               rename_i y0_452 y0_451 y0_450 y0_449 y0_448 y0_447 y0_446 y0_445 y0_444 y0_443 y0_442 y0_441 y0_440 y0_439 y0_438 y0_437 y0_436 y0_435 y0_434 y0_433 y0_432 y0_431 y0_430 y0_429 y0_428 y0_427 y0_426 y0_425 y0_424 y0_423 y0_422 y0_421 y0_420 y0_419 y0_418 y0_417 y0_416 y0_415 y0_414 y0_413 y0_412 y0_411 y0_410 y0_409 y0_408 y0_407 y0_406 y0_405 y0_404 y0_403 y0_402 y0_401 y0_400 y0_399 y0_398 y0_397 y0_396 y0_395 y0_394 y0_393 y0_392 y0_391 y0_390 y0_389 y0_388 y0_387 y0_386 y0_385 y0_384 y0_383 y0_382 y0_381 y0_380 y0_379 y0_378 y0_377 y0_376 y0_375 y0_374 y0_373 y0_372 y0_371 y0_370 y0_369 y0_368 y0_367 y0_366 y0_365 y0_364 y0_363 y0_362 y0_361 y0_360 y0_359 y0_358 y0_357 y0_356 y0_355 y0_354 y0_353 y0_352 y0_351 y0_350 y0_349 y0_348 y0_347 y0_346 y0_345 y0_344 y0_343 y0_342 y0_341 y0_340 y0_339 y0_338 y0_337 y0_336 y0_335 y0_334 y0_333 y0_332 y0_331 y0_330 y0_329 y0_328 y0_327 y0_326 y0_325 y0_324 y0_323 y0_322 y0_321 y0_320 y0_319 y0_318 y0_317 y0_316 y0_315 y0_314 y0_313 y0_312 y0_311 y0_310 y0_309 y0_308 y0_307 y0_306 y0_305 y0_304 y0_303 y0_302 y0_301 y0_300 y0_299 y0_298 y0_297 y0_296 y0_295 y0_294 y0_293 y0_292 y0_291 y0_290 y0_289 y0_288 y0_287 y0_286 y0_285 y0_284 y0_283 y0_282 y0_281 y0_280 y0_279 y0_278 y0_277 y0_276 y0_275 y0_274 y0_273 y0_272 y0_271 y0_270 y0_269 y0_268 y0_267 y0_266 y0_265 y0_264 y0_263 y0_262 y0_261 y0_260 y0_259 y0_258 y0_257 y0_256 y0_255 y0_254 y0_253 y0_252 y0_251 y0_250 y0_249 y0_248 y0_247 y0_246 y0_245 y0_244 y0_243 y0_242 y0_241 y0_240 y0_239 y0_238 y0_237 y0_236 y0_235 y0_234 y0_233 y0_232 y0_231 y0_230 y0_229 y0_228 y0_227 y0_226 y0_225 y0_224 y0_223 y0_222 y0_221 y0_220 y0_219 y0_218 y0_217 y0_216 y0_215 y0_214 y0_213 y0_212 y0_211 y0_210 y0_209 y0_208 y0_207 y0_206 y0_205 y0_204 y0_203 y0_202 y0_201 y0_200 y0_199 y0_198 y0_197 y0_196 y0_195 y0_194 y0_193 y0_192 y0_191 y0_190 y0_189 y0_188 y0_187 y0_186 y0_185 y0_184 y0_183 y0_182 y0_181 y0_180 y0_179 y0_178 y0_177 y0_176 y0_175 y0_174 y0_173 y0_172 y0_171 y0_170 y0_169 y0_168 y0_167 y0_166 y0_165 y0_164 y0_163 y0_162 y0_161 y0_160 y0_159 y0_158 y0_157 y0_156 y0_155 y0_154 y0_153 y0_152 y0_151 y0_150 y0_149 y0_148 y0_147 y0_146 y0_145 y0_144 y0_143 y0_142 y0_141 y0_140 y0_139 y0_138 y0_137 y0_136 y0_135 y0_134 y0_133 y0_132 y0_131 y0_130 y0_129 y0_128 y0_127 y0_126 y0_125 y0_124 y0_123 y0_122 y0_121 y0_120 y0_119 y0_118 y0_117 y0_116 y0_115 y0_114 y0_113 y0_112 y0_111 y0_110 y0_109 y0_108 y0_107 y0_106 y0_105 y0_104 y0_103 y0_102 y0_101 y0_100 y0_99 y0_98 y0_97 y0_96 y0_95 y0_94 y0_93 y0_92 y0_91 y0_90 y0_89 y0_88 y0_87 y0_86 y0_85 y0_84 y0_83 y0_82 y0_81 y0_80 y0_79 y0_78 y0_77 y0_76 y0_75 y0_74 y0_73 y0_72 y0_71 y0_70 y0_69 y0_68 y0_67 y0_66 y0_65 y0_64 y0_63 y0_62 y0_61 y0_60 y0_59 y0_58 y0_57 y0_56 y0_55 y0_54 y0_53 y0_52 y0_51 y0_50 y0_49 y0_48 y0_47 y0_46 y0_45 y0_44 y0_43 y0_42 y0_41 y0_40 y0_39 y0_38 y0_37 y0_36 y0_35 y0_34 y0_33 y0_32 y0_31 y0_30 y0_29 y0_28 y0_27 y0_26 y0_25 y0_24 y0_23 y0_22 y0_21 y0_20 y0_19 y0_18 y0_17 y0_16 y0_15 y0_14 y0_13 y0_12 y0_11 y0_10 y0_9 y0_8 y0_7 y0_6 y0_5 y0_4 y0_3 y0_2 y0_1 ka_0_0
               try clear q1; try clear q3; try clear q10
               clear A3 A5 A6 t535 A7 y0_451 w9 w10 zq6 zq7 zq8 fq6 fq7 fq8 w13 zq12 zq13 zq14 fq12 fq13 fq14 w15 Oq2 Oq0 Oq1 y0_450 y0_449 y0_448 y0_447 y0_446 y0_445 y0_444 y0_443 y0_442 y0_441 y0_440 y0_439 y0_438 y0_437 y0_436 y0_435 y0_434 y0_433 y0_432 y0_431 y0_430 y0_429 y0_428 y0_427 y0_426 y0_425 y0_424 y0_423 y0_422 y0_421 y0_420 y0_419 y0_418 y0_417 y0_416 y0_415 y0_414 y0_413 y0_412 y0_411 y0_410 y0_409 y0_408 y0_407 y0_406 y0_405 y0_404 y0_403 y0_402 y0_401 y0_400 y0_399 y0_398 y0_397 y0_396 y0_395 y0_394 y0_393 y0_392 y0_391 y0_390 y0_389 y0_388 y0_387 y0_386 y0_385 y0_384 y0_383 y0_382 y0_381 y0_380 y0_379 y0_378 y0_377 y0_376 y0_375 y0_374 y0_373 y0_372 y0_371 y0_370 y0_369 y0_368 y0_367 y0_366 y0_365 y0_364 y0_363 y0_362 y0_361 y0_360 y0_359 y0_358 y0_357 y0_356 y0_355 y0_354 y0_353 y0_352 y0_351 y0_350 y0_349 y0_348 y0_347 y0_346 y0_345 y0_344 y0_343 y0_342 y0_341 y0_340 y0_339 y0_338 y0_337 y0_336 y0_335 y0_334 y0_333 y0_332 y0_331 y0_330 y0_329 y0_328 y0_327 y0_326 y0_325 y0_324 y0_323 y0_322 y0_321 y0_320 y0_319 y0_318 y0_317 y0_316 y0_315 y0_314 y0_313 y0_312 y0_311 y0_310 y0_309 y0_308 y0_307 y0_306 y0_305 y0_304 y0_303 y0_302 y0_301 y0_300 y0_299 y0_298 y0_297 y0_296 y0_295 y0_294 y0_293 y0_292 y0_291 y0_290 y0_289 y0_288 y0_287 y0_286 y0_285 y0_284 y0_283 y0_282 y0_281 y0_280 y0_279 y0_278 y0_277 y0_276 y0_275 y0_274 y0_273 y0_272 y0_271 y0_270 y0_269 y0_268 y0_267 y0_266 y0_265 y0_264 y0_263 y0_262 y0_261 y0_260 y0_259 y0_258 y0_257 y0_256 y0_255 y0_254 y0_253 y0_252 y0_251 y0_250 y0_249 y0_248 y0_247 y0_246 y0_245 y0_244 y0_243 y0_242 y0_241 y0_240 y0_239 y0_238 y0_237 y0_236 y0_235 y0_234 y0_233 y0_232 y0_231 y0_230 y0_229 y0_228 t540 t541 A21 t547 A22 t551 A23 w25 w26 zq15 zq16 zq17 fq15 fq16 fq17 w30 zq18 zq19 zq20 fq18 fq19 fq20 w32 Oq5 y0_227 y0_226 Oq3 y0_225 y0_224 Oq4 y0_223 y0_221 y0_220 y0_219 y0_218 y0_217 y0_216 y0_215 y0_214 y0_213 y0_212 y0_211 y0_210 y0_209 y0_208 y0_207 y0_206 y0_205 y0_204 y0_203 y0_202 y0_201 y0_200 y0_199 y0_198 y0_197 y0_196 y0_195 y0_194 y0_193 y0_192 y0_191 y0_190 y0_189 y0_188 y0_187 y0_186 y0_185 y0_184 y0_183 y0_182 y0_181 y0_180 y0_179 y0_178 y0_177 y0_176 y0_175 y0_174 y0_173 y0_172 y0_171 y0_170 y0_169 y0_168 y0_167 y0_166 y0_165 y0_164 y0_163 y0_162 y0_161 y0_160 y0_159 y0_158 y0_157 y0_156 y0_155 y0_154 y0_153 y0_152 y0_151 y0_150 y0_149 y0_148 y0_147 y0_146 y0_145 y0_144 y0_143 y0_142 y0_141 y0_140 y0_139 y0_138 y0_137 y0_136 y0_135 y0_134 y0_133 y0_132 y0_131 y0_130 y0_129 y0_128 y0_127 y0_126 y0_125 y0_124 y0_123 y0_122 y0_121 y0_120 y0_119 y0_118 y0_117 y0_116 y0_115 y0_114 y0_113 y0_112 y0_111 y0_110 y0_109 y0_108 y0_107 y0_106 y0_105 y0_104 y0_103 y0_102 y0_101 y0_100 y0_99 y0_98 y0_97 y0_96 y0_95 y0_94 y0_93 y0_92 y0_91 y0_90 y0_89 y0_88 y0_87 y0_86 y0_85 y0_84 y0_83 y0_82 y0_81 y0_80 y0_79 y0_78 y0_77 y0_76 y0_75 y0_74 y0_73 y0_72 y0_71 y0_70 y0_69 y0_68 y0_67 y0_66 y0_65 y0_64 y0_63 y0_62 y0_61 y0_60 y0_59 y0_58 y0_57 y0_56 y0_55 y0_54 y0_53 y0_52 y0_51 y0_50 y0_49 y0_48 y0_47 y0_46 y0_45 y0_44 y0_43 y0_42 y0_41 y0_40 y0_39 y0_38 y0_37 y0_36 y0_35 y0_34 y0_33 y0_32 y0_31 y0_30 y0_29 y0_28 y0_27 y0_26 y0_25 y0_24 y0_23 y0_22 y0_21 y0_20 y0_19 y0_18 y0_17 y0_16 y0_15 y0_14 y0_13 y0_12 y0_11 y0_10 y0_9 y0_8 y0_7 y0_6 y0_5 y0_4 y0_3 y0_2 Oq15 Oq19 BK546
               revert k A0 c0 l0 A1 c1 l1 w hu26 HR0 HC0 HR1 HC1 t523 t524 t525 t528 t529 t531 t534 t538 y0_452 nd gb530 GW530 GE530 Ao12 co12 v532 v536 kj7 HJ7 t542 t545 t550 t554 gb546 GW546 GE546 Nq0 Nq3 bq3 cq3 Ao29 co29 v548 v552 y0_222 Oq21 Oq18 BK530 HB kj23 HJ23 y0_1 ka_0_0 wc u4 u18 u19 u20 u21 u22 u23 u24 u44 u45 u46 u47 u48 u49 u50 u51 u52 u53 u54 u55 u56 u57 u58 u59 u60 u61 u62 u63 u64 u65 u66 u67 u68 u69 u70 u71 u72 u73 u74 u75 u76 u77 u78 u79 u80 u81 u82 u83 u84 u85 u86 u87 u88 u89 u90 u91 u92 u93 u94 u95 u96 u97 u98 u99 u100 u101 u102 u103 u104 u105 u106 u107 u108 u109 u110 u111 u112 u113 u114 u115 u116 u117 u118 u119 u120 u121 u122 u123 u124 u125 u126 u127 u128 u129 u130 u131 u132 u133 u134 u135 u136 u137 u138 u139 u140 u141 u142 u143 u144 u145 u146 u147 u148 u149 u150 u151 u152 u153 u154 u155 u156 u157 u158 u159 u160 u161 u162 u163 u164 u165 u166 u167 u168 u169 u170 u171 u172 u173 u174 u175 u176 u177 u178 u179 u180 u181 u182 u183 u184 u185 u186 u187 u188 u189 u190 u191 u192 u193 u194 u195 u196 u197 u198 u199 u200 u201 u202 u203 u204 u205 u206 u207 u208 u209 u210 u211 u212 u213 u214 u215 u216 u217 u218 u219 u220 u221 u222 u223 u224 u225 u226 u227 u228 u229 u230 u231 u232 u233 u234 u235 u236 u237 u238 u239 u240 u241 u242 u243 u244 u245 u246 u247 u248 u249 u250 u251 u252 u253 u254 u255 u256 u257 u258 u259 u260 u261 u262 u263 u264 u265 u266 u267 hcut
               exact hS_.out
             exact q10
        exact q3
   exact q1
 ⟩

end Go.Proofs.Ytllhofdgbpnkkaa.PFnPlacementsListed
