-- Printed for this claim by wip/pp.py over the kit's printer; Lean checks it.
import Derived.Test.YtfgfgkpmkfjeiaaPFnPolynomialsOfRooksx0
import Derived.Test.YtfgfgkpmkfjeiaaPFnPolynomialsOfRooksx1
import Derived.Test.YtfgfgkpmkfjeiaaPFnPolynomialsOfRooksx2
import Derived.Test.YtfgfgkpmkfjeiaaPFnPolynomialsOfRooksx4
import Derived.Test.YtfgfgkpmkfjeiaaPFnPolynomialsOfRooksx7
import Derived.Test.YtfgfgkpmkfjeiaaPFnPolynomialsOfRooksx8
namespace Go.Proofs.Ytfgfgkpmkfjeiaa.PFnPolynomialsOfRooks
open Go.RowKit Go.Proofs.YtfgfgkpmkfjeiaaW.PrintWords Go.Proofs.YtfgfgkpmkfjeiaaW.PrintLast Go.Proofs.YtfgfgkpmkfjeiaaW.PrintMore
attribute [local go_sem] max2_int min2_int max_two min_two max_three min_three max_four min_four   -- for this text's walks alone
set_option linter.unusedVariables false
set_option linter.unusedSimpArgs false

/-! ### laws_FnPolynomialsOfRooks: function 5 -/
mutual
def laws_FnPolynomialsOfRooks.j0 : Nat → List Int → Int → Int → Bool → Bool → Int → Int → List Int → Option (Bool)
 | 0, _, _, _, _, _, _, _, _ => none
 | k + 1, x1, x6, x7, x10, x62, x343000, x343001, x343002 => if x62 = true then (some false) else ((spec_DrawRookPolynomialAt.f k x1).bind fun bt347 => ((impl_RookPolynomialAt.f k bt347.1 bt347.2.1 bt347.2.2.1 bt347.2.2.2).bind fun bt354 => ((spec_RookPolynomialAt.f k bt347.1 bt347.2.1 bt347.2.2.1 bt347.2.2.2).bind fun bt356 => (if (bt354.2 != bt356.2) = true then (laws_FnPolynomialsOfRooks.j1 k x1 x6 x7 x10 bt347.2.2.2 bt354.1 bt354.2 true x343000 x343001 x343002 bt347.1 bt347.2.1 bt347.2.2.1) else (laws_FnPolynomialsOfRooks.j1 k x1 x6 x7 x10 bt347.2.2.2 bt354.1 bt354.2 (bt354.1 != bt356.1) x343000 x343001 x343002 bt347.1 bt347.2.1 bt347.2.2.1)))))
def laws_FnPolynomialsOfRooks.j1 : Nat → List Int → Int → Int → Bool → Int → Int → Bool → Bool → Int → Int → List Int → Int → Int → List Int → Option (Bool)
 | 0, _, _, _, _, _, _, _, _, _, _, _, _, _, _ => none
 | k + 1, x1, x6, x7, x10, x12, x13, x14, x87, x343000, x343001, x343002, x354000, x354001, x354002 => if x87 = true then (some false) else (if x14 = true then ((impl_RookNumbers.f x354000 x354001 x354002).bind fun bt358 => (laws_FnPolynomialsOfRooks.l0 k x1 x6 x7 x10 x12 x13 bt358.1 bt358.2 0 (wrap64 ((bt358.1.length : Int) - 1)) x343000 x343001 x343002)) else (laws_FnPolynomialsOfRooks.j3 k x1 x6 x7 x10 x343000 x343001 x343002))
def laws_FnPolynomialsOfRooks.j3 : Nat → List Int → Int → Int → Bool → Int → Int → List Int → Option (Bool)
 | 0, _, _, _, _, _, _, _ => none
 | k + 1, x1, x6, x7, x10, x343000, x343001, x343002 => (spec_DrawPermanentOf.f k x1).bind fun bt363 => ((impl_PermanentOf.f bt363.1 bt363.2.1 bt363.2.2).bind fun bt369 => ((spec_PermanentOf.f k bt363.1 bt363.2.1 bt363.2.2).bind fun bt371 => (if (bt369.2 != bt371.2) = true then (laws_FnPolynomialsOfRooks.j4 k x6 x7 x10 bt369.1 bt369.2 true x343000 x343001 x343002 bt363.1 bt363.2.1 bt363.2.2) else (laws_FnPolynomialsOfRooks.j4 k x6 x7 x10 bt369.1 bt369.2 (bt369.1 != bt371.1) x343000 x343001 x343002 bt363.1 bt363.2.1 bt363.2.2))))
def laws_FnPolynomialsOfRooks.j4 : Nat → Int → Int → Bool → Int → Bool → Bool → Int → Int → List Int → Int → Int → List Int → Option (Bool)
 | 0, _, _, _, _, _, _, _, _, _, _, _, _ => none
 | k + 1, x6, x7, x10, x22, x23, x135, x343000, x343001, x343002, x369000, x369001, x369002 => if x135 = true then (some false) else (if x23 = true then ((impl_FactorialAt.f k x369000 x369001 x369002 0).bind fun bt373 => (if bt373.2 = true then (if bt373.1 = x22 then (laws_FnPolynomialsOfRooks.j5 k x6 x7 x10 x343000 x343001 x343002) else (some false)) else (some false))) else (laws_FnPolynomialsOfRooks.j5 k x6 x7 x10 x343000 x343001 x343002))
def laws_FnPolynomialsOfRooks.j5 : Nat → Int → Int → Bool → Int → Int → List Int → Option (Bool)
 | 0, _, _, _, _, _, _ => none
 | k + 1, x6, x7, x10, x343000, x343001, x343002 => if x10 = true then ((impl_RookNumbers.f x343000 x343001 x343002).bind fun bt375 => (laws_FnPolynomialsOfRooks.l1 k x6 x7 bt375.2 0 bt375.1 (bt375.1.length : Int) 0 x343000 x343001 x343002)) else (some true)
def laws_FnPolynomialsOfRooks.l1 : Nat → Int → Int → Bool → Int → List Int → Int → Int → Int → Int → List Int → Option (Bool)
 | 0, _, _, _, _, _, _, _, _, _, _ => none
 | k + 1, x6, x7, x29, x30, x156, x157, x158, x343000, x343001, x343002 => if x158 < x157 then (if 0 ≤ x158 then (if x158 < (x156.length : Int) then (laws_FnPolynomialsOfRooks.l2 k x6 x7 x29 x30 x158 (rd x156 x158) 1 0 x156 x157 x158 x343000 x343001 x343002) else (none)) else (none)) else (if x29 = true then (some (x30 == x7)) else (some false))
def laws_FnPolynomialsOfRooks.l2 : Nat → Int → Int → Bool → Int → Int → Int → Int → Int → List Int → Int → Int → Int → Int → List Int → Option (Bool)
 | 0, _, _, _, _, _, _, _, _, _, _, _, _, _, _ => none
 | k + 1, x6, x7, x29, x30, x31, x32, x33, x34, x156, x157, x158, x343000, x343001, x343002 => if x34 < (wrap64 (x343000 - x31)) then (laws_FnPolynomialsOfRooks.l2 k x6 x7 x29 x30 x31 x32 (wrap64 (x33 * (wrap64 (x6 - x34)))) (wrap64 (x34 + 1)) x156 x157 x158 x343000 x343001 x343002) else (laws_FnPolynomialsOfRooks.l1 k x6 x7 x29 (wrap64 (x30 + (wrap64 (x32 * x33)))) x156 x157 (wrap64 (x158 + 1)) x343000 x343001 x343002)
def laws_FnPolynomialsOfRooks.l0 : Nat → List Int → Int → Int → Bool → Int → Int → List Int → Bool → Int → Int → Int → Int → List Int → Option (Bool)
 | 0, _, _, _, _, _, _, _, _, _, _, _, _, _ => none
 | k + 1, x1, x6, x7, x10, x12, x13, x17, x18, x19, x20, x343000, x343001, x343002 => if x20 ≥ 0 then (if 0 ≤ x20 then (if x20 < (x17.length : Int) then (laws_FnPolynomialsOfRooks.l0 k x1 x6 x7 x10 x12 x13 x17 x18 (wrap64 ((wrap64 (x19 * x12)) + (rd x17 x20))) (wrap64 (x20 - 1)) x343000 x343001 x343002) else (none)) else (none)) else (if x18 = true then (if x19 = x13 then (laws_FnPolynomialsOfRooks.j3 k x1 x6 x7 x10 x343000 x343001 x343002) else (some false)) else (some false))
end
def laws_FnPolynomialsOfRooks.f (k : Nat) (l0 : List Int) (l1 : List Int) : Option (Bool) := (laws_big.f l0 l1).bind fun t335 => (if t335 = true then (some true) else ((spec_DrawFactorialAt.f k l0).bind fun bt336 => ((impl_FactorialAt.f k bt336.1 bt336.2.1 bt336.2.2.1 bt336.2.2.2).bind fun bt343 => ((spec_FactorialAt.f k bt336.1 bt336.2.1 bt336.2.2.1 bt336.2.2.2).bind fun bt345 => (if (bt343.2 != bt345.2) = true then (laws_FnPolynomialsOfRooks.j0 k l1 bt336.2.2.2 bt343.1 bt345.2 true bt336.1 bt336.2.1 bt336.2.2.1) else (laws_FnPolynomialsOfRooks.j0 k l1 bt336.2.2.2 bt343.1 bt345.2 (bt343.1 != bt345.1) bt336.1 bt336.2.1 bt336.2.2.1))))))
theorem laws_FnPolynomialsOfRooks.mono_l : ∀ k, (∀ y0 y1 y2 y3 y4 y5 y6 y7, LeO (laws_FnPolynomialsOfRooks.j0 k y0 y1 y2 y3 y4 y5 y6 y7) (laws_FnPolynomialsOfRooks.j0 (k + 1) y0 y1 y2 y3 y4 y5 y6 y7)) ∧ (∀ y0 y1 y2 y3 y4 y5 y6 y7 y8 y9 y10 y11 y12 y13, LeO (laws_FnPolynomialsOfRooks.j1 k y0 y1 y2 y3 y4 y5 y6 y7 y8 y9 y10 y11 y12 y13) (laws_FnPolynomialsOfRooks.j1 (k + 1) y0 y1 y2 y3 y4 y5 y6 y7 y8 y9 y10 y11 y12 y13)) ∧ (∀ y0 y1 y2 y3 y4 y5 y6, LeO (laws_FnPolynomialsOfRooks.j3 k y0 y1 y2 y3 y4 y5 y6) (laws_FnPolynomialsOfRooks.j3 (k + 1) y0 y1 y2 y3 y4 y5 y6)) ∧ (∀ y0 y1 y2 y3 y4 y5 y6 y7 y8 y9 y10 y11, LeO (laws_FnPolynomialsOfRooks.j4 k y0 y1 y2 y3 y4 y5 y6 y7 y8 y9 y10 y11) (laws_FnPolynomialsOfRooks.j4 (k + 1) y0 y1 y2 y3 y4 y5 y6 y7 y8 y9 y10 y11)) ∧ (∀ y0 y1 y2 y3 y4 y5, LeO (laws_FnPolynomialsOfRooks.j5 k y0 y1 y2 y3 y4 y5) (laws_FnPolynomialsOfRooks.j5 (k + 1) y0 y1 y2 y3 y4 y5)) ∧ (∀ y0 y1 y2 y3 y4 y5 y6 y7 y8 y9, LeO (laws_FnPolynomialsOfRooks.l1 k y0 y1 y2 y3 y4 y5 y6 y7 y8 y9) (laws_FnPolynomialsOfRooks.l1 (k + 1) y0 y1 y2 y3 y4 y5 y6 y7 y8 y9)) ∧ (∀ y0 y1 y2 y3 y4 y5 y6 y7 y8 y9 y10 y11 y12 y13, LeO (laws_FnPolynomialsOfRooks.l2 k y0 y1 y2 y3 y4 y5 y6 y7 y8 y9 y10 y11 y12 y13) (laws_FnPolynomialsOfRooks.l2 (k + 1) y0 y1 y2 y3 y4 y5 y6 y7 y8 y9 y10 y11 y12 y13)) ∧ (∀ y0 y1 y2 y3 y4 y5 y6 y7 y8 y9 y10 y11 y12, LeO (laws_FnPolynomialsOfRooks.l0 k y0 y1 y2 y3 y4 y5 y6 y7 y8 y9 y10 y11 y12) (laws_FnPolynomialsOfRooks.l0 (k + 1) y0 y1 y2 y3 y4 y5 y6 y7 y8 y9 y10 y11 y12))
 | 0 => ⟨fun _ _ _ _ _ _ _ _ r h => by simp [laws_FnPolynomialsOfRooks.j0] at h, fun _ _ _ _ _ _ _ _ _ _ _ _ _ _ r h => by simp [laws_FnPolynomialsOfRooks.j1] at h, fun _ _ _ _ _ _ _ r h => by simp [laws_FnPolynomialsOfRooks.j3] at h, fun _ _ _ _ _ _ _ _ _ _ _ _ r h => by simp [laws_FnPolynomialsOfRooks.j4] at h, fun _ _ _ _ _ _ r h => by simp [laws_FnPolynomialsOfRooks.j5] at h, fun _ _ _ _ _ _ _ _ _ _ r h => by simp [laws_FnPolynomialsOfRooks.l1] at h, fun _ _ _ _ _ _ _ _ _ _ _ _ _ _ r h => by simp [laws_FnPolynomialsOfRooks.l2] at h, fun _ _ _ _ _ _ _ _ _ _ _ _ _ r h => by simp [laws_FnPolynomialsOfRooks.l0] at h⟩
 | k + 1 => by
  obtain ⟨ih0, ih1, ih2, ih3, ih4, ih5, ih6, ih7⟩ := laws_FnPolynomialsOfRooks.mono_l k
  refine ⟨?_, ?_, ?_, ?_, ?_, ?_, ?_, ?_⟩
  ·
   intro y0 y1 y2 y3 y4 y5 y6 y7
   unfold laws_FnPolynomialsOfRooks.j0
   repeat' first
   | (with_reducible exact ih0 _ _ _ _ _ _ _ _)
   | (with_reducible exact ih1 _ _ _ _ _ _ _ _ _ _ _ _ _ _)
   | (with_reducible exact ih2 _ _ _ _ _ _ _)
   | (with_reducible exact ih3 _ _ _ _ _ _ _ _ _ _ _ _)
   | (with_reducible exact ih4 _ _ _ _ _ _)
   | (with_reducible exact ih5 _ _ _ _ _ _ _ _ _ _)
   | (with_reducible exact ih6 _ _ _ _ _ _ _ _ _ _ _ _ _ _)
   | (with_reducible exact ih7 _ _ _ _ _ _ _ _ _ _ _ _ _)
   | (with_reducible exact impl_FactorialAt.mono _ _ _ _ _)
   | (with_reducible exact impl_RookPolynomialAt.mono _ _ _ _ _)
   | (with_reducible exact spec_DrawFactorialAt.mono _ _)
   | (with_reducible exact spec_DrawPermanentOf.mono _ _)
   | (with_reducible exact spec_DrawRookPolynomialAt.mono _ _)
   | (with_reducible exact spec_FactorialAt.mono _ _ _ _ _)
   | (with_reducible exact spec_PermanentOf.mono _ _ _ _)
   | (with_reducible exact spec_RookPolynomialAt.mono _ _ _ _ _)
   | (with_reducible exact LeO.refl _)
   | (with_reducible exact LeO.none _)
   | (with_reducible refine LeO.ite ?_ ?_)
   | (with_reducible refine LeO.bind ?_ (fun _ => ?_))
   | exact ih0 _ _ _ _ _ _ _ _
   | exact ih1 _ _ _ _ _ _ _ _ _ _ _ _ _ _
   | exact ih2 _ _ _ _ _ _ _
   | exact ih3 _ _ _ _ _ _ _ _ _ _ _ _
   | exact ih4 _ _ _ _ _ _
   | exact ih5 _ _ _ _ _ _ _ _ _ _
   | exact ih6 _ _ _ _ _ _ _ _ _ _ _ _ _ _
   | exact ih7 _ _ _ _ _ _ _ _ _ _ _ _ _
   | exact impl_FactorialAt.mono _ _ _ _ _
   | exact impl_RookPolynomialAt.mono _ _ _ _ _
   | exact spec_DrawFactorialAt.mono _ _
   | exact spec_DrawPermanentOf.mono _ _
   | exact spec_DrawRookPolynomialAt.mono _ _
   | exact spec_FactorialAt.mono _ _ _ _ _
   | exact spec_PermanentOf.mono _ _ _ _
   | exact spec_RookPolynomialAt.mono _ _ _ _ _
   | exact LeO.none _
   | refine LeO.ite ?_ ?_
   | refine LeO.bind ?_ (fun _ => ?_)
  ·
   intro y0 y1 y2 y3 y4 y5 y6 y7 y8 y9 y10 y11 y12 y13
   unfold laws_FnPolynomialsOfRooks.j1
   repeat' first
   | (with_reducible exact ih0 _ _ _ _ _ _ _ _)
   | (with_reducible exact ih1 _ _ _ _ _ _ _ _ _ _ _ _ _ _)
   | (with_reducible exact ih2 _ _ _ _ _ _ _)
   | (with_reducible exact ih3 _ _ _ _ _ _ _ _ _ _ _ _)
   | (with_reducible exact ih4 _ _ _ _ _ _)
   | (with_reducible exact ih5 _ _ _ _ _ _ _ _ _ _)
   | (with_reducible exact ih6 _ _ _ _ _ _ _ _ _ _ _ _ _ _)
   | (with_reducible exact ih7 _ _ _ _ _ _ _ _ _ _ _ _ _)
   | (with_reducible exact impl_FactorialAt.mono _ _ _ _ _)
   | (with_reducible exact impl_RookPolynomialAt.mono _ _ _ _ _)
   | (with_reducible exact spec_DrawFactorialAt.mono _ _)
   | (with_reducible exact spec_DrawPermanentOf.mono _ _)
   | (with_reducible exact spec_DrawRookPolynomialAt.mono _ _)
   | (with_reducible exact spec_FactorialAt.mono _ _ _ _ _)
   | (with_reducible exact spec_PermanentOf.mono _ _ _ _)
   | (with_reducible exact spec_RookPolynomialAt.mono _ _ _ _ _)
   | (with_reducible exact LeO.refl _)
   | (with_reducible exact LeO.none _)
   | (with_reducible refine LeO.ite ?_ ?_)
   | (with_reducible refine LeO.bind ?_ (fun _ => ?_))
   | exact ih0 _ _ _ _ _ _ _ _
   | exact ih1 _ _ _ _ _ _ _ _ _ _ _ _ _ _
   | exact ih2 _ _ _ _ _ _ _
   | exact ih3 _ _ _ _ _ _ _ _ _ _ _ _
   | exact ih4 _ _ _ _ _ _
   | exact ih5 _ _ _ _ _ _ _ _ _ _
   | exact ih6 _ _ _ _ _ _ _ _ _ _ _ _ _ _
   | exact ih7 _ _ _ _ _ _ _ _ _ _ _ _ _
   | exact impl_FactorialAt.mono _ _ _ _ _
   | exact impl_RookPolynomialAt.mono _ _ _ _ _
   | exact spec_DrawFactorialAt.mono _ _
   | exact spec_DrawPermanentOf.mono _ _
   | exact spec_DrawRookPolynomialAt.mono _ _
   | exact spec_FactorialAt.mono _ _ _ _ _
   | exact spec_PermanentOf.mono _ _ _ _
   | exact spec_RookPolynomialAt.mono _ _ _ _ _
   | exact LeO.none _
   | refine LeO.ite ?_ ?_
   | refine LeO.bind ?_ (fun _ => ?_)
  ·
   intro y0 y1 y2 y3 y4 y5 y6
   unfold laws_FnPolynomialsOfRooks.j3
   repeat' first
   | (with_reducible exact ih0 _ _ _ _ _ _ _ _)
   | (with_reducible exact ih1 _ _ _ _ _ _ _ _ _ _ _ _ _ _)
   | (with_reducible exact ih2 _ _ _ _ _ _ _)
   | (with_reducible exact ih3 _ _ _ _ _ _ _ _ _ _ _ _)
   | (with_reducible exact ih4 _ _ _ _ _ _)
   | (with_reducible exact ih5 _ _ _ _ _ _ _ _ _ _)
   | (with_reducible exact ih6 _ _ _ _ _ _ _ _ _ _ _ _ _ _)
   | (with_reducible exact ih7 _ _ _ _ _ _ _ _ _ _ _ _ _)
   | (with_reducible exact impl_FactorialAt.mono _ _ _ _ _)
   | (with_reducible exact impl_RookPolynomialAt.mono _ _ _ _ _)
   | (with_reducible exact spec_DrawFactorialAt.mono _ _)
   | (with_reducible exact spec_DrawPermanentOf.mono _ _)
   | (with_reducible exact spec_DrawRookPolynomialAt.mono _ _)
   | (with_reducible exact spec_FactorialAt.mono _ _ _ _ _)
   | (with_reducible exact spec_PermanentOf.mono _ _ _ _)
   | (with_reducible exact spec_RookPolynomialAt.mono _ _ _ _ _)
   | (with_reducible exact LeO.refl _)
   | (with_reducible exact LeO.none _)
   | (with_reducible refine LeO.ite ?_ ?_)
   | (with_reducible refine LeO.bind ?_ (fun _ => ?_))
   | exact ih0 _ _ _ _ _ _ _ _
   | exact ih1 _ _ _ _ _ _ _ _ _ _ _ _ _ _
   | exact ih2 _ _ _ _ _ _ _
   | exact ih3 _ _ _ _ _ _ _ _ _ _ _ _
   | exact ih4 _ _ _ _ _ _
   | exact ih5 _ _ _ _ _ _ _ _ _ _
   | exact ih6 _ _ _ _ _ _ _ _ _ _ _ _ _ _
   | exact ih7 _ _ _ _ _ _ _ _ _ _ _ _ _
   | exact impl_FactorialAt.mono _ _ _ _ _
   | exact impl_RookPolynomialAt.mono _ _ _ _ _
   | exact spec_DrawFactorialAt.mono _ _
   | exact spec_DrawPermanentOf.mono _ _
   | exact spec_DrawRookPolynomialAt.mono _ _
   | exact spec_FactorialAt.mono _ _ _ _ _
   | exact spec_PermanentOf.mono _ _ _ _
   | exact spec_RookPolynomialAt.mono _ _ _ _ _
   | exact LeO.none _
   | refine LeO.ite ?_ ?_
   | refine LeO.bind ?_ (fun _ => ?_)
  ·
   intro y0 y1 y2 y3 y4 y5 y6 y7 y8 y9 y10 y11
   unfold laws_FnPolynomialsOfRooks.j4
   repeat' first
   | (with_reducible exact ih0 _ _ _ _ _ _ _ _)
   | (with_reducible exact ih1 _ _ _ _ _ _ _ _ _ _ _ _ _ _)
   | (with_reducible exact ih2 _ _ _ _ _ _ _)
   | (with_reducible exact ih3 _ _ _ _ _ _ _ _ _ _ _ _)
   | (with_reducible exact ih4 _ _ _ _ _ _)
   | (with_reducible exact ih5 _ _ _ _ _ _ _ _ _ _)
   | (with_reducible exact ih6 _ _ _ _ _ _ _ _ _ _ _ _ _ _)
   | (with_reducible exact ih7 _ _ _ _ _ _ _ _ _ _ _ _ _)
   | (with_reducible exact impl_FactorialAt.mono _ _ _ _ _)
   | (with_reducible exact impl_RookPolynomialAt.mono _ _ _ _ _)
   | (with_reducible exact spec_DrawFactorialAt.mono _ _)
   | (with_reducible exact spec_DrawPermanentOf.mono _ _)
   | (with_reducible exact spec_DrawRookPolynomialAt.mono _ _)
   | (with_reducible exact spec_FactorialAt.mono _ _ _ _ _)
   | (with_reducible exact spec_PermanentOf.mono _ _ _ _)
   | (with_reducible exact spec_RookPolynomialAt.mono _ _ _ _ _)
   | (with_reducible exact LeO.refl _)
   | (with_reducible exact LeO.none _)
   | (with_reducible refine LeO.ite ?_ ?_)
   | (with_reducible refine LeO.bind ?_ (fun _ => ?_))
   | exact ih0 _ _ _ _ _ _ _ _
   | exact ih1 _ _ _ _ _ _ _ _ _ _ _ _ _ _
   | exact ih2 _ _ _ _ _ _ _
   | exact ih3 _ _ _ _ _ _ _ _ _ _ _ _
   | exact ih4 _ _ _ _ _ _
   | exact ih5 _ _ _ _ _ _ _ _ _ _
   | exact ih6 _ _ _ _ _ _ _ _ _ _ _ _ _ _
   | exact ih7 _ _ _ _ _ _ _ _ _ _ _ _ _
   | exact impl_FactorialAt.mono _ _ _ _ _
   | exact impl_RookPolynomialAt.mono _ _ _ _ _
   | exact spec_DrawFactorialAt.mono _ _
   | exact spec_DrawPermanentOf.mono _ _
   | exact spec_DrawRookPolynomialAt.mono _ _
   | exact spec_FactorialAt.mono _ _ _ _ _
   | exact spec_PermanentOf.mono _ _ _ _
   | exact spec_RookPolynomialAt.mono _ _ _ _ _
   | exact LeO.none _
   | refine LeO.ite ?_ ?_
   | refine LeO.bind ?_ (fun _ => ?_)
  ·
   intro y0 y1 y2 y3 y4 y5
   unfold laws_FnPolynomialsOfRooks.j5
   repeat' first
   | (with_reducible exact ih0 _ _ _ _ _ _ _ _)
   | (with_reducible exact ih1 _ _ _ _ _ _ _ _ _ _ _ _ _ _)
   | (with_reducible exact ih2 _ _ _ _ _ _ _)
   | (with_reducible exact ih3 _ _ _ _ _ _ _ _ _ _ _ _)
   | (with_reducible exact ih4 _ _ _ _ _ _)
   | (with_reducible exact ih5 _ _ _ _ _ _ _ _ _ _)
   | (with_reducible exact ih6 _ _ _ _ _ _ _ _ _ _ _ _ _ _)
   | (with_reducible exact ih7 _ _ _ _ _ _ _ _ _ _ _ _ _)
   | (with_reducible exact impl_FactorialAt.mono _ _ _ _ _)
   | (with_reducible exact impl_RookPolynomialAt.mono _ _ _ _ _)
   | (with_reducible exact spec_DrawFactorialAt.mono _ _)
   | (with_reducible exact spec_DrawPermanentOf.mono _ _)
   | (with_reducible exact spec_DrawRookPolynomialAt.mono _ _)
   | (with_reducible exact spec_FactorialAt.mono _ _ _ _ _)
   | (with_reducible exact spec_PermanentOf.mono _ _ _ _)
   | (with_reducible exact spec_RookPolynomialAt.mono _ _ _ _ _)
   | (with_reducible exact LeO.refl _)
   | (with_reducible exact LeO.none _)
   | (with_reducible refine LeO.ite ?_ ?_)
   | (with_reducible refine LeO.bind ?_ (fun _ => ?_))
   | exact ih0 _ _ _ _ _ _ _ _
   | exact ih1 _ _ _ _ _ _ _ _ _ _ _ _ _ _
   | exact ih2 _ _ _ _ _ _ _
   | exact ih3 _ _ _ _ _ _ _ _ _ _ _ _
   | exact ih4 _ _ _ _ _ _
   | exact ih5 _ _ _ _ _ _ _ _ _ _
   | exact ih6 _ _ _ _ _ _ _ _ _ _ _ _ _ _
   | exact ih7 _ _ _ _ _ _ _ _ _ _ _ _ _
   | exact impl_FactorialAt.mono _ _ _ _ _
   | exact impl_RookPolynomialAt.mono _ _ _ _ _
   | exact spec_DrawFactorialAt.mono _ _
   | exact spec_DrawPermanentOf.mono _ _
   | exact spec_DrawRookPolynomialAt.mono _ _
   | exact spec_FactorialAt.mono _ _ _ _ _
   | exact spec_PermanentOf.mono _ _ _ _
   | exact spec_RookPolynomialAt.mono _ _ _ _ _
   | exact LeO.none _
   | refine LeO.ite ?_ ?_
   | refine LeO.bind ?_ (fun _ => ?_)
  ·
   intro y0 y1 y2 y3 y4 y5 y6 y7 y8 y9
   unfold laws_FnPolynomialsOfRooks.l1
   repeat' first
   | (with_reducible exact ih0 _ _ _ _ _ _ _ _)
   | (with_reducible exact ih1 _ _ _ _ _ _ _ _ _ _ _ _ _ _)
   | (with_reducible exact ih2 _ _ _ _ _ _ _)
   | (with_reducible exact ih3 _ _ _ _ _ _ _ _ _ _ _ _)
   | (with_reducible exact ih4 _ _ _ _ _ _)
   | (with_reducible exact ih5 _ _ _ _ _ _ _ _ _ _)
   | (with_reducible exact ih6 _ _ _ _ _ _ _ _ _ _ _ _ _ _)
   | (with_reducible exact ih7 _ _ _ _ _ _ _ _ _ _ _ _ _)
   | (with_reducible exact impl_FactorialAt.mono _ _ _ _ _)
   | (with_reducible exact impl_RookPolynomialAt.mono _ _ _ _ _)
   | (with_reducible exact spec_DrawFactorialAt.mono _ _)
   | (with_reducible exact spec_DrawPermanentOf.mono _ _)
   | (with_reducible exact spec_DrawRookPolynomialAt.mono _ _)
   | (with_reducible exact spec_FactorialAt.mono _ _ _ _ _)
   | (with_reducible exact spec_PermanentOf.mono _ _ _ _)
   | (with_reducible exact spec_RookPolynomialAt.mono _ _ _ _ _)
   | (with_reducible exact LeO.refl _)
   | (with_reducible exact LeO.none _)
   | (with_reducible refine LeO.ite ?_ ?_)
   | (with_reducible refine LeO.bind ?_ (fun _ => ?_))
   | exact ih0 _ _ _ _ _ _ _ _
   | exact ih1 _ _ _ _ _ _ _ _ _ _ _ _ _ _
   | exact ih2 _ _ _ _ _ _ _
   | exact ih3 _ _ _ _ _ _ _ _ _ _ _ _
   | exact ih4 _ _ _ _ _ _
   | exact ih5 _ _ _ _ _ _ _ _ _ _
   | exact ih6 _ _ _ _ _ _ _ _ _ _ _ _ _ _
   | exact ih7 _ _ _ _ _ _ _ _ _ _ _ _ _
   | exact impl_FactorialAt.mono _ _ _ _ _
   | exact impl_RookPolynomialAt.mono _ _ _ _ _
   | exact spec_DrawFactorialAt.mono _ _
   | exact spec_DrawPermanentOf.mono _ _
   | exact spec_DrawRookPolynomialAt.mono _ _
   | exact spec_FactorialAt.mono _ _ _ _ _
   | exact spec_PermanentOf.mono _ _ _ _
   | exact spec_RookPolynomialAt.mono _ _ _ _ _
   | exact LeO.none _
   | refine LeO.ite ?_ ?_
   | refine LeO.bind ?_ (fun _ => ?_)
  ·
   intro y0 y1 y2 y3 y4 y5 y6 y7 y8 y9 y10 y11 y12 y13
   unfold laws_FnPolynomialsOfRooks.l2
   repeat' first
   | (with_reducible exact ih0 _ _ _ _ _ _ _ _)
   | (with_reducible exact ih1 _ _ _ _ _ _ _ _ _ _ _ _ _ _)
   | (with_reducible exact ih2 _ _ _ _ _ _ _)
   | (with_reducible exact ih3 _ _ _ _ _ _ _ _ _ _ _ _)
   | (with_reducible exact ih4 _ _ _ _ _ _)
   | (with_reducible exact ih5 _ _ _ _ _ _ _ _ _ _)
   | (with_reducible exact ih6 _ _ _ _ _ _ _ _ _ _ _ _ _ _)
   | (with_reducible exact ih7 _ _ _ _ _ _ _ _ _ _ _ _ _)
   | (with_reducible exact impl_FactorialAt.mono _ _ _ _ _)
   | (with_reducible exact impl_RookPolynomialAt.mono _ _ _ _ _)
   | (with_reducible exact spec_DrawFactorialAt.mono _ _)
   | (with_reducible exact spec_DrawPermanentOf.mono _ _)
   | (with_reducible exact spec_DrawRookPolynomialAt.mono _ _)
   | (with_reducible exact spec_FactorialAt.mono _ _ _ _ _)
   | (with_reducible exact spec_PermanentOf.mono _ _ _ _)
   | (with_reducible exact spec_RookPolynomialAt.mono _ _ _ _ _)
   | (with_reducible exact LeO.refl _)
   | (with_reducible exact LeO.none _)
   | (with_reducible refine LeO.ite ?_ ?_)
   | (with_reducible refine LeO.bind ?_ (fun _ => ?_))
   | exact ih0 _ _ _ _ _ _ _ _
   | exact ih1 _ _ _ _ _ _ _ _ _ _ _ _ _ _
   | exact ih2 _ _ _ _ _ _ _
   | exact ih3 _ _ _ _ _ _ _ _ _ _ _ _
   | exact ih4 _ _ _ _ _ _
   | exact ih5 _ _ _ _ _ _ _ _ _ _
   | exact ih6 _ _ _ _ _ _ _ _ _ _ _ _ _ _
   | exact ih7 _ _ _ _ _ _ _ _ _ _ _ _ _
   | exact impl_FactorialAt.mono _ _ _ _ _
   | exact impl_RookPolynomialAt.mono _ _ _ _ _
   | exact spec_DrawFactorialAt.mono _ _
   | exact spec_DrawPermanentOf.mono _ _
   | exact spec_DrawRookPolynomialAt.mono _ _
   | exact spec_FactorialAt.mono _ _ _ _ _
   | exact spec_PermanentOf.mono _ _ _ _
   | exact spec_RookPolynomialAt.mono _ _ _ _ _
   | exact LeO.none _
   | refine LeO.ite ?_ ?_
   | refine LeO.bind ?_ (fun _ => ?_)
  ·
   intro y0 y1 y2 y3 y4 y5 y6 y7 y8 y9 y10 y11 y12
   unfold laws_FnPolynomialsOfRooks.l0
   repeat' first
   | (with_reducible exact ih0 _ _ _ _ _ _ _ _)
   | (with_reducible exact ih1 _ _ _ _ _ _ _ _ _ _ _ _ _ _)
   | (with_reducible exact ih2 _ _ _ _ _ _ _)
   | (with_reducible exact ih3 _ _ _ _ _ _ _ _ _ _ _ _)
   | (with_reducible exact ih4 _ _ _ _ _ _)
   | (with_reducible exact ih5 _ _ _ _ _ _ _ _ _ _)
   | (with_reducible exact ih6 _ _ _ _ _ _ _ _ _ _ _ _ _ _)
   | (with_reducible exact ih7 _ _ _ _ _ _ _ _ _ _ _ _ _)
   | (with_reducible exact impl_FactorialAt.mono _ _ _ _ _)
   | (with_reducible exact impl_RookPolynomialAt.mono _ _ _ _ _)
   | (with_reducible exact spec_DrawFactorialAt.mono _ _)
   | (with_reducible exact spec_DrawPermanentOf.mono _ _)
   | (with_reducible exact spec_DrawRookPolynomialAt.mono _ _)
   | (with_reducible exact spec_FactorialAt.mono _ _ _ _ _)
   | (with_reducible exact spec_PermanentOf.mono _ _ _ _)
   | (with_reducible exact spec_RookPolynomialAt.mono _ _ _ _ _)
   | (with_reducible exact LeO.refl _)
   | (with_reducible exact LeO.none _)
   | (with_reducible refine LeO.ite ?_ ?_)
   | (with_reducible refine LeO.bind ?_ (fun _ => ?_))
   | exact ih0 _ _ _ _ _ _ _ _
   | exact ih1 _ _ _ _ _ _ _ _ _ _ _ _ _ _
   | exact ih2 _ _ _ _ _ _ _
   | exact ih3 _ _ _ _ _ _ _ _ _ _ _ _
   | exact ih4 _ _ _ _ _ _
   | exact ih5 _ _ _ _ _ _ _ _ _ _
   | exact ih6 _ _ _ _ _ _ _ _ _ _ _ _ _ _
   | exact ih7 _ _ _ _ _ _ _ _ _ _ _ _ _
   | exact impl_FactorialAt.mono _ _ _ _ _
   | exact impl_RookPolynomialAt.mono _ _ _ _ _
   | exact spec_DrawFactorialAt.mono _ _
   | exact spec_DrawPermanentOf.mono _ _
   | exact spec_DrawRookPolynomialAt.mono _ _
   | exact spec_FactorialAt.mono _ _ _ _ _
   | exact spec_PermanentOf.mono _ _ _ _
   | exact spec_RookPolynomialAt.mono _ _ _ _ _
   | exact LeO.none _
   | refine LeO.ite ?_ ?_
   | refine LeO.bind ?_ (fun _ => ?_)
theorem laws_FnPolynomialsOfRooks.mono : ∀ a0 a1 k, LeO (laws_FnPolynomialsOfRooks.f k a0 a1) (laws_FnPolynomialsOfRooks.f (k + 1) a0 a1) := by
 intro a0 a1 k
 obtain ⟨ih0, ih1, ih2, ih3, ih4, ih5, ih6, ih7⟩ := laws_FnPolynomialsOfRooks.mono_l k
 unfold laws_FnPolynomialsOfRooks.f
 repeat' first
   | (with_reducible exact ih0 _ _ _ _ _ _ _ _)
   | (with_reducible exact ih1 _ _ _ _ _ _ _ _ _ _ _ _ _ _)
   | (with_reducible exact ih2 _ _ _ _ _ _ _)
   | (with_reducible exact ih3 _ _ _ _ _ _ _ _ _ _ _ _)
   | (with_reducible exact ih4 _ _ _ _ _ _)
   | (with_reducible exact ih5 _ _ _ _ _ _ _ _ _ _)
   | (with_reducible exact ih6 _ _ _ _ _ _ _ _ _ _ _ _ _ _)
   | (with_reducible exact ih7 _ _ _ _ _ _ _ _ _ _ _ _ _)
   | (with_reducible exact impl_FactorialAt.mono _ _ _ _ _)
   | (with_reducible exact impl_RookPolynomialAt.mono _ _ _ _ _)
   | (with_reducible exact spec_DrawFactorialAt.mono _ _)
   | (with_reducible exact spec_DrawPermanentOf.mono _ _)
   | (with_reducible exact spec_DrawRookPolynomialAt.mono _ _)
   | (with_reducible exact spec_FactorialAt.mono _ _ _ _ _)
   | (with_reducible exact spec_PermanentOf.mono _ _ _ _)
   | (with_reducible exact spec_RookPolynomialAt.mono _ _ _ _ _)
   | (with_reducible exact LeO.refl _)
   | (with_reducible exact LeO.none _)
   | (with_reducible refine LeO.ite ?_ ?_)
   | (with_reducible refine LeO.bind ?_ (fun _ => ?_))
   | exact ih0 _ _ _ _ _ _ _ _
   | exact ih1 _ _ _ _ _ _ _ _ _ _ _ _ _ _
   | exact ih2 _ _ _ _ _ _ _
   | exact ih3 _ _ _ _ _ _ _ _ _ _ _ _
   | exact ih4 _ _ _ _ _ _
   | exact ih5 _ _ _ _ _ _ _ _ _ _
   | exact ih6 _ _ _ _ _ _ _ _ _ _ _ _ _ _
   | exact ih7 _ _ _ _ _ _ _ _ _ _ _ _ _
   | exact impl_FactorialAt.mono _ _ _ _ _
   | exact impl_RookPolynomialAt.mono _ _ _ _ _
   | exact spec_DrawFactorialAt.mono _ _
   | exact spec_DrawPermanentOf.mono _ _
   | exact spec_DrawRookPolynomialAt.mono _ _
   | exact spec_FactorialAt.mono _ _ _ _ _
   | exact spec_PermanentOf.mono _ _ _ _
   | exact spec_RookPolynomialAt.mono _ _ _ _ _
   | exact LeO.none _
   | refine LeO.ite ?_ ?_
   | refine LeO.bind ?_ (fun _ => ?_)
theorem laws_FnPolynomialsOfRooks.j0_no (k : Nat) (x1 : List Int) (x6 : Int) (x7 : Int) (x10 : Bool) (x343000 : Int) (x343001 : Int) (x343002 : List Int) : ¬ (laws_FnPolynomialsOfRooks.j0 k x1 x6 x7 x10 true x343000 x343001 x343002 = some true) := by
 cases k <;> simp [laws_FnPolynomialsOfRooks.j0]
theorem laws_FnPolynomialsOfRooks.j1_no (k : Nat) (x1 : List Int) (x6 : Int) (x7 : Int) (x10 : Bool) (x12 : Int) (x13 : Int) (x14 : Bool) (x343000 : Int) (x343001 : Int) (x343002 : List Int) (x354000 : Int) (x354001 : Int) (x354002 : List Int) : ¬ (laws_FnPolynomialsOfRooks.j1 k x1 x6 x7 x10 x12 x13 x14 true x343000 x343001 x343002 x354000 x354001 x354002 = some true) := by
 cases k <;> simp [laws_FnPolynomialsOfRooks.j1]
theorem laws_FnPolynomialsOfRooks.j4_no (k : Nat) (x6 : Int) (x7 : Int) (x10 : Bool) (x22 : Int) (x23 : Bool) (x343000 : Int) (x343001 : Int) (x343002 : List Int) (x369000 : Int) (x369001 : Int) (x369002 : List Int) : ¬ (laws_FnPolynomialsOfRooks.j4 k x6 x7 x10 x22 x23 true x343000 x343001 x343002 x369000 x369001 x369002 = some true) := by
 cases k <;> simp [laws_FnPolynomialsOfRooks.j4]
set_option maxHeartbeats 8000000 in
set_option maxRecDepth 100000 in
theorem laws_FnPolynomialsOfRooks.calls (k : Nat) (A0 : Option Addr) (c0 : Nat) (l0 : List Int) (A1 : Option Addr) (c1 : Nat) (l1 : List Int) (w : World) (hr0 : Kd.C (Kd.int .u8) w A0 l0.length l0) (hc0 : l0.length ≤ c0) (hr1 : Kd.C (Kd.int .u8) w A1 l1.length l1) (hc1 : l1.length ≤ c1) (h : laws_FnPolynomialsOfRooks.f k l0 l1 = some true) :
  Calls Try.prog 5 #[.slice A0 l0.length c0, .slice A1 l1.length c1] w fun e w' => e = .returned (.bool true) ∧ Below w.heap.size w w' := by
 have hu34 := Try.underlying34
 have HR0 := Aside0.mk hr0
 have HC0 := Aside0.mk hc0
 clear hr0 hc0
 have HR1 := Aside0.mk hr1
 have HC1 := Aside0.mk hc1
 clear hr1 hc1
 have HB := am (Below.refl w.heap.size w)
 have H : ((laws_big.f l0 l1).bind fun t335 => (if t335 = true then (some true) else ((spec_DrawFactorialAt.f k l0).bind fun bt336 => ((impl_FactorialAt.f k bt336.1 bt336.2.1 bt336.2.2.1 bt336.2.2.2).bind fun bt343 => ((spec_FactorialAt.f k bt336.1 bt336.2.1 bt336.2.2.1 bt336.2.2.2).bind fun bt345 => (if (bt343.2 != bt345.2) = true then (laws_FnPolynomialsOfRooks.j0 k l1 bt336.2.2.2 bt343.1 bt345.2 true bt336.1 bt336.2.1 bt336.2.2.1) else (laws_FnPolynomialsOfRooks.j0 k l1 bt336.2.2.2 bt343.1 bt345.2 (bt343.1 != bt345.1) bt336.1 bt336.2.1 bt336.2.2.1))))))) = some true := h
 clear h
 replace H := Option.bind_eq_some_iff.mp H
 obtain ⟨t335, A30, H⟩ := H
 replace H : (if t335 = true then (some true) else ((spec_DrawFactorialAt.f k l0).bind fun bt336 => ((impl_FactorialAt.f k bt336.1 bt336.2.1 bt336.2.2.1 bt336.2.2.2).bind fun bt343 => ((spec_FactorialAt.f k bt336.1 bt336.2.1 bt336.2.2.1 bt336.2.2.2).bind fun bt345 => (if (bt343.2 != bt345.2) = true then (laws_FnPolynomialsOfRooks.j0 k l1 bt336.2.2.2 bt343.1 bt345.2 true bt336.1 bt336.2.1 bt336.2.2.1) else (laws_FnPolynomialsOfRooks.j0 k l1 bt336.2.2.2 bt343.1 bt345.2 (bt343.1 != bt345.1) bt336.1 bt336.2.1 bt336.2.2.1)))))) = some true := H
 have A3 := Aside0.mk A30
 clear A30
 by_cases c4 : t335 = true
 ·
  subst c4
  have H1 : (some true) = some true := by first | (rw [if_pos rfl] at H; exact H) | rfl
  clear H
  have H := H1
  clear H1 H
  go_enter Try.func5, Try.ntmps5
  go_wp2_with (first | ((with_reducible refine gate_callee (f := 10) rfl ?_); refine goesL_ (some 37) rfl rfl Try.func10 (by kernel_rfl) rfl #[.slice A0 l0.length c0, .slice A1 l1.length c1] rfl (by (try simp only [List.map_toArray, List.map_cons, List.map_nil]); try rfl) ?_; (with_reducible refine (laws_big.calls _ _ l0 _ _ l1 true _ ?side1 ?side2 ?side3 ?side4 A3.out).mono ?_); (case side1 => repeat (first | exact HR0.out | (with_reducible first | refine Kd.C_alloc ?_ _ | refine Kd.C_drewN ?_ _ | refine Kd.C_drew ?_))); (case side2 => exact HC0.out); (case side3 => repeat (first | exact HR1.out | (with_reducible first | refine Kd.C_alloc ?_ _ | refine Kd.C_drewN ?_ _ | refine Kd.C_drew ?_))); (case side4 => exact HC1.out); rintro e w' ⟨rfl, ⟨nd, rfl⟩⟩; refine ⟨_, rfl, ?_⟩))
  go_ret
  exact ⟨by first | rfl | (simp [errW_none, errW_some] <;> rfl) | (simp [*, errW_none, errW_some] <;> rfl), by repeat with_reducible first | exact HB.out | apply pw_below_drewN | apply below_drew1⟩
 ·
  replace c4 := Bool.eq_false_iff.mpr c4
  subst c4
  have H1 : ((spec_DrawFactorialAt.f k l0).bind fun bt336 => ((impl_FactorialAt.f k bt336.1 bt336.2.1 bt336.2.2.1 bt336.2.2.2).bind fun bt343 => ((spec_FactorialAt.f k bt336.1 bt336.2.1 bt336.2.2.1 bt336.2.2.2).bind fun bt345 => (if (bt343.2 != bt345.2) = true then (laws_FnPolynomialsOfRooks.j0 k l1 bt336.2.2.2 bt343.1 bt345.2 true bt336.1 bt336.2.1 bt336.2.2.1) else (laws_FnPolynomialsOfRooks.j0 k l1 bt336.2.2.2 bt343.1 bt345.2 (bt343.1 != bt345.1) bt336.1 bt336.2.1 bt336.2.2.1))))) = some true := by first | (rw [if_neg (show ¬ (false = true) by decide)] at H; exact H) | rfl
  clear H
  have H := H1
  clear H1
  replace H := Option.bind_eq_some_iff.mp H
  obtain ⟨⟨t336, t337, t338, t341⟩, A50, H⟩ := H
  replace H : ((impl_FactorialAt.f k t336 t337 t338 t341).bind fun bt343 => ((spec_FactorialAt.f k t336 t337 t338 t341).bind fun bt345 => (if (bt343.2 != bt345.2) = true then (laws_FnPolynomialsOfRooks.j0 k l1 t341 bt343.1 bt345.2 true t336 t337 t338) else (laws_FnPolynomialsOfRooks.j0 k l1 t341 bt343.1 bt345.2 (bt343.1 != bt345.1) t336 t337 t338)))) = some true := H
  have A5 := Aside0.mk A50
  clear A50
  replace H := Option.bind_eq_some_iff.mp H
  obtain ⟨⟨t343, t344⟩, A60, H⟩ := H
  replace H : ((spec_FactorialAt.f k t336 t337 t338 t341).bind fun bt345 => (if (t344 != bt345.2) = true then (laws_FnPolynomialsOfRooks.j0 k l1 t341 t343 bt345.2 true t336 t337 t338) else (laws_FnPolynomialsOfRooks.j0 k l1 t341 t343 bt345.2 (t343 != bt345.1) t336 t337 t338))) = some true := H
  have A6 := Aside0.mk A60
  clear A60
  replace H := Option.bind_eq_some_iff.mp H
  obtain ⟨⟨t345, t346⟩, A70, H⟩ := H
  replace H : (if (t344 != t346) = true then (laws_FnPolynomialsOfRooks.j0 k l1 t341 t343 t346 true t336 t337 t338) else (laws_FnPolynomialsOfRooks.j0 k l1 t341 t343 t346 (t343 != t345) t336 t337 t338)) = some true := H
  have A7 := Aside0.mk A70
  clear A70
  have HC8 := Aside0.mk H
  clear H
  go_enter Try.func5, Try.ntmps5
  go_upto_region 6 with (first | ((with_reducible refine gate_callee (f := 10) rfl ?_); refine goesL_ (some 37) rfl rfl Try.func10 (by kernel_rfl) rfl #[.slice A0 l0.length c0, .slice A1 l1.length c1] rfl (by (try simp only [List.map_toArray, List.map_cons, List.map_nil]); try rfl) ?_; (with_reducible refine (laws_big.calls _ _ l0 _ _ l1 false _ ?side1 ?side2 ?side3 ?side4 A3.out).mono ?_); (case side1 => repeat (first | exact HR0.out | (with_reducible first | refine Kd.C_alloc ?_ _ | refine Kd.C_drewN ?_ _ | refine Kd.C_drew ?_))); (case side2 => exact HC0.out); (case side3 => repeat (first | exact HR1.out | (with_reducible first | refine Kd.C_alloc ?_ _ | refine Kd.C_drewN ?_ _ | refine Kd.C_drew ?_))); (case side4 => exact HC1.out); rintro e w' ⟨rfl, ⟨nd, rfl⟩⟩; refine ⟨_, rfl, ?_⟩) | ((with_reducible refine gate_callee (f := 48) rfl ?_); refine goesL_ (some 40) rfl rfl Try.func48 (by kernel_rfl) rfl #[.slice A0 l0.length c0] rfl (by (try simp only [List.map_toArray, List.map_cons, List.map_nil]); try rfl) ?_; (with_reducible refine (spec_DrawFactorialAt.calls k _ _ l0 t336 t337 t338 t341 _ ?side1 ?side2 A5.out).mono ?_); (case side1 => repeat (first | exact HR0.out | (with_reducible first | refine Kd.C_alloc ?_ _ | refine Kd.C_drewN ?_ _ | refine Kd.C_drew ?_))); (case side2 => exact HC0.out); rintro e w9 ⟨v339, rfl, ho0, hb⟩; refine ⟨_, rfl, ?_⟩; have n0_ := am (Kd.R_lower ho0 (below_size (by repeat with_reducible first | exact HB.out | apply pw_below_drewN | apply below_drew1))); have n1_ := am (below_step (by repeat with_reducible first | exact HB.out | apply pw_below_drewN | apply below_drew1) hb); clear HB; have Oq0 := n0_; have HB := n1_; clear n0_ n1_; (try clear hb); (try clear hb2); (try clear hk); (try clear hi); (try clear ho0)) | ((with_reducible refine gate_dst (N := 5) rfl ?_); refine box_event ?hg (N := 5) ?hd (cs := #[.int .i64 0, .int .i64 0, .slice none 0 0]) (t := 34) ?hr ?_; (case hd => rfl); (case hg => rfl); (case hr => first | (go_simp; done) | (go_simp; rfl)); intro gb342 hg w10 hbox hb; have n1_ := am (below_step (by repeat with_reducible first | exact HB.out | apply pw_below_drewN | apply below_drew1) hb); have n2_ := am (hbox); have n3_ := am ((by rw [hg]; exact (below_size (by repeat with_reducible first | exact HB.out | apply pw_below_drewN | apply below_drew1)) : w.heap.size ≤ gb342)); have n4_ := am ((by rw [hg]; exact (below_size (by repeat with_reducible first | exact HB.out | apply pw_below_drewN | apply below_drew1)) : w.heap.size ≤ gb342)); clear HB; replace Oq0 := sqR Oq0 hb; have HB := n1_; have BK342 := n2_; have GW342 := n3_; have GE342 := n4_; clear n1_ n2_ n3_ n4_; clear hb hbox hg; have zq0 : w10.cell? ⟨gb342, 0, none⟩ = some (.int .i64 0) := sqc BK342 0; have zq1 : w10.cell? ⟨gb342, 1, none⟩ = some (.int .i64 0) := sqc BK342 1; have zq2 : w10.cell? ⟨gb342, 2, none⟩ = some (.slice none 0 0) := sqc BK342 2; have fq0 := blk_frozen BK342.out 0; have fq1 := blk_frozen BK342.out 1; have fq2 := blk_frozen BK342.out 2; obtain ⟨Ao12, co12, eo12⟩ := Kd.R_slice Oq0.out; subst eo12) | ((with_reducible refine gate_callee (f := 31) rfl ?_); refine goesL_ (some 46) rfl rfl Try.func31 (by kernel_rfl) rfl #[.agg #[.int .i64 t336, .int .i64 t337, .slice Ao12 t338.length co12], .int .i64 t341] rfl (by (try simp only [List.map_toArray, List.map_cons, List.map_nil]); try rfl) ?_; (with_reducible refine (impl_FactorialAt.calls k t336 t337 _ _ t338 t341 t343 t344 _ ?side1 ?side2 A6.out).mono ?_); (case side1 => refine (Kd.R_reads' (e := 3) (base := w.heap.size) (ok := fun k_ => True) (n := t338.length) (c := co12) ?_).2.2; exact (by (with_reducible repeat (first | apply Kd.R_alloc | apply Kd.R_drewN | apply Kd.R_drew)); exact (Kd.R_mono (Kd.R_far (p := ⟨gb342, 2, none⟩) (Kd.R_far (p := ⟨gb342, 1, none⟩) (Kd.R_far (p := ⟨gb342, 0, none⟩) (Kd.R_types Oq0.out BK342.out (by decide)) (fun _ hk => hk.2) (.int .i64 t336)) (fun _ hk => hk.2) (.int .i64 t337)) (fun _ hk => hk.2) (.slice Ao12 t338.length co12)) (fun _ h_ => by first | exact h_.1 | (have hx_ := h_.1; and_intros <;> first | trivial | simp only [hx_, ne_eq, not_false_eq_true]))))); (case side2 => exact (Kd.R_reads' Oq0.out).2.1); rintro e w13 ⟨rfl, hb⟩; refine ⟨_, rfl, ?_⟩; have n0_ := am (Kd.R_below (by (with_reducible repeat (first | apply Kd.R_alloc | apply Kd.R_drewN | apply Kd.R_drew)); exact (Kd.R_mono (Kd.R_far (p := ⟨gb342, 2, none⟩) (Kd.R_far (p := ⟨gb342, 1, none⟩) (Kd.R_far (p := ⟨gb342, 0, none⟩) (Kd.R_types Oq0.out BK342.out (by decide)) (fun _ hk => hk.2) (.int .i64 t336)) (fun _ hk => hk.2) (.int .i64 t337)) (fun _ hk => hk.2) (.slice Ao12 t338.length co12)) (fun _ h_ => h_.1))) hb); have n1_ := am (blk_below (g := gb342) (o := .cells #[.int .i64 t336, .int .i64 t337, .slice Ao12 t338.length co12] 34 (0, 0)) (by (with_reducible repeat (first | refine blk_drewN ?_ _ | refine blk_drew ?_ | refine blk_alloc ?_ _)); refine blk_put (cs := #[.int .i64 t336, .int .i64 t337, .slice none 0 0]) ?_ 2 _ rfl; (with_reducible repeat (first | refine blk_drewN ?_ _ | refine blk_drew ?_ | refine blk_alloc ?_ _)); refine blk_put (cs := #[.int .i64 t336, .int .i64 0, .slice none 0 0]) ?_ 1 _ rfl; (with_reducible repeat (first | refine blk_drewN ?_ _ | refine blk_drew ?_ | refine blk_alloc ?_ _)); refine blk_put (cs := #[.int .i64 0, .int .i64 0, .slice none 0 0]) ?_ 0 _ rfl; (with_reducible repeat (first | refine blk_drewN ?_ _ | refine blk_drew ?_ | refine blk_alloc ?_ _)); exact BK342.out) hb); have n2_ := am (below_step (by repeat with_reducible first | exact HB.out | apply pw_below_drewN | apply below_drew1 | refine below_set ?_ GE342.out) hb); clear Oq0; clear BK342; clear HB; have Oq0 := n0_; have BK342 := n1_; have HB := n2_; clear n0_ n1_ n2_; (try clear hb); (try clear hb2); (try clear hk); (try clear hi); have zq3 : w13.cell? ⟨gb342, 0, none⟩ = some (.int .i64 t336) := sqc BK342 0; have zq4 : w13.cell? ⟨gb342, 1, none⟩ = some (.int .i64 t337) := sqc BK342 1; have zq5 : w13.cell? ⟨gb342, 2, none⟩ = some (.slice Ao12 t338.length co12) := sqc BK342 2; have fq3 := blk_frozen BK342.out 0; have fq4 := blk_frozen BK342.out 1; have fq5 := blk_frozen BK342.out 2) | ((with_reducible refine gate_callee (f := 49) rfl ?_); refine goesL_ (some 52) rfl rfl Try.func49 (by kernel_rfl) rfl #[.agg #[.int .i64 t336, .int .i64 t337, .slice Ao12 t338.length co12], .int .i64 t341] rfl (by (try simp only [List.map_toArray, List.map_cons, List.map_nil]); try rfl) ?_; (with_reducible refine (spec_FactorialAt.calls k t336 t337 _ _ t338 t341 t345 t346 _ ?side1 ?side2 A7.out).mono ?_); (case side1 => repeat (first | exact (Kd.R_reads' Oq0.out).2.2 | (with_reducible first | refine Kd.C_alloc ?_ _ | refine Kd.C_drewN ?_ _ | refine Kd.C_drew ?_))); (case side2 => exact (Kd.R_reads' Oq0.out).2.1); rintro e w15 ⟨rfl, hb⟩; refine ⟨_, rfl, ?_⟩; have n2_ := am (below_step (by repeat with_reducible first | exact HB.out | apply pw_below_drewN | apply below_drew1 | refine below_set ?_ GE342.out) hb); clear HB; replace Oq0 := sqR Oq0 hb; replace BK342 := sqB BK342 hb; have HB := n2_; clear n2_; (try clear hb); (try clear hb2); (try clear hk); (try clear hi)))
  (try simp only [Act.put, List.setIfInBounds_toArray, List.set_cons_zero, List.set_cons_succ])
  go_cut [62] (fun v62 wc => ∃ (kq : Nat) (x62_7 : Bool), v62 = .bool x62_7 ∧ Aside0 (laws_FnPolynomialsOfRooks.j0 kq l1 t341 t343 t346 x62_7 t336 t337 t338 = some true) ∧ Aside0 (kq ≤ k) ∧ Aside0 (Kd.R (Kd.int .i64) 3 wc w.heap.size (fun _ => True) (.slice Ao12 t338.length co12) t338) ∧ Aside0 (wc.heap[gb342]? = some (.cells #[.int .i64 t336, .int .i64 t337, (.slice Ao12 t338.length co12)] 34 (0, 0))) ∧ Aside0 (Below w.heap.size w wc))
  case first => as_aux_lemma =>
   have H := HC8.out
   clear HC8
   by_cases c16 : (t344 != t346) = true
   ·
    rw [if_pos c16] at H
    have c16b0 : (t344 != t346) = true := c16
    (try (have c16b1 : decide (t344 = t346) = false := by simpa using c16))
    (try (have c16b2 : (t344 == t346) = false := by simpa using c16))
    (try (have c16b3 : ¬ (t344 = t346) := by simpa using c16))
    clear c16
    (first | rw [c16b0] | (simp only [i64_w, i32_w]; rw [c16b0]) | rw [c16b1] | skip)
    exact absurd H (laws_FnPolynomialsOfRooks.j0_no _ _ _ _ _ _ _ _)
   ·
    rw [if_neg c16] at H
    have c16b0 : (t344 != t346) = false := by simpa using c16
    (try (have c16b1 : decide (t344 = t346) = true := by simpa using c16))
    (try (have c16b2 : (t344 == t346) = true := by simpa using c16))
    clear c16
    (first | rw [c16b0] | (simp only [i64_w, i32_w]; rw [c16b0]) | rw [c16b1] | skip)
    have H' := Aside0.mk H
    clear H
    go_wp2
    go_meet
    case rel => exact ⟨_, ((t343 != t345)), (by first | rfl | (simp; done) | (simp [*]; done)), H', ⟨by first | omega | exact Nat.le_refl _⟩, ⟨by (with_reducible repeat (first | apply Kd.R_alloc | apply Kd.R_drewN | apply Kd.R_drew)); exact Oq0.out⟩, ⟨by (with_reducible repeat (first | refine blk_drewN ?_ _ | refine blk_drew ?_ | refine blk_alloc ?_ _)); exact BK342.out⟩, ⟨by repeat with_reducible first | exact HB.out | apply pw_below_drewN | apply below_drew1 | refine below_set ?_ GE342.out⟩⟩
  case rest => as_aux_lemma =>
   clear HC8
   try clear c1; try clear p2; try clear c3; try clear c4; try clear c5; try clear c10; try clear c16; try clear c16b0; try clear c16b1; try clear c16b2; try clear zq0; try clear zq1; try clear zq2; try clear zq3; try clear zq4; try clear zq5; try clear fq0; try clear fq1; try clear fq2; try clear fq3; try clear fq4; try clear fq5
   obtain ⟨kq, x62_7, rfl, HA, HJ7, Oq7, BK342, HB⟩ := hcut
   cases kq with
   | zero => exact absurd HA.out (by simp [laws_FnPolynomialsOfRooks.j0])
   | succ kj7 =>
    have H := HA.out
    clear HA
    simp only [laws_FnPolynomialsOfRooks.j0] at H
    by_cases c17 : x62_7 = true
    ·
     subst c17
     have H1 : (some false) = some true := by first | (rw [if_pos rfl] at H; exact H) | rfl
     clear H
     have H := H1
     clear H1
     exact absurd (Option.some.inj H) (by decide)
    ·
     replace c17 := Bool.eq_false_iff.mpr c17
     subst c17
     have H1 : ((spec_DrawRookPolynomialAt.f kj7 l1).bind fun bt347 => ((impl_RookPolynomialAt.f kj7 bt347.1 bt347.2.1 bt347.2.2.1 bt347.2.2.2).bind fun bt354 => ((spec_RookPolynomialAt.f kj7 bt347.1 bt347.2.1 bt347.2.2.1 bt347.2.2.2).bind fun bt356 => (if (bt354.2 != bt356.2) = true then (laws_FnPolynomialsOfRooks.j1 kj7 l1 t341 t343 t346 bt347.2.2.2 bt354.1 bt354.2 true t336 t337 t338 bt347.1 bt347.2.1 bt347.2.2.1) else (laws_FnPolynomialsOfRooks.j1 kj7 l1 t341 t343 t346 bt347.2.2.2 bt354.1 bt354.2 (bt354.1 != bt356.1) t336 t337 t338 bt347.1 bt347.2.1 bt347.2.2.1))))) = some true := by first | (rw [if_neg (show ¬ (false = true) by decide)] at H; exact H) | rfl
     clear H
     have H := H1
     clear H1
     replace H := Option.bind_eq_some_iff.mp H
     obtain ⟨⟨t347, t348, t349, t352⟩, A180, H⟩ := H
     replace H : ((impl_RookPolynomialAt.f kj7 t347 t348 t349 t352).bind fun bt354 => ((spec_RookPolynomialAt.f kj7 t347 t348 t349 t352).bind fun bt356 => (if (bt354.2 != bt356.2) = true then (laws_FnPolynomialsOfRooks.j1 kj7 l1 t341 t343 t346 t352 bt354.1 bt354.2 true t336 t337 t338 t347 t348 t349) else (laws_FnPolynomialsOfRooks.j1 kj7 l1 t341 t343 t346 t352 bt354.1 bt354.2 (bt354.1 != bt356.1) t336 t337 t338 t347 t348 t349)))) = some true := H
     have A18 := Aside0.mk A180
     clear A180
     replace H := Option.bind_eq_some_iff.mp H
     obtain ⟨⟨t354, t355⟩, A190, H⟩ := H
     replace H : ((spec_RookPolynomialAt.f kj7 t347 t348 t349 t352).bind fun bt356 => (if (t355 != bt356.2) = true then (laws_FnPolynomialsOfRooks.j1 kj7 l1 t341 t343 t346 t352 t354 t355 true t336 t337 t338 t347 t348 t349) else (laws_FnPolynomialsOfRooks.j1 kj7 l1 t341 t343 t346 t352 t354 t355 (t354 != bt356.1) t336 t337 t338 t347 t348 t349))) = some true := H
     have A19 := Aside0.mk A190
     clear A190
     replace H := Option.bind_eq_some_iff.mp H
     obtain ⟨⟨t356, t357⟩, A200, H⟩ := H
     replace H : (if (t355 != t357) = true then (laws_FnPolynomialsOfRooks.j1 kj7 l1 t341 t343 t346 t352 t354 t355 true t336 t337 t338 t347 t348 t349) else (laws_FnPolynomialsOfRooks.j1 kj7 l1 t341 t343 t346 t352 t354 t355 (t354 != t356) t336 t337 t338 t347 t348 t349)) = some true := H
     have A20 := Aside0.mk A200
     clear A200
     have HC21 := Aside0.mk H
     clear H
     go_upto_region 11 with (first | ((with_reducible refine gate_callee (f := 50) rfl ?_); refine goesL_ (some 65) rfl rfl Try.func50 (by kernel_rfl) rfl #[.slice A1 l1.length c1] rfl (by (try simp only [List.map_toArray, List.map_cons, List.map_nil]); try rfl) ?_; (with_reducible refine (spec_DrawRookPolynomialAt.calls kj7 _ _ l1 t347 t348 t349 t352 _ ?side1 ?side2 A18.out).mono ?_); (case side1 => repeat (first | exact (Kd.C_below HR1.out HB.out) | (with_reducible first | refine Kd.C_alloc ?_ _ | refine Kd.C_drewN ?_ _ | refine Kd.C_drew ?_))); (case side2 => exact HC1.out); rintro e w22 ⟨v350, rfl, ho0, hb⟩; refine ⟨_, rfl, ?_⟩; have n1_ := am (Kd.R_lower (Kd.R_new' ho0 (sqL Oq7)) (below_size (by repeat with_reducible first | exact HB.out | apply pw_below_drewN | apply below_drew1 | refine below_set ?_ GE342.out))); have n3_ := am (below_step (by repeat with_reducible first | exact HB.out | apply pw_below_drewN | apply below_drew1 | refine below_set ?_ GE342.out) hb); clear HB; replace Oq7 := sqE Oq7 ho0 hb; have Oq1 := n1_; replace BK342 := sqB BK342 hb; have HB := n3_; clear n1_ n3_; (try clear hb); (try clear hb2); (try clear hk); (try clear hi); (try clear ho0)) | ((with_reducible refine gate_dst (N := 11) rfl ?_); refine box_event ?hg (N := 11) ?hd (cs := #[.int .i64 0, .int .i64 0, .slice none 0 0]) (t := 34) ?hr ?_; (case hd => rfl); (case hg => rfl); (case hr => first | (go_simp; done) | (go_simp; rfl)); intro gb353 hg w23 hbox hb; have n3_ := am (below_step (by repeat with_reducible first | exact HB.out | apply pw_below_drewN | apply below_drew1 | refine below_set ?_ GE342.out) hb); have n4_ := am (hbox); have n5_ := am ((by rw [hg]; exact (below_size (by repeat with_reducible first | exact HB.out | apply pw_below_drewN | apply below_drew1 | refine below_set ?_ GE342.out)) : w.heap.size ≤ gb353)); have n6_ := am ((by rw [hg]; exact (below_size (by repeat with_reducible first | exact HB.out | apply pw_below_drewN | apply below_drew1 | refine below_set ?_ GE342.out)) : w.heap.size ≤ gb353)); have n7_ := am ((by rw [hg]; exact Nat.ne_of_lt (sqT BK342) : gb342 ≠ gb353)); have n8_ := am ((by rw [hg]; exact Nat.ne_of_gt (sqT BK342) : gb353 ≠ gb342)); clear HB; replace Oq7 := sqR Oq7 hb; replace Oq1 := sqR Oq1 hb; replace BK342 := sqB BK342 hb; have HB := n3_; have BK353 := n4_; have GW353 := n5_; have GE353 := n6_; have Nq0 := n7_; have Nq2 := n8_; clear n3_ n4_ n5_ n6_ n7_ n8_; clear hb hbox hg; have bq0 := Nq2.out; have cq0 := Nq0.out; have zq6 : w23.cell? ⟨gb353, 0, none⟩ = some (.int .i64 0) := sqc BK353 0; have zq7 : w23.cell? ⟨gb353, 1, none⟩ = some (.int .i64 0) := sqc BK353 1; have zq8 : w23.cell? ⟨gb353, 2, none⟩ = some (.slice none 0 0) := sqc BK353 2; have fq6 := blk_frozen BK353.out 0; have fq7 := blk_frozen BK353.out 1; have fq8 := blk_frozen BK353.out 2; obtain ⟨Ao26, co26, eo26⟩ := Kd.R_slice Oq1.out; subst eo26) | ((with_reducible refine gate_callee (f := 51) rfl ?_); refine goesL_ (some 71) rfl rfl Try.func51 (by kernel_rfl) rfl #[.agg #[.int .i64 t347, .int .i64 t348, .slice Ao26 t349.length co26], .int .i64 t352] rfl (by (try simp only [List.map_toArray, List.map_cons, List.map_nil]); try rfl) ?_; (with_reducible refine (impl_RookPolynomialAt.calls kj7 t347 t348 _ _ t349 t352 t354 t355 _ ?side1 ?side2 A19.out).mono ?_); (case side1 => refine (Kd.R_reads' (e := 3) (base := w.heap.size) (ok := fun k_ => (True ∧ some k_ ≠ (.slice Ao12 t338.length co12 : Value).ownBlock)) (n := t349.length) (c := co26) ?_).2.2; exact (by (with_reducible repeat (first | apply Kd.R_alloc | apply Kd.R_drewN | apply Kd.R_drew)); exact (Kd.R_mono (Kd.R_far (p := ⟨gb353, 2, none⟩) (Kd.R_far (p := ⟨gb353, 1, none⟩) (Kd.R_far (p := ⟨gb353, 0, none⟩) (Kd.R_types Oq1.out BK353.out (by decide)) (fun _ hk => hk.2) (.int .i64 t347)) (fun _ hk => hk.2) (.int .i64 t348)) (fun _ hk => hk.2) (.slice Ao26 t349.length co26)) (fun _ h_ => by first | exact h_.1 | (have hx_ := h_.1; and_intros <;> first | trivial | simp only [hx_, ne_eq, not_false_eq_true]))))); (case side2 => exact (Kd.R_reads' Oq1.out).2.1); rintro e w27 ⟨rfl, hb⟩; refine ⟨_, rfl, ?_⟩; have n0_ := am (Kd.R_below (by (with_reducible repeat (first | apply Kd.R_alloc | apply Kd.R_drewN | apply Kd.R_drew)); exact (Kd.R_mono (Kd.R_far (p := ⟨gb353, 2, none⟩) (Kd.R_far (p := ⟨gb353, 1, none⟩) (Kd.R_far (p := ⟨gb353, 0, none⟩) (Kd.R_types Oq7.out BK353.out (by decide)) (fun _ hk => hk.2) (.int .i64 t347)) (fun _ hk => hk.2) (.int .i64 t348)) (fun _ hk => hk.2) (.slice Ao26 t349.length co26)) (fun _ h_ => h_.1))) hb); have n1_ := am (Kd.R_below (by (with_reducible repeat (first | apply Kd.R_alloc | apply Kd.R_drewN | apply Kd.R_drew)); exact (Kd.R_mono (Kd.R_far (p := ⟨gb353, 2, none⟩) (Kd.R_far (p := ⟨gb353, 1, none⟩) (Kd.R_far (p := ⟨gb353, 0, none⟩) (Kd.R_types Oq1.out BK353.out (by decide)) (fun _ hk => hk.2) (.int .i64 t347)) (fun _ hk => hk.2) (.int .i64 t348)) (fun _ hk => hk.2) (.slice Ao26 t349.length co26)) (fun _ h_ => h_.1))) hb); have n2_ := am (blk_below (g := gb342) (o := .cells #[.int .i64 t336, .int .i64 t337, .slice Ao12 t338.length co12] 34 (0, 0)) (by (with_reducible repeat (first | refine blk_drewN ?_ _ | refine blk_drew ?_ | refine blk_alloc ?_ _)); refine blk_far ?_ Nq0.out _; (with_reducible repeat (first | refine blk_drewN ?_ _ | refine blk_drew ?_ | refine blk_alloc ?_ _)); refine blk_far ?_ Nq0.out _; (with_reducible repeat (first | refine blk_drewN ?_ _ | refine blk_drew ?_ | refine blk_alloc ?_ _)); refine blk_far ?_ Nq0.out _; (with_reducible repeat (first | refine blk_drewN ?_ _ | refine blk_drew ?_ | refine blk_alloc ?_ _)); exact BK342.out) hb); have n3_ := am (blk_below (g := gb353) (o := .cells #[.int .i64 t347, .int .i64 t348, .slice Ao26 t349.length co26] 34 (0, 0)) (by (with_reducible repeat (first | refine blk_drewN ?_ _ | refine blk_drew ?_ | refine blk_alloc ?_ _)); refine blk_put (cs := #[.int .i64 t347, .int .i64 t348, .slice none 0 0]) ?_ 2 _ rfl; (with_reducible repeat (first | refine blk_drewN ?_ _ | refine blk_drew ?_ | refine blk_alloc ?_ _)); refine blk_put (cs := #[.int .i64 t347, .int .i64 0, .slice none 0 0]) ?_ 1 _ rfl; (with_reducible repeat (first | refine blk_drewN ?_ _ | refine blk_drew ?_ | refine blk_alloc ?_ _)); refine blk_put (cs := #[.int .i64 0, .int .i64 0, .slice none 0 0]) ?_ 0 _ rfl; (with_reducible repeat (first | refine blk_drewN ?_ _ | refine blk_drew ?_ | refine blk_alloc ?_ _)); exact BK353.out) hb); have n4_ := am (below_step (by repeat with_reducible first | exact HB.out | apply pw_below_drewN | apply below_drew1 | refine below_set ?_ (Aside0.out (by assumption))) hb); clear Oq7; clear Oq1; clear BK342; clear BK353; clear HB; have Oq7 := n0_; have Oq1 := n1_; have BK342 := n2_; have BK353 := n3_; have HB := n4_; clear n0_ n1_ n2_ n3_ n4_; (try clear hb); (try clear hb2); (try clear hk); (try clear hi); have zq9 : w27.cell? ⟨gb353, 0, none⟩ = some (.int .i64 t347) := sqc BK353 0; have zq10 : w27.cell? ⟨gb353, 1, none⟩ = some (.int .i64 t348) := sqc BK353 1; have zq11 : w27.cell? ⟨gb353, 2, none⟩ = some (.slice Ao26 t349.length co26) := sqc BK353 2; have fq9 := blk_frozen BK353.out 0; have fq10 := blk_frozen BK353.out 1; have fq11 := blk_frozen BK353.out 2) | ((with_reducible refine gate_callee (f := 52) rfl ?_); refine goesL_ (some 77) rfl rfl Try.func52 (by kernel_rfl) rfl #[.agg #[.int .i64 t347, .int .i64 t348, .slice Ao26 t349.length co26], .int .i64 t352] rfl (by (try simp only [List.map_toArray, List.map_cons, List.map_nil]); try rfl) ?_; (with_reducible refine (spec_RookPolynomialAt.calls kj7 t347 t348 _ _ t349 t352 t356 t357 _ ?side1 ?side2 A20.out).mono ?_); (case side1 => repeat (first | exact (Kd.R_reads' Oq1.out).2.2 | (with_reducible first | refine Kd.C_alloc ?_ _ | refine Kd.C_drewN ?_ _ | refine Kd.C_drew ?_))); (case side2 => exact (Kd.R_reads' Oq1.out).2.1); rintro e w29 ⟨rfl, hb⟩; refine ⟨_, rfl, ?_⟩; have n4_ := am (below_step (by repeat with_reducible first | exact HB.out | apply pw_below_drewN | apply below_drew1 | refine below_set ?_ (Aside0.out (by assumption))) hb); clear HB; replace Oq7 := sqR Oq7 hb; replace Oq1 := sqR Oq1 hb; replace BK342 := sqB BK342 hb; replace BK353 := sqB BK353 hb; have HB := n4_; clear n4_; (try clear hb); (try clear hb2); (try clear hk); (try clear hi)))
     (try simp only [Act.put, List.setIfInBounds_toArray, List.set_cons_zero, List.set_cons_succ])
     go_cut [87] (fun v87 wc => ∃ (kq : Nat) (x87_20 : Bool), v87 = .bool x87_20 ∧ Aside0 (laws_FnPolynomialsOfRooks.j1 kq l1 t341 t343 t346 t352 t354 t355 x87_20 t336 t337 t338 t347 t348 t349 = some true) ∧ Aside0 (kq ≤ kj7) ∧ Aside0 (Kd.R (Kd.int .i64) 3 wc w.heap.size (fun k_ => some k_ ≠ ((.slice Ao26 t349.length co26) : Value).ownBlock) (.slice Ao12 t338.length co12) t338) ∧ Aside0 (Kd.R (Kd.int .i64) 3 wc w.heap.size (fun k_ => some k_ ≠ ((.slice Ao12 t338.length co12) : Value).ownBlock) (.slice Ao26 t349.length co26) t349) ∧ Aside0 (wc.heap[gb342]? = some (.cells #[.int .i64 t336, .int .i64 t337, (.slice Ao12 t338.length co12)] 34 (0, 0))) ∧ Aside0 (wc.heap[gb353]? = some (.cells #[.int .i64 t347, .int .i64 t348, (.slice Ao26 t349.length co26)] 34 (0, 0))) ∧ Aside0 (Below w.heap.size w wc))
     case first => as_aux_lemma =>
      have H := HC21.out
      clear HC21
      by_cases c30 : (t355 != t357) = true
      ·
       rw [if_pos c30] at H
       have c30b0 : (t355 != t357) = true := c30
       (try (have c30b1 : decide (t355 = t357) = false := by simpa using c30))
       (try (have c30b2 : (t355 == t357) = false := by simpa using c30))
       (try (have c30b3 : ¬ (t355 = t357) := by simpa using c30))
       clear c30
       (first | rw [c30b0] | (simp only [i64_w, i32_w]; rw [c30b0]) | rw [c30b1] | skip)
       exact absurd H (laws_FnPolynomialsOfRooks.j1_no _ _ _ _ _ _ _ _ _ _ _ _ _ _)
      ·
       rw [if_neg c30] at H
       have c30b0 : (t355 != t357) = false := by simpa using c30
       (try (have c30b1 : decide (t355 = t357) = true := by simpa using c30))
       (try (have c30b2 : (t355 == t357) = true := by simpa using c30))
       clear c30
       (first | rw [c30b0] | (simp only [i64_w, i32_w]; rw [c30b0]) | rw [c30b1] | skip)
       have H' := Aside0.mk H
       clear H
       go_wp2
       go_meet
       case rel => exact ⟨_, ((t354 != t356)), (by first | rfl | (simp; done) | (simp [*]; done)), H', ⟨by have := HJ7.out; first | omega | exact Nat.le_refl _⟩, ⟨by exact sqm Oq7 (fun _ hk => hk.2)⟩, ⟨by exact sqm Oq1 (fun _ hk => hk.2)⟩, ⟨by (with_reducible repeat (first | refine blk_drewN ?_ _ | refine blk_drew ?_ | refine blk_alloc ?_ _)); exact BK342.out⟩, ⟨by (with_reducible repeat (first | refine blk_drewN ?_ _ | refine blk_drew ?_ | refine blk_alloc ?_ _)); exact BK353.out⟩, ⟨by repeat with_reducible first | exact HB.out | apply pw_below_drewN | apply below_drew1 | refine below_set ?_ (Aside0.out (by assumption))⟩⟩
     case rest => as_aux_lemma =>
      clear HC21
      try clear c1; try clear c2; try clear p2; try clear c3; try clear c4; try clear c5; try clear c10; try clear c16; try clear c16b0; try clear c16b1; try clear c16b2; try clear c17; try clear c24; try clear c30; try clear c30b0; try clear c30b1; try clear c30b2; try clear zq0; try clear zq1; try clear zq2; try clear zq3; try clear zq4; try clear zq5; try clear zq6; try clear zq7; try clear zq8; try clear zq9; try clear zq10; try clear zq11; try clear fq0; try clear fq1; try clear fq2; try clear fq3; try clear fq4; try clear fq5; try clear fq6; try clear fq7; try clear fq8; try clear fq9; try clear fq10; try clear fq11; try clear p2
      obtain ⟨kq, x87_20, rfl, HA, HJ20, Oq7, Oq8, BK342, BK353, HB⟩ := hcut
      cases kq with
      | zero => exact absurd HA.out (by simp [laws_FnPolynomialsOfRooks.j1])
      | succ kj20 =>
       have H := HA.out
       clear HA
       simp only [laws_FnPolynomialsOfRooks.j1] at H
       by_cases c31 : x87_20 = true
       ·
        subst c31
        have H1 : (some false) = some true := by first | (rw [if_pos rfl] at H; exact H) | rfl
        clear H
        have H := H1
        clear H1
        exact absurd (Option.some.inj H) (by decide)
       ·
        replace c31 := Bool.eq_false_iff.mpr c31
        subst c31
        have H1 : (if t355 = true then ((impl_RookNumbers.f t347 t348 t349).bind fun bt358 => (laws_FnPolynomialsOfRooks.l0 kj20 l1 t341 t343 t346 t352 t354 bt358.1 bt358.2 0 (wrap64 ((bt358.1.length : Int) - 1)) t336 t337 t338)) else (laws_FnPolynomialsOfRooks.j3 kj20 l1 t341 t343 t346 t336 t337 t338)) = some true := by first | (rw [if_neg (show ¬ (false = true) by decide)] at H; exact H) | rfl
        clear H
        have H := H1
        clear H1
        have HC32 := Aside0.mk H
        clear H
        go_upto_if 88 with (fail)
        go_cut [] (fun wc => ∃ (kq : Nat), Aside0 (laws_FnPolynomialsOfRooks.j3 kq l1 t341 t343 t346 t336 t337 t338 = some true) ∧ Aside0 (kq ≤ kj20) ∧ Aside0 (Kd.R (Kd.int .i64) 3 wc w.heap.size (fun k_ => some k_ ≠ ((.slice Ao26 t349.length co26) : Value).ownBlock) (.slice Ao12 t338.length co12) t338) ∧ Aside0 (Kd.R (Kd.int .i64) 3 wc w.heap.size (fun k_ => some k_ ≠ ((.slice Ao12 t338.length co12) : Value).ownBlock) (.slice Ao26 t349.length co26) t349) ∧ Aside0 (wc.heap[gb342]? = some (.cells #[.int .i64 t336, .int .i64 t337, (.slice Ao12 t338.length co12)] 34 (0, 0))) ∧ Aside0 (wc.heap[gb353]? = some (.cells #[.int .i64 t347, .int .i64 t348, (.slice Ao26 t349.length co26)] 34 (0, 0))) ∧ Aside0 (Below w.heap.size w wc))
        case first => as_aux_lemma =>
         have H := HC32.out
         clear HC32
         by_cases c33 : t355 = true
         ·
          subst c33
          have H1 : ((impl_RookNumbers.f t347 t348 t349).bind fun bt358 => (laws_FnPolynomialsOfRooks.l0 kj20 l1 t341 t343 t346 t352 t354 bt358.1 bt358.2 0 (wrap64 ((bt358.1.length : Int) - 1)) t336 t337 t338)) = some true := by first | (rw [if_pos rfl] at H; exact H) | rfl
          clear H
          have H := H1
          clear H1
          replace H := Option.bind_eq_some_iff.mp H
          obtain ⟨⟨t358, t361⟩, A340, H⟩ := H
          replace H : (laws_FnPolynomialsOfRooks.l0 kj20 l1 t341 t343 t346 t352 t354 t358 t361 0 (wrap64 ((t358.length : Int) - 1)) t336 t337 t338) = some true := H
          have A34 := Aside0.mk A340
          clear A340
          have H' := Aside0.mk H
          clear H
          have bq1 := Nq2.out
          have cq1 := Nq0.out
          have zq12 : wc.cell? ⟨gb353, 0, none⟩ = some (.int .i64 t347) := sqc BK353 0
          have zq13 : wc.cell? ⟨gb353, 1, none⟩ = some (.int .i64 t348) := sqc BK353 1
          have zq14 : wc.cell? ⟨gb353, 2, none⟩ = some (.slice Ao26 t349.length co26) := sqc BK353 2
          have fq12 := blk_frozen BK353.out 0
          have fq13 := blk_frozen BK353.out 1
          have fq14 := blk_frozen BK353.out 2
          go_wp2_with (first | ((with_reducible refine gate_callee (f := 26) rfl ?_); refine goesL_ (some 91) rfl rfl Try.func26 (by kernel_rfl) rfl #[.agg #[.int .i64 t347, .int .i64 t348, .slice Ao26 t349.length co26]] rfl (by (try simp only [List.map_toArray, List.map_cons, List.map_nil]); try rfl) ?_; (with_reducible refine (impl_RookNumbers.calls t347 t348 _ _ t349 t358 t361 _ ?side1 ?side2 A34.out).mono ?_); (case side1 => repeat (first | exact (Kd.R_reads' Oq8.out).2.2 | (with_reducible first | refine Kd.C_alloc ?_ _ | refine Kd.C_drewN ?_ _ | refine Kd.C_drew ?_))); (case side2 => exact (Kd.R_reads' Oq8.out).2.1); rintro e w37 ⟨v359, rfl, ho0, hb⟩; refine ⟨_, rfl, ?_⟩; have n2_ := am (Kd.R_lower (Kd.R_new' (Kd.R_new' ho0 (sqL Oq7)) (sqL Oq8)) (below_size (by repeat with_reducible first | exact HB.out | apply pw_below_drewN | apply below_drew1 | refine below_set ?_ (Aside0.out (by assumption))))); have n5_ := am (below_step (by repeat with_reducible first | exact HB.out | apply pw_below_drewN | apply below_drew1 | refine below_set ?_ (Aside0.out (by assumption))) hb); clear HB; replace Oq7 := sqE Oq7 ho0 hb; replace Oq8 := sqE Oq8 ho0 hb; have Oq2 := n2_; replace BK342 := sqB BK342 hb; replace BK353 := sqB BK353 hb; have HB := n5_; clear n2_ n5_; (try clear hb); (try clear hb2); (try clear hk); (try clear hi); (try clear ho0); obtain ⟨Ao38, co38, eo38⟩ := Kd.R_slice Oq2.out; subst eo38))
          go_loopg [19, 20] kj20 (fun kq v19 v20 w' => ∃ (x19_3 : Int) (x20_3 : Int), v19 = .int .i64 x19_3 ∧ v20 = .int .i64 x20_3 ∧ Aside0 (laws_FnPolynomialsOfRooks.l0 kq l1 t341 t343 t346 t352 t354 t358 t361 x19_3 x20_3 t336 t337 t338 = some true) ∧ Aside0 (kq ≤ kj20) ∧ Aside0 (Kd.R (Kd.int .i64) 3 w' w.heap.size (fun k_ => some k_ ≠ ((.slice Ao12 t338.length co12) : Value).ownBlock ∧ some k_ ≠ ((.slice Ao26 t349.length co26) : Value).ownBlock) (.slice Ao38 t358.length co38) t358) ∧ Aside0 (Kd.R (Kd.int .i64) 3 w' w.heap.size (fun k_ => some k_ ≠ ((.slice Ao38 t358.length co38) : Value).ownBlock ∧ some k_ ≠ ((.slice Ao26 t349.length co26) : Value).ownBlock) (.slice Ao12 t338.length co12) t338) ∧ Aside0 (Kd.R (Kd.int .i64) 3 w' w.heap.size (fun k_ => some k_ ≠ ((.slice Ao38 t358.length co38) : Value).ownBlock ∧ some k_ ≠ ((.slice Ao12 t338.length co12) : Value).ownBlock) (.slice Ao26 t349.length co26) t349) ∧ Aside0 (w'.heap[gb342]? = some (.cells #[.int .i64 t336, .int .i64 t337, (.slice Ao12 t338.length co12)] 34 (0, 0))) ∧ Aside0 (w'.heap[gb353]? = some (.cells #[.int .i64 t347, .int .i64 t348, (.slice Ao26 t349.length co26)] 34 (0, 0))) ∧ Aside0 (Below w.heap.size w w'))
          case atStart => exact ⟨(0), (wrap64 ((t358.length : Int) - 1)), (by first | rfl | (simp; done) | (simp [*]; done)), (by first | rfl | (simp; done) | (simp [*]; done)), H', ⟨Nat.le_refl _⟩, ⟨by exact sqm Oq2 (fun _ hk => by first | exact ⟨hk.1.2, hk.2⟩ | (and_intros <;> first | trivial | simp only [hk, ne_eq, not_false_eq_true]))⟩, ⟨by exact sqm Oq7 (fun _ hk => by first | exact ⟨hk.2, hk.1⟩ | (and_intros <;> first | trivial | simp only [hk, ne_eq, not_false_eq_true]))⟩, ⟨by exact sqm Oq8 (fun _ hk => by first | exact ⟨hk.2, hk.1⟩ | (and_intros <;> first | trivial | simp only [hk, ne_eq, not_false_eq_true]))⟩, ⟨by (with_reducible repeat (first | refine blk_drewN ?_ _ | refine blk_drew ?_ | refine blk_alloc ?_ _)); exact BK342.out⟩, ⟨by (with_reducible repeat (first | refine blk_drewN ?_ _ | refine blk_drew ?_ | refine blk_alloc ?_ _)); exact BK353.out⟩, ⟨by repeat with_reducible first | exact HB.out | apply pw_below_drewN | apply below_drew1 | refine below_set ?_ (Aside0.out (by assumption))⟩⟩
          case round =>
           clear H'
           try clear c1; try clear c2; try clear p2; try clear c3; try clear c4; try clear c5; try clear p6; try clear c10; try clear c16; try clear c16b0; try clear c16b1; try clear c16b2; try clear c17; try clear c24; try clear c26; try clear c30; try clear c30b0; try clear c30b1; try clear c30b2; try clear c31; try clear c33; try clear c35; try clear zq0; try clear zq1; try clear zq2; try clear zq3; try clear zq4; try clear zq5; try clear zq6; try clear zq7; try clear zq8; try clear zq9; try clear zq10; try clear zq11; try clear zq12; try clear zq13; try clear zq14; try clear fq0; try clear fq1; try clear fq2; try clear fq3; try clear fq4; try clear fq5; try clear fq6; try clear fq7; try clear fq8; try clear fq9; try clear fq10; try clear fq11; try clear fq12; try clear fq13; try clear fq14; try clear p2
           obtain ⟨x19_3, x20_3, rfl, rfl, HA, HK3, Oq6, Oq7, Oq8, BK342, BK353, HB⟩ := hrel
           cases gk with
           | zero => exact absurd HA.out (by simp [laws_FnPolynomialsOfRooks.l0])
           | succ k3 =>
            have H := HA.out
            clear HA
            simp only [laws_FnPolynomialsOfRooks.l0] at H
            by_cases c39 : x20_3 ≥ 0
            ·
             rw [if_pos c39] at H
             have c39b0 : decide (0 ≤ x20_3) = true := decide_eq_true c39
             clear c39
             (first | rw [c39b0] | (simp only [i64_w, i32_w]; rw [c39b0]) | skip)
             by_cases c40 : 0 ≤ x20_3
             ·
              rw [if_pos c40] at H
              have c40b0 : decide (0 ≤ x20_3) = true := decide_eq_true c40
              clear c40
              by_cases c41 : x20_3 < (t358.length : Int)
              ·
               rw [if_pos c41] at H
               have c41b0 : decide (x20_3 < (t358.length : Int)) = true := decide_eq_true c41
               clear c41
               have H' := Aside0.mk H
               clear H
               have p362 : 0 ≤ (x20_3 : Int) := of_decide_eq_true (by first | (with_reducible assumption) | assumption)
               have q362 : x20_3 < (t358.length : Int) := of_decide_eq_true (by first | (with_reducible assumption) | assumption)
               obtain ⟨ad362, e362, hx362_0⟩ := Kd.at_int (Kd.R_reads' Oq6.out).2.2 x20_3 p362 q362
               cases e362
               replace p362 := eq_true p362
               replace q362 := eq_true q362
               go_wp2
               go_roundg k3
               case measure => have := HJ7.out; have := HJ20.out; have := HK3.out; omega
               case rel => exact ⟨(wrap64 ((wrap64 (x19_3 * t352)) + (rd t358 x20_3))), (wrap64 (x20_3 - 1)), (by first | rfl | (simp; done) | (simp [*]; done)), (by first | rfl | (simp; done) | (simp [*]; done)), H', ⟨by have := HJ7.out; have := HJ20.out; have := HK3.out; omega⟩, ⟨by (with_reducible repeat (first | apply Kd.R_alloc | apply Kd.R_drewN | apply Kd.R_drew)); exact Oq6.out⟩, ⟨by (with_reducible repeat (first | apply Kd.R_alloc | apply Kd.R_drewN | apply Kd.R_drew)); exact Oq7.out⟩, ⟨by (with_reducible repeat (first | apply Kd.R_alloc | apply Kd.R_drewN | apply Kd.R_drew)); exact Oq8.out⟩, ⟨by (with_reducible repeat (first | refine blk_drewN ?_ _ | refine blk_drew ?_ | refine blk_alloc ?_ _)); exact BK342.out⟩, ⟨by (with_reducible repeat (first | refine blk_drewN ?_ _ | refine blk_drew ?_ | refine blk_alloc ?_ _)); exact BK353.out⟩, ⟨by repeat with_reducible first | exact HB.out | apply pw_below_drewN | apply below_drew1 | refine below_set ?_ (Aside0.out (by assumption))⟩⟩
              ·
               rw [if_neg c41] at H
               exact absurd H (by simp)
             ·
              rw [if_neg c40] at H
              exact absurd H (by simp)
            ·
             rw [if_neg c39] at H
             have c39b0 : decide (0 ≤ x20_3) = false := decide_eq_false c39
             clear c39
             (first | rw [c39b0] | (simp only [i64_w, i32_w]; rw [c39b0]) | skip)
             by_cases c42 : t361 = true
             ·
              subst c42
              have H1 : (if x19_3 = t354 then (laws_FnPolynomialsOfRooks.j3 k3 l1 t341 t343 t346 t336 t337 t338) else (some false)) = some true := by first | (rw [if_pos rfl] at H; exact H) | rfl
              clear H
              have H := H1
              clear H1
              by_cases c43 : x19_3 = t354
              ·
               rw [if_pos c43] at H
               have c43b0 : (x19_3 == t354) = true := beq_iff_eq.mpr c43
               have c43b1 : (x19_3 != t354) = false := bne_eq_false_iff_eq.mpr c43
               clear c43
               have H' := Aside0.mk H
               clear H
               go_wp2
               go_meet
               case rel => exact ⟨_, H', ⟨by have := HJ7.out; have := HJ20.out; have := HK3.out; first | omega | exact Nat.le_refl _⟩, ⟨by exact sqm Oq7 (fun _ hk => hk.2)⟩, ⟨by exact sqm Oq8 (fun _ hk => hk.2)⟩, ⟨by (with_reducible repeat (first | refine blk_drewN ?_ _ | refine blk_drew ?_ | refine blk_alloc ?_ _)); exact BK342.out⟩, ⟨by (with_reducible repeat (first | refine blk_drewN ?_ _ | refine blk_drew ?_ | refine blk_alloc ?_ _)); exact BK353.out⟩, ⟨by repeat with_reducible first | exact HB.out | apply pw_below_drewN | apply below_drew1 | refine below_set ?_ (Aside0.out (by assumption))⟩⟩
              ·
               rw [if_neg c43] at H
               have c43b0 : (x19_3 == t354) = false := beq_eq_false_iff_ne.mpr c43
               have c43b1 : (x19_3 != t354) = true := bne_iff_ne.mpr c43
               exact absurd (Option.some.inj H) (by decide)
             ·
              replace c42 := Bool.eq_false_iff.mpr c42
              subst c42
              have H1 : (some false) = some true := by first | (rw [if_neg (show ¬ (false = true) by decide)] at H; exact H) | rfl
              clear H
              have H := H1
              clear H1
              exact absurd (Option.some.inj H) (by decide)
         ·
          replace c33 := Bool.eq_false_iff.mpr c33
          subst c33
          have H1 : (laws_FnPolynomialsOfRooks.j3 kj20 l1 t341 t343 t346 t336 t337 t338) = some true := by first | (rw [if_neg (show ¬ (false = true) by decide)] at H; exact H) | rfl
          clear H
          have H := H1
          clear H1
          have H' := Aside0.mk H
          clear H
          go_wp2
          go_meet
          case rel => exact ⟨_, H', ⟨by have := HJ7.out; have := HJ20.out; first | omega | exact Nat.le_refl _⟩, ⟨by (with_reducible repeat (first | apply Kd.R_alloc | apply Kd.R_drewN | apply Kd.R_drew)); exact Oq7.out⟩, ⟨by (with_reducible repeat (first | apply Kd.R_alloc | apply Kd.R_drewN | apply Kd.R_drew)); exact Oq8.out⟩, ⟨by (with_reducible repeat (first | refine blk_drewN ?_ _ | refine blk_drew ?_ | refine blk_alloc ?_ _)); exact BK342.out⟩, ⟨by (with_reducible repeat (first | refine blk_drewN ?_ _ | refine blk_drew ?_ | refine blk_alloc ?_ _)); exact BK353.out⟩, ⟨by repeat with_reducible first | exact HB.out | apply pw_below_drewN | apply below_drew1 | refine below_set ?_ (Aside0.out (by assumption))⟩⟩
        case rest => as_aux_lemma =>
         clear HC32
         try clear c1; try clear c2; try clear p2; try clear c3; try clear p3; try clear q3; try clear hx3; try clear c4; try clear c5; try clear p6; try clear c10; try clear c16; try clear c16b0; try clear c16b1; try clear c16b2; try clear c17; try clear c24; try clear c26; try clear c30; try clear c30b0; try clear c30b1; try clear c30b2; try clear c31; try clear c33; try clear c35; try clear p36; try clear q36; try clear hx36; try clear c39; try clear c39b0; try clear c40; try clear c40b0; try clear c41; try clear c41b0; try clear c42; try clear c43; try clear c43b0; try clear c43b1; try clear zq0; try clear zq1; try clear zq2; try clear zq3; try clear zq4; try clear zq5; try clear zq6; try clear zq7; try clear zq8; try clear zq9; try clear zq10; try clear zq11; try clear zq12; try clear zq13; try clear zq14; try clear fq0; try clear fq1; try clear fq2; try clear fq3; try clear fq4; try clear fq5; try clear fq6; try clear fq7; try clear fq8; try clear fq9; try clear fq10; try clear fq11; try clear fq12; try clear fq13; try clear fq14; try clear hx362_0; try clear p2; try clear p362; try clear p6; try clear q362
         obtain ⟨kq, HA, HJ31, Oq7, Oq8, BK342, BK353, HB⟩ := hcut
         cases kq with
         | zero => exact absurd HA.out (by simp [laws_FnPolynomialsOfRooks.j3])
         | succ kj31 =>
          have H := HA.out
          clear HA
          simp only [laws_FnPolynomialsOfRooks.j3] at H
          replace H := Option.bind_eq_some_iff.mp H
          obtain ⟨⟨t363, t364, t365⟩, A440, H⟩ := H
          replace H : ((impl_PermanentOf.f t363 t364 t365).bind fun bt369 => ((spec_PermanentOf.f kj31 t363 t364 t365).bind fun bt371 => (if (bt369.2 != bt371.2) = true then (laws_FnPolynomialsOfRooks.j4 kj31 t341 t343 t346 bt369.1 bt369.2 true t336 t337 t338 t363 t364 t365) else (laws_FnPolynomialsOfRooks.j4 kj31 t341 t343 t346 bt369.1 bt369.2 (bt369.1 != bt371.1) t336 t337 t338 t363 t364 t365)))) = some true := H
          have A44 := Aside0.mk A440
          clear A440
          replace H := Option.bind_eq_some_iff.mp H
          obtain ⟨⟨t369, t370⟩, A450, H⟩ := H
          replace H : ((spec_PermanentOf.f kj31 t363 t364 t365).bind fun bt371 => (if (t370 != bt371.2) = true then (laws_FnPolynomialsOfRooks.j4 kj31 t341 t343 t346 t369 t370 true t336 t337 t338 t363 t364 t365) else (laws_FnPolynomialsOfRooks.j4 kj31 t341 t343 t346 t369 t370 (t369 != bt371.1) t336 t337 t338 t363 t364 t365))) = some true := H
          have A45 := Aside0.mk A450
          clear A450
          replace H := Option.bind_eq_some_iff.mp H
          obtain ⟨⟨t371, t372⟩, A460, H⟩ := H
          replace H : (if (t370 != t372) = true then (laws_FnPolynomialsOfRooks.j4 kj31 t341 t343 t346 t369 t370 true t336 t337 t338 t363 t364 t365) else (laws_FnPolynomialsOfRooks.j4 kj31 t341 t343 t346 t369 t370 (t369 != t371) t336 t337 t338 t363 t364 t365)) = some true := H
          have A46 := Aside0.mk A460
          clear A460
          have HC47 := Aside0.mk H
          clear H
          go_upto_region 25 with (first | ((with_reducible refine gate_callee (f := 53) rfl ?_); refine goesL_ (some 117) rfl rfl Try.func53 (by kernel_rfl) rfl #[.slice A1 l1.length c1] rfl (by (try simp only [List.map_toArray, List.map_cons, List.map_nil]); try rfl) ?_; (with_reducible refine (spec_DrawPermanentOf.calls kj31 _ _ l1 t363 t364 t365 _ ?side1 ?side2 A44.out).mono ?_); (case side1 => repeat (first | exact (Kd.C_below HR1.out HB.out) | (with_reducible first | refine Kd.C_alloc ?_ _ | refine Kd.C_drewN ?_ _ | refine Kd.C_drew ?_))); (case side2 => exact HC1.out); rintro e w48 ⟨v366, rfl, ho0, hb⟩; refine ⟨_, rfl, ?_⟩; have n2_ := am (Kd.R_lower (Kd.R_new' (Kd.R_new' ho0 (sqL Oq7)) (sqL Oq8)) (below_size (by repeat with_reducible first | exact HB.out | apply pw_below_drewN | apply below_drew1 | refine below_set ?_ (Aside0.out (by assumption))))); have n5_ := am (below_step (by repeat with_reducible first | exact HB.out | apply pw_below_drewN | apply below_drew1 | refine below_set ?_ (Aside0.out (by assumption))) hb); clear HB; replace Oq7 := sqE Oq7 ho0 hb; replace Oq8 := sqE Oq8 ho0 hb; have Oq3 := n2_; replace BK342 := sqB BK342 hb; replace BK353 := sqB BK353 hb; have HB := n5_; clear n2_ n5_; (try clear hb); (try clear hb2); (try clear hk); (try clear hi); (try clear ho0)) | ((with_reducible refine gate_dst (N := 21) rfl ?_); refine box_event ?hg (N := 21) ?hd (cs := #[.int .i64 0, .int .i64 0, .slice none 0 0]) (t := 34) ?hr ?_; (case hd => rfl); (case hg => rfl); (case hr => first | (go_simp; done) | (go_simp; rfl)); intro gb368 hg w49 hbox hb; have n5_ := am (below_step (by repeat with_reducible first | exact HB.out | apply pw_below_drewN | apply below_drew1 | refine below_set ?_ (Aside0.out (by assumption))) hb); have n6_ := am (hbox); have n7_ := am ((by rw [hg]; exact (below_size (by repeat with_reducible first | exact HB.out | apply pw_below_drewN | apply below_drew1 | refine below_set ?_ (Aside0.out (by assumption)))) : w.heap.size ≤ gb368)); have n8_ := am ((by rw [hg]; exact (below_size (by repeat with_reducible first | exact HB.out | apply pw_below_drewN | apply below_drew1 | refine below_set ?_ (Aside0.out (by assumption)))) : w.heap.size ≤ gb368)); have n9_ := am ((by rw [hg]; exact Nat.ne_of_lt (sqT BK342) : gb342 ≠ gb368)); have n10_ := am ((by rw [hg]; exact Nat.ne_of_gt (sqT BK342) : gb368 ≠ gb342)); have n11_ := am ((by rw [hg]; exact Nat.ne_of_lt (sqT BK353) : gb353 ≠ gb368)); have n12_ := am ((by rw [hg]; exact Nat.ne_of_gt (sqT BK353) : gb368 ≠ gb353)); clear HB; replace Oq7 := sqR Oq7 hb; replace Oq8 := sqR Oq8 hb; replace Oq3 := sqR Oq3 hb; replace BK342 := sqB BK342 hb; replace BK353 := sqB BK353 hb; have HB := n5_; have BK368 := n6_; have GW368 := n7_; have GE368 := n8_; have Nq1 := n9_; have Nq4 := n10_; have Nq3 := n11_; have Nq5 := n12_; clear n5_ n6_ n7_ n8_ n9_ n10_ n11_ n12_; clear hb hbox hg; have bq2 := Nq4.out; have cq2 := Nq1.out; have bq3 := Nq5.out; have cq3 := Nq3.out; have zq15 : w49.cell? ⟨gb368, 0, none⟩ = some (.int .i64 0) := sqc BK368 0; have zq16 : w49.cell? ⟨gb368, 1, none⟩ = some (.int .i64 0) := sqc BK368 1; have zq17 : w49.cell? ⟨gb368, 2, none⟩ = some (.slice none 0 0) := sqc BK368 2; have fq15 := blk_frozen BK368.out 0; have fq16 := blk_frozen BK368.out 1; have fq17 := blk_frozen BK368.out 2; obtain ⟨Ao53, co53, eo53⟩ := Kd.R_slice Oq3.out; subst eo53) | ((with_reducible refine gate_callee (f := 27) rfl ?_); refine goesL_ (some 120) rfl rfl Try.func27 (by kernel_rfl) rfl #[.agg #[.int .i64 t363, .int .i64 t364, .slice Ao53 t365.length co53]] rfl (by (try simp only [List.map_toArray, List.map_cons, List.map_nil]); try rfl) ?_; (with_reducible refine (impl_PermanentOf.calls t363 t364 _ _ t365 t369 t370 _ ?side1 ?side2 A45.out).mono ?_); (case side1 => refine (Kd.R_reads' (e := 3) (base := w.heap.size) (ok := fun k_ => ((True ∧ some k_ ≠ (.slice Ao12 t338.length co12 : Value).ownBlock) ∧ some k_ ≠ (.slice Ao26 t349.length co26 : Value).ownBlock)) (n := t365.length) (c := co53) ?_).2.2; exact (by (with_reducible repeat (first | apply Kd.R_alloc | apply Kd.R_drewN | apply Kd.R_drew)); exact (Kd.R_mono (Kd.R_far (p := ⟨gb368, 2, none⟩) (Kd.R_far (p := ⟨gb368, 1, none⟩) (Kd.R_far (p := ⟨gb368, 0, none⟩) (Kd.R_types Oq3.out BK368.out (by decide)) (fun _ hk => hk.2) (.int .i64 t363)) (fun _ hk => hk.2) (.int .i64 t364)) (fun _ hk => hk.2) (.slice Ao53 t365.length co53)) (fun _ h_ => by first | exact h_.1 | (have hx_ := h_.1; and_intros <;> first | trivial | simp only [hx_, ne_eq, not_false_eq_true]))))); (case side2 => exact (Kd.R_reads' Oq3.out).2.1); rintro e w54 ⟨rfl, hb⟩; refine ⟨_, rfl, ?_⟩; have n0_ := am (Kd.R_below (by (with_reducible repeat (first | apply Kd.R_alloc | apply Kd.R_drewN | apply Kd.R_drew)); exact (Kd.R_mono (Kd.R_far (p := ⟨gb368, 2, none⟩) (Kd.R_far (p := ⟨gb368, 1, none⟩) (Kd.R_far (p := ⟨gb368, 0, none⟩) (Kd.R_types Oq7.out BK368.out (by decide)) (fun _ hk => hk.2) (.int .i64 t363)) (fun _ hk => hk.2) (.int .i64 t364)) (fun _ hk => hk.2) (.slice Ao53 t365.length co53)) (fun _ h_ => h_.1))) hb); have n1_ := am (Kd.R_below (by (with_reducible repeat (first | apply Kd.R_alloc | apply Kd.R_drewN | apply Kd.R_drew)); exact (Kd.R_mono (Kd.R_far (p := ⟨gb368, 2, none⟩) (Kd.R_far (p := ⟨gb368, 1, none⟩) (Kd.R_far (p := ⟨gb368, 0, none⟩) (Kd.R_types Oq8.out BK368.out (by decide)) (fun _ hk => hk.2) (.int .i64 t363)) (fun _ hk => hk.2) (.int .i64 t364)) (fun _ hk => hk.2) (.slice Ao53 t365.length co53)) (fun _ h_ => h_.1))) hb); have n2_ := am (Kd.R_below (by (with_reducible repeat (first | apply Kd.R_alloc | apply Kd.R_drewN | apply Kd.R_drew)); exact (Kd.R_mono (Kd.R_far (p := ⟨gb368, 2, none⟩) (Kd.R_far (p := ⟨gb368, 1, none⟩) (Kd.R_far (p := ⟨gb368, 0, none⟩) (Kd.R_types Oq3.out BK368.out (by decide)) (fun _ hk => hk.2) (.int .i64 t363)) (fun _ hk => hk.2) (.int .i64 t364)) (fun _ hk => hk.2) (.slice Ao53 t365.length co53)) (fun _ h_ => h_.1))) hb); have n3_ := am (blk_below (g := gb342) (o := .cells #[.int .i64 t336, .int .i64 t337, .slice Ao12 t338.length co12] 34 (0, 0)) (by (with_reducible repeat (first | refine blk_drewN ?_ _ | refine blk_drew ?_ | refine blk_alloc ?_ _)); refine blk_far ?_ Nq1.out _; (with_reducible repeat (first | refine blk_drewN ?_ _ | refine blk_drew ?_ | refine blk_alloc ?_ _)); refine blk_far ?_ Nq1.out _; (with_reducible repeat (first | refine blk_drewN ?_ _ | refine blk_drew ?_ | refine blk_alloc ?_ _)); refine blk_far ?_ Nq1.out _; (with_reducible repeat (first | refine blk_drewN ?_ _ | refine blk_drew ?_ | refine blk_alloc ?_ _)); exact BK342.out) hb); have n4_ := am (blk_below (g := gb353) (o := .cells #[.int .i64 t347, .int .i64 t348, .slice Ao26 t349.length co26] 34 (0, 0)) (by (with_reducible repeat (first | refine blk_drewN ?_ _ | refine blk_drew ?_ | refine blk_alloc ?_ _)); refine blk_far ?_ Nq3.out _; (with_reducible repeat (first | refine blk_drewN ?_ _ | refine blk_drew ?_ | refine blk_alloc ?_ _)); refine blk_far ?_ Nq3.out _; (with_reducible repeat (first | refine blk_drewN ?_ _ | refine blk_drew ?_ | refine blk_alloc ?_ _)); refine blk_far ?_ Nq3.out _; (with_reducible repeat (first | refine blk_drewN ?_ _ | refine blk_drew ?_ | refine blk_alloc ?_ _)); exact BK353.out) hb); have n5_ := am (blk_below (g := gb368) (o := .cells #[.int .i64 t363, .int .i64 t364, .slice Ao53 t365.length co53] 34 (0, 0)) (by (with_reducible repeat (first | refine blk_drewN ?_ _ | refine blk_drew ?_ | refine blk_alloc ?_ _)); refine blk_put (cs := #[.int .i64 t363, .int .i64 t364, .slice none 0 0]) ?_ 2 _ rfl; (with_reducible repeat (first | refine blk_drewN ?_ _ | refine blk_drew ?_ | refine blk_alloc ?_ _)); refine blk_put (cs := #[.int .i64 t363, .int .i64 0, .slice none 0 0]) ?_ 1 _ rfl; (with_reducible repeat (first | refine blk_drewN ?_ _ | refine blk_drew ?_ | refine blk_alloc ?_ _)); refine blk_put (cs := #[.int .i64 0, .int .i64 0, .slice none 0 0]) ?_ 0 _ rfl; (with_reducible repeat (first | refine blk_drewN ?_ _ | refine blk_drew ?_ | refine blk_alloc ?_ _)); exact BK368.out) hb); have n6_ := am (below_step (by repeat with_reducible first | exact HB.out | apply pw_below_drewN | apply below_drew1 | refine below_set ?_ (Aside0.out (by assumption))) hb); clear Oq7; clear Oq8; clear Oq3; clear BK342; clear BK353; clear BK368; clear HB; have Oq7 := n0_; have Oq8 := n1_; have Oq3 := n2_; have BK342 := n3_; have BK353 := n4_; have BK368 := n5_; have HB := n6_; clear n0_ n1_ n2_ n3_ n4_ n5_ n6_; (try clear hb); (try clear hb2); (try clear hk); (try clear hi); have zq18 : w54.cell? ⟨gb368, 0, none⟩ = some (.int .i64 t363) := sqc BK368 0; have zq19 : w54.cell? ⟨gb368, 1, none⟩ = some (.int .i64 t364) := sqc BK368 1; have zq20 : w54.cell? ⟨gb368, 2, none⟩ = some (.slice Ao53 t365.length co53) := sqc BK368 2; have fq18 := blk_frozen BK368.out 0; have fq19 := blk_frozen BK368.out 1; have fq20 := blk_frozen BK368.out 2) | ((with_reducible refine gate_callee (f := 54) rfl ?_); refine goesL_ (some 125) rfl rfl Try.func54 (by kernel_rfl) rfl #[.agg #[.int .i64 t363, .int .i64 t364, .slice Ao53 t365.length co53]] rfl (by (try simp only [List.map_toArray, List.map_cons, List.map_nil]); try rfl) ?_; (with_reducible refine (spec_PermanentOf.calls kj31 t363 t364 _ _ t365 t371 t372 _ ?side1 ?side2 A46.out).mono ?_); (case side1 => repeat (first | exact (Kd.R_reads' Oq3.out).2.2 | (with_reducible first | refine Kd.C_alloc ?_ _ | refine Kd.C_drewN ?_ _ | refine Kd.C_drew ?_))); (case side2 => exact (Kd.R_reads' Oq3.out).2.1); rintro e w56 ⟨rfl, hb⟩; refine ⟨_, rfl, ?_⟩; have n6_ := am (below_step (by repeat with_reducible first | exact HB.out | apply pw_below_drewN | apply below_drew1 | refine below_set ?_ (Aside0.out (by assumption))) hb); clear HB; replace Oq7 := sqR Oq7 hb; replace Oq8 := sqR Oq8 hb; replace Oq3 := sqR Oq3 hb; replace BK342 := sqB BK342 hb; replace BK353 := sqB BK353 hb; replace BK368 := sqB BK368 hb; have HB := n6_; clear n6_; (try clear hb); (try clear hb2); (try clear hk); (try clear hi)))
          (try simp only [Act.put, List.setIfInBounds_toArray, List.set_cons_zero, List.set_cons_succ])
          go_cut [135] (fun v135 wc => ∃ (kq : Nat) (x135_46 : Bool), v135 = .bool x135_46 ∧ Aside0 (laws_FnPolynomialsOfRooks.j4 kq t341 t343 t346 t369 t370 x135_46 t336 t337 t338 t363 t364 t365 = some true) ∧ Aside0 (kq ≤ kj31) ∧ Aside0 (Kd.R (Kd.int .i64) 3 wc w.heap.size (fun k_ => some k_ ≠ ((.slice Ao26 t349.length co26) : Value).ownBlock ∧ some k_ ≠ ((.slice Ao53 t365.length co53) : Value).ownBlock) (.slice Ao12 t338.length co12) t338) ∧ Aside0 (Kd.R (Kd.int .i64) 3 wc w.heap.size (fun k_ => some k_ ≠ ((.slice Ao12 t338.length co12) : Value).ownBlock ∧ some k_ ≠ ((.slice Ao53 t365.length co53) : Value).ownBlock) (.slice Ao26 t349.length co26) t349) ∧ Aside0 (Kd.R (Kd.int .i64) 3 wc w.heap.size (fun k_ => some k_ ≠ ((.slice Ao12 t338.length co12) : Value).ownBlock ∧ some k_ ≠ ((.slice Ao26 t349.length co26) : Value).ownBlock) (.slice Ao53 t365.length co53) t365) ∧ Aside0 (wc.heap[gb342]? = some (.cells #[.int .i64 t336, .int .i64 t337, (.slice Ao12 t338.length co12)] 34 (0, 0))) ∧ Aside0 (wc.heap[gb353]? = some (.cells #[.int .i64 t347, .int .i64 t348, (.slice Ao26 t349.length co26)] 34 (0, 0))) ∧ Aside0 (wc.heap[gb368]? = some (.cells #[.int .i64 t363, .int .i64 t364, (.slice Ao53 t365.length co53)] 34 (0, 0))) ∧ Aside0 (Below w.heap.size w wc))
          case first => as_aux_lemma =>
           have H := HC47.out
           clear HC47
           by_cases c57 : (t370 != t372) = true
           ·
            rw [if_pos c57] at H
            have c57b0 : (t370 != t372) = true := c57
            (try (have c57b1 : decide (t370 = t372) = false := by simpa using c57))
            (try (have c57b2 : (t370 == t372) = false := by simpa using c57))
            (try (have c57b3 : ¬ (t370 = t372) := by simpa using c57))
            clear c57
            (first | rw [c57b0] | (simp only [i64_w, i32_w]; rw [c57b0]) | rw [c57b1] | skip)
            exact absurd H (laws_FnPolynomialsOfRooks.j4_no _ _ _ _ _ _ _ _ _ _ _ _)
           ·
            rw [if_neg c57] at H
            have c57b0 : (t370 != t372) = false := by simpa using c57
            (try (have c57b1 : decide (t370 = t372) = true := by simpa using c57))
            (try (have c57b2 : (t370 == t372) = true := by simpa using c57))
            clear c57
            (first | rw [c57b0] | (simp only [i64_w, i32_w]; rw [c57b0]) | rw [c57b1] | skip)
            have H' := Aside0.mk H
            clear H
            go_wp2
            go_meet
            case rel => exact ⟨_, ((t369 != t371)), (by first | rfl | (simp; done) | (simp [*]; done)), H', ⟨by have := HJ7.out; have := HJ20.out; have := HJ31.out; first | omega | exact Nat.le_refl _⟩, ⟨by (with_reducible repeat (first | apply Kd.R_alloc | apply Kd.R_drewN | apply Kd.R_drew)); exact Oq7.out⟩, ⟨by (with_reducible repeat (first | apply Kd.R_alloc | apply Kd.R_drewN | apply Kd.R_drew)); exact Oq8.out⟩, ⟨by exact sqm Oq3 (fun _ hk => by first | exact ⟨hk.1.2, hk.2⟩ | (and_intros <;> first | trivial | simp only [hk, ne_eq, not_false_eq_true]))⟩, ⟨by (with_reducible repeat (first | refine blk_drewN ?_ _ | refine blk_drew ?_ | refine blk_alloc ?_ _)); exact BK342.out⟩, ⟨by (with_reducible repeat (first | refine blk_drewN ?_ _ | refine blk_drew ?_ | refine blk_alloc ?_ _)); exact BK353.out⟩, ⟨by (with_reducible repeat (first | refine blk_drewN ?_ _ | refine blk_drew ?_ | refine blk_alloc ?_ _)); exact BK368.out⟩, ⟨by repeat with_reducible first | exact HB.out | apply pw_below_drewN | apply below_drew1 | refine below_set ?_ (Aside0.out (by assumption))⟩⟩
          case rest => as_aux_lemma =>
           clear HC47
           try clear c1; try clear c2; try clear p2; try clear c3; try clear p3; try clear q3; try clear hx3; try clear c4; try clear c5; try clear p6; try clear c10; try clear c16; try clear c16b0; try clear c16b1; try clear c16b2; try clear c17; try clear c24; try clear c26; try clear c27; try clear c30; try clear c30b0; try clear c30b1; try clear c30b2; try clear c31; try clear c33; try clear c35; try clear p36; try clear q36; try clear hx36; try clear c39; try clear c39b0; try clear c40; try clear c40b0; try clear c41; try clear c41b0; try clear c42; try clear c43; try clear c43b0; try clear c43b1; try clear c48; try clear c49; try clear c50; try clear c51; try clear c52; try clear c53; try clear c54; try clear c57; try clear c57b0; try clear c57b1; try clear c57b2; try clear zq0; try clear zq1; try clear zq2; try clear zq3; try clear zq4; try clear zq5; try clear zq6; try clear zq7; try clear zq8; try clear zq9; try clear zq10; try clear zq11; try clear zq12; try clear zq13; try clear zq14; try clear zq15; try clear zq16; try clear zq17; try clear zq18; try clear zq19; try clear zq20; try clear fq0; try clear fq1; try clear fq2; try clear fq3; try clear fq4; try clear fq5; try clear fq6; try clear fq7; try clear fq8; try clear fq9; try clear fq10; try clear fq11; try clear fq12; try clear fq13; try clear fq14; try clear fq15; try clear fq16; try clear fq17; try clear fq18; try clear fq19; try clear fq20; try clear hx362_0; try clear p2; try clear p3; try clear p36; try clear p362; try clear p6; try clear q3; try clear q36; try clear q362
           obtain ⟨kq, x135_46, rfl, HA, HJ46, Oq7, Oq8, Oq9, BK342, BK353, BK368, HB⟩ := hcut
           cases kq with
           | zero => exact absurd HA.out (by simp [laws_FnPolynomialsOfRooks.j4])
           | succ kj46 =>
            have H := HA.out
            clear HA
            simp only [laws_FnPolynomialsOfRooks.j4] at H
            by_cases c58 : x135_46 = true
            ·
             subst c58
             have H1 : (some false) = some true := by first | (rw [if_pos rfl] at H; exact H) | rfl
             clear H
             have H := H1
             clear H1
             exact absurd (Option.some.inj H) (by decide)
            ·
             replace c58 := Bool.eq_false_iff.mpr c58
             subst c58
             have H1 : (if t370 = true then ((impl_FactorialAt.f kj46 t363 t364 t365 0).bind fun bt373 => (if bt373.2 = true then (if bt373.1 = t369 then (laws_FnPolynomialsOfRooks.j5 kj46 t341 t343 t346 t336 t337 t338) else (some false)) else (some false))) else (laws_FnPolynomialsOfRooks.j5 kj46 t341 t343 t346 t336 t337 t338)) = some true := by first | (rw [if_neg (show ¬ (false = true) by decide)] at H; exact H) | rfl
             clear H
             have H := H1
             clear H1
             have HC59 := Aside0.mk H
             clear H
             go_upto_if 136 with (fail)
             go_cut [] (fun wc => ∃ (kq : Nat), Aside0 (laws_FnPolynomialsOfRooks.j5 kq t341 t343 t346 t336 t337 t338 = some true) ∧ Aside0 (kq ≤ kj46) ∧ Aside0 (Kd.R (Kd.int .i64) 3 wc w.heap.size (fun k_ => some k_ ≠ ((.slice Ao26 t349.length co26) : Value).ownBlock ∧ some k_ ≠ ((.slice Ao53 t365.length co53) : Value).ownBlock) (.slice Ao12 t338.length co12) t338) ∧ Aside0 (Kd.R (Kd.int .i64) 3 wc w.heap.size (fun k_ => some k_ ≠ ((.slice Ao12 t338.length co12) : Value).ownBlock ∧ some k_ ≠ ((.slice Ao53 t365.length co53) : Value).ownBlock) (.slice Ao26 t349.length co26) t349) ∧ Aside0 (Kd.R (Kd.int .i64) 3 wc w.heap.size (fun k_ => some k_ ≠ ((.slice Ao12 t338.length co12) : Value).ownBlock ∧ some k_ ≠ ((.slice Ao26 t349.length co26) : Value).ownBlock) (.slice Ao53 t365.length co53) t365) ∧ Aside0 (wc.heap[gb342]? = some (.cells #[.int .i64 t336, .int .i64 t337, (.slice Ao12 t338.length co12)] 34 (0, 0))) ∧ Aside0 (wc.heap[gb353]? = some (.cells #[.int .i64 t347, .int .i64 t348, (.slice Ao26 t349.length co26)] 34 (0, 0))) ∧ Aside0 (wc.heap[gb368]? = some (.cells #[.int .i64 t363, .int .i64 t364, (.slice Ao53 t365.length co53)] 34 (0, 0))) ∧ Aside0 (Below w.heap.size w wc))
             case first => as_aux_lemma =>
              have H := HC59.out
              clear HC59
              by_cases c60 : t370 = true
              ·
               subst c60
               have H1 : ((impl_FactorialAt.f kj46 t363 t364 t365 0).bind fun bt373 => (if bt373.2 = true then (if bt373.1 = t369 then (laws_FnPolynomialsOfRooks.j5 kj46 t341 t343 t346 t336 t337 t338) else (some false)) else (some false))) = some true := by first | (rw [if_pos rfl] at H; exact H) | rfl
               clear H
               have H := H1
               clear H1
               replace H := Option.bind_eq_some_iff.mp H
               obtain ⟨⟨t373, t374⟩, A610, H⟩ := H
               replace H : (if t374 = true then (if t373 = t369 then (laws_FnPolynomialsOfRooks.j5 kj46 t341 t343 t346 t336 t337 t338) else (some false)) else (some false)) = some true := H
               have A61 := Aside0.mk A610
               clear A610
               by_cases c62 : t374 = true
               ·
                subst c62
                have H1 : (if t373 = t369 then (laws_FnPolynomialsOfRooks.j5 kj46 t341 t343 t346 t336 t337 t338) else (some false)) = some true := by first | (rw [if_pos rfl] at H; exact H) | rfl
                clear H
                have H := H1
                clear H1
                by_cases c63 : t373 = t369
                ·
                 rw [if_pos c63] at H
                 have c63b0 : (t373 == t369) = true := beq_iff_eq.mpr c63
                 have c63b1 : (t373 != t369) = false := bne_eq_false_iff_eq.mpr c63
                 clear c63
                 (first | rw [c63b0] | (simp only [i64_w, i32_w]; rw [c63b0]) | skip)
                 have H' := Aside0.mk H
                 clear H
                 have bq4 := Nq4.out
                 have cq4 := Nq1.out
                 have bq5 := Nq5.out
                 have cq5 := Nq3.out
                 have zq21 : wc.cell? ⟨gb368, 0, none⟩ = some (.int .i64 t363) := sqc BK368 0
                 have zq22 : wc.cell? ⟨gb368, 1, none⟩ = some (.int .i64 t364) := sqc BK368 1
                 have zq23 : wc.cell? ⟨gb368, 2, none⟩ = some (.slice Ao53 t365.length co53) := sqc BK368 2
                 have fq21 := blk_frozen BK368.out 0
                 have fq22 := blk_frozen BK368.out 1
                 have fq23 := blk_frozen BK368.out 2
                 go_wp2_with (first | ((with_reducible refine gate_callee (f := 31) rfl ?_); refine goesL_ (some 139) rfl rfl Try.func31 (by kernel_rfl) rfl #[.agg #[.int .i64 t363, .int .i64 t364, .slice Ao53 t365.length co53], .int .i64 0] rfl (by (try simp only [List.map_toArray, List.map_cons, List.map_nil]); try rfl) ?_; (with_reducible refine (impl_FactorialAt.calls kj46 t363 t364 _ _ t365 0 t373 true _ ?side1 ?side2 A61.out).mono ?_); (case side1 => repeat (first | exact (Kd.R_reads' Oq9.out).2.2 | (with_reducible first | refine Kd.C_alloc ?_ _ | refine Kd.C_drewN ?_ _ | refine Kd.C_drew ?_))); (case side2 => exact (Kd.R_reads' Oq9.out).2.1); rintro e w67 ⟨rfl, hb⟩; refine ⟨_, rfl, ?_⟩; have n6_ := am (below_step (by repeat with_reducible first | exact HB.out | apply pw_below_drewN | apply below_drew1 | refine below_set ?_ (Aside0.out (by assumption))) hb); clear HB; replace Oq7 := sqR Oq7 hb; replace Oq8 := sqR Oq8 hb; replace Oq9 := sqR Oq9 hb; replace BK342 := sqB BK342 hb; replace BK353 := sqB BK353 hb; replace BK368 := sqB BK368 hb; have HB := n6_; clear n6_; (try clear hb); (try clear hb2); (try clear hk); (try clear hi)))
                 go_meet
                 case rel => exact ⟨_, H', ⟨by have := HJ7.out; have := HJ20.out; have := HJ31.out; have := HJ46.out; first | omega | exact Nat.le_refl _⟩, ⟨by (with_reducible repeat (first | apply Kd.R_alloc | apply Kd.R_drewN | apply Kd.R_drew)); exact Oq7.out⟩, ⟨by (with_reducible repeat (first | apply Kd.R_alloc | apply Kd.R_drewN | apply Kd.R_drew)); exact Oq8.out⟩, ⟨by (with_reducible repeat (first | apply Kd.R_alloc | apply Kd.R_drewN | apply Kd.R_drew)); exact Oq9.out⟩, ⟨by (with_reducible repeat (first | refine blk_drewN ?_ _ | refine blk_drew ?_ | refine blk_alloc ?_ _)); exact BK342.out⟩, ⟨by (with_reducible repeat (first | refine blk_drewN ?_ _ | refine blk_drew ?_ | refine blk_alloc ?_ _)); exact BK353.out⟩, ⟨by (with_reducible repeat (first | refine blk_drewN ?_ _ | refine blk_drew ?_ | refine blk_alloc ?_ _)); exact BK368.out⟩, ⟨by repeat with_reducible first | exact HB.out | apply pw_below_drewN | apply below_drew1 | refine below_set ?_ (Aside0.out (by assumption))⟩⟩
                ·
                 rw [if_neg c63] at H
                 have c63b0 : (t373 == t369) = false := beq_eq_false_iff_ne.mpr c63
                 have c63b1 : (t373 != t369) = true := bne_iff_ne.mpr c63
                 (first | rw [c63b0] | (simp only [i64_w, i32_w]; rw [c63b0]) | skip)
                 exact absurd (Option.some.inj H) (by decide)
               ·
                replace c62 := Bool.eq_false_iff.mpr c62
                subst c62
                have H1 : (some false) = some true := by first | (rw [if_neg (show ¬ (false = true) by decide)] at H; exact H) | rfl
                clear H
                have H := H1
                clear H1
                exact absurd (Option.some.inj H) (by decide)
              ·
               replace c60 := Bool.eq_false_iff.mpr c60
               subst c60
               have H1 : (laws_FnPolynomialsOfRooks.j5 kj46 t341 t343 t346 t336 t337 t338) = some true := by first | (rw [if_neg (show ¬ (false = true) by decide)] at H; exact H) | rfl
               clear H
               have H := H1
               clear H1
               have H' := Aside0.mk H
               clear H
               go_wp2
               go_meet
               case rel => exact ⟨_, H', ⟨by have := HJ7.out; have := HJ20.out; have := HJ31.out; have := HJ46.out; first | omega | exact Nat.le_refl _⟩, ⟨by (with_reducible repeat (first | apply Kd.R_alloc | apply Kd.R_drewN | apply Kd.R_drew)); exact Oq7.out⟩, ⟨by (with_reducible repeat (first | apply Kd.R_alloc | apply Kd.R_drewN | apply Kd.R_drew)); exact Oq8.out⟩, ⟨by (with_reducible repeat (first | apply Kd.R_alloc | apply Kd.R_drewN | apply Kd.R_drew)); exact Oq9.out⟩, ⟨by (with_reducible repeat (first | refine blk_drewN ?_ _ | refine blk_drew ?_ | refine blk_alloc ?_ _)); exact BK342.out⟩, ⟨by (with_reducible repeat (first | refine blk_drewN ?_ _ | refine blk_drew ?_ | refine blk_alloc ?_ _)); exact BK353.out⟩, ⟨by (with_reducible repeat (first | refine blk_drewN ?_ _ | refine blk_drew ?_ | refine blk_alloc ?_ _)); exact BK368.out⟩, ⟨by repeat with_reducible first | exact HB.out | apply pw_below_drewN | apply below_drew1 | refine below_set ?_ (Aside0.out (by assumption))⟩⟩
             case rest => as_aux_lemma =>
              clear HC59
              try clear c1; try clear c2; try clear p2; try clear c3; try clear p3; try clear q3; try clear hx3; try clear c4; try clear c5; try clear c6; try clear p6; try clear c10; try clear c16; try clear c16b0; try clear c16b1; try clear c16b2; try clear c17; try clear c24; try clear c26; try clear c27; try clear c30; try clear c30b0; try clear c30b1; try clear c30b2; try clear c31; try clear c33; try clear c35; try clear p36; try clear q36; try clear hx36; try clear c39; try clear c39b0; try clear c40; try clear c40b0; try clear c41; try clear c41b0; try clear c42; try clear c43; try clear c43b0; try clear c43b1; try clear c48; try clear c49; try clear c50; try clear c51; try clear c52; try clear c53; try clear c54; try clear c57; try clear c57b0; try clear c57b1; try clear c57b2; try clear c58; try clear c60; try clear c62; try clear c63; try clear c63b0; try clear c63b1; try clear c64; try clear p64; try clear c65; try clear zq0; try clear zq1; try clear zq2; try clear zq3; try clear zq4; try clear zq5; try clear zq6; try clear zq7; try clear zq8; try clear zq9; try clear zq10; try clear zq11; try clear zq12; try clear zq13; try clear zq14; try clear zq15; try clear zq16; try clear zq17; try clear zq18; try clear zq19; try clear zq20; try clear zq21; try clear zq22; try clear zq23; try clear fq0; try clear fq1; try clear fq2; try clear fq3; try clear fq4; try clear fq5; try clear fq6; try clear fq7; try clear fq8; try clear fq9; try clear fq10; try clear fq11; try clear fq12; try clear fq13; try clear fq14; try clear fq15; try clear fq16; try clear fq17; try clear fq18; try clear fq19; try clear fq20; try clear fq21; try clear fq22; try clear fq23; try clear hx362_0; try clear p2; try clear p3; try clear p36; try clear p362; try clear p6; try clear q3; try clear q36; try clear q362
              obtain ⟨kq, HA, HJ58, Oq7, Oq8, Oq9, BK342, BK353, BK368, HB⟩ := hcut
              cases kq with
              | zero => exact absurd HA.out (by simp [laws_FnPolynomialsOfRooks.j5])
              | succ kj58 =>
               have H := HA.out
               clear HA
               simp only [laws_FnPolynomialsOfRooks.j5] at H
               by_cases c68 : t346 = true
               ·
                subst c68
                have H1 : ((impl_RookNumbers.f t336 t337 t338).bind fun bt375 => (laws_FnPolynomialsOfRooks.l1 kj58 t341 t343 bt375.2 0 bt375.1 (bt375.1.length : Int) 0 t336 t337 t338)) = some true := by first | (rw [if_pos rfl] at H; exact H) | rfl
                clear H
                have H := H1
                clear H1
                replace H := Option.bind_eq_some_iff.mp H
                obtain ⟨⟨t375, t378⟩, A690, H⟩ := H
                replace H : (laws_FnPolynomialsOfRooks.l1 kj58 t341 t343 t378 0 t375 (t375.length : Int) 0 t336 t337 t338) = some true := H
                have A69 := Aside0.mk A690
                clear A690
                have H' := Aside0.mk H
                clear H
                have bq6 := Nq0.out
                have cq6 := Nq2.out
                have bq7 := Nq1.out
                have cq7 := Nq4.out
                have zq24 : wc.cell? ⟨gb342, 0, none⟩ = some (.int .i64 t336) := sqc BK342 0
                have zq25 : wc.cell? ⟨gb342, 1, none⟩ = some (.int .i64 t337) := sqc BK342 1
                have zq26 : wc.cell? ⟨gb342, 2, none⟩ = some (.slice Ao12 t338.length co12) := sqc BK342 2
                have fq24 := blk_frozen BK342.out 0
                have fq25 := blk_frozen BK342.out 1
                have fq26 := blk_frozen BK342.out 2
                go_wp2_with (first | ((with_reducible refine gate_callee (f := 26) rfl ?_); refine goesL_ (some 153) rfl rfl Try.func26 (by kernel_rfl) rfl #[.agg #[.int .i64 t336, .int .i64 t337, .slice Ao12 t338.length co12]] rfl (by (try simp only [List.map_toArray, List.map_cons, List.map_nil]); try rfl) ?_; (with_reducible refine (impl_RookNumbers.calls t336 t337 _ _ t338 t375 t378 _ ?side1 ?side2 A69.out).mono ?_); (case side1 => repeat (first | exact (Kd.R_reads' Oq7.out).2.2 | (with_reducible first | refine Kd.C_alloc ?_ _ | refine Kd.C_drewN ?_ _ | refine Kd.C_drew ?_))); (case side2 => exact (Kd.R_reads' Oq7.out).2.1); rintro e w73 ⟨v376, rfl, ho0, hb⟩; refine ⟨_, rfl, ?_⟩; have n3_ := am (Kd.R_lower (Kd.R_new' (Kd.R_new' (Kd.R_new' ho0 (sqL Oq7)) (sqL Oq8)) (sqL Oq9)) (below_size (by repeat with_reducible first | exact HB.out | apply pw_below_drewN | apply below_drew1 | refine below_set ?_ (Aside0.out (by assumption))))); have n7_ := am (below_step (by repeat with_reducible first | exact HB.out | apply pw_below_drewN | apply below_drew1 | refine below_set ?_ (Aside0.out (by assumption))) hb); clear HB; replace Oq7 := sqE Oq7 ho0 hb; replace Oq8 := sqE Oq8 ho0 hb; replace Oq9 := sqE Oq9 ho0 hb; have Oq4 := n3_; replace BK342 := sqB BK342 hb; replace BK353 := sqB BK353 hb; replace BK368 := sqB BK368 hb; have HB := n7_; clear n3_ n7_; (try clear hb); (try clear hb2); (try clear hk); (try clear hi); (try clear ho0); obtain ⟨Ao74, co74, eo74⟩ := Kd.R_slice Oq4.out; subst eo74))
                go_loopg [30, 158] kj58 (fun kq v30 v158 w' => ∃ (x30_6 : Int) (x158_6 : Int), v30 = .int .i64 x30_6 ∧ v158 = .int .i64 x158_6 ∧ Aside0 (laws_FnPolynomialsOfRooks.l1 kq t341 t343 t378 x30_6 t375 (t375.length : Int) x158_6 t336 t337 t338 = some true) ∧ Aside0 (kq ≤ kj58) ∧ Aside0 (Kd.R (Kd.int .i64) 3 w' w.heap.size (fun k_ => some k_ ≠ ((.slice Ao12 t338.length co12) : Value).ownBlock ∧ some k_ ≠ ((.slice Ao26 t349.length co26) : Value).ownBlock ∧ some k_ ≠ ((.slice Ao53 t365.length co53) : Value).ownBlock) (.slice Ao74 t375.length co74) t375) ∧ Aside0 (Kd.R (Kd.int .i64) 3 w' w.heap.size (fun k_ => some k_ ≠ ((.slice Ao74 t375.length co74) : Value).ownBlock ∧ some k_ ≠ ((.slice Ao26 t349.length co26) : Value).ownBlock ∧ some k_ ≠ ((.slice Ao53 t365.length co53) : Value).ownBlock) (.slice Ao12 t338.length co12) t338) ∧ Aside0 (Kd.R (Kd.int .i64) 3 w' w.heap.size (fun k_ => some k_ ≠ ((.slice Ao74 t375.length co74) : Value).ownBlock ∧ some k_ ≠ ((.slice Ao12 t338.length co12) : Value).ownBlock ∧ some k_ ≠ ((.slice Ao53 t365.length co53) : Value).ownBlock) (.slice Ao26 t349.length co26) t349) ∧ Aside0 (Kd.R (Kd.int .i64) 3 w' w.heap.size (fun k_ => some k_ ≠ ((.slice Ao74 t375.length co74) : Value).ownBlock ∧ some k_ ≠ ((.slice Ao12 t338.length co12) : Value).ownBlock ∧ some k_ ≠ ((.slice Ao26 t349.length co26) : Value).ownBlock) (.slice Ao53 t365.length co53) t365) ∧ Aside0 (w'.heap[gb342]? = some (.cells #[.int .i64 t336, .int .i64 t337, (.slice Ao12 t338.length co12)] 34 (0, 0))) ∧ Aside0 (w'.heap[gb353]? = some (.cells #[.int .i64 t347, .int .i64 t348, (.slice Ao26 t349.length co26)] 34 (0, 0))) ∧ Aside0 (w'.heap[gb368]? = some (.cells #[.int .i64 t363, .int .i64 t364, (.slice Ao53 t365.length co53)] 34 (0, 0))) ∧ Aside0 (Below w.heap.size w w'))
                case atStart => exact ⟨(0), (0), (by first | rfl | (simp; done) | (simp [*]; done)), (by first | rfl | (simp; done) | (simp [*]; done)), H', ⟨Nat.le_refl _⟩, ⟨by exact sqm Oq4 (fun _ hk => by first | exact ⟨hk.1.1.2, ⟨hk.1.2, hk.2⟩⟩ | (and_intros <;> first | trivial | simp only [hk, ne_eq, not_false_eq_true]))⟩, ⟨by exact sqm Oq7 (fun _ hk => by first | exact ⟨hk.2, ⟨hk.1.1, hk.1.2⟩⟩ | (and_intros <;> first | trivial | simp only [hk, ne_eq, not_false_eq_true]))⟩, ⟨by exact sqm Oq8 (fun _ hk => by first | exact ⟨hk.2, ⟨hk.1.1, hk.1.2⟩⟩ | (and_intros <;> first | trivial | simp only [hk, ne_eq, not_false_eq_true]))⟩, ⟨by exact sqm Oq9 (fun _ hk => by first | exact ⟨hk.2, ⟨hk.1.1, hk.1.2⟩⟩ | (and_intros <;> first | trivial | simp only [hk, ne_eq, not_false_eq_true]))⟩, ⟨by (with_reducible repeat (first | refine blk_drewN ?_ _ | refine blk_drew ?_ | refine blk_alloc ?_ _)); exact BK342.out⟩, ⟨by (with_reducible repeat (first | refine blk_drewN ?_ _ | refine blk_drew ?_ | refine blk_alloc ?_ _)); exact BK353.out⟩, ⟨by (with_reducible repeat (first | refine blk_drewN ?_ _ | refine blk_drew ?_ | refine blk_alloc ?_ _)); exact BK368.out⟩, ⟨by repeat with_reducible first | exact HB.out | apply pw_below_drewN | apply below_drew1 | refine below_set ?_ (Aside0.out (by assumption))⟩⟩
                case round =>
                 clear H'
                 try clear c1; try clear c2; try clear p2; try clear c3; try clear p3; try clear q3; try clear hx3; try clear c4; try clear c5; try clear c6; try clear p6; try clear c7; try clear c10; try clear c16; try clear c16b0; try clear c16b1; try clear c16b2; try clear c17; try clear c24; try clear c26; try clear c27; try clear c30; try clear c30b0; try clear c30b1; try clear c30b2; try clear c31; try clear c33; try clear c35; try clear p36; try clear q36; try clear hx36; try clear c39; try clear c39b0; try clear c40; try clear c40b0; try clear c41; try clear c41b0; try clear c42; try clear c43; try clear c43b0; try clear c43b1; try clear c48; try clear c49; try clear c50; try clear c51; try clear c52; try clear c53; try clear c54; try clear c57; try clear c57b0; try clear c57b1; try clear c57b2; try clear c58; try clear c60; try clear c62; try clear c63; try clear c63b0; try clear c63b1; try clear c64; try clear p64; try clear c65; try clear c68; try clear c70; try clear c71; try clear zq0; try clear zq1; try clear zq2; try clear zq3; try clear zq4; try clear zq5; try clear zq6; try clear zq7; try clear zq8; try clear zq9; try clear zq10; try clear zq11; try clear zq12; try clear zq13; try clear zq14; try clear zq15; try clear zq16; try clear zq17; try clear zq18; try clear zq19; try clear zq20; try clear zq21; try clear zq22; try clear zq23; try clear zq24; try clear zq25; try clear zq26; try clear fq0; try clear fq1; try clear fq2; try clear fq3; try clear fq4; try clear fq5; try clear fq6; try clear fq7; try clear fq8; try clear fq9; try clear fq10; try clear fq11; try clear fq12; try clear fq13; try clear fq14; try clear fq15; try clear fq16; try clear fq17; try clear fq18; try clear fq19; try clear fq20; try clear fq21; try clear fq22; try clear fq23; try clear fq24; try clear fq25; try clear fq26; try clear hx362_0; try clear p2; try clear p3; try clear p36; try clear p362; try clear p6; try clear p64; try clear q3; try clear q36; try clear q362
                 obtain ⟨x30_6, x158_6, rfl, rfl, HA, HK6, Oq5, Oq7, Oq8, Oq9, BK342, BK353, BK368, HB⟩ := hrel
                 cases gk with
                 | zero => exact absurd HA.out (by simp [laws_FnPolynomialsOfRooks.l1])
                 | succ k6 =>
                  have H := HA.out
                  clear HA
                  simp only [laws_FnPolynomialsOfRooks.l1] at H
                  by_cases c75 : x158_6 < (t375.length : Int)
                  ·
                   rw [if_pos c75] at H
                   have c75b0 : decide (x158_6 < (t375.length : Int)) = true := decide_eq_true c75
                   clear c75
                   by_cases c76 : 0 ≤ x158_6
                   ·
                    rw [if_pos c76] at H
                    have c76b0 : decide (0 ≤ x158_6) = true := decide_eq_true c76
                    clear c76
                    by_cases c77 : x158_6 < (t375.length : Int)
                    ·
                     rw [if_pos c77] at H
                     have c77b0 : decide (x158_6 < (t375.length : Int)) = true := decide_eq_true c77
                     clear c77
                     have H' := Aside0.mk H
                     clear H
                     have p379 : 0 ≤ (x158_6 : Int) := of_decide_eq_true (by first | (with_reducible assumption) | assumption)
                     have q379 : x158_6 < (t375.length : Int) := of_decide_eq_true (by first | (with_reducible assumption) | assumption)
                     obtain ⟨ad379, e379, hx379_0⟩ := Kd.at_int (Kd.R_reads' Oq5.out).2.2 x158_6 p379 q379
                     cases e379
                     replace p379 := eq_true p379
                     replace q379 := eq_true q379
                     go_wp2
                     go_loopg [33, 34] k6 (fun kq v33 v34 w' => ∃ (x33_7 : Int) (x34_7 : Int), v33 = .int .i64 x33_7 ∧ v34 = .int .i64 x34_7 ∧ Aside0 (laws_FnPolynomialsOfRooks.l2 kq t341 t343 t378 x30_6 x158_6 (rd t375 x158_6) x33_7 x34_7 t375 (t375.length : Int) x158_6 t336 t337 t338 = some true) ∧ Aside0 (kq ≤ k6) ∧ Aside0 (Kd.R (Kd.int .i64) 3 w' w.heap.size (fun k_ => some k_ ≠ ((.slice Ao12 t338.length co12) : Value).ownBlock ∧ some k_ ≠ ((.slice Ao26 t349.length co26) : Value).ownBlock ∧ some k_ ≠ ((.slice Ao53 t365.length co53) : Value).ownBlock) (.slice (some ad379) t375.length co74) t375) ∧ Aside0 (Kd.R (Kd.int .i64) 3 w' w.heap.size (fun k_ => some k_ ≠ ((.slice (some ad379) t375.length co74) : Value).ownBlock ∧ some k_ ≠ ((.slice Ao26 t349.length co26) : Value).ownBlock ∧ some k_ ≠ ((.slice Ao53 t365.length co53) : Value).ownBlock) (.slice Ao12 t338.length co12) t338) ∧ Aside0 (Kd.R (Kd.int .i64) 3 w' w.heap.size (fun k_ => some k_ ≠ ((.slice (some ad379) t375.length co74) : Value).ownBlock ∧ some k_ ≠ ((.slice Ao12 t338.length co12) : Value).ownBlock ∧ some k_ ≠ ((.slice Ao53 t365.length co53) : Value).ownBlock) (.slice Ao26 t349.length co26) t349) ∧ Aside0 (Kd.R (Kd.int .i64) 3 w' w.heap.size (fun k_ => some k_ ≠ ((.slice (some ad379) t375.length co74) : Value).ownBlock ∧ some k_ ≠ ((.slice Ao12 t338.length co12) : Value).ownBlock ∧ some k_ ≠ ((.slice Ao26 t349.length co26) : Value).ownBlock) (.slice Ao53 t365.length co53) t365) ∧ Aside0 (w'.heap[gb342]? = some (.cells #[.int .i64 t336, .int .i64 t337, (.slice Ao12 t338.length co12)] 34 (0, 0))) ∧ Aside0 (w'.heap[gb353]? = some (.cells #[.int .i64 t347, .int .i64 t348, (.slice Ao26 t349.length co26)] 34 (0, 0))) ∧ Aside0 (w'.heap[gb368]? = some (.cells #[.int .i64 t363, .int .i64 t364, (.slice Ao53 t365.length co53)] 34 (0, 0))) ∧ Aside0 (Below w.heap.size w w'))
                     case atStart => exact ⟨(1), (0), (by first | rfl | (simp; done) | (simp [*]; done)), (by first | rfl | (simp; done) | (simp [*]; done)), H', ⟨Nat.le_refl _⟩, ⟨by (with_reducible repeat (first | apply Kd.R_alloc | apply Kd.R_drewN | apply Kd.R_drew)); exact Oq5.out⟩, ⟨by (with_reducible repeat (first | apply Kd.R_alloc | apply Kd.R_drewN | apply Kd.R_drew)); exact Oq7.out⟩, ⟨by (with_reducible repeat (first | apply Kd.R_alloc | apply Kd.R_drewN | apply Kd.R_drew)); exact Oq8.out⟩, ⟨by (with_reducible repeat (first | apply Kd.R_alloc | apply Kd.R_drewN | apply Kd.R_drew)); exact Oq9.out⟩, ⟨by (with_reducible repeat (first | refine blk_drewN ?_ _ | refine blk_drew ?_ | refine blk_alloc ?_ _)); exact BK342.out⟩, ⟨by (with_reducible repeat (first | refine blk_drewN ?_ _ | refine blk_drew ?_ | refine blk_alloc ?_ _)); exact BK353.out⟩, ⟨by (with_reducible repeat (first | refine blk_drewN ?_ _ | refine blk_drew ?_ | refine blk_alloc ?_ _)); exact BK368.out⟩, ⟨by repeat with_reducible first | exact HB.out | apply pw_below_drewN | apply below_drew1 | refine below_set ?_ (Aside0.out (by assumption))⟩⟩
                     case round =>
                      clear H'
                      try clear c1; try clear c2; try clear p2; try clear c3; try clear p3; try clear q3; try clear hx3; try clear c4; try clear c5; try clear c6; try clear p6; try clear c7; try clear c10; try clear c16; try clear c16b0; try clear c16b1; try clear c16b2; try clear c17; try clear c24; try clear c26; try clear c27; try clear c30; try clear c30b0; try clear c30b1; try clear c30b2; try clear c31; try clear c33; try clear c35; try clear p36; try clear q36; try clear hx36; try clear p37; try clear q37; try clear hx37; try clear c39; try clear c39b0; try clear c40; try clear c40b0; try clear c41; try clear c41b0; try clear c42; try clear c43; try clear c43b0; try clear c43b1; try clear c48; try clear c49; try clear c50; try clear c51; try clear c52; try clear c53; try clear c54; try clear c57; try clear c57b0; try clear c57b1; try clear c57b2; try clear c58; try clear c60; try clear c62; try clear c63; try clear c63b0; try clear c63b1; try clear c64; try clear p64; try clear c65; try clear c68; try clear c70; try clear c71; try clear c75; try clear c75b0; try clear c76; try clear c76b0; try clear c77; try clear c77b0; try clear zq0; try clear zq1; try clear zq2; try clear zq3; try clear zq4; try clear zq5; try clear zq6; try clear zq7; try clear zq8; try clear zq9; try clear zq10; try clear zq11; try clear zq12; try clear zq13; try clear zq14; try clear zq15; try clear zq16; try clear zq17; try clear zq18; try clear zq19; try clear zq20; try clear zq21; try clear zq22; try clear zq23; try clear zq24; try clear zq25; try clear zq26; try clear fq0; try clear fq1; try clear fq2; try clear fq3; try clear fq4; try clear fq5; try clear fq6; try clear fq7; try clear fq8; try clear fq9; try clear fq10; try clear fq11; try clear fq12; try clear fq13; try clear fq14; try clear fq15; try clear fq16; try clear fq17; try clear fq18; try clear fq19; try clear fq20; try clear fq21; try clear fq22; try clear fq23; try clear fq24; try clear fq25; try clear fq26; try clear hx362_0; try clear hx379_0; try clear p2; try clear p3; try clear p36; try clear p362; try clear p379; try clear p6; try clear p64; try clear q3; try clear q36; try clear q362; try clear q379
                      obtain ⟨x33_7, x34_7, rfl, rfl, HA, HK7, Oq5, Oq7, Oq8, Oq9, BK342, BK353, BK368, HB⟩ := hrel
                      cases gk with
                      | zero => exact absurd HA.out (by simp [laws_FnPolynomialsOfRooks.l2])
                      | succ k7 =>
                       have H := HA.out
                       clear HA
                       simp only [laws_FnPolynomialsOfRooks.l2] at H
                       by_cases c78 : x34_7 < (wrap64 (t336 - x158_6))
                       ·
                        rw [if_pos c78] at H
                        have c78b0 : decide (x34_7 < (wrap64 (t336 - x158_6))) = true := decide_eq_true c78
                        clear c78
                        have H' := Aside0.mk H
                        clear H
                        have bq8 := Nq0.out
                        have cq8 := Nq2.out
                        have bq9 := Nq1.out
                        have cq9 := Nq4.out
                        have zq27 : wr.cell? ⟨gb342, 0, none⟩ = some (.int .i64 t336) := sqc BK342 0
                        have zq28 : wr.cell? ⟨gb342, 1, none⟩ = some (.int .i64 t337) := sqc BK342 1
                        have zq29 : wr.cell? ⟨gb342, 2, none⟩ = some (.slice Ao12 t338.length co12) := sqc BK342 2
                        have fq27 := blk_frozen BK342.out 0
                        have fq28 := blk_frozen BK342.out 1
                        have fq29 := blk_frozen BK342.out 2
                        go_wp2
                        go_roundg k7
                        case measure => have := HJ7.out; have := HJ20.out; have := HJ31.out; have := HJ46.out; have := HJ58.out; have := HK6.out; have := HK7.out; omega
                        case rel => exact ⟨(wrap64 (x33_7 * (wrap64 (t341 - x34_7)))), (wrap64 (x34_7 + 1)), (by first | rfl | (simp; done) | (simp [*]; done)), (by first | rfl | (simp; done) | (simp [*]; done)), H', ⟨by have := HJ7.out; have := HJ20.out; have := HJ31.out; have := HJ46.out; have := HJ58.out; have := HK6.out; have := HK7.out; omega⟩, ⟨by (with_reducible repeat (first | apply Kd.R_alloc | apply Kd.R_drewN | apply Kd.R_drew)); exact Oq5.out⟩, ⟨by (with_reducible repeat (first | apply Kd.R_alloc | apply Kd.R_drewN | apply Kd.R_drew)); exact Oq7.out⟩, ⟨by (with_reducible repeat (first | apply Kd.R_alloc | apply Kd.R_drewN | apply Kd.R_drew)); exact Oq8.out⟩, ⟨by (with_reducible repeat (first | apply Kd.R_alloc | apply Kd.R_drewN | apply Kd.R_drew)); exact Oq9.out⟩, ⟨by (with_reducible repeat (first | refine blk_drewN ?_ _ | refine blk_drew ?_ | refine blk_alloc ?_ _)); exact BK342.out⟩, ⟨by (with_reducible repeat (first | refine blk_drewN ?_ _ | refine blk_drew ?_ | refine blk_alloc ?_ _)); exact BK353.out⟩, ⟨by (with_reducible repeat (first | refine blk_drewN ?_ _ | refine blk_drew ?_ | refine blk_alloc ?_ _)); exact BK368.out⟩, ⟨by repeat with_reducible first | exact HB.out | apply pw_below_drewN | apply below_drew1 | refine below_set ?_ (Aside0.out (by assumption))⟩⟩
                       ·
                        rw [if_neg c78] at H
                        have c78b0 : decide (x34_7 < (wrap64 (t336 - x158_6))) = false := decide_eq_false c78
                        clear c78
                        have H' := Aside0.mk H
                        clear H
                        have bq10 := Nq0.out
                        have cq10 := Nq2.out
                        have bq11 := Nq1.out
                        have cq11 := Nq4.out
                        have zq30 : wr.cell? ⟨gb342, 0, none⟩ = some (.int .i64 t336) := sqc BK342 0
                        have zq31 : wr.cell? ⟨gb342, 1, none⟩ = some (.int .i64 t337) := sqc BK342 1
                        have zq32 : wr.cell? ⟨gb342, 2, none⟩ = some (.slice Ao12 t338.length co12) := sqc BK342 2
                        have fq30 := blk_frozen BK342.out 0
                        have fq31 := blk_frozen BK342.out 1
                        have fq32 := blk_frozen BK342.out 2
                        go_wp2
                        go_roundg k7
                        case measure => have := HJ7.out; have := HJ20.out; have := HJ31.out; have := HJ46.out; have := HJ58.out; have := HK6.out; have := HK7.out; omega
                        case rel => exact ⟨(wrap64 (x30_6 + (wrap64 ((rd t375 x158_6) * x33_7)))), (wrap64 (x158_6 + 1)), (by first | rfl | (simp; done) | (simp [*]; done)), (by first | rfl | (simp; done) | (simp [*]; done)), H', ⟨by have := HJ7.out; have := HJ20.out; have := HJ31.out; have := HJ46.out; have := HJ58.out; have := HK6.out; have := HK7.out; omega⟩, ⟨by (with_reducible repeat (first | apply Kd.R_alloc | apply Kd.R_drewN | apply Kd.R_drew)); exact Oq5.out⟩, ⟨by (with_reducible repeat (first | apply Kd.R_alloc | apply Kd.R_drewN | apply Kd.R_drew)); exact Oq7.out⟩, ⟨by (with_reducible repeat (first | apply Kd.R_alloc | apply Kd.R_drewN | apply Kd.R_drew)); exact Oq8.out⟩, ⟨by (with_reducible repeat (first | apply Kd.R_alloc | apply Kd.R_drewN | apply Kd.R_drew)); exact Oq9.out⟩, ⟨by (with_reducible repeat (first | refine blk_drewN ?_ _ | refine blk_drew ?_ | refine blk_alloc ?_ _)); exact BK342.out⟩, ⟨by (with_reducible repeat (first | refine blk_drewN ?_ _ | refine blk_drew ?_ | refine blk_alloc ?_ _)); exact BK353.out⟩, ⟨by (with_reducible repeat (first | refine blk_drewN ?_ _ | refine blk_drew ?_ | refine blk_alloc ?_ _)); exact BK368.out⟩, ⟨by repeat with_reducible first | exact HB.out | apply pw_below_drewN | apply below_drew1 | refine below_set ?_ (Aside0.out (by assumption))⟩⟩
                    ·
                     rw [if_neg c77] at H
                     exact absurd H (by simp)
                   ·
                    rw [if_neg c76] at H
                    exact absurd H (by simp)
                  ·
                   rw [if_neg c75] at H
                   have c75b0 : decide (x158_6 < (t375.length : Int)) = false := decide_eq_false c75
                   clear c75
                   by_cases c85 : t378 = true
                   ·
                    subst c85
                    have H1 : (some (x30_6 == t343)) = some true := by first | (rw [if_pos rfl] at H; exact H) | rfl
                    clear H
                    have H := H1
                    clear H1
                    have hb_ := Option.some.inj H
                    go_wp2
                    go_ret
                    exact ⟨by first | rfl | (rw [hb_]) | (simp [errW_none, errW_some] <;> rfl) | (simp [*, errW_none, errW_some] <;> rfl), by repeat with_reducible first | exact HB.out | apply pw_below_drewN | apply below_drew1 | refine below_set ?_ (Aside0.out (by assumption))⟩
                   ·
                    replace c85 := Bool.eq_false_iff.mpr c85
                    subst c85
                    have H1 : (some false) = some true := by first | (rw [if_neg (show ¬ (false = true) by decide)] at H; exact H) | rfl
                    clear H
                    have H := H1
                    clear H1
                    exact absurd (Option.some.inj H) (by decide)
               ·
                replace c68 := Bool.eq_false_iff.mpr c68
                subst c68
                have H1 : (some true) = some true := by first | (rw [if_neg (show ¬ (false = true) by decide)] at H; exact H) | rfl
                clear H
                have H := H1
                clear H1 H
                go_wp2
                go_ret
                exact ⟨by first | rfl | (simp [errW_none, errW_some] <;> rfl) | (simp [*, errW_none, errW_some] <;> rfl), by repeat with_reducible first | exact HB.out | apply pw_below_drewN | apply below_drew1 | refine below_set ?_ (Aside0.out (by assumption))⟩

/-- The pure statement of laws_FnPolynomialsOfRooks. -/
def laws_FnPolynomialsOfRooks.Pure : Prop := ∀ (l0 : List Int) (l1 : List Int), l0.length ≤ maxLen → (∀ x ∈ l0, (Lit.int .u8 x).wf = true) → l1.length ≤ maxLen → (∀ x ∈ l1, (Lit.int .u8 x).wf = true) → ∃ k, laws_FnPolynomialsOfRooks.f k l0 l1 = some true

end Go.Proofs.Ytfgfgkpmkfjeiaa.PFnPolynomialsOfRooks
