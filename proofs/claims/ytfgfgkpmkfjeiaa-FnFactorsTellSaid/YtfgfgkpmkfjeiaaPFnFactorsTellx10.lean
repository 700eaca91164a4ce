-- Printed for this claim by wip/pp.py over the kit's printer; Lean checks it.
import Derived.Test.YtfgfgkpmkfjeiaaPFnFactorsTellx0
import Derived.Test.YtfgfgkpmkfjeiaaPFnFactorsTellx1
import Derived.Test.YtfgfgkpmkfjeiaaPFnFactorsTellx2
import Derived.Test.YtfgfgkpmkfjeiaaPFnFactorsTellx4
import Derived.Test.YtfgfgkpmkfjeiaaPFnFactorsTellx5
import Derived.Test.YtfgfgkpmkfjeiaaPFnFactorsTellx6
import Derived.Test.YtfgfgkpmkfjeiaaPFnFactorsTellx7
import Derived.Test.YtfgfgkpmkfjeiaaPFnFactorsTellx8
import Derived.Test.YtfgfgkpmkfjeiaaPFnFactorsTellx9
namespace Go.Proofs.Ytfgfgkpmkfjeiaa.PFnFactorsTell
open Go.RowKit Go.Proofs.YtfgfgkpmkfjeiaaW.PrintWords Go.Proofs.YtfgfgkpmkfjeiaaW.PrintLast Go.Proofs.YtfgfgkpmkfjeiaaW.PrintMore
attribute [local go_sem] max2_int min2_int max_two min_two max_three min_three max_four min_four   -- for this text's walks alone
set_option linter.unusedVariables false
set_option linter.unusedSimpArgs false

/-! ### laws_FnFactorsTell: function 3 -/
mutual
def laws_FnFactorsTell.j0 : Nat → List Int → List Int → Int → Int → Bool → Bool → Option (Bool)
 | 0, _, _, _, _, _, _ => none
 | k + 1, x1, x5, x6, x7, x10, x68 => if x68 = true then (some false) else ((spec_DrawNumbersOfLengths.f k x1).bind fun t413 => ((impl_NumbersOfLengths.f k t413).bind fun bt416 => ((spec_NumbersOfLengths.f k t413).bind fun bt420 => ((impl_FactorsOf.f k t413).bind fun bt424 => ((spec_FactorsOf.f k t413).bind fun bt428 => ((impl_FullPlacements.f k t413).bind fun bt432 => ((spec_FullPlacements.f k t413).bind fun bt434 => ((impl_BoardOfLengths.f k t413).bind fun bt436 => ((spec_BoardOfLengths.f k t413).bind fun bt443 => (if (bt416.2 != bt420.2) = true then (laws_FnFactorsTell.j1 k x1 x5 x6 x7 x10 t413 bt416.1 bt416.2 bt424.1 bt432.1 true bt436.1 bt436.2.1 bt436.2.2.1) else ((laws_rSame.f k bt416.1 bt420.1).bind fun t450 => (if t450 = true then (if (bt424.2 != bt428.2) = true then (laws_FnFactorsTell.j1 k x1 x5 x6 x7 x10 t413 bt416.1 bt416.2 bt424.1 bt432.1 true bt436.1 bt436.2.1 bt436.2.2.1) else ((laws_rSame.f k bt424.1 bt428.1).bind fun t451 => (if t451 = true then (if (bt432.2 != bt434.2) = true then (laws_FnFactorsTell.j1 k x1 x5 x6 x7 x10 t413 bt416.1 bt416.2 bt424.1 bt432.1 true bt436.1 bt436.2.1 bt436.2.2.1) else (if bt432.1 = bt434.1 then (if (bt436.2.2.2 != bt443.2.2.2) = true then (laws_FnFactorsTell.j1 k x1 x5 x6 x7 x10 t413 bt416.1 bt416.2 bt424.1 bt432.1 true bt436.1 bt436.2.1 bt436.2.2.1) else ((laws_rSameBoard.f k bt436.1 bt436.2.1 bt436.2.2.1 bt443.1 bt443.2.1 bt443.2.2.1).bind fun t452 => (if t452 = true then ((impl_AreLengths.f k t413).bind fun t453 => (if (bt416.2 != t453) = true then (laws_FnFactorsTell.j1 k x1 x5 x6 x7 x10 t413 bt416.1 bt416.2 bt424.1 bt432.1 true bt436.1 bt436.2.1 bt436.2.2.1) else (if (bt424.2 != bt416.2) = true then (laws_FnFactorsTell.j1 k x1 x5 x6 x7 x10 t413 bt416.1 bt416.2 bt424.1 bt432.1 true bt436.1 bt436.2.1 bt436.2.2.1) else (if (bt432.2 != bt416.2) = true then (laws_FnFactorsTell.j1 k x1 x5 x6 x7 x10 t413 bt416.1 bt416.2 bt424.1 bt432.1 true bt436.1 bt436.2.1 bt436.2.2.1) else (laws_FnFactorsTell.j1 k x1 x5 x6 x7 x10 t413 bt416.1 bt416.2 bt424.1 bt432.1 (bt436.2.2.2 != bt416.2) bt436.1 bt436.2.1 bt436.2.2.1))))) else (laws_FnFactorsTell.j1 k x1 x5 x6 x7 x10 t413 bt416.1 bt416.2 bt424.1 bt432.1 true bt436.1 bt436.2.1 bt436.2.2.1)))) else (laws_FnFactorsTell.j1 k x1 x5 x6 x7 x10 t413 bt416.1 bt416.2 bt424.1 bt432.1 true bt436.1 bt436.2.1 bt436.2.2.1))) else (laws_FnFactorsTell.j1 k x1 x5 x6 x7 x10 t413 bt416.1 bt416.2 bt424.1 bt432.1 true bt436.1 bt436.2.1 bt436.2.2.1)))) else (laws_FnFactorsTell.j1 k x1 x5 x6 x7 x10 t413 bt416.1 bt416.2 bt424.1 bt432.1 true bt436.1 bt436.2.1 bt436.2.2.1)))))))))))))
def laws_FnFactorsTell.j1 : Nat → List Int → List Int → Int → Int → Bool → List Int → List Int → Bool → List Int → Int → Bool → Int → Int → List Int → Option (Bool)
 | 0, _, _, _, _, _, _, _, _, _, _, _, _, _, _ => none
 | k + 1, x1, x5, x6, x7, x10, x11, x12, x13, x16, x20, x172, x443000, x443001, x443002 => if x172 = true then (some false) else (if x13 = true then ((impl_RookNumbers.f x443000 x443001 x443002).bind fun bt454 => ((impl_PermanentOf.f x443000 x443001 x443002).bind fun bt458 => (if bt454.2 = true then (if bt458.2 = true then ((laws_rSame.f k bt454.1 x12).bind fun t460 => (if t460 = true then (if bt458.1 = x20 then (if (x16.length : Int) = (x11.length : Int) then (laws_FnFactorsTell.j2 k x1 x5 x6 x7 x10) else (some false)) else (some false)) else (some false))) else (some false)) else (some false)))) else (laws_FnFactorsTell.j2 k x1 x5 x6 x7 x10))
def laws_FnFactorsTell.j2 : Nat → List Int → List Int → Int → Int → Bool → Option (Bool)
 | 0, _, _, _, _, _ => none
 | k + 1, x1, x5, x6, x7, x10 => (spec_DrawStaircaseNumbers.f x1).bind fun t461 => ((impl_StaircaseNumbers.f k t461).bind fun bt462 => ((spec_StaircaseNumbers.f k t461).bind fun bt466 => (if (bt462.2 != bt466.2) = true then (laws_FnFactorsTell.j3 k x5 x6 x7 x10 true) else ((laws_rSame.f k bt462.1 bt466.1).bind fun t470 => (laws_FnFactorsTell.j3 k x5 x6 x7 x10 (!t470))))))
def laws_FnFactorsTell.j3 : Nat → List Int → Int → Int → Bool → Bool → Option (Bool)
 | 0, _, _, _, _, _ => none
 | k + 1, x5, x6, x7, x10, x228 => if x228 = true then (some false) else (if x10 = true then ((impl_BoardOfLengths.f k x5).bind fun bt471 => ((impl_FactorialAt.f k bt471.1 bt471.2.1 bt471.2.2.1 x6).bind fun bt478 => (if bt471.2.2.2 = true then (if bt478.2 = true then (some (bt478.1 == x7)) else (some false)) else (some false)))) else (some true))
end
def laws_FnFactorsTell.f (k : Nat) (l0 : List Int) (l1 : List Int) : Option (Bool) := (laws_big.f l0 l1).bind fun t404 => (if t404 = true then (some true) else ((spec_DrawProductAt.f k l0).bind fun bt405 => ((impl_ProductAt.f k bt405.1 bt405.2).bind fun bt409 => ((spec_ProductAt.f k bt405.1 bt405.2).bind fun bt411 => (if (bt409.2 != bt411.2) = true then (laws_FnFactorsTell.j0 k l1 bt405.1 bt405.2 bt409.1 bt411.2 true) else (laws_FnFactorsTell.j0 k l1 bt405.1 bt405.2 bt409.1 bt411.2 (bt409.1 != bt411.1)))))))
theorem laws_FnFactorsTell.mono_l : ∀ k, (∀ y0 y1 y2 y3 y4 y5, LeO (laws_FnFactorsTell.j0 k y0 y1 y2 y3 y4 y5) (laws_FnFactorsTell.j0 (k + 1) y0 y1 y2 y3 y4 y5)) ∧ (∀ y0 y1 y2 y3 y4 y5 y6 y7 y8 y9 y10 y11 y12 y13, LeO (laws_FnFactorsTell.j1 k y0 y1 y2 y3 y4 y5 y6 y7 y8 y9 y10 y11 y12 y13) (laws_FnFactorsTell.j1 (k + 1) y0 y1 y2 y3 y4 y5 y6 y7 y8 y9 y10 y11 y12 y13)) ∧ (∀ y0 y1 y2 y3 y4, LeO (laws_FnFactorsTell.j2 k y0 y1 y2 y3 y4) (laws_FnFactorsTell.j2 (k + 1) y0 y1 y2 y3 y4)) ∧ (∀ y0 y1 y2 y3 y4, LeO (laws_FnFactorsTell.j3 k y0 y1 y2 y3 y4) (laws_FnFactorsTell.j3 (k + 1) y0 y1 y2 y3 y4))
 | 0 => ⟨fun _ _ _ _ _ _ r h => by simp [laws_FnFactorsTell.j0] at h, fun _ _ _ _ _ _ _ _ _ _ _ _ _ _ r h => by simp [laws_FnFactorsTell.j1] at h, fun _ _ _ _ _ r h => by simp [laws_FnFactorsTell.j2] at h, fun _ _ _ _ _ r h => by simp [laws_FnFactorsTell.j3] at h⟩
 | k + 1 => by
  obtain ⟨ih0, ih1, ih2, ih3⟩ := laws_FnFactorsTell.mono_l k
  refine ⟨?_, ?_, ?_, ?_⟩
  ·
   intro y0 y1 y2 y3 y4 y5
   unfold laws_FnFactorsTell.j0
   repeat' first
   | (with_reducible exact ih0 _ _ _ _ _ _)
   | (with_reducible exact ih1 _ _ _ _ _ _ _ _ _ _ _ _ _ _)
   | (with_reducible exact ih2 _ _ _ _ _)
   | (with_reducible exact ih3 _ _ _ _ _)
   | (with_reducible exact impl_AreLengths.mono _ _)
   | (with_reducible exact impl_BoardOfLengths.mono _ _)
   | (with_reducible exact impl_FactorialAt.mono _ _ _ _ _)
   | (with_reducible exact impl_FactorsOf.mono _ _)
   | (with_reducible exact impl_FullPlacements.mono _ _)
   | (with_reducible exact impl_NumbersOfLengths.mono _ _)
   | (with_reducible exact impl_ProductAt.mono _ _ _)
   | (with_reducible exact impl_StaircaseNumbers.mono _ _)
   | (with_reducible exact laws_rSame.mono _ _ _)
   | (with_reducible exact laws_rSameBoard.mono _ _ _ _ _ _ _)
   | (with_reducible exact spec_BoardOfLengths.mono _ _)
   | (with_reducible exact spec_DrawNumbersOfLengths.mono _ _)
   | (with_reducible exact spec_DrawProductAt.mono _ _)
   | (with_reducible exact spec_FactorsOf.mono _ _)
   | (with_reducible exact spec_FullPlacements.mono _ _)
   | (with_reducible exact spec_NumbersOfLengths.mono _ _)
   | (with_reducible exact spec_ProductAt.mono _ _ _)
   | (with_reducible exact spec_StaircaseNumbers.mono _ _)
   | (with_reducible exact LeO.refl _)
   | (with_reducible exact LeO.none _)
   | (with_reducible refine LeO.ite ?_ ?_)
   | (with_reducible refine LeO.bind ?_ (fun _ => ?_))
   | exact ih0 _ _ _ _ _ _
   | exact ih1 _ _ _ _ _ _ _ _ _ _ _ _ _ _
   | exact ih2 _ _ _ _ _
   | exact ih3 _ _ _ _ _
   | exact impl_AreLengths.mono _ _
   | exact impl_BoardOfLengths.mono _ _
   | exact impl_FactorialAt.mono _ _ _ _ _
   | exact impl_FactorsOf.mono _ _
   | exact impl_FullPlacements.mono _ _
   | exact impl_NumbersOfLengths.mono _ _
   | exact impl_ProductAt.mono _ _ _
   | exact impl_StaircaseNumbers.mono _ _
   | exact laws_rSame.mono _ _ _
   | exact laws_rSameBoard.mono _ _ _ _ _ _ _
   | exact spec_BoardOfLengths.mono _ _
   | exact spec_DrawNumbersOfLengths.mono _ _
   | exact spec_DrawProductAt.mono _ _
   | exact spec_FactorsOf.mono _ _
   | exact spec_FullPlacements.mono _ _
   | exact spec_NumbersOfLengths.mono _ _
   | exact spec_ProductAt.mono _ _ _
   | exact spec_StaircaseNumbers.mono _ _
   | exact LeO.none _
   | refine LeO.ite ?_ ?_
   | refine LeO.bind ?_ (fun _ => ?_)
  ·
   intro y0 y1 y2 y3 y4 y5 y6 y7 y8 y9 y10 y11 y12 y13
   unfold laws_FnFactorsTell.j1
   repeat' first
   | (with_reducible exact ih0 _ _ _ _ _ _)
   | (with_reducible exact ih1 _ _ _ _ _ _ _ _ _ _ _ _ _ _)
   | (with_reducible exact ih2 _ _ _ _ _)
   | (with_reducible exact ih3 _ _ _ _ _)
   | (with_reducible exact impl_AreLengths.mono _ _)
   | (with_reducible exact impl_BoardOfLengths.mono _ _)
   | (with_reducible exact impl_FactorialAt.mono _ _ _ _ _)
   | (with_reducible exact impl_FactorsOf.mono _ _)
   | (with_reducible exact impl_FullPlacements.mono _ _)
   | (with_reducible exact impl_NumbersOfLengths.mono _ _)
   | (with_reducible exact impl_ProductAt.mono _ _ _)
   | (with_reducible exact impl_StaircaseNumbers.mono _ _)
   | (with_reducible exact laws_rSame.mono _ _ _)
   | (with_reducible exact laws_rSameBoard.mono _ _ _ _ _ _ _)
   | (with_reducible exact spec_BoardOfLengths.mono _ _)
   | (with_reducible exact spec_DrawNumbersOfLengths.mono _ _)
   | (with_reducible exact spec_DrawProductAt.mono _ _)
   | (with_reducible exact spec_FactorsOf.mono _ _)
   | (with_reducible exact spec_FullPlacements.mono _ _)
   | (with_reducible exact spec_NumbersOfLengths.mono _ _)
   | (with_reducible exact spec_ProductAt.mono _ _ _)
   | (with_reducible exact spec_StaircaseNumbers.mono _ _)
   | (with_reducible exact LeO.refl _)
   | (with_reducible exact LeO.none _)
   | (with_reducible refine LeO.ite ?_ ?_)
   | (with_reducible refine LeO.bind ?_ (fun _ => ?_))
   | exact ih0 _ _ _ _ _ _
   | exact ih1 _ _ _ _ _ _ _ _ _ _ _ _ _ _
   | exact ih2 _ _ _ _ _
   | exact ih3 _ _ _ _ _
   | exact impl_AreLengths.mono _ _
   | exact impl_BoardOfLengths.mono _ _
   | exact impl_FactorialAt.mono _ _ _ _ _
   | exact impl_FactorsOf.mono _ _
   | exact impl_FullPlacements.mono _ _
   | exact impl_NumbersOfLengths.mono _ _
   | exact impl_ProductAt.mono _ _ _
   | exact impl_StaircaseNumbers.mono _ _
   | exact laws_rSame.mono _ _ _
   | exact laws_rSameBoard.mono _ _ _ _ _ _ _
   | exact spec_BoardOfLengths.mono _ _
   | exact spec_DrawNumbersOfLengths.mono _ _
   | exact spec_DrawProductAt.mono _ _
   | exact spec_FactorsOf.mono _ _
   | exact spec_FullPlacements.mono _ _
   | exact spec_NumbersOfLengths.mono _ _
   | exact spec_ProductAt.mono _ _ _
   | exact spec_StaircaseNumbers.mono _ _
   | exact LeO.none _
   | refine LeO.ite ?_ ?_
   | refine LeO.bind ?_ (fun _ => ?_)
  ·
   intro y0 y1 y2 y3 y4
   unfold laws_FnFactorsTell.j2
   repeat' first
   | (with_reducible exact ih0 _ _ _ _ _ _)
   | (with_reducible exact ih1 _ _ _ _ _ _ _ _ _ _ _ _ _ _)
   | (with_reducible exact ih2 _ _ _ _ _)
   | (with_reducible exact ih3 _ _ _ _ _)
   | (with_reducible exact impl_AreLengths.mono _ _)
   | (with_reducible exact impl_BoardOfLengths.mono _ _)
   | (with_reducible exact impl_FactorialAt.mono _ _ _ _ _)
   | (with_reducible exact impl_FactorsOf.mono _ _)
   | (with_reducible exact impl_FullPlacements.mono _ _)
   | (with_reducible exact impl_NumbersOfLengths.mono _ _)
   | (with_reducible exact impl_ProductAt.mono _ _ _)
   | (with_reducible exact impl_StaircaseNumbers.mono _ _)
   | (with_reducible exact laws_rSame.mono _ _ _)
   | (with_reducible exact laws_rSameBoard.mono _ _ _ _ _ _ _)
   | (with_reducible exact spec_BoardOfLengths.mono _ _)
   | (with_reducible exact spec_DrawNumbersOfLengths.mono _ _)
   | (with_reducible exact spec_DrawProductAt.mono _ _)
   | (with_reducible exact spec_FactorsOf.mono _ _)
   | (with_reducible exact spec_FullPlacements.mono _ _)
   | (with_reducible exact spec_NumbersOfLengths.mono _ _)
   | (with_reducible exact spec_ProductAt.mono _ _ _)
   | (with_reducible exact spec_StaircaseNumbers.mono _ _)
   | (with_reducible exact LeO.refl _)
   | (with_reducible exact LeO.none _)
   | (with_reducible refine LeO.ite ?_ ?_)
   | (with_reducible refine LeO.bind ?_ (fun _ => ?_))
   | exact ih0 _ _ _ _ _ _
   | exact ih1 _ _ _ _ _ _ _ _ _ _ _ _ _ _
   | exact ih2 _ _ _ _ _
   | exact ih3 _ _ _ _ _
   | exact impl_AreLengths.mono _ _
   | exact impl_BoardOfLengths.mono _ _
   | exact impl_FactorialAt.mono _ _ _ _ _
   | exact impl_FactorsOf.mono _ _
   | exact impl_FullPlacements.mono _ _
   | exact impl_NumbersOfLengths.mono _ _
   | exact impl_ProductAt.mono _ _ _
   | exact impl_StaircaseNumbers.mono _ _
   | exact laws_rSame.mono _ _ _
   | exact laws_rSameBoard.mono _ _ _ _ _ _ _
   | exact spec_BoardOfLengths.mono _ _
   | exact spec_DrawNumbersOfLengths.mono _ _
   | exact spec_DrawProductAt.mono _ _
   | exact spec_FactorsOf.mono _ _
   | exact spec_FullPlacements.mono _ _
   | exact spec_NumbersOfLengths.mono _ _
   | exact spec_ProductAt.mono _ _ _
   | exact spec_StaircaseNumbers.mono _ _
   | exact LeO.none _
   | refine LeO.ite ?_ ?_
   | refine LeO.bind ?_ (fun _ => ?_)
  ·
   intro y0 y1 y2 y3 y4
   unfold laws_FnFactorsTell.j3
   repeat' first
   | (with_reducible exact ih0 _ _ _ _ _ _)
   | (with_reducible exact ih1 _ _ _ _ _ _ _ _ _ _ _ _ _ _)
   | (with_reducible exact ih2 _ _ _ _ _)
   | (with_reducible exact ih3 _ _ _ _ _)
   | (with_reducible exact impl_AreLengths.mono _ _)
   | (with_reducible exact impl_BoardOfLengths.mono _ _)
   | (with_reducible exact impl_FactorialAt.mono _ _ _ _ _)
   | (with_reducible exact impl_FactorsOf.mono _ _)
   | (with_reducible exact impl_FullPlacements.mono _ _)
   | (with_reducible exact impl_NumbersOfLengths.mono _ _)
   | (with_reducible exact impl_ProductAt.mono _ _ _)
   | (with_reducible exact impl_StaircaseNumbers.mono _ _)
   | (with_reducible exact laws_rSame.mono _ _ _)
   | (with_reducible exact laws_rSameBoard.mono _ _ _ _ _ _ _)
   | (with_reducible exact spec_BoardOfLengths.mono _ _)
   | (with_reducible exact spec_DrawNumbersOfLengths.mono _ _)
   | (with_reducible exact spec_DrawProductAt.mono _ _)
   | (with_reducible exact spec_FactorsOf.mono _ _)
   | (with_reducible exact spec_FullPlacements.mono _ _)
   | (with_reducible exact spec_NumbersOfLengths.mono _ _)
   | (with_reducible exact spec_ProductAt.mono _ _ _)
   | (with_reducible exact spec_StaircaseNumbers.mono _ _)
   | (with_reducible exact LeO.refl _)
   | (with_reducible exact LeO.none _)
   | (with_reducible refine LeO.ite ?_ ?_)
   | (with_reducible refine LeO.bind ?_ (fun _ => ?_))
   | exact ih0 _ _ _ _ _ _
   | exact ih1 _ _ _ _ _ _ _ _ _ _ _ _ _ _
   | exact ih2 _ _ _ _ _
   | exact ih3 _ _ _ _ _
   | exact impl_AreLengths.mono _ _
   | exact impl_BoardOfLengths.mono _ _
   | exact impl_FactorialAt.mono _ _ _ _ _
   | exact impl_FactorsOf.mono _ _
   | exact impl_FullPlacements.mono _ _
   | exact impl_NumbersOfLengths.mono _ _
   | exact impl_ProductAt.mono _ _ _
   | exact impl_StaircaseNumbers.mono _ _
   | exact laws_rSame.mono _ _ _
   | exact laws_rSameBoard.mono _ _ _ _ _ _ _
   | exact spec_BoardOfLengths.mono _ _
   | exact spec_DrawNumbersOfLengths.mono _ _
   | exact spec_DrawProductAt.mono _ _
   | exact spec_FactorsOf.mono _ _
   | exact spec_FullPlacements.mono _ _
   | exact spec_NumbersOfLengths.mono _ _
   | exact spec_ProductAt.mono _ _ _
   | exact spec_StaircaseNumbers.mono _ _
   | exact LeO.none _
   | refine LeO.ite ?_ ?_
   | refine LeO.bind ?_ (fun _ => ?_)
theorem laws_FnFactorsTell.mono : ∀ a0 a1 k, LeO (laws_FnFactorsTell.f k a0 a1) (laws_FnFactorsTell.f (k + 1) a0 a1) := by
 intro a0 a1 k
 obtain ⟨ih0, ih1, ih2, ih3⟩ := laws_FnFactorsTell.mono_l k
 unfold laws_FnFactorsTell.f
 repeat' first
   | (with_reducible exact ih0 _ _ _ _ _ _)
   | (with_reducible exact ih1 _ _ _ _ _ _ _ _ _ _ _ _ _ _)
   | (with_reducible exact ih2 _ _ _ _ _)
   | (with_reducible exact ih3 _ _ _ _ _)
   | (with_reducible exact impl_AreLengths.mono _ _)
   | (with_reducible exact impl_BoardOfLengths.mono _ _)
   | (with_reducible exact impl_FactorialAt.mono _ _ _ _ _)
   | (with_reducible exact impl_FactorsOf.mono _ _)
   | (with_reducible exact impl_FullPlacements.mono _ _)
   | (with_reducible exact impl_NumbersOfLengths.mono _ _)
   | (with_reducible exact impl_ProductAt.mono _ _ _)
   | (with_reducible exact impl_StaircaseNumbers.mono _ _)
   | (with_reducible exact laws_rSame.mono _ _ _)
   | (with_reducible exact laws_rSameBoard.mono _ _ _ _ _ _ _)
   | (with_reducible exact spec_BoardOfLengths.mono _ _)
   | (with_reducible exact spec_DrawNumbersOfLengths.mono _ _)
   | (with_reducible exact spec_DrawProductAt.mono _ _)
   | (with_reducible exact spec_FactorsOf.mono _ _)
   | (with_reducible exact spec_FullPlacements.mono _ _)
   | (with_reducible exact spec_NumbersOfLengths.mono _ _)
   | (with_reducible exact spec_ProductAt.mono _ _ _)
   | (with_reducible exact spec_StaircaseNumbers.mono _ _)
   | (with_reducible exact LeO.refl _)
   | (with_reducible exact LeO.none _)
   | (with_reducible refine LeO.ite ?_ ?_)
   | (with_reducible refine LeO.bind ?_ (fun _ => ?_))
   | exact ih0 _ _ _ _ _ _
   | exact ih1 _ _ _ _ _ _ _ _ _ _ _ _ _ _
   | exact ih2 _ _ _ _ _
   | exact ih3 _ _ _ _ _
   | exact impl_AreLengths.mono _ _
   | exact impl_BoardOfLengths.mono _ _
   | exact impl_FactorialAt.mono _ _ _ _ _
   | exact impl_FactorsOf.mono _ _
   | exact impl_FullPlacements.mono _ _
   | exact impl_NumbersOfLengths.mono _ _
   | exact impl_ProductAt.mono _ _ _
   | exact impl_StaircaseNumbers.mono _ _
   | exact laws_rSame.mono _ _ _
   | exact laws_rSameBoard.mono _ _ _ _ _ _ _
   | exact spec_BoardOfLengths.mono _ _
   | exact spec_DrawNumbersOfLengths.mono _ _
   | exact spec_DrawProductAt.mono _ _
   | exact spec_FactorsOf.mono _ _
   | exact spec_FullPlacements.mono _ _
   | exact spec_NumbersOfLengths.mono _ _
   | exact spec_ProductAt.mono _ _ _
   | exact spec_StaircaseNumbers.mono _ _
   | exact LeO.none _
   | refine LeO.ite ?_ ?_
   | refine LeO.bind ?_ (fun _ => ?_)
theorem laws_FnFactorsTell.j0_no (k : Nat) (x1 : List Int) (x5 : List Int) (x6 : Int) (x7 : Int) (x10 : Bool) : ¬ (laws_FnFactorsTell.j0 k x1 x5 x6 x7 x10 true = some true) := by
 cases k <;> simp [laws_FnFactorsTell.j0]
theorem laws_FnFactorsTell.j1_no (k : Nat) (x1 : List Int) (x5 : List Int) (x6 : Int) (x7 : Int) (x10 : Bool) (x11 : List Int) (x12 : List Int) (x13 : Bool) (x16 : List Int) (x20 : Int) (x443000 : Int) (x443001 : Int) (x443002 : List Int) : ¬ (laws_FnFactorsTell.j1 k x1 x5 x6 x7 x10 x11 x12 x13 x16 x20 true x443000 x443001 x443002 = some true) := by
 cases k <;> simp [laws_FnFactorsTell.j1]
theorem laws_FnFactorsTell.j3_no (k : Nat) (x5 : List Int) (x6 : Int) (x7 : Int) (x10 : Bool) : ¬ (laws_FnFactorsTell.j3 k x5 x6 x7 x10 true = some true) := by
 cases k <;> simp [laws_FnFactorsTell.j3]
set_option maxHeartbeats 8000000 in
set_option maxRecDepth 100000 in
theorem laws_FnFactorsTell.calls (k : Nat) (A0 : Option Addr) (c0 : Nat) (l0 : List Int) (A1 : Option Addr) (c1 : Nat) (l1 : List Int) (w : World) (hr0 : Kd.C (Kd.int .u8) w A0 l0.length l0) (hc0 : l0.length ≤ c0) (hr1 : Kd.C (Kd.int .u8) w A1 l1.length l1) (hc1 : l1.length ≤ c1) (h : laws_FnFactorsTell.f k l0 l1 = some true) :
  Calls Try.prog 3 #[.slice A0 l0.length c0, .slice A1 l1.length c1] w fun e w' => e = .returned (.bool true) ∧ Below w.heap.size w w' := by
 have hu34 := Try.underlying34
 have HR0 := Aside0.mk hr0
 have HC0 := Aside0.mk hc0
 clear hr0 hc0
 have HR1 := Aside0.mk hr1
 have HC1 := Aside0.mk hc1
 clear hr1 hc1
 have HB := am (Below.refl w.heap.size w)
 have H : ((laws_big.f l0 l1).bind fun t404 => (if t404 = true then (some true) else ((spec_DrawProductAt.f k l0).bind fun bt405 => ((impl_ProductAt.f k bt405.1 bt405.2).bind fun bt409 => ((spec_ProductAt.f k bt405.1 bt405.2).bind fun bt411 => (if (bt409.2 != bt411.2) = true then (laws_FnFactorsTell.j0 k l1 bt405.1 bt405.2 bt409.1 bt411.2 true) else (laws_FnFactorsTell.j0 k l1 bt405.1 bt405.2 bt409.1 bt411.2 (bt409.1 != bt411.1)))))))) = some true := h
 clear h
 replace H := Option.bind_eq_some_iff.mp H
 obtain ⟨t404, A30, H⟩ := H
 replace H : (if t404 = true then (some true) else ((spec_DrawProductAt.f k l0).bind fun bt405 => ((impl_ProductAt.f k bt405.1 bt405.2).bind fun bt409 => ((spec_ProductAt.f k bt405.1 bt405.2).bind fun bt411 => (if (bt409.2 != bt411.2) = true then (laws_FnFactorsTell.j0 k l1 bt405.1 bt405.2 bt409.1 bt411.2 true) else (laws_FnFactorsTell.j0 k l1 bt405.1 bt405.2 bt409.1 bt411.2 (bt409.1 != bt411.1))))))) = some true := H
 have A3 := Aside0.mk A30
 clear A30
 by_cases c4 : t404 = true
 ·
  subst c4
  have H1 : (some true) = some true := by first | (rw [if_pos rfl] at H; exact H) | rfl
  clear H
  have H := H1
  clear H1 H
  go_enter Try.func3, Try.ntmps3
  go_wp2_with (first | ((with_reducible refine gate_callee (f := 10) rfl ?_); refine goesL_ (some 43) rfl rfl Try.func10 (by kernel_rfl) rfl #[.slice A0 l0.length c0, .slice A1 l1.length c1] rfl (by (try simp only [List.map_toArray, List.map_cons, List.map_nil]); try rfl) ?_; (with_reducible refine (laws_big.calls _ _ l0 _ _ l1 true _ ?side1 ?side2 ?side3 ?side4 A3.out).mono ?_); (case side1 => repeat (first | exact HR0.out | (with_reducible first | refine Kd.C_alloc ?_ _ | refine Kd.C_drewN ?_ _ | refine Kd.C_drew ?_))); (case side2 => exact HC0.out); (case side3 => repeat (first | exact HR1.out | (with_reducible first | refine Kd.C_alloc ?_ _ | refine Kd.C_drewN ?_ _ | refine Kd.C_drew ?_))); (case side4 => exact HC1.out); rintro e w' ⟨rfl, ⟨nd, rfl⟩⟩; refine ⟨_, rfl, ?_⟩))
  go_ret
  exact ⟨by first | rfl | (simp [errW_none, errW_some] <;> rfl) | (simp [*, errW_none, errW_some] <;> rfl), by repeat with_reducible first | exact HB.out | apply pw_below_drewN | apply below_drew1⟩
 ·
  replace c4 := Bool.eq_false_iff.mpr c4
  subst c4
  have H1 : ((spec_DrawProductAt.f k l0).bind fun bt405 => ((impl_ProductAt.f k bt405.1 bt405.2).bind fun bt409 => ((spec_ProductAt.f k bt405.1 bt405.2).bind fun bt411 => (if (bt409.2 != bt411.2) = true then (laws_FnFactorsTell.j0 k l1 bt405.1 bt405.2 bt409.1 bt411.2 true) else (laws_FnFactorsTell.j0 k l1 bt405.1 bt405.2 bt409.1 bt411.2 (bt409.1 != bt411.1)))))) = some true := by first | (rw [if_neg (show ¬ (false = true) by decide)] at H; exact H) | rfl
  clear H
  have H := H1
  clear H1
  replace H := Option.bind_eq_some_iff.mp H
  obtain ⟨⟨t405, t406⟩, A50, H⟩ := H
  replace H : ((impl_ProductAt.f k t405 t406).bind fun bt409 => ((spec_ProductAt.f k t405 t406).bind fun bt411 => (if (bt409.2 != bt411.2) = true then (laws_FnFactorsTell.j0 k l1 t405 t406 bt409.1 bt411.2 true) else (laws_FnFactorsTell.j0 k l1 t405 t406 bt409.1 bt411.2 (bt409.1 != bt411.1))))) = some true := H
  have A5 := Aside0.mk A50
  clear A50
  replace H := Option.bind_eq_some_iff.mp H
  obtain ⟨⟨t409, t410⟩, A60, H⟩ := H
  replace H : ((spec_ProductAt.f k t405 t406).bind fun bt411 => (if (t410 != bt411.2) = true then (laws_FnFactorsTell.j0 k l1 t405 t406 t409 bt411.2 true) else (laws_FnFactorsTell.j0 k l1 t405 t406 t409 bt411.2 (t409 != bt411.1)))) = some true := H
  have A6 := Aside0.mk A60
  clear A60
  replace H := Option.bind_eq_some_iff.mp H
  obtain ⟨⟨t411, t412⟩, A70, H⟩ := H
  replace H : (if (t410 != t412) = true then (laws_FnFactorsTell.j0 k l1 t405 t406 t409 t412 true) else (laws_FnFactorsTell.j0 k l1 t405 t406 t409 t412 (t409 != t411))) = some true := H
  have A7 := Aside0.mk A70
  clear A70
  have HC8 := Aside0.mk H
  clear H
  go_enter Try.func3, Try.ntmps3
  go_upto_region 6 with (first | ((with_reducible refine gate_callee (f := 10) rfl ?_); refine goesL_ (some 43) rfl rfl Try.func10 (by kernel_rfl) rfl #[.slice A0 l0.length c0, .slice A1 l1.length c1] rfl (by (try simp only [List.map_toArray, List.map_cons, List.map_nil]); try rfl) ?_; (with_reducible refine (laws_big.calls _ _ l0 _ _ l1 false _ ?side1 ?side2 ?side3 ?side4 A3.out).mono ?_); (case side1 => repeat (first | exact HR0.out | (with_reducible first | refine Kd.C_alloc ?_ _ | refine Kd.C_drewN ?_ _ | refine Kd.C_drew ?_))); (case side2 => exact HC0.out); (case side3 => repeat (first | exact HR1.out | (with_reducible first | refine Kd.C_alloc ?_ _ | refine Kd.C_drewN ?_ _ | refine Kd.C_drew ?_))); (case side4 => exact HC1.out); rintro e w' ⟨rfl, ⟨nd, rfl⟩⟩; refine ⟨_, rfl, ?_⟩) | ((with_reducible refine gate_callee (f := 11) rfl ?_); refine goesL_ (some 46) rfl rfl Try.func11 (by kernel_rfl) rfl #[.slice A0 l0.length c0] rfl (by (try simp only [List.map_toArray, List.map_cons, List.map_nil]); try rfl) ?_; (with_reducible refine (spec_DrawProductAt.calls k _ _ l0 t405 t406 _ ?side1 ?side2 A5.out).mono ?_); (case side1 => repeat (first | exact HR0.out | (with_reducible first | refine Kd.C_alloc ?_ _ | refine Kd.C_drewN ?_ _ | refine Kd.C_drew ?_))); (case side2 => exact HC0.out); rintro e w9 ⟨v407, rfl, ho0, hb⟩; refine ⟨_, rfl, ?_⟩; have n0_ := am (Kd.R_lower ho0 (below_size (by repeat with_reducible first | exact HB.out | apply pw_below_drewN | apply below_drew1))); have n1_ := am (below_step (by repeat with_reducible first | exact HB.out | apply pw_below_drewN | apply below_drew1) hb); clear HB; have Oq0 := n0_; have HB := n1_; clear n0_ n1_; (try clear hb); (try clear hb2); (try clear hk); (try clear hi); (try clear ho0); obtain ⟨Ao10, co10, eo10⟩ := Kd.R_slice Oq0.out; subst eo10) | ((with_reducible refine gate_callee (f := 12) rfl ?_); refine goesL_ (some 52) rfl rfl Try.func12 (by kernel_rfl) rfl #[.slice Ao10 t405.length co10, .int .i64 t406] rfl (by (try simp only [List.map_toArray, List.map_cons, List.map_nil]); try rfl) ?_; (with_reducible refine (impl_ProductAt.calls k _ _ t405 t406 t409 t410 _ ?side1 ?side2 A6.out).mono ?_); (case side1 => repeat (first | exact (Kd.R_reads' Oq0.out).2.2 | (with_reducible first | refine Kd.C_alloc ?_ _ | refine Kd.C_drewN ?_ _ | refine Kd.C_drew ?_))); (case side2 => exact (Kd.R_reads' Oq0.out).2.1); rintro e w11 ⟨rfl, hb⟩; refine ⟨_, rfl, ?_⟩; have n1_ := am (below_step (by repeat with_reducible first | exact HB.out | apply pw_below_drewN | apply below_drew1) hb); clear HB; replace Oq0 := sqR Oq0 hb; have HB := n1_; clear n1_; (try clear hb); (try clear hb2); (try clear hk); (try clear hi)) | ((with_reducible refine gate_callee (f := 13) rfl ?_); refine goesL_ (some 58) rfl rfl Try.func13 (by kernel_rfl) rfl #[.slice Ao10 t405.length co10, .int .i64 t406] rfl (by (try simp only [List.map_toArray, List.map_cons, List.map_nil]); try rfl) ?_; (with_reducible refine (spec_ProductAt.calls k _ _ t405 t406 t411 t412 _ ?side1 ?side2 A7.out).mono ?_); (case side1 => repeat (first | exact (Kd.R_reads' Oq0.out).2.2 | (with_reducible first | refine Kd.C_alloc ?_ _ | refine Kd.C_drewN ?_ _ | refine Kd.C_drew ?_))); (case side2 => exact (Kd.R_reads' Oq0.out).2.1); rintro e w12 ⟨rfl, hb⟩; refine ⟨_, rfl, ?_⟩; have n1_ := am (below_step (by repeat with_reducible first | exact HB.out | apply pw_below_drewN | apply below_drew1) hb); clear HB; replace Oq0 := sqR Oq0 hb; have HB := n1_; clear n1_; (try clear hb); (try clear hb2); (try clear hk); (try clear hi)))
  (try simp only [Act.put, List.setIfInBounds_toArray, List.set_cons_zero, List.set_cons_succ])
  go_cut [68] (fun v68 wc => ∃ (kq : Nat) (x68_7 : Bool), v68 = .bool x68_7 ∧ Aside0 (laws_FnFactorsTell.j0 kq l1 t405 t406 t409 t412 x68_7 = some true) ∧ Aside0 (kq ≤ k) ∧ Aside0 (Kd.R (Kd.int .i64) 3 wc w.heap.size (fun _ => True) (.slice Ao10 t405.length co10) t405) ∧ Aside0 (Below w.heap.size w wc))
  case first => as_aux_lemma =>
   have H := HC8.out
   clear HC8
   by_cases c13 : (t410 != t412) = true
   ·
    rw [if_pos c13] at H
    have c13b0 : (t410 != t412) = true := c13
    (try (have c13b1 : decide (t410 = t412) = false := by simpa using c13))
    (try (have c13b2 : (t410 == t412) = false := by simpa using c13))
    (try (have c13b3 : ¬ (t410 = t412) := by simpa using c13))
    clear c13
    (first | rw [c13b0] | (simp only [i64_w, i32_w]; rw [c13b0]) | rw [c13b1] | skip)
    exact absurd H (laws_FnFactorsTell.j0_no _ _ _ _ _ _)
   ·
    rw [if_neg c13] at H
    have c13b0 : (t410 != t412) = false := by simpa using c13
    (try (have c13b1 : decide (t410 = t412) = true := by simpa using c13))
    (try (have c13b2 : (t410 == t412) = true := by simpa using c13))
    clear c13
    (first | rw [c13b0] | (simp only [i64_w, i32_w]; rw [c13b0]) | rw [c13b1] | skip)
    have H' := Aside0.mk H
    clear H
    go_wp2
    go_meet
    case rel => exact ⟨_, ((t409 != t411)), (by first | rfl | (simp; done) | (simp [*]; done)), H', ⟨by first | omega | exact Nat.le_refl _⟩, ⟨by (with_reducible repeat (first | apply Kd.R_alloc | apply Kd.R_drewN | apply Kd.R_drew)); exact Oq0.out⟩, ⟨by repeat with_reducible first | exact HB.out | apply pw_below_drewN | apply below_drew1⟩⟩
  case rest => as_aux_lemma =>
   clear HC8
   try clear c1; try clear p2; try clear c3; try clear c4; try clear c10; try clear c11; try clear c12; try clear c13; try clear c13b0; try clear c13b1; try clear c13b2
   obtain ⟨kq, x68_7, rfl, HA, HJ7, Oq17, HB⟩ := hcut
   cases kq with
   | zero => exact absurd HA.out (by simp [laws_FnFactorsTell.j0])
   | succ kj7 =>
    have H := HA.out
    clear HA
    simp only [laws_FnFactorsTell.j0] at H
    by_cases c14 : x68_7 = true
    ·
     subst c14
     have H1 : (some false) = some true := by first | (rw [if_pos rfl] at H; exact H) | rfl
     clear H
     have H := H1
     clear H1
     exact absurd (Option.some.inj H) (by decide)
    ·
     replace c14 := Bool.eq_false_iff.mpr c14
     subst c14
     have H1 : ((spec_DrawNumbersOfLengths.f kj7 l1).bind fun t413 => ((impl_NumbersOfLengths.f kj7 t413).bind fun bt416 => ((spec_NumbersOfLengths.f kj7 t413).bind fun bt420 => ((impl_FactorsOf.f kj7 t413).bind fun bt424 => ((spec_FactorsOf.f kj7 t413).bind fun bt428 => ((impl_FullPlacements.f kj7 t413).bind fun bt432 => ((spec_FullPlacements.f kj7 t413).bind fun bt434 => ((impl_BoardOfLengths.f kj7 t413).bind fun bt436 => ((spec_BoardOfLengths.f kj7 t413).bind fun bt443 => (if (bt416.2 != bt420.2) = true then (laws_FnFactorsTell.j1 kj7 l1 t405 t406 t409 t412 t413 bt416.1 bt416.2 bt424.1 bt432.1 true bt436.1 bt436.2.1 bt436.2.2.1) else ((laws_rSame.f kj7 bt416.1 bt420.1).bind fun t450 => (if t450 = true then (if (bt424.2 != bt428.2) = true then (laws_FnFactorsTell.j1 kj7 l1 t405 t406 t409 t412 t413 bt416.1 bt416.2 bt424.1 bt432.1 true bt436.1 bt436.2.1 bt436.2.2.1) else ((laws_rSame.f kj7 bt424.1 bt428.1).bind fun t451 => (if t451 = true then (if (bt432.2 != bt434.2) = true then (laws_FnFactorsTell.j1 kj7 l1 t405 t406 t409 t412 t413 bt416.1 bt416.2 bt424.1 bt432.1 true bt436.1 bt436.2.1 bt436.2.2.1) else (if bt432.1 = bt434.1 then (if (bt436.2.2.2 != bt443.2.2.2) = true then (laws_FnFactorsTell.j1 kj7 l1 t405 t406 t409 t412 t413 bt416.1 bt416.2 bt424.1 bt432.1 true bt436.1 bt436.2.1 bt436.2.2.1) else ((laws_rSameBoard.f kj7 bt436.1 bt436.2.1 bt436.2.2.1 bt443.1 bt443.2.1 bt443.2.2.1).bind fun t452 => (if t452 = true then ((impl_AreLengths.f kj7 t413).bind fun t453 => (if (bt416.2 != t453) = true then (laws_FnFactorsTell.j1 kj7 l1 t405 t406 t409 t412 t413 bt416.1 bt416.2 bt424.1 bt432.1 true bt436.1 bt436.2.1 bt436.2.2.1) else (if (bt424.2 != bt416.2) = true then (laws_FnFactorsTell.j1 kj7 l1 t405 t406 t409 t412 t413 bt416.1 bt416.2 bt424.1 bt432.1 true bt436.1 bt436.2.1 bt436.2.2.1) else (if (bt432.2 != bt416.2) = true then (laws_FnFactorsTell.j1 kj7 l1 t405 t406 t409 t412 t413 bt416.1 bt416.2 bt424.1 bt432.1 true bt436.1 bt436.2.1 bt436.2.2.1) else (laws_FnFactorsTell.j1 kj7 l1 t405 t406 t409 t412 t413 bt416.1 bt416.2 bt424.1 bt432.1 (bt436.2.2.2 != bt416.2) bt436.1 bt436.2.1 bt436.2.2.1))))) else (laws_FnFactorsTell.j1 kj7 l1 t405 t406 t409 t412 t413 bt416.1 bt416.2 bt424.1 bt432.1 true bt436.1 bt436.2.1 bt436.2.2.1)))) else (laws_FnFactorsTell.j1 kj7 l1 t405 t406 t409 t412 t413 bt416.1 bt416.2 bt424.1 bt432.1 true bt436.1 bt436.2.1 bt436.2.2.1))) else (laws_FnFactorsTell.j1 kj7 l1 t405 t406 t409 t412 t413 bt416.1 bt416.2 bt424.1 bt432.1 true bt436.1 bt436.2.1 bt436.2.2.1)))) else (laws_FnFactorsTell.j1 kj7 l1 t405 t406 t409 t412 t413 bt416.1 bt416.2 bt424.1 bt432.1 true bt436.1 bt436.2.1 bt436.2.2.1))))))))))))) = some true := by first | (rw [if_neg (show ¬ (false = true) by decide)] at H; exact H) | rfl
     clear H
     have H := H1
     clear H1
     replace H := Option.bind_eq_some_iff.mp H
     obtain ⟨t413, A150, H⟩ := H
     replace H : ((impl_NumbersOfLengths.f kj7 t413).bind fun bt416 => ((spec_NumbersOfLengths.f kj7 t413).bind fun bt420 => ((impl_FactorsOf.f kj7 t413).bind fun bt424 => ((spec_FactorsOf.f kj7 t413).bind fun bt428 => ((impl_FullPlacements.f kj7 t413).bind fun bt432 => ((spec_FullPlacements.f kj7 t413).bind fun bt434 => ((impl_BoardOfLengths.f kj7 t413).bind fun bt436 => ((spec_BoardOfLengths.f kj7 t413).bind fun bt443 => (if (bt416.2 != bt420.2) = true then (laws_FnFactorsTell.j1 kj7 l1 t405 t406 t409 t412 t413 bt416.1 bt416.2 bt424.1 bt432.1 true bt436.1 bt436.2.1 bt436.2.2.1) else ((laws_rSame.f kj7 bt416.1 bt420.1).bind fun t450 => (if t450 = true then (if (bt424.2 != bt428.2) = true then (laws_FnFactorsTell.j1 kj7 l1 t405 t406 t409 t412 t413 bt416.1 bt416.2 bt424.1 bt432.1 true bt436.1 bt436.2.1 bt436.2.2.1) else ((laws_rSame.f kj7 bt424.1 bt428.1).bind fun t451 => (if t451 = true then (if (bt432.2 != bt434.2) = true then (laws_FnFactorsTell.j1 kj7 l1 t405 t406 t409 t412 t413 bt416.1 bt416.2 bt424.1 bt432.1 true bt436.1 bt436.2.1 bt436.2.2.1) else (if bt432.1 = bt434.1 then (if (bt436.2.2.2 != bt443.2.2.2) = true then (laws_FnFactorsTell.j1 kj7 l1 t405 t406 t409 t412 t413 bt416.1 bt416.2 bt424.1 bt432.1 true bt436.1 bt436.2.1 bt436.2.2.1) else ((laws_rSameBoard.f kj7 bt436.1 bt436.2.1 bt436.2.2.1 bt443.1 bt443.2.1 bt443.2.2.1).bind fun t452 => (if t452 = true then ((impl_AreLengths.f kj7 t413).bind fun t453 => (if (bt416.2 != t453) = true then (laws_FnFactorsTell.j1 kj7 l1 t405 t406 t409 t412 t413 bt416.1 bt416.2 bt424.1 bt432.1 true bt436.1 bt436.2.1 bt436.2.2.1) else (if (bt424.2 != bt416.2) = true then (laws_FnFactorsTell.j1 kj7 l1 t405 t406 t409 t412 t413 bt416.1 bt416.2 bt424.1 bt432.1 true bt436.1 bt436.2.1 bt436.2.2.1) else (if (bt432.2 != bt416.2) = true then (laws_FnFactorsTell.j1 kj7 l1 t405 t406 t409 t412 t413 bt416.1 bt416.2 bt424.1 bt432.1 true bt436.1 bt436.2.1 bt436.2.2.1) else (laws_FnFactorsTell.j1 kj7 l1 t405 t406 t409 t412 t413 bt416.1 bt416.2 bt424.1 bt432.1 (bt436.2.2.2 != bt416.2) bt436.1 bt436.2.1 bt436.2.2.1))))) else (laws_FnFactorsTell.j1 kj7 l1 t405 t406 t409 t412 t413 bt416.1 bt416.2 bt424.1 bt432.1 true bt436.1 bt436.2.1 bt436.2.2.1)))) else (laws_FnFactorsTell.j1 kj7 l1 t405 t406 t409 t412 t413 bt416.1 bt416.2 bt424.1 bt432.1 true bt436.1 bt436.2.1 bt436.2.2.1))) else (laws_FnFactorsTell.j1 kj7 l1 t405 t406 t409 t412 t413 bt416.1 bt416.2 bt424.1 bt432.1 true bt436.1 bt436.2.1 bt436.2.2.1)))) else (laws_FnFactorsTell.j1 kj7 l1 t405 t406 t409 t412 t413 bt416.1 bt416.2 bt424.1 bt432.1 true bt436.1 bt436.2.1 bt436.2.2.1)))))))))))) = some true := H
     have A15 := Aside0.mk A150
     clear A150
     replace H := Option.bind_eq_some_iff.mp H
     obtain ⟨⟨t416, t417⟩, A160, H⟩ := H
     replace H : ((spec_NumbersOfLengths.f kj7 t413).bind fun bt420 => ((impl_FactorsOf.f kj7 t413).bind fun bt424 => ((spec_FactorsOf.f kj7 t413).bind fun bt428 => ((impl_FullPlacements.f kj7 t413).bind fun bt432 => ((spec_FullPlacements.f kj7 t413).bind fun bt434 => ((impl_BoardOfLengths.f kj7 t413).bind fun bt436 => ((spec_BoardOfLengths.f kj7 t413).bind fun bt443 => (if (t417 != bt420.2) = true then (laws_FnFactorsTell.j1 kj7 l1 t405 t406 t409 t412 t413 t416 t417 bt424.1 bt432.1 true bt436.1 bt436.2.1 bt436.2.2.1) else ((laws_rSame.f kj7 t416 bt420.1).bind fun t450 => (if t450 = true then (if (bt424.2 != bt428.2) = true then (laws_FnFactorsTell.j1 kj7 l1 t405 t406 t409 t412 t413 t416 t417 bt424.1 bt432.1 true bt436.1 bt436.2.1 bt436.2.2.1) else ((laws_rSame.f kj7 bt424.1 bt428.1).bind fun t451 => (if t451 = true then (if (bt432.2 != bt434.2) = true then (laws_FnFactorsTell.j1 kj7 l1 t405 t406 t409 t412 t413 t416 t417 bt424.1 bt432.1 true bt436.1 bt436.2.1 bt436.2.2.1) else (if bt432.1 = bt434.1 then (if (bt436.2.2.2 != bt443.2.2.2) = true then (laws_FnFactorsTell.j1 kj7 l1 t405 t406 t409 t412 t413 t416 t417 bt424.1 bt432.1 true bt436.1 bt436.2.1 bt436.2.2.1) else ((laws_rSameBoard.f kj7 bt436.1 bt436.2.1 bt436.2.2.1 bt443.1 bt443.2.1 bt443.2.2.1).bind fun t452 => (if t452 = true then ((impl_AreLengths.f kj7 t413).bind fun t453 => (if (t417 != t453) = true then (laws_FnFactorsTell.j1 kj7 l1 t405 t406 t409 t412 t413 t416 t417 bt424.1 bt432.1 true bt436.1 bt436.2.1 bt436.2.2.1) else (if (bt424.2 != t417) = true then (laws_FnFactorsTell.j1 kj7 l1 t405 t406 t409 t412 t413 t416 t417 bt424.1 bt432.1 true bt436.1 bt436.2.1 bt436.2.2.1) else (if (bt432.2 != t417) = true then (laws_FnFactorsTell.j1 kj7 l1 t405 t406 t409 t412 t413 t416 t417 bt424.1 bt432.1 true bt436.1 bt436.2.1 bt436.2.2.1) else (laws_FnFactorsTell.j1 kj7 l1 t405 t406 t409 t412 t413 t416 t417 bt424.1 bt432.1 (bt436.2.2.2 != t417) bt436.1 bt436.2.1 bt436.2.2.1))))) else (laws_FnFactorsTell.j1 kj7 l1 t405 t406 t409 t412 t413 t416 t417 bt424.1 bt432.1 true bt436.1 bt436.2.1 bt436.2.2.1)))) else (laws_FnFactorsTell.j1 kj7 l1 t405 t406 t409 t412 t413 t416 t417 bt424.1 bt432.1 true bt436.1 bt436.2.1 bt436.2.2.1))) else (laws_FnFactorsTell.j1 kj7 l1 t405 t406 t409 t412 t413 t416 t417 bt424.1 bt432.1 true bt436.1 bt436.2.1 bt436.2.2.1)))) else (laws_FnFactorsTell.j1 kj7 l1 t405 t406 t409 t412 t413 t416 t417 bt424.1 bt432.1 true bt436.1 bt436.2.1 bt436.2.2.1))))))))))) = some true := H
     have A16 := Aside0.mk A160
     clear A160
     replace H := Option.bind_eq_some_iff.mp H
     obtain ⟨⟨t420, t421⟩, A170, H⟩ := H
     replace H : ((impl_FactorsOf.f kj7 t413).bind fun bt424 => ((spec_FactorsOf.f kj7 t413).bind fun bt428 => ((impl_FullPlacements.f kj7 t413).bind fun bt432 => ((spec_FullPlacements.f kj7 t413).bind fun bt434 => ((impl_BoardOfLengths.f kj7 t413).bind fun bt436 => ((spec_BoardOfLengths.f kj7 t413).bind fun bt443 => (if (t417 != t421) = true then (laws_FnFactorsTell.j1 kj7 l1 t405 t406 t409 t412 t413 t416 t417 bt424.1 bt432.1 true bt436.1 bt436.2.1 bt436.2.2.1) else ((laws_rSame.f kj7 t416 t420).bind fun t450 => (if t450 = true then (if (bt424.2 != bt428.2) = true then (laws_FnFactorsTell.j1 kj7 l1 t405 t406 t409 t412 t413 t416 t417 bt424.1 bt432.1 true bt436.1 bt436.2.1 bt436.2.2.1) else ((laws_rSame.f kj7 bt424.1 bt428.1).bind fun t451 => (if t451 = true then (if (bt432.2 != bt434.2) = true then (laws_FnFactorsTell.j1 kj7 l1 t405 t406 t409 t412 t413 t416 t417 bt424.1 bt432.1 true bt436.1 bt436.2.1 bt436.2.2.1) else (if bt432.1 = bt434.1 then (if (bt436.2.2.2 != bt443.2.2.2) = true then (laws_FnFactorsTell.j1 kj7 l1 t405 t406 t409 t412 t413 t416 t417 bt424.1 bt432.1 true bt436.1 bt436.2.1 bt436.2.2.1) else ((laws_rSameBoard.f kj7 bt436.1 bt436.2.1 bt436.2.2.1 bt443.1 bt443.2.1 bt443.2.2.1).bind fun t452 => (if t452 = true then ((impl_AreLengths.f kj7 t413).bind fun t453 => (if (t417 != t453) = true then (laws_FnFactorsTell.j1 kj7 l1 t405 t406 t409 t412 t413 t416 t417 bt424.1 bt432.1 true bt436.1 bt436.2.1 bt436.2.2.1) else (if (bt424.2 != t417) = true then (laws_FnFactorsTell.j1 kj7 l1 t405 t406 t409 t412 t413 t416 t417 bt424.1 bt432.1 true bt436.1 bt436.2.1 bt436.2.2.1) else (if (bt432.2 != t417) = true then (laws_FnFactorsTell.j1 kj7 l1 t405 t406 t409 t412 t413 t416 t417 bt424.1 bt432.1 true bt436.1 bt436.2.1 bt436.2.2.1) else (laws_FnFactorsTell.j1 kj7 l1 t405 t406 t409 t412 t413 t416 t417 bt424.1 bt432.1 (bt436.2.2.2 != t417) bt436.1 bt436.2.1 bt436.2.2.1))))) else (laws_FnFactorsTell.j1 kj7 l1 t405 t406 t409 t412 t413 t416 t417 bt424.1 bt432.1 true bt436.1 bt436.2.1 bt436.2.2.1)))) else (laws_FnFactorsTell.j1 kj7 l1 t405 t406 t409 t412 t413 t416 t417 bt424.1 bt432.1 true bt436.1 bt436.2.1 bt436.2.2.1))) else (laws_FnFactorsTell.j1 kj7 l1 t405 t406 t409 t412 t413 t416 t417 bt424.1 bt432.1 true bt436.1 bt436.2.1 bt436.2.2.1)))) else (laws_FnFactorsTell.j1 kj7 l1 t405 t406 t409 t412 t413 t416 t417 bt424.1 bt432.1 true bt436.1 bt436.2.1 bt436.2.2.1)))))))))) = some true := H
     have A17 := Aside0.mk A170
     clear A170
     replace H := Option.bind_eq_some_iff.mp H
     obtain ⟨⟨t424, t425⟩, A180, H⟩ := H
     replace H : ((spec_FactorsOf.f kj7 t413).bind fun bt428 => ((impl_FullPlacements.f kj7 t413).bind fun bt432 => ((spec_FullPlacements.f kj7 t413).bind fun bt434 => ((impl_BoardOfLengths.f kj7 t413).bind fun bt436 => ((spec_BoardOfLengths.f kj7 t413).bind fun bt443 => (if (t417 != t421) = true then (laws_FnFactorsTell.j1 kj7 l1 t405 t406 t409 t412 t413 t416 t417 t424 bt432.1 true bt436.1 bt436.2.1 bt436.2.2.1) else ((laws_rSame.f kj7 t416 t420).bind fun t450 => (if t450 = true then (if (t425 != bt428.2) = true then (laws_FnFactorsTell.j1 kj7 l1 t405 t406 t409 t412 t413 t416 t417 t424 bt432.1 true bt436.1 bt436.2.1 bt436.2.2.1) else ((laws_rSame.f kj7 t424 bt428.1).bind fun t451 => (if t451 = true then (if (bt432.2 != bt434.2) = true then (laws_FnFactorsTell.j1 kj7 l1 t405 t406 t409 t412 t413 t416 t417 t424 bt432.1 true bt436.1 bt436.2.1 bt436.2.2.1) else (if bt432.1 = bt434.1 then (if (bt436.2.2.2 != bt443.2.2.2) = true then (laws_FnFactorsTell.j1 kj7 l1 t405 t406 t409 t412 t413 t416 t417 t424 bt432.1 true bt436.1 bt436.2.1 bt436.2.2.1) else ((laws_rSameBoard.f kj7 bt436.1 bt436.2.1 bt436.2.2.1 bt443.1 bt443.2.1 bt443.2.2.1).bind fun t452 => (if t452 = true then ((impl_AreLengths.f kj7 t413).bind fun t453 => (if (t417 != t453) = true then (laws_FnFactorsTell.j1 kj7 l1 t405 t406 t409 t412 t413 t416 t417 t424 bt432.1 true bt436.1 bt436.2.1 bt436.2.2.1) else (if (t425 != t417) = true then (laws_FnFactorsTell.j1 kj7 l1 t405 t406 t409 t412 t413 t416 t417 t424 bt432.1 true bt436.1 bt436.2.1 bt436.2.2.1) else (if (bt432.2 != t417) = true then (laws_FnFactorsTell.j1 kj7 l1 t405 t406 t409 t412 t413 t416 t417 t424 bt432.1 true bt436.1 bt436.2.1 bt436.2.2.1) else (laws_FnFactorsTell.j1 kj7 l1 t405 t406 t409 t412 t413 t416 t417 t424 bt432.1 (bt436.2.2.2 != t417) bt436.1 bt436.2.1 bt436.2.2.1))))) else (laws_FnFactorsTell.j1 kj7 l1 t405 t406 t409 t412 t413 t416 t417 t424 bt432.1 true bt436.1 bt436.2.1 bt436.2.2.1)))) else (laws_FnFactorsTell.j1 kj7 l1 t405 t406 t409 t412 t413 t416 t417 t424 bt432.1 true bt436.1 bt436.2.1 bt436.2.2.1))) else (laws_FnFactorsTell.j1 kj7 l1 t405 t406 t409 t412 t413 t416 t417 t424 bt432.1 true bt436.1 bt436.2.1 bt436.2.2.1)))) else (laws_FnFactorsTell.j1 kj7 l1 t405 t406 t409 t412 t413 t416 t417 t424 bt432.1 true bt436.1 bt436.2.1 bt436.2.2.1))))))))) = some true := H
     have A18 := Aside0.mk A180
     clear A180
     replace H := Option.bind_eq_some_iff.mp H
     obtain ⟨⟨t428, t429⟩, A190, H⟩ := H
     replace H : ((impl_FullPlacements.f kj7 t413).bind fun bt432 => ((spec_FullPlacements.f kj7 t413).bind fun bt434 => ((impl_BoardOfLengths.f kj7 t413).bind fun bt436 => ((spec_BoardOfLengths.f kj7 t413).bind fun bt443 => (if (t417 != t421) = true then (laws_FnFactorsTell.j1 kj7 l1 t405 t406 t409 t412 t413 t416 t417 t424 bt432.1 true bt436.1 bt436.2.1 bt436.2.2.1) else ((laws_rSame.f kj7 t416 t420).bind fun t450 => (if t450 = true then (if (t425 != t429) = true then (laws_FnFactorsTell.j1 kj7 l1 t405 t406 t409 t412 t413 t416 t417 t424 bt432.1 true bt436.1 bt436.2.1 bt436.2.2.1) else ((laws_rSame.f kj7 t424 t428).bind fun t451 => (if t451 = true then (if (bt432.2 != bt434.2) = true then (laws_FnFactorsTell.j1 kj7 l1 t405 t406 t409 t412 t413 t416 t417 t424 bt432.1 true bt436.1 bt436.2.1 bt436.2.2.1) else (if bt432.1 = bt434.1 then (if (bt436.2.2.2 != bt443.2.2.2) = true then (laws_FnFactorsTell.j1 kj7 l1 t405 t406 t409 t412 t413 t416 t417 t424 bt432.1 true bt436.1 bt436.2.1 bt436.2.2.1) else ((laws_rSameBoard.f kj7 bt436.1 bt436.2.1 bt436.2.2.1 bt443.1 bt443.2.1 bt443.2.2.1).bind fun t452 => (if t452 = true then ((impl_AreLengths.f kj7 t413).bind fun t453 => (if (t417 != t453) = true then (laws_FnFactorsTell.j1 kj7 l1 t405 t406 t409 t412 t413 t416 t417 t424 bt432.1 true bt436.1 bt436.2.1 bt436.2.2.1) else (if (t425 != t417) = true then (laws_FnFactorsTell.j1 kj7 l1 t405 t406 t409 t412 t413 t416 t417 t424 bt432.1 true bt436.1 bt436.2.1 bt436.2.2.1) else (if (bt432.2 != t417) = true then (laws_FnFactorsTell.j1 kj7 l1 t405 t406 t409 t412 t413 t416 t417 t424 bt432.1 true bt436.1 bt436.2.1 bt436.2.2.1) else (laws_FnFactorsTell.j1 kj7 l1 t405 t406 t409 t412 t413 t416 t417 t424 bt432.1 (bt436.2.2.2 != t417) bt436.1 bt436.2.1 bt436.2.2.1))))) else (laws_FnFactorsTell.j1 kj7 l1 t405 t406 t409 t412 t413 t416 t417 t424 bt432.1 true bt436.1 bt436.2.1 bt436.2.2.1)))) else (laws_FnFactorsTell.j1 kj7 l1 t405 t406 t409 t412 t413 t416 t417 t424 bt432.1 true bt436.1 bt436.2.1 bt436.2.2.1))) else (laws_FnFactorsTell.j1 kj7 l1 t405 t406 t409 t412 t413 t416 t417 t424 bt432.1 true bt436.1 bt436.2.1 bt436.2.2.1)))) else (laws_FnFactorsTell.j1 kj7 l1 t405 t406 t409 t412 t413 t416 t417 t424 bt432.1 true bt436.1 bt436.2.1 bt436.2.2.1)))))))) = some true := H
     have A19 := Aside0.mk A190
     clear A190
     replace H := Option.bind_eq_some_iff.mp H
     obtain ⟨⟨t432, t433⟩, A200, H⟩ := H
     replace H : ((spec_FullPlacements.f kj7 t413).bind fun bt434 => ((impl_BoardOfLengths.f kj7 t413).bind fun bt436 => ((spec_BoardOfLengths.f kj7 t413).bind fun bt443 => (if (t417 != t421) = true then (laws_FnFactorsTell.j1 kj7 l1 t405 t406 t409 t412 t413 t416 t417 t424 t432 true bt436.1 bt436.2.1 bt436.2.2.1) else ((laws_rSame.f kj7 t416 t420).bind fun t450 => (if t450 = true then (if (t425 != t429) = true then (laws_FnFactorsTell.j1 kj7 l1 t405 t406 t409 t412 t413 t416 t417 t424 t432 true bt436.1 bt436.2.1 bt436.2.2.1) else ((laws_rSame.f kj7 t424 t428).bind fun t451 => (if t451 = true then (if (t433 != bt434.2) = true then (laws_FnFactorsTell.j1 kj7 l1 t405 t406 t409 t412 t413 t416 t417 t424 t432 true bt436.1 bt436.2.1 bt436.2.2.1) else (if t432 = bt434.1 then (if (bt436.2.2.2 != bt443.2.2.2) = true then (laws_FnFactorsTell.j1 kj7 l1 t405 t406 t409 t412 t413 t416 t417 t424 t432 true bt436.1 bt436.2.1 bt436.2.2.1) else ((laws_rSameBoard.f kj7 bt436.1 bt436.2.1 bt436.2.2.1 bt443.1 bt443.2.1 bt443.2.2.1).bind fun t452 => (if t452 = true then ((impl_AreLengths.f kj7 t413).bind fun t453 => (if (t417 != t453) = true then (laws_FnFactorsTell.j1 kj7 l1 t405 t406 t409 t412 t413 t416 t417 t424 t432 true bt436.1 bt436.2.1 bt436.2.2.1) else (if (t425 != t417) = true then (laws_FnFactorsTell.j1 kj7 l1 t405 t406 t409 t412 t413 t416 t417 t424 t432 true bt436.1 bt436.2.1 bt436.2.2.1) else (if (t433 != t417) = true then (laws_FnFactorsTell.j1 kj7 l1 t405 t406 t409 t412 t413 t416 t417 t424 t432 true bt436.1 bt436.2.1 bt436.2.2.1) else (laws_FnFactorsTell.j1 kj7 l1 t405 t406 t409 t412 t413 t416 t417 t424 t432 (bt436.2.2.2 != t417) bt436.1 bt436.2.1 bt436.2.2.1))))) else (laws_FnFactorsTell.j1 kj7 l1 t405 t406 t409 t412 t413 t416 t417 t424 t432 true bt436.1 bt436.2.1 bt436.2.2.1)))) else (laws_FnFactorsTell.j1 kj7 l1 t405 t406 t409 t412 t413 t416 t417 t424 t432 true bt436.1 bt436.2.1 bt436.2.2.1))) else (laws_FnFactorsTell.j1 kj7 l1 t405 t406 t409 t412 t413 t416 t417 t424 t432 true bt436.1 bt436.2.1 bt436.2.2.1)))) else (laws_FnFactorsTell.j1 kj7 l1 t405 t406 t409 t412 t413 t416 t417 t424 t432 true bt436.1 bt436.2.1 bt436.2.2.1))))))) = some true := H
     have A20 := Aside0.mk A200
     clear A200
     replace H := Option.bind_eq_some_iff.mp H
     obtain ⟨⟨t434, t435⟩, A210, H⟩ := H
     replace H : ((impl_BoardOfLengths.f kj7 t413).bind fun bt436 => ((spec_BoardOfLengths.f kj7 t413).bind fun bt443 => (if (t417 != t421) = true then (laws_FnFactorsTell.j1 kj7 l1 t405 t406 t409 t412 t413 t416 t417 t424 t432 true bt436.1 bt436.2.1 bt436.2.2.1) else ((laws_rSame.f kj7 t416 t420).bind fun t450 => (if t450 = true then (if (t425 != t429) = true then (laws_FnFactorsTell.j1 kj7 l1 t405 t406 t409 t412 t413 t416 t417 t424 t432 true bt436.1 bt436.2.1 bt436.2.2.1) else ((laws_rSame.f kj7 t424 t428).bind fun t451 => (if t451 = true then (if (t433 != t435) = true then (laws_FnFactorsTell.j1 kj7 l1 t405 t406 t409 t412 t413 t416 t417 t424 t432 true bt436.1 bt436.2.1 bt436.2.2.1) else (if t432 = t434 then (if (bt436.2.2.2 != bt443.2.2.2) = true then (laws_FnFactorsTell.j1 kj7 l1 t405 t406 t409 t412 t413 t416 t417 t424 t432 true bt436.1 bt436.2.1 bt436.2.2.1) else ((laws_rSameBoard.f kj7 bt436.1 bt436.2.1 bt436.2.2.1 bt443.1 bt443.2.1 bt443.2.2.1).bind fun t452 => (if t452 = true then ((impl_AreLengths.f kj7 t413).bind fun t453 => (if (t417 != t453) = true then (laws_FnFactorsTell.j1 kj7 l1 t405 t406 t409 t412 t413 t416 t417 t424 t432 true bt436.1 bt436.2.1 bt436.2.2.1) else (if (t425 != t417) = true then (laws_FnFactorsTell.j1 kj7 l1 t405 t406 t409 t412 t413 t416 t417 t424 t432 true bt436.1 bt436.2.1 bt436.2.2.1) else (if (t433 != t417) = true then (laws_FnFactorsTell.j1 kj7 l1 t405 t406 t409 t412 t413 t416 t417 t424 t432 true bt436.1 bt436.2.1 bt436.2.2.1) else (laws_FnFactorsTell.j1 kj7 l1 t405 t406 t409 t412 t413 t416 t417 t424 t432 (bt436.2.2.2 != t417) bt436.1 bt436.2.1 bt436.2.2.1))))) else (laws_FnFactorsTell.j1 kj7 l1 t405 t406 t409 t412 t413 t416 t417 t424 t432 true bt436.1 bt436.2.1 bt436.2.2.1)))) else (laws_FnFactorsTell.j1 kj7 l1 t405 t406 t409 t412 t413 t416 t417 t424 t432 true bt436.1 bt436.2.1 bt436.2.2.1))) else (laws_FnFactorsTell.j1 kj7 l1 t405 t406 t409 t412 t413 t416 t417 t424 t432 true bt436.1 bt436.2.1 bt436.2.2.1)))) else (laws_FnFactorsTell.j1 kj7 l1 t405 t406 t409 t412 t413 t416 t417 t424 t432 true bt436.1 bt436.2.1 bt436.2.2.1)))))) = some true := H
     have A21 := Aside0.mk A210
     clear A210
     replace H := Option.bind_eq_some_iff.mp H
     obtain ⟨⟨t436, t437, t438, t441⟩, A220, H⟩ := H
     replace H : ((spec_BoardOfLengths.f kj7 t413).bind fun bt443 => (if (t417 != t421) = true then (laws_FnFactorsTell.j1 kj7 l1 t405 t406 t409 t412 t413 t416 t417 t424 t432 true t436 t437 t438) else ((laws_rSame.f kj7 t416 t420).bind fun t450 => (if t450 = true then (if (t425 != t429) = true then (laws_FnFactorsTell.j1 kj7 l1 t405 t406 t409 t412 t413 t416 t417 t424 t432 true t436 t437 t438) else ((laws_rSame.f kj7 t424 t428).bind fun t451 => (if t451 = true then (if (t433 != t435) = true then (laws_FnFactorsTell.j1 kj7 l1 t405 t406 t409 t412 t413 t416 t417 t424 t432 true t436 t437 t438) else (if t432 = t434 then (if (t441 != bt443.2.2.2) = true then (laws_FnFactorsTell.j1 kj7 l1 t405 t406 t409 t412 t413 t416 t417 t424 t432 true t436 t437 t438) else ((laws_rSameBoard.f kj7 t436 t437 t438 bt443.1 bt443.2.1 bt443.2.2.1).bind fun t452 => (if t452 = true then ((impl_AreLengths.f kj7 t413).bind fun t453 => (if (t417 != t453) = true then (laws_FnFactorsTell.j1 kj7 l1 t405 t406 t409 t412 t413 t416 t417 t424 t432 true t436 t437 t438) else (if (t425 != t417) = true then (laws_FnFactorsTell.j1 kj7 l1 t405 t406 t409 t412 t413 t416 t417 t424 t432 true t436 t437 t438) else (if (t433 != t417) = true then (laws_FnFactorsTell.j1 kj7 l1 t405 t406 t409 t412 t413 t416 t417 t424 t432 true t436 t437 t438) else (laws_FnFactorsTell.j1 kj7 l1 t405 t406 t409 t412 t413 t416 t417 t424 t432 (t441 != t417) t436 t437 t438))))) else (laws_FnFactorsTell.j1 kj7 l1 t405 t406 t409 t412 t413 t416 t417 t424 t432 true t436 t437 t438)))) else (laws_FnFactorsTell.j1 kj7 l1 t405 t406 t409 t412 t413 t416 t417 t424 t432 true t436 t437 t438))) else (laws_FnFactorsTell.j1 kj7 l1 t405 t406 t409 t412 t413 t416 t417 t424 t432 true t436 t437 t438)))) else (laws_FnFactorsTell.j1 kj7 l1 t405 t406 t409 t412 t413 t416 t417 t424 t432 true t436 t437 t438))))) = some true := H
     have A22 := Aside0.mk A220
     clear A220
     replace H := Option.bind_eq_some_iff.mp H
     obtain ⟨⟨t443, t444, t445, t448⟩, A230, H⟩ := H
     replace H : (if (t417 != t421) = true then (laws_FnFactorsTell.j1 kj7 l1 t405 t406 t409 t412 t413 t416 t417 t424 t432 true t436 t437 t438) else ((laws_rSame.f kj7 t416 t420).bind fun t450 => (if t450 = true then (if (t425 != t429) = true then (laws_FnFactorsTell.j1 kj7 l1 t405 t406 t409 t412 t413 t416 t417 t424 t432 true t436 t437 t438) else ((laws_rSame.f kj7 t424 t428).bind fun t451 => (if t451 = true then (if (t433 != t435) = true then (laws_FnFactorsTell.j1 kj7 l1 t405 t406 t409 t412 t413 t416 t417 t424 t432 true t436 t437 t438) else (if t432 = t434 then (if (t441 != t448) = true then (laws_FnFactorsTell.j1 kj7 l1 t405 t406 t409 t412 t413 t416 t417 t424 t432 true t436 t437 t438) else ((laws_rSameBoard.f kj7 t436 t437 t438 t443 t444 t445).bind fun t452 => (if t452 = true then ((impl_AreLengths.f kj7 t413).bind fun t453 => (if (t417 != t453) = true then (laws_FnFactorsTell.j1 kj7 l1 t405 t406 t409 t412 t413 t416 t417 t424 t432 true t436 t437 t438) else (if (t425 != t417) = true then (laws_FnFactorsTell.j1 kj7 l1 t405 t406 t409 t412 t413 t416 t417 t424 t432 true t436 t437 t438) else (if (t433 != t417) = true then (laws_FnFactorsTell.j1 kj7 l1 t405 t406 t409 t412 t413 t416 t417 t424 t432 true t436 t437 t438) else (laws_FnFactorsTell.j1 kj7 l1 t405 t406 t409 t412 t413 t416 t417 t424 t432 (t441 != t417) t436 t437 t438))))) else (laws_FnFactorsTell.j1 kj7 l1 t405 t406 t409 t412 t413 t416 t417 t424 t432 true t436 t437 t438)))) else (laws_FnFactorsTell.j1 kj7 l1 t405 t406 t409 t412 t413 t416 t417 t424 t432 true t436 t437 t438))) else (laws_FnFactorsTell.j1 kj7 l1 t405 t406 t409 t412 t413 t416 t417 t424 t432 true t436 t437 t438)))) else (laws_FnFactorsTell.j1 kj7 l1 t405 t406 t409 t412 t413 t416 t417 t424 t432 true t436 t437 t438)))) = some true := H
     have A23 := Aside0.mk A230
     clear A230
     have HC24 := Aside0.mk H
     clear H
     go_upto_region 17 with (first | ((with_reducible refine gate_callee (f := 14) rfl ?_); refine goesL_ (some 70) rfl rfl Try.func14 (by kernel_rfl) rfl #[.slice A1 l1.length c1] rfl (by (try simp only [List.map_toArray, List.map_cons, List.map_nil]); try rfl) ?_; (with_reducible refine (spec_DrawNumbersOfLengths.calls kj7 _ _ l1 t413 _ ?side1 ?side2 A15.out).mono ?_); (case side1 => repeat (first | exact (Kd.C_below HR1.out HB.out) | (with_reducible first | refine Kd.C_alloc ?_ _ | refine Kd.C_drewN ?_ _ | refine Kd.C_drew ?_))); (case side2 => exact HC1.out); rintro e w25 ⟨v414, rfl, ho0, hb⟩; refine ⟨_, rfl, ?_⟩; have n1_ := am (Kd.R_lower (Kd.R_new' ho0 (sqL Oq17)) (below_size (by repeat with_reducible first | exact HB.out | apply pw_below_drewN | apply below_drew1))); have n2_ := am (below_step (by repeat with_reducible first | exact HB.out | apply pw_below_drewN | apply below_drew1) hb); clear HB; replace Oq17 := sqE Oq17 ho0 hb; have Oq1 := n1_; have HB := n2_; clear n1_ n2_; (try clear hb); (try clear hb2); (try clear hk); (try clear hi); (try clear ho0); obtain ⟨Ao26, co26, eo26⟩ := Kd.R_slice Oq1.out; subst eo26) | ((with_reducible refine gate_callee (f := 15) rfl ?_); refine goesL_ (some 73) rfl rfl Try.func15 (by kernel_rfl) rfl #[.slice Ao26 t413.length co26] rfl (by (try simp only [List.map_toArray, List.map_cons, List.map_nil]); try rfl) ?_; (with_reducible refine (impl_NumbersOfLengths.calls kj7 _ _ t413 t416 t417 _ ?side1 ?side2 A16.out).mono ?_); (case side1 => repeat (first | exact (Kd.R_reads' Oq1.out).2.2 | (with_reducible first | refine Kd.C_alloc ?_ _ | refine Kd.C_drewN ?_ _ | refine Kd.C_drew ?_))); (case side2 => exact (Kd.R_reads' Oq1.out).2.1); rintro e w27 ⟨v418, rfl, ho0, hb⟩; refine ⟨_, rfl, ?_⟩; have n2_ := am (Kd.R_lower (Kd.R_new' (Kd.R_new' ho0 (sqL Oq17)) (sqL Oq1)) (below_size (by repeat with_reducible first | exact HB.out | apply pw_below_drewN | apply below_drew1))); have n3_ := am (below_step (by repeat with_reducible first | exact HB.out | apply pw_below_drewN | apply below_drew1) hb); clear HB; replace Oq17 := sqE Oq17 ho0 hb; replace Oq1 := sqE Oq1 ho0 hb; have Oq2 := n2_; have HB := n3_; clear n2_ n3_; (try clear hb); (try clear hb2); (try clear hk); (try clear hi); (try clear ho0)) | ((with_reducible refine gate_callee (f := 16) rfl ?_); refine goesL_ (some 78) rfl rfl Try.func16 (by kernel_rfl) rfl #[.slice Ao26 t413.length co26] rfl (by (try simp only [List.map_toArray, List.map_cons, List.map_nil]); try rfl) ?_; (with_reducible refine (spec_NumbersOfLengths.calls kj7 _ _ t413 t420 t421 _ ?side1 ?side2 A17.out).mono ?_); (case side1 => repeat (first | exact (Kd.R_reads' Oq1.out).2.2 | (with_reducible first | refine Kd.C_alloc ?_ _ | refine Kd.C_drewN ?_ _ | refine Kd.C_drew ?_))); (case side2 => exact (Kd.R_reads' Oq1.out).2.1); rintro e w28 ⟨v422, rfl, ho0, hb⟩; refine ⟨_, rfl, ?_⟩; have n3_ := am (Kd.R_lower (Kd.R_new' (Kd.R_new' (Kd.R_new' ho0 (sqL Oq17)) (sqL Oq1)) (sqL Oq2)) (below_size (by repeat with_reducible first | exact HB.out | apply pw_below_drewN | apply below_drew1))); have n4_ := am (below_step (by repeat with_reducible first | exact HB.out | apply pw_below_drewN | apply below_drew1) hb); clear HB; replace Oq17 := sqE Oq17 ho0 hb; replace Oq1 := sqE Oq1 ho0 hb; replace Oq2 := sqE Oq2 ho0 hb; have Oq3 := n3_; have HB := n4_; clear n3_ n4_; (try clear hb); (try clear hb2); (try clear hk); (try clear hi); (try clear ho0)) | ((with_reducible refine gate_callee (f := 17) rfl ?_); refine goesL_ (some 83) rfl rfl Try.func17 (by kernel_rfl) rfl #[.slice Ao26 t413.length co26] rfl (by (try simp only [List.map_toArray, List.map_cons, List.map_nil]); try rfl) ?_; (with_reducible refine (impl_FactorsOf.calls kj7 _ _ t413 t424 t425 _ ?side1 ?side2 A18.out).mono ?_); (case side1 => repeat (first | exact (Kd.R_reads' Oq1.out).2.2 | (with_reducible first | refine Kd.C_alloc ?_ _ | refine Kd.C_drewN ?_ _ | refine Kd.C_drew ?_))); (case side2 => exact (Kd.R_reads' Oq1.out).2.1); rintro e w29 ⟨v426, rfl, ho0, hb⟩; refine ⟨_, rfl, ?_⟩; have n4_ := am (Kd.R_lower (Kd.R_new' (Kd.R_new' (Kd.R_new' (Kd.R_new' ho0 (sqL Oq17)) (sqL Oq1)) (sqL Oq2)) (sqL Oq3)) (below_size (by repeat with_reducible first | exact HB.out | apply pw_below_drewN | apply below_drew1))); have n5_ := am (below_step (by repeat with_reducible first | exact HB.out | apply pw_below_drewN | apply below_drew1) hb); clear HB; replace Oq17 := sqE Oq17 ho0 hb; replace Oq1 := sqE Oq1 ho0 hb; replace Oq2 := sqE Oq2 ho0 hb; replace Oq3 := sqE Oq3 ho0 hb; have Oq4 := n4_; have HB := n5_; clear n4_ n5_; (try clear hb); (try clear hb2); (try clear hk); (try clear hi); (try clear ho0)) | ((with_reducible refine gate_callee (f := 18) rfl ?_); refine goesL_ (some 88) rfl rfl Try.func18 (by kernel_rfl) rfl #[.slice Ao26 t413.length co26] rfl (by (try simp only [List.map_toArray, List.map_cons, List.map_nil]); try rfl) ?_; (with_reducible refine (spec_FactorsOf.calls kj7 _ _ t413 t428 t429 _ ?side1 ?side2 A19.out).mono ?_); (case side1 => repeat (first | exact (Kd.R_reads' Oq1.out).2.2 | (with_reducible first | refine Kd.C_alloc ?_ _ | refine Kd.C_drewN ?_ _ | refine Kd.C_drew ?_))); (case side2 => exact (Kd.R_reads' Oq1.out).2.1); rintro e w30 ⟨v430, rfl, ho0, hb⟩; refine ⟨_, rfl, ?_⟩; have n5_ := am (Kd.R_lower (Kd.R_new' (Kd.R_new' (Kd.R_new' (Kd.R_new' (Kd.R_new' ho0 (sqL Oq17)) (sqL Oq1)) (sqL Oq2)) (sqL Oq3)) (sqL Oq4)) (below_size (by repeat with_reducible first | exact HB.out | apply pw_below_drewN | apply below_drew1))); have n6_ := am (below_step (by repeat with_reducible first | exact HB.out | apply pw_below_drewN | apply below_drew1) hb); clear HB; replace Oq17 := sqE Oq17 ho0 hb; replace Oq1 := sqE Oq1 ho0 hb; replace Oq2 := sqE Oq2 ho0 hb; replace Oq3 := sqE Oq3 ho0 hb; replace Oq4 := sqE Oq4 ho0 hb; have Oq5 := n5_; have HB := n6_; clear n5_ n6_; (try clear hb); (try clear hb2); (try clear hk); (try clear hi); (try clear ho0)) | ((with_reducible refine gate_callee (f := 19) rfl ?_); refine goesL_ (some 93) rfl rfl Try.func19 (by kernel_rfl) rfl #[.slice Ao26 t413.length co26] rfl (by (try simp only [List.map_toArray, List.map_cons, List.map_nil]); try rfl) ?_; (with_reducible refine (impl_FullPlacements.calls kj7 _ _ t413 t432 t433 _ ?side1 ?side2 A20.out).mono ?_); (case side1 => repeat (first | exact (Kd.R_reads' Oq1.out).2.2 | (with_reducible first | refine Kd.C_alloc ?_ _ | refine Kd.C_drewN ?_ _ | refine Kd.C_drew ?_))); (case side2 => exact (Kd.R_reads' Oq1.out).2.1); rintro e w31 ⟨rfl, hb⟩; refine ⟨_, rfl, ?_⟩; have n6_ := am (below_step (by repeat with_reducible first | exact HB.out | apply pw_below_drewN | apply below_drew1) hb); clear HB; replace Oq17 := sqR Oq17 hb; replace Oq1 := sqR Oq1 hb; replace Oq2 := sqR Oq2 hb; replace Oq3 := sqR Oq3 hb; replace Oq4 := sqR Oq4 hb; replace Oq5 := sqR Oq5 hb; have HB := n6_; clear n6_; (try clear hb); (try clear hb2); (try clear hk); (try clear hi)) | ((with_reducible refine gate_callee (f := 20) rfl ?_); refine goesL_ (some 98) rfl rfl Try.func20 (by kernel_rfl) rfl #[.slice Ao26 t413.length co26] rfl (by (try simp only [List.map_toArray, List.map_cons, List.map_nil]); try rfl) ?_; (with_reducible refine (spec_FullPlacements.calls kj7 _ _ t413 t434 t435 _ ?side1 ?side2 A21.out).mono ?_); (case side1 => repeat (first | exact (Kd.R_reads' Oq1.out).2.2 | (with_reducible first | refine Kd.C_alloc ?_ _ | refine Kd.C_drewN ?_ _ | refine Kd.C_drew ?_))); (case side2 => exact (Kd.R_reads' Oq1.out).2.1); rintro e w' ⟨rfl, ⟨nd, rfl⟩⟩; refine ⟨_, rfl, ?_⟩; (try (rw [drewN_self w31]; generalize hq_ : World.drewN w31 _ = w31; have n0_ : Aside0 (Kd.R (Kd.int .i64) 3 w31 w.heap.size (fun k_ => some k_ ≠ (v418 : Value).ownBlock ∧ some k_ ≠ (v422 : Value).ownBlock ∧ some k_ ≠ (v426 : Value).ownBlock ∧ some k_ ≠ (v430 : Value).ownBlock ∧ some k_ ≠ (.slice Ao10 t405.length co10 : Value).ownBlock) (.slice Ao26 t413.length co26) t413) := ⟨by rw [← hq_]; exact (by exact sqm Oq1 (fun _ hk => by first | exact ⟨hk.1.1.1.2, ⟨hk.1.1.2, ⟨hk.1.2, ⟨hk.2, hk.1.1.1.1.2⟩⟩⟩⟩ | (and_intros <;> first | trivial | simp only [hk, ne_eq, not_false_eq_true])))⟩; have n1_ : Aside0 (Kd.R (Kd.int .i64) 3 w31 w.heap.size (fun k_ => some k_ ≠ (.slice Ao26 t413.length co26 : Value).ownBlock ∧ some k_ ≠ (v422 : Value).ownBlock ∧ some k_ ≠ (v426 : Value).ownBlock ∧ some k_ ≠ (v430 : Value).ownBlock ∧ some k_ ≠ (.slice Ao10 t405.length co10 : Value).ownBlock) v418 t416) := ⟨by rw [← hq_]; exact (by exact sqm Oq2 (fun _ hk => by first | exact ⟨hk.1.1.1.2, ⟨hk.1.1.2, ⟨hk.1.2, ⟨hk.2, hk.1.1.1.1.2⟩⟩⟩⟩ | (and_intros <;> first | trivial | simp only [hk, ne_eq, not_false_eq_true])))⟩; have n2_ : Aside0 (Kd.R (Kd.int .i64) 3 w31 w.heap.size (fun k_ => some k_ ≠ (.slice Ao26 t413.length co26 : Value).ownBlock ∧ some k_ ≠ (v418 : Value).ownBlock ∧ some k_ ≠ (v426 : Value).ownBlock ∧ some k_ ≠ (v430 : Value).ownBlock ∧ some k_ ≠ (.slice Ao10 t405.length co10 : Value).ownBlock) v422 t420) := ⟨by rw [← hq_]; exact (by exact sqm Oq3 (fun _ hk => by first | exact ⟨hk.1.1.1.2, ⟨hk.1.1.2, ⟨hk.1.2, ⟨hk.2, hk.1.1.1.1.2⟩⟩⟩⟩ | (and_intros <;> first | trivial | simp only [hk, ne_eq, not_false_eq_true])))⟩; have n3_ : Aside0 (Kd.R (Kd.int .i64) 3 w31 w.heap.size (fun k_ => some k_ ≠ (.slice Ao26 t413.length co26 : Value).ownBlock ∧ some k_ ≠ (v418 : Value).ownBlock ∧ some k_ ≠ (v422 : Value).ownBlock ∧ some k_ ≠ (v430 : Value).ownBlock ∧ some k_ ≠ (.slice Ao10 t405.length co10 : Value).ownBlock) v426 t424) := ⟨by rw [← hq_]; exact (by exact sqm Oq4 (fun _ hk => by first | exact ⟨hk.1.1.1.2, ⟨hk.1.1.2, ⟨hk.1.2, ⟨hk.2, hk.1.1.1.1.2⟩⟩⟩⟩ | (and_intros <;> first | trivial | simp only [hk, ne_eq, not_false_eq_true])))⟩; have n4_ : Aside0 (Kd.R (Kd.int .i64) 3 w31 w.heap.size (fun k_ => some k_ ≠ (.slice Ao26 t413.length co26 : Value).ownBlock ∧ some k_ ≠ (v418 : Value).ownBlock ∧ some k_ ≠ (v422 : Value).ownBlock ∧ some k_ ≠ (v426 : Value).ownBlock ∧ some k_ ≠ (.slice Ao10 t405.length co10 : Value).ownBlock) v430 t428) := ⟨by rw [← hq_]; exact (by exact sqm Oq5 (fun _ hk => by first | exact ⟨hk.1.1.1.2, ⟨hk.1.1.2, ⟨hk.1.2, ⟨hk.2, hk.1.1.1.1.2⟩⟩⟩⟩ | (and_intros <;> first | trivial | simp only [hk, ne_eq, not_false_eq_true])))⟩; have n5_ : Aside0 (Kd.R (Kd.int .i64) 3 w31 w.heap.size (fun k_ => some k_ ≠ (.slice Ao26 t413.length co26 : Value).ownBlock ∧ some k_ ≠ (v418 : Value).ownBlock ∧ some k_ ≠ (v422 : Value).ownBlock ∧ some k_ ≠ (v426 : Value).ownBlock ∧ some k_ ≠ (v430 : Value).ownBlock) (.slice Ao10 t405.length co10) t405) := ⟨by rw [← hq_]; exact (by exact sqm Oq17 (fun _ hk => by first | exact ⟨hk.1.1.1.1.2, ⟨hk.1.1.1.2, ⟨hk.1.1.2, ⟨hk.1.2, hk.2⟩⟩⟩⟩ | (and_intros <;> first | trivial | simp only [hk, ne_eq, not_false_eq_true])))⟩; have n6_ : Aside0 (Below w.heap.size w w31) := ⟨by rw [← hq_]; exact (by repeat with_reducible first | exact HB.out | apply pw_below_drewN | apply below_drew1)⟩; clear Oq1 Oq2 Oq3 Oq4 Oq5 Oq17 HB hq_; have Oq1 := n0_; have Oq2 := n1_; have Oq3 := n2_; have Oq4 := n3_; have Oq5 := n4_; have Oq17 := n5_; have HB := n6_; clear n0_ n1_ n2_ n3_ n4_ n5_ n6_))) | ((with_reducible refine gate_callee (f := 21) rfl ?_); refine goesL_ (some 103) rfl rfl Try.func21 (by kernel_rfl) rfl #[.slice Ao26 t413.length co26] rfl (by (try simp only [List.map_toArray, List.map_cons, List.map_nil]); try rfl) ?_; (with_reducible refine (impl_BoardOfLengths.calls kj7 _ _ t413 t436 t437 t438 t441 _ ?side1 ?side2 A22.out).mono ?_); (case side1 => repeat (first | exact (Kd.R_reads' Oq1.out).2.2 | (with_reducible first | refine Kd.C_alloc ?_ _ | refine Kd.C_drewN ?_ _ | refine Kd.C_drew ?_))); (case side2 => exact (Kd.R_reads' Oq1.out).2.1); rintro e w32 ⟨v439, rfl, ho0, hb⟩; refine ⟨_, rfl, ?_⟩; have n6_ := am (Kd.R_lower (Kd.R_new' (Kd.R_new' (Kd.R_new' (Kd.R_new' (Kd.R_new' (Kd.R_new' ho0 (sqL Oq17)) (sqL Oq1)) (sqL Oq2)) (sqL Oq3)) (sqL Oq4)) (sqL Oq5)) (below_size (by repeat with_reducible first | exact HB.out | apply pw_below_drewN | apply below_drew1))); have n7_ := am (below_step (by repeat with_reducible first | exact HB.out | apply pw_below_drewN | apply below_drew1) hb); clear HB; replace Oq17 := sqE Oq17 ho0 hb; replace Oq1 := sqE Oq1 ho0 hb; replace Oq2 := sqE Oq2 ho0 hb; replace Oq3 := sqE Oq3 ho0 hb; replace Oq4 := sqE Oq4 ho0 hb; replace Oq5 := sqE Oq5 ho0 hb; have Oq6 := n6_; have HB := n7_; clear n6_ n7_; (try clear hb); (try clear hb2); (try clear hk); (try clear hi); (try clear ho0)) | ((with_reducible refine gate_dst (N := 24) rfl ?_); (try (refine gate_guard (by rfl) ?_; dsimp only)); refine box_event ?hg (N := 24) ?hd (cs := #[.int .i64 0, .int .i64 0, .slice none 0 0]) (t := 34) ?hr ?_; (case hd => rfl); (case hg => rfl); (case hr => first | (go_simp; done) | (go_simp; rfl)); intro gb442 hg w33 hbox hb; have n7_ := am (below_step (by repeat with_reducible first | exact HB.out | apply pw_below_drewN | apply below_drew1) hb); have n8_ := am (hbox); have n9_ := am ((by rw [hg]; exact (below_size (by repeat with_reducible first | exact HB.out | apply pw_below_drewN | apply below_drew1)) : w.heap.size ≤ gb442)); have n10_ := am ((by rw [hg]; exact (below_size (by repeat with_reducible first | exact HB.out | apply pw_below_drewN | apply below_drew1)) : w.heap.size ≤ gb442)); clear HB; replace Oq17 := sqR Oq17 hb; replace Oq1 := sqR Oq1 hb; replace Oq2 := sqR Oq2 hb; replace Oq3 := sqR Oq3 hb; replace Oq4 := sqR Oq4 hb; replace Oq5 := sqR Oq5 hb; replace Oq6 := sqR Oq6 hb; have HB := n7_; have BK442 := n8_; have GW442 := n9_; have GE442 := n10_; clear n7_ n8_ n9_ n10_; clear hb hbox hg; have zq3 : w33.cell? ⟨gb442, 0, none⟩ = some (.int .i64 0) := sqc BK442 0; have zq4 : w33.cell? ⟨gb442, 1, none⟩ = some (.int .i64 0) := sqc BK442 1; have zq5 : w33.cell? ⟨gb442, 2, none⟩ = some (.slice none 0 0) := sqc BK442 2; have fq3 := blk_frozen BK442.out 0; have fq4 := blk_frozen BK442.out 1; have fq5 := blk_frozen BK442.out 2; obtain ⟨Ao35, co35, eo35⟩ := Kd.R_slice Oq6.out; subst eo35) | ((with_reducible refine gate_callee (f := 22) rfl ?_); refine goesL_ (some 108) rfl rfl Try.func22 (by kernel_rfl) rfl #[.slice Ao26 t413.length co26] rfl (by (try simp only [List.map_toArray, List.map_cons, List.map_nil]); try rfl) ?_; (with_reducible refine (spec_BoardOfLengths.calls kj7 _ _ t413 t443 t444 t445 t448 _ ?side1 ?side2 A23.out).mono ?_); (case side1 => refine (Kd.R_reads' (e := 3) (base := w.heap.size) (ok := fun k_ => ((((((True ∧ some k_ ≠ (.slice Ao10 t405.length co10 : Value).ownBlock) ∧ some k_ ≠ (v418 : Value).ownBlock) ∧ some k_ ≠ (v422 : Value).ownBlock) ∧ some k_ ≠ (v426 : Value).ownBlock) ∧ some k_ ≠ (v430 : Value).ownBlock) ∧ some k_ ≠ (.slice Ao35 t438.length co35 : Value).ownBlock)) (n := t413.length) (c := co26) ?_).2.2; exact (by (with_reducible repeat (first | apply Kd.R_alloc | apply Kd.R_drewN | apply Kd.R_drew)); exact (Kd.R_mono (Kd.R_far (p := ⟨gb442, 2, none⟩) (Kd.R_far (p := ⟨gb442, 1, none⟩) (Kd.R_far (p := ⟨gb442, 0, none⟩) (Kd.R_types Oq1.out BK442.out (by decide)) (fun _ hk => hk.2) (.int .i64 t436)) (fun _ hk => hk.2) (.int .i64 t437)) (fun _ hk => hk.2) (.slice Ao35 t438.length co35)) (fun _ h_ => by first | exact h_.1 | (have hx_ := h_.1; and_intros <;> first | trivial | simp only [hx_, ne_eq, not_false_eq_true]))))); (case side2 => exact (Kd.R_reads' Oq1.out).2.1); rintro e w36 ⟨v446, rfl, ho0, hb⟩; refine ⟨_, rfl, ?_⟩; have n0_ := am (Kd.R_elder' (by (with_reducible repeat (first | apply Kd.R_alloc | apply Kd.R_drewN | apply Kd.R_drew)); exact (Kd.R_mono (Kd.R_far (p := ⟨gb442, 2, none⟩) (Kd.R_far (p := ⟨gb442, 1, none⟩) (Kd.R_far (p := ⟨gb442, 0, none⟩) (Kd.R_types Oq17.out BK442.out (by decide)) (fun _ hk => hk.2) (.int .i64 t436)) (fun _ hk => hk.2) (.int .i64 t437)) (fun _ hk => hk.2) (.slice Ao35 t438.length co35)) (fun _ h_ => h_.1))) (Kd.R_base ho0) hb); have n1_ := am (Kd.R_elder' (by (with_reducible repeat (first | apply Kd.R_alloc | apply Kd.R_drewN | apply Kd.R_drew)); exact (Kd.R_mono (Kd.R_far (p := ⟨gb442, 2, none⟩) (Kd.R_far (p := ⟨gb442, 1, none⟩) (Kd.R_far (p := ⟨gb442, 0, none⟩) (Kd.R_types Oq1.out BK442.out (by decide)) (fun _ hk => hk.2) (.int .i64 t436)) (fun _ hk => hk.2) (.int .i64 t437)) (fun _ hk => hk.2) (.slice Ao35 t438.length co35)) (fun _ h_ => h_.1))) (Kd.R_base ho0) hb); have n2_ := am (Kd.R_elder' (by (with_reducible repeat (first | apply Kd.R_alloc | apply Kd.R_drewN | apply Kd.R_drew)); exact (Kd.R_mono (Kd.R_far (p := ⟨gb442, 2, none⟩) (Kd.R_far (p := ⟨gb442, 1, none⟩) (Kd.R_far (p := ⟨gb442, 0, none⟩) (Kd.R_types Oq2.out BK442.out (by decide)) (fun _ hk => hk.2) (.int .i64 t436)) (fun _ hk => hk.2) (.int .i64 t437)) (fun _ hk => hk.2) (.slice Ao35 t438.length co35)) (fun _ h_ => h_.1))) (Kd.R_base ho0) hb); have n3_ := am (Kd.R_elder' (by (with_reducible repeat (first | apply Kd.R_alloc | apply Kd.R_drewN | apply Kd.R_drew)); exact (Kd.R_mono (Kd.R_far (p := ⟨gb442, 2, none⟩) (Kd.R_far (p := ⟨gb442, 1, none⟩) (Kd.R_far (p := ⟨gb442, 0, none⟩) (Kd.R_types Oq3.out BK442.out (by decide)) (fun _ hk => hk.2) (.int .i64 t436)) (fun _ hk => hk.2) (.int .i64 t437)) (fun _ hk => hk.2) (.slice Ao35 t438.length co35)) (fun _ h_ => h_.1))) (Kd.R_base ho0) hb); have n4_ := am (Kd.R_elder' (by (with_reducible repeat (first | apply Kd.R_alloc | apply Kd.R_drewN | apply Kd.R_drew)); exact (Kd.R_mono (Kd.R_far (p := ⟨gb442, 2, none⟩) (Kd.R_far (p := ⟨gb442, 1, none⟩) (Kd.R_far (p := ⟨gb442, 0, none⟩) (Kd.R_types Oq4.out BK442.out (by decide)) (fun _ hk => hk.2) (.int .i64 t436)) (fun _ hk => hk.2) (.int .i64 t437)) (fun _ hk => hk.2) (.slice Ao35 t438.length co35)) (fun _ h_ => h_.1))) (Kd.R_base ho0) hb); have n5_ := am (Kd.R_elder' (by (with_reducible repeat (first | apply Kd.R_alloc | apply Kd.R_drewN | apply Kd.R_drew)); exact (Kd.R_mono (Kd.R_far (p := ⟨gb442, 2, none⟩) (Kd.R_far (p := ⟨gb442, 1, none⟩) (Kd.R_far (p := ⟨gb442, 0, none⟩) (Kd.R_types Oq5.out BK442.out (by decide)) (fun _ hk => hk.2) (.int .i64 t436)) (fun _ hk => hk.2) (.int .i64 t437)) (fun _ hk => hk.2) (.slice Ao35 t438.length co35)) (fun _ h_ => h_.1))) (Kd.R_base ho0) hb); have n6_ := am (Kd.R_elder' (by (with_reducible repeat (first | apply Kd.R_alloc | apply Kd.R_drewN | apply Kd.R_drew)); exact (Kd.R_mono (Kd.R_far (p := ⟨gb442, 2, none⟩) (Kd.R_far (p := ⟨gb442, 1, none⟩) (Kd.R_far (p := ⟨gb442, 0, none⟩) (Kd.R_types Oq6.out BK442.out (by decide)) (fun _ hk => hk.2) (.int .i64 t436)) (fun _ hk => hk.2) (.int .i64 t437)) (fun _ hk => hk.2) (.slice Ao35 t438.length co35)) (fun _ h_ => h_.1))) (Kd.R_base ho0) hb); have n7_ := am (Kd.R_lower (Kd.R_new' (Kd.R_new' (Kd.R_new' (Kd.R_new' (Kd.R_new' (Kd.R_new' (Kd.R_new' ho0 (Kd.R_lt (by (with_reducible repeat (first | apply Kd.R_alloc | apply Kd.R_drewN | apply Kd.R_drew)); exact (Kd.R_mono (Kd.R_far (p := ⟨gb442, 2, none⟩) (Kd.R_far (p := ⟨gb442, 1, none⟩) (Kd.R_far (p := ⟨gb442, 0, none⟩) (Kd.R_types Oq17.out BK442.out (by decide)) (fun _ hk => hk.2) (.int .i64 t436)) (fun _ hk => hk.2) (.int .i64 t437)) (fun _ hk => hk.2) (.slice Ao35 t438.length co35)) (fun _ h_ => h_.1))))) (Kd.R_lt (by (with_reducible repeat (first | apply Kd.R_alloc | apply Kd.R_drewN | apply Kd.R_drew)); exact (Kd.R_mono (Kd.R_far (p := ⟨gb442, 2, none⟩) (Kd.R_far (p := ⟨gb442, 1, none⟩) (Kd.R_far (p := ⟨gb442, 0, none⟩) (Kd.R_types Oq1.out BK442.out (by decide)) (fun _ hk => hk.2) (.int .i64 t436)) (fun _ hk => hk.2) (.int .i64 t437)) (fun _ hk => hk.2) (.slice Ao35 t438.length co35)) (fun _ h_ => h_.1))))) (Kd.R_lt (by (with_reducible repeat (first | apply Kd.R_alloc | apply Kd.R_drewN | apply Kd.R_drew)); exact (Kd.R_mono (Kd.R_far (p := ⟨gb442, 2, none⟩) (Kd.R_far (p := ⟨gb442, 1, none⟩) (Kd.R_far (p := ⟨gb442, 0, none⟩) (Kd.R_types Oq2.out BK442.out (by decide)) (fun _ hk => hk.2) (.int .i64 t436)) (fun _ hk => hk.2) (.int .i64 t437)) (fun _ hk => hk.2) (.slice Ao35 t438.length co35)) (fun _ h_ => h_.1))))) (Kd.R_lt (by (with_reducible repeat (first | apply Kd.R_alloc | apply Kd.R_drewN | apply Kd.R_drew)); exact (Kd.R_mono (Kd.R_far (p := ⟨gb442, 2, none⟩) (Kd.R_far (p := ⟨gb442, 1, none⟩) (Kd.R_far (p := ⟨gb442, 0, none⟩) (Kd.R_types Oq3.out BK442.out (by decide)) (fun _ hk => hk.2) (.int .i64 t436)) (fun _ hk => hk.2) (.int .i64 t437)) (fun _ hk => hk.2) (.slice Ao35 t438.length co35)) (fun _ h_ => h_.1))))) (Kd.R_lt (by (with_reducible repeat (first | apply Kd.R_alloc | apply Kd.R_drewN | apply Kd.R_drew)); exact (Kd.R_mono (Kd.R_far (p := ⟨gb442, 2, none⟩) (Kd.R_far (p := ⟨gb442, 1, none⟩) (Kd.R_far (p := ⟨gb442, 0, none⟩) (Kd.R_types Oq4.out BK442.out (by decide)) (fun _ hk => hk.2) (.int .i64 t436)) (fun _ hk => hk.2) (.int .i64 t437)) (fun _ hk => hk.2) (.slice Ao35 t438.length co35)) (fun _ h_ => h_.1))))) (Kd.R_lt (by (with_reducible repeat (first | apply Kd.R_alloc | apply Kd.R_drewN | apply Kd.R_drew)); exact (Kd.R_mono (Kd.R_far (p := ⟨gb442, 2, none⟩) (Kd.R_far (p := ⟨gb442, 1, none⟩) (Kd.R_far (p := ⟨gb442, 0, none⟩) (Kd.R_types Oq5.out BK442.out (by decide)) (fun _ hk => hk.2) (.int .i64 t436)) (fun _ hk => hk.2) (.int .i64 t437)) (fun _ hk => hk.2) (.slice Ao35 t438.length co35)) (fun _ h_ => h_.1))))) (Kd.R_lt (by (with_reducible repeat (first | apply Kd.R_alloc | apply Kd.R_drewN | apply Kd.R_drew)); exact (Kd.R_mono (Kd.R_far (p := ⟨gb442, 2, none⟩) (Kd.R_far (p := ⟨gb442, 1, none⟩) (Kd.R_far (p := ⟨gb442, 0, none⟩) (Kd.R_types Oq6.out BK442.out (by decide)) (fun _ hk => hk.2) (.int .i64 t436)) (fun _ hk => hk.2) (.int .i64 t437)) (fun _ hk => hk.2) (.slice Ao35 t438.length co35)) (fun _ h_ => h_.1))))) (below_size (by repeat with_reducible first | exact HB.out | apply pw_below_drewN | apply below_drew1 | refine below_set ?_ GE442.out))); have n8_ := am (blk_below (g := gb442) (o := .cells #[.int .i64 t436, .int .i64 t437, .slice Ao35 t438.length co35] 34 (0, 0)) (by (with_reducible repeat (first | refine blk_drewN ?_ _ | refine blk_drew ?_ | refine blk_alloc ?_ _)); refine blk_put (cs := #[.int .i64 t436, .int .i64 t437, .slice none 0 0]) ?_ 2 _ rfl; (with_reducible repeat (first | refine blk_drewN ?_ _ | refine blk_drew ?_ | refine blk_alloc ?_ _)); refine blk_put (cs := #[.int .i64 t436, .int .i64 0, .slice none 0 0]) ?_ 1 _ rfl; (with_reducible repeat (first | refine blk_drewN ?_ _ | refine blk_drew ?_ | refine blk_alloc ?_ _)); refine blk_put (cs := #[.int .i64 0, .int .i64 0, .slice none 0 0]) ?_ 0 _ rfl; (with_reducible repeat (first | refine blk_drewN ?_ _ | refine blk_drew ?_ | refine blk_alloc ?_ _)); exact BK442.out) hb); have n9_ := am (below_step (by repeat with_reducible first | exact HB.out | apply pw_below_drewN | apply below_drew1 | refine below_set ?_ GE442.out) hb); clear Oq17; clear Oq1; clear Oq2; clear Oq3; clear Oq4; clear Oq5; clear Oq6; clear BK442; clear HB; have Oq17 := n0_; have Oq1 := n1_; have Oq2 := n2_; have Oq3 := n3_; have Oq4 := n4_; have Oq5 := n5_; have Oq6 := n6_; have Oq7 := n7_; have BK442 := n8_; have HB := n9_; clear n0_ n1_ n2_ n3_ n4_ n5_ n6_ n7_ n8_ n9_; (try clear hb); (try clear hb2); (try clear hk); (try clear hi); (try clear ho0)) | ((with_reducible refine gate_dst (N := 26) rfl ?_); (try (refine gate_guard (by rfl) ?_; dsimp only)); refine box_event ?hg (N := 26) ?hd (cs := #[.int .i64 0, .int .i64 0, .slice none 0 0]) (t := 34) ?hr ?_; (case hd => rfl); (case hg => rfl); (case hr => first | (go_simp; done) | (go_simp; rfl)); intro gb449 hg w37 hbox hb; have n9_ := am (below_step (by repeat with_reducible first | exact HB.out | apply pw_below_drewN | apply below_drew1 | refine below_set ?_ GE442.out) hb); have n10_ := am (hbox); have n11_ := am ((by rw [hg]; exact (below_size (by repeat with_reducible first | exact HB.out | apply pw_below_drewN | apply below_drew1 | refine below_set ?_ GE442.out)) : w.heap.size ≤ gb449)); have n12_ := am ((by rw [hg]; exact (below_size (by repeat with_reducible first | exact HB.out | apply pw_below_drewN | apply below_drew1 | refine below_set ?_ GE442.out)) : w.heap.size ≤ gb449)); have n13_ := am ((by rw [hg]; exact Nat.ne_of_lt (sqT BK442) : gb442 ≠ gb449)); have n14_ := am ((by rw [hg]; exact Nat.ne_of_gt (sqT BK442) : gb449 ≠ gb442)); clear HB; replace Oq17 := sqR Oq17 hb; replace Oq1 := sqR Oq1 hb; replace Oq2 := sqR Oq2 hb; replace Oq3 := sqR Oq3 hb; replace Oq4 := sqR Oq4 hb; replace Oq5 := sqR Oq5 hb; replace Oq6 := sqR Oq6 hb; replace Oq7 := sqR Oq7 hb; replace BK442 := sqB BK442 hb; have HB := n9_; have BK449 := n10_; have GW449 := n11_; have GE449 := n12_; have Nq0 := n13_; have Nq2 := n14_; clear n9_ n10_ n11_ n12_ n13_ n14_; clear hb hbox hg; have bq2 := Nq2.out; have cq2 := Nq0.out; have zq6 : w37.cell? ⟨gb449, 0, none⟩ = some (.int .i64 0) := sqc BK449 0; have zq7 : w37.cell? ⟨gb449, 1, none⟩ = some (.int .i64 0) := sqc BK449 1; have zq8 : w37.cell? ⟨gb449, 2, none⟩ = some (.slice none 0 0) := sqc BK449 2; have fq6 := blk_frozen BK449.out 0; have fq7 := blk_frozen BK449.out 1; have fq8 := blk_frozen BK449.out 2; obtain ⟨Ao40, co40, eo40⟩ := Kd.R_slice Oq7.out; subst eo40))
     (try simp only [Act.put, List.setIfInBounds_toArray, List.set_cons_zero, List.set_cons_succ])
     go_cut [172] (fun v172 wc => ∃ (kq : Nat) (x172_23 : Bool), v172 = .bool x172_23 ∧ Aside0 (laws_FnFactorsTell.j1 kq l1 t405 t406 t409 t412 t413 t416 t417 t424 t432 x172_23 t436 t437 t438 = some true) ∧ Aside0 (kq ≤ kj7) ∧ Aside0 (Kd.R (Kd.int .i64) 3 wc w.heap.size (fun k_ => some k_ ≠ ((.slice Ao26 t413.length co26) : Value).ownBlock ∧ some k_ ≠ (v418 : Value).ownBlock ∧ some k_ ≠ (v426 : Value).ownBlock ∧ some k_ ≠ ((.slice Ao35 t438.length co35) : Value).ownBlock ∧ some k_ ≠ ((.slice Ao40 t445.length co40) : Value).ownBlock) (.slice Ao10 t405.length co10) t405) ∧ Aside0 (Kd.R (Kd.int .i64) 3 wc w.heap.size (fun k_ => some k_ ≠ ((.slice Ao10 t405.length co10) : Value).ownBlock ∧ some k_ ≠ (v418 : Value).ownBlock ∧ some k_ ≠ (v426 : Value).ownBlock ∧ some k_ ≠ ((.slice Ao35 t438.length co35) : Value).ownBlock ∧ some k_ ≠ ((.slice Ao40 t445.length co40) : Value).ownBlock) (.slice Ao26 t413.length co26) t413) ∧ Aside0 (Kd.R (Kd.int .i64) 3 wc w.heap.size (fun k_ => some k_ ≠ ((.slice Ao10 t405.length co10) : Value).ownBlock ∧ some k_ ≠ ((.slice Ao26 t413.length co26) : Value).ownBlock ∧ some k_ ≠ (v426 : Value).ownBlock ∧ some k_ ≠ ((.slice Ao35 t438.length co35) : Value).ownBlock ∧ some k_ ≠ ((.slice Ao40 t445.length co40) : Value).ownBlock) v418 t416) ∧ Aside0 (Kd.R (Kd.int .i64) 3 wc w.heap.size (fun k_ => some k_ ≠ ((.slice Ao10 t405.length co10) : Value).ownBlock ∧ some k_ ≠ ((.slice Ao26 t413.length co26) : Value).ownBlock ∧ some k_ ≠ (v418 : Value).ownBlock ∧ some k_ ≠ ((.slice Ao35 t438.length co35) : Value).ownBlock ∧ some k_ ≠ ((.slice Ao40 t445.length co40) : Value).ownBlock) v426 t424) ∧ Aside0 (Kd.R (Kd.int .i64) 3 wc w.heap.size (fun k_ => some k_ ≠ ((.slice Ao10 t405.length co10) : Value).ownBlock ∧ some k_ ≠ ((.slice Ao26 t413.length co26) : Value).ownBlock ∧ some k_ ≠ (v418 : Value).ownBlock ∧ some k_ ≠ (v426 : Value).ownBlock ∧ some k_ ≠ ((.slice Ao40 t445.length co40) : Value).ownBlock) (.slice Ao35 t438.length co35) t438) ∧ Aside0 (Kd.R (Kd.int .i64) 3 wc w.heap.size (fun k_ => some k_ ≠ ((.slice Ao10 t405.length co10) : Value).ownBlock ∧ some k_ ≠ ((.slice Ao26 t413.length co26) : Value).ownBlock ∧ some k_ ≠ (v418 : Value).ownBlock ∧ some k_ ≠ (v426 : Value).ownBlock ∧ some k_ ≠ ((.slice Ao35 t438.length co35) : Value).ownBlock) (.slice Ao40 t445.length co40) t445) ∧ Aside0 (wc.heap[gb442]? = some (.cells #[.int .i64 t436, .int .i64 t437, (.slice Ao35 t438.length co35)] 34 (0, 0))) ∧ Aside0 (wc.heap[gb449]? = some (.cells #[.int .i64 t443, .int .i64 t444, (.slice Ao40 t445.length co40)] 34 (0, 0))) ∧ Aside0 (Below w.heap.size w wc))
     case first => as_aux_lemma =>
      have H := HC24.out
      clear HC24
      by_cases c41 : (t417 != t421) = true
      ·
       rw [if_pos c41] at H
       have c41b0 : (t417 != t421) = true := c41
       (try (have c41b1 : decide (t417 = t421) = false := by simpa using c41))
       (try (have c41b2 : (t417 == t421) = false := by simpa using c41))
       (try (have c41b3 : ¬ (t417 = t421) := by simpa using c41))
       clear c41
       (first | rw [c41b0] | (simp only [i64_w, i32_w]; rw [c41b0]) | rw [c41b1] | skip)
       exact absurd H (laws_FnFactorsTell.j1_no _ _ _ _ _ _ _ _ _ _ _ _ _ _)
      ·
       rw [if_neg c41] at H
       have c41b0 : (t417 != t421) = false := by simpa using c41
       (try (have c41b1 : decide (t417 = t421) = true := by simpa using c41))
       (try (have c41b2 : (t417 == t421) = true := by simpa using c41))
       clear c41
       (first | rw [c41b0] | (simp only [i64_w, i32_w]; rw [c41b0]) | rw [c41b1] | skip)
       replace H := Option.bind_eq_some_iff.mp H
       obtain ⟨t450, A420, H⟩ := H
       replace H : (if t450 = true then (if (t425 != t429) = true then (laws_FnFactorsTell.j1 kj7 l1 t405 t406 t409 t412 t413 t416 t417 t424 t432 true t436 t437 t438) else ((laws_rSame.f kj7 t424 t428).bind fun t451 => (if t451 = true then (if (t433 != t435) = true then (laws_FnFactorsTell.j1 kj7 l1 t405 t406 t409 t412 t413 t416 t417 t424 t432 true t436 t437 t438) else (if t432 = t434 then (if (t441 != t448) = true then (laws_FnFactorsTell.j1 kj7 l1 t405 t406 t409 t412 t413 t416 t417 t424 t432 true t436 t437 t438) else ((laws_rSameBoard.f kj7 t436 t437 t438 t443 t444 t445).bind fun t452 => (if t452 = true then ((impl_AreLengths.f kj7 t413).bind fun t453 => (if (t417 != t453) = true then (laws_FnFactorsTell.j1 kj7 l1 t405 t406 t409 t412 t413 t416 t417 t424 t432 true t436 t437 t438) else (if (t425 != t417) = true then (laws_FnFactorsTell.j1 kj7 l1 t405 t406 t409 t412 t413 t416 t417 t424 t432 true t436 t437 t438) else (if (t433 != t417) = true then (laws_FnFactorsTell.j1 kj7 l1 t405 t406 t409 t412 t413 t416 t417 t424 t432 true t436 t437 t438) else (laws_FnFactorsTell.j1 kj7 l1 t405 t406 t409 t412 t413 t416 t417 t424 t432 (t441 != t417) t436 t437 t438))))) else (laws_FnFactorsTell.j1 kj7 l1 t405 t406 t409 t412 t413 t416 t417 t424 t432 true t436 t437 t438)))) else (laws_FnFactorsTell.j1 kj7 l1 t405 t406 t409 t412 t413 t416 t417 t424 t432 true t436 t437 t438))) else (laws_FnFactorsTell.j1 kj7 l1 t405 t406 t409 t412 t413 t416 t417 t424 t432 true t436 t437 t438)))) else (laws_FnFactorsTell.j1 kj7 l1 t405 t406 t409 t412 t413 t416 t417 t424 t432 true t436 t437 t438)) = some true := H
       have A42 := Aside0.mk A420
       clear A420
       by_cases c43 : t450 = true
       ·
        subst c43
        have H1 : (if (t425 != t429) = true then (laws_FnFactorsTell.j1 kj7 l1 t405 t406 t409 t412 t413 t416 t417 t424 t432 true t436 t437 t438) else ((laws_rSame.f kj7 t424 t428).bind fun t451 => (if t451 = true then (if (t433 != t435) = true then (laws_FnFactorsTell.j1 kj7 l1 t405 t406 t409 t412 t413 t416 t417 t424 t432 true t436 t437 t438) else (if t432 = t434 then (if (t441 != t448) = true then (laws_FnFactorsTell.j1 kj7 l1 t405 t406 t409 t412 t413 t416 t417 t424 t432 true t436 t437 t438) else ((laws_rSameBoard.f kj7 t436 t437 t438 t443 t444 t445).bind fun t452 => (if t452 = true then ((impl_AreLengths.f kj7 t413).bind fun t453 => (if (t417 != t453) = true then (laws_FnFactorsTell.j1 kj7 l1 t405 t406 t409 t412 t413 t416 t417 t424 t432 true t436 t437 t438) else (if (t425 != t417) = true then (laws_FnFactorsTell.j1 kj7 l1 t405 t406 t409 t412 t413 t416 t417 t424 t432 true t436 t437 t438) else (if (t433 != t417) = true then (laws_FnFactorsTell.j1 kj7 l1 t405 t406 t409 t412 t413 t416 t417 t424 t432 true t436 t437 t438) else (laws_FnFactorsTell.j1 kj7 l1 t405 t406 t409 t412 t413 t416 t417 t424 t432 (t441 != t417) t436 t437 t438))))) else (laws_FnFactorsTell.j1 kj7 l1 t405 t406 t409 t412 t413 t416 t417 t424 t432 true t436 t437 t438)))) else (laws_FnFactorsTell.j1 kj7 l1 t405 t406 t409 t412 t413 t416 t417 t424 t432 true t436 t437 t438))) else (laws_FnFactorsTell.j1 kj7 l1 t405 t406 t409 t412 t413 t416 t417 t424 t432 true t436 t437 t438)))) = some true := by first | (rw [if_pos rfl] at H; exact H) | rfl
        clear H
        have H := H1
        clear H1
        by_cases c44 : (t425 != t429) = true
        ·
         rw [if_pos c44] at H
         have c44b0 : (t425 != t429) = true := c44
         (try (have c44b1 : decide (t425 = t429) = false := by simpa using c44))
         (try (have c44b2 : (t425 == t429) = false := by simpa using c44))
         (try (have c44b3 : ¬ (t425 = t429) := by simpa using c44))
         clear c44
         exact absurd H (laws_FnFactorsTell.j1_no _ _ _ _ _ _ _ _ _ _ _ _ _ _)
        ·
         rw [if_neg c44] at H
         have c44b0 : (t425 != t429) = false := by simpa using c44
         (try (have c44b1 : decide (t425 = t429) = true := by simpa using c44))
         (try (have c44b2 : (t425 == t429) = true := by simpa using c44))
         clear c44
         replace H := Option.bind_eq_some_iff.mp H
         obtain ⟨t451, A450, H⟩ := H
         replace H : (if t451 = true then (if (t433 != t435) = true then (laws_FnFactorsTell.j1 kj7 l1 t405 t406 t409 t412 t413 t416 t417 t424 t432 true t436 t437 t438) else (if t432 = t434 then (if (t441 != t448) = true then (laws_FnFactorsTell.j1 kj7 l1 t405 t406 t409 t412 t413 t416 t417 t424 t432 true t436 t437 t438) else ((laws_rSameBoard.f kj7 t436 t437 t438 t443 t444 t445).bind fun t452 => (if t452 = true then ((impl_AreLengths.f kj7 t413).bind fun t453 => (if (t417 != t453) = true then (laws_FnFactorsTell.j1 kj7 l1 t405 t406 t409 t412 t413 t416 t417 t424 t432 true t436 t437 t438) else (if (t425 != t417) = true then (laws_FnFactorsTell.j1 kj7 l1 t405 t406 t409 t412 t413 t416 t417 t424 t432 true t436 t437 t438) else (if (t433 != t417) = true then (laws_FnFactorsTell.j1 kj7 l1 t405 t406 t409 t412 t413 t416 t417 t424 t432 true t436 t437 t438) else (laws_FnFactorsTell.j1 kj7 l1 t405 t406 t409 t412 t413 t416 t417 t424 t432 (t441 != t417) t436 t437 t438))))) else (laws_FnFactorsTell.j1 kj7 l1 t405 t406 t409 t412 t413 t416 t417 t424 t432 true t436 t437 t438)))) else (laws_FnFactorsTell.j1 kj7 l1 t405 t406 t409 t412 t413 t416 t417 t424 t432 true t436 t437 t438))) else (laws_FnFactorsTell.j1 kj7 l1 t405 t406 t409 t412 t413 t416 t417 t424 t432 true t436 t437 t438)) = some true := H
         have A45 := Aside0.mk A450
         clear A450
         by_cases c46 : t451 = true
         ·
          subst c46
          have H1 : (if (t433 != t435) = true then (laws_FnFactorsTell.j1 kj7 l1 t405 t406 t409 t412 t413 t416 t417 t424 t432 true t436 t437 t438) else (if t432 = t434 then (if (t441 != t448) = true then (laws_FnFactorsTell.j1 kj7 l1 t405 t406 t409 t412 t413 t416 t417 t424 t432 true t436 t437 t438) else ((laws_rSameBoard.f kj7 t436 t437 t438 t443 t444 t445).bind fun t452 => (if t452 = true then ((impl_AreLengths.f kj7 t413).bind fun t453 => (if (t417 != t453) = true then (laws_FnFactorsTell.j1 kj7 l1 t405 t406 t409 t412 t413 t416 t417 t424 t432 true t436 t437 t438) else (if (t425 != t417) = true then (laws_FnFactorsTell.j1 kj7 l1 t405 t406 t409 t412 t413 t416 t417 t424 t432 true t436 t437 t438) else (if (t433 != t417) = true then (laws_FnFactorsTell.j1 kj7 l1 t405 t406 t409 t412 t413 t416 t417 t424 t432 true t436 t437 t438) else (laws_FnFactorsTell.j1 kj7 l1 t405 t406 t409 t412 t413 t416 t417 t424 t432 (t441 != t417) t436 t437 t438))))) else (laws_FnFactorsTell.j1 kj7 l1 t405 t406 t409 t412 t413 t416 t417 t424 t432 true t436 t437 t438)))) else (laws_FnFactorsTell.j1 kj7 l1 t405 t406 t409 t412 t413 t416 t417 t424 t432 true t436 t437 t438))) = some true := by first | (rw [if_pos rfl] at H; exact H) | rfl
          clear H
          have H := H1
          clear H1
          by_cases c47 : (t433 != t435) = true
          ·
           rw [if_pos c47] at H
           have c47b0 : (t433 != t435) = true := c47
           (try (have c47b1 : decide (t433 = t435) = false := by simpa using c47))
           (try (have c47b2 : (t433 == t435) = false := by simpa using c47))
           (try (have c47b3 : ¬ (t433 = t435) := by simpa using c47))
           clear c47
           exact absurd H (laws_FnFactorsTell.j1_no _ _ _ _ _ _ _ _ _ _ _ _ _ _)
          ·
           rw [if_neg c47] at H
           have c47b0 : (t433 != t435) = false := by simpa using c47
           (try (have c47b1 : decide (t433 = t435) = true := by simpa using c47))
           (try (have c47b2 : (t433 == t435) = true := by simpa using c47))
           clear c47
           by_cases c48 : t432 = t434
           ·
            rw [if_pos c48] at H
            have c48b0 : (t432 == t434) = true := beq_iff_eq.mpr c48
            have c48b1 : (t432 != t434) = false := bne_eq_false_iff_eq.mpr c48
            clear c48
            by_cases c49 : (t441 != t448) = true
            ·
             rw [if_pos c49] at H
             have c49b0 : (t441 != t448) = true := c49
             (try (have c49b1 : decide (t441 = t448) = false := by simpa using c49))
             (try (have c49b2 : (t441 == t448) = false := by simpa using c49))
             (try (have c49b3 : ¬ (t441 = t448) := by simpa using c49))
             clear c49
             exact absurd H (laws_FnFactorsTell.j1_no _ _ _ _ _ _ _ _ _ _ _ _ _ _)
            ·
             rw [if_neg c49] at H
             have c49b0 : (t441 != t448) = false := by simpa using c49
             (try (have c49b1 : decide (t441 = t448) = true := by simpa using c49))
             (try (have c49b2 : (t441 == t448) = true := by simpa using c49))
             clear c49
             replace H := Option.bind_eq_some_iff.mp H
             obtain ⟨t452, A500, H⟩ := H
             replace H : (if t452 = true then ((impl_AreLengths.f kj7 t413).bind fun t453 => (if (t417 != t453) = true then (laws_FnFactorsTell.j1 kj7 l1 t405 t406 t409 t412 t413 t416 t417 t424 t432 true t436 t437 t438) else (if (t425 != t417) = true then (laws_FnFactorsTell.j1 kj7 l1 t405 t406 t409 t412 t413 t416 t417 t424 t432 true t436 t437 t438) else (if (t433 != t417) = true then (laws_FnFactorsTell.j1 kj7 l1 t405 t406 t409 t412 t413 t416 t417 t424 t432 true t436 t437 t438) else (laws_FnFactorsTell.j1 kj7 l1 t405 t406 t409 t412 t413 t416 t417 t424 t432 (t441 != t417) t436 t437 t438))))) else (laws_FnFactorsTell.j1 kj7 l1 t405 t406 t409 t412 t413 t416 t417 t424 t432 true t436 t437 t438)) = some true := H
             have A50 := Aside0.mk A500
             clear A500
             by_cases c51 : t452 = true
             ·
              subst c51
              have H1 : ((impl_AreLengths.f kj7 t413).bind fun t453 => (if (t417 != t453) = true then (laws_FnFactorsTell.j1 kj7 l1 t405 t406 t409 t412 t413 t416 t417 t424 t432 true t436 t437 t438) else (if (t425 != t417) = true then (laws_FnFactorsTell.j1 kj7 l1 t405 t406 t409 t412 t413 t416 t417 t424 t432 true t436 t437 t438) else (if (t433 != t417) = true then (laws_FnFactorsTell.j1 kj7 l1 t405 t406 t409 t412 t413 t416 t417 t424 t432 true t436 t437 t438) else (laws_FnFactorsTell.j1 kj7 l1 t405 t406 t409 t412 t413 t416 t417 t424 t432 (t441 != t417) t436 t437 t438))))) = some true := by first | (rw [if_pos rfl] at H; exact H) | rfl
              clear H
              have H := H1
              clear H1
              replace H := Option.bind_eq_some_iff.mp H
              obtain ⟨t453, A520, H⟩ := H
              replace H : (if (t417 != t453) = true then (laws_FnFactorsTell.j1 kj7 l1 t405 t406 t409 t412 t413 t416 t417 t424 t432 true t436 t437 t438) else (if (t425 != t417) = true then (laws_FnFactorsTell.j1 kj7 l1 t405 t406 t409 t412 t413 t416 t417 t424 t432 true t436 t437 t438) else (if (t433 != t417) = true then (laws_FnFactorsTell.j1 kj7 l1 t405 t406 t409 t412 t413 t416 t417 t424 t432 true t436 t437 t438) else (laws_FnFactorsTell.j1 kj7 l1 t405 t406 t409 t412 t413 t416 t417 t424 t432 (t441 != t417) t436 t437 t438)))) = some true := H
              have A52 := Aside0.mk A520
              clear A520
              by_cases c53 : (t417 != t453) = true
              ·
               rw [if_pos c53] at H
               have c53b0 : (t417 != t453) = true := c53
               (try (have c53b1 : decide (t417 = t453) = false := by simpa using c53))
               (try (have c53b2 : (t417 == t453) = false := by simpa using c53))
               (try (have c53b3 : ¬ (t417 = t453) := by simpa using c53))
               clear c53
               exact absurd H (laws_FnFactorsTell.j1_no _ _ _ _ _ _ _ _ _ _ _ _ _ _)
              ·
               rw [if_neg c53] at H
               have c53b0 : (t417 != t453) = false := by simpa using c53
               (try (have c53b1 : decide (t417 = t453) = true := by simpa using c53))
               (try (have c53b2 : (t417 == t453) = true := by simpa using c53))
               clear c53
               by_cases c54 : (t425 != t417) = true
               ·
                rw [if_pos c54] at H
                have c54b0 : (t425 != t417) = true := c54
                (try (have c54b1 : decide (t425 = t417) = false := by simpa using c54))
                (try (have c54b2 : (t425 == t417) = false := by simpa using c54))
                (try (have c54b3 : ¬ (t425 = t417) := by simpa using c54))
                clear c54
                exact absurd H (laws_FnFactorsTell.j1_no _ _ _ _ _ _ _ _ _ _ _ _ _ _)
               ·
                rw [if_neg c54] at H
                have c54b0 : (t425 != t417) = false := by simpa using c54
                (try (have c54b1 : decide (t425 = t417) = true := by simpa using c54))
                (try (have c54b2 : (t425 == t417) = true := by simpa using c54))
                clear c54
                by_cases c55 : (t433 != t417) = true
                ·
                 rw [if_pos c55] at H
                 have c55b0 : (t433 != t417) = true := c55
                 (try (have c55b1 : decide (t433 = t417) = false := by simpa using c55))
                 (try (have c55b2 : (t433 == t417) = false := by simpa using c55))
                 (try (have c55b3 : ¬ (t433 = t417) := by simpa using c55))
                 clear c55
                 exact absurd H (laws_FnFactorsTell.j1_no _ _ _ _ _ _ _ _ _ _ _ _ _ _)
                ·
                 rw [if_neg c55] at H
                 have c55b0 : (t433 != t417) = false := by simpa using c55
                 (try (have c55b1 : decide (t433 = t417) = true := by simpa using c55))
                 (try (have c55b2 : (t433 == t417) = true := by simpa using c55))
                 clear c55
                 have H' := Aside0.mk H
                 clear H
                 obtain ⟨Ao56, co56, eo56⟩ := Kd.R_slice Oq2.out
                 subst eo56
                 obtain ⟨Ao57, co57, eo57⟩ := Kd.R_slice Oq3.out
                 subst eo57
                 go_wp2_with (first | (go_at_call 23; (with_reducible refine (laws_rSame.calls kj7 _ _ t416 _ _ t420 true _ ?side1 ?side2 ?side3 ?side4 A42.out).mono ?_); (case side1 => refine (Kd.R_reads' (e := 3) (base := w.heap.size) (ok := fun k_ => (((((((True ∧ some k_ ≠ (.slice Ao10 t405.length co10 : Value).ownBlock) ∧ some k_ ≠ (.slice Ao26 t413.length co26 : Value).ownBlock) ∧ some k_ ≠ (.slice Ao57 t420.length co57 : Value).ownBlock) ∧ some k_ ≠ (v426 : Value).ownBlock) ∧ some k_ ≠ (v430 : Value).ownBlock) ∧ some k_ ≠ (.slice Ao35 t438.length co35 : Value).ownBlock) ∧ some k_ ≠ (.slice Ao40 t445.length co40 : Value).ownBlock)) (n := t416.length) (c := co56) ?_).2.2; exact (by (with_reducible repeat (first | apply Kd.R_alloc | apply Kd.R_drewN | apply Kd.R_drew)); exact (Kd.R_mono (Kd.R_far (p := ⟨gb449, 2, none⟩) (Kd.R_far (p := ⟨gb449, 1, none⟩) (Kd.R_far (p := ⟨gb449, 0, none⟩) (Kd.R_types Oq2.out BK449.out (by decide)) (fun _ hk => hk.2) (.int .i64 t443)) (fun _ hk => hk.2) (.int .i64 t444)) (fun _ hk => hk.2) (.slice Ao40 t445.length co40)) (fun _ h_ => by first | exact h_.1 | (have hx_ := h_.1; and_intros <;> first | trivial | simp only [hx_, ne_eq, not_false_eq_true]))))); (case side2 => exact (Kd.R_reads' Oq2.out).2.1); (case side3 => refine (Kd.R_reads' (e := 3) (base := w.heap.size) (ok := fun k_ => (((((((True ∧ some k_ ≠ (.slice Ao10 t405.length co10 : Value).ownBlock) ∧ some k_ ≠ (.slice Ao26 t413.length co26 : Value).ownBlock) ∧ some k_ ≠ (.slice Ao56 t416.length co56 : Value).ownBlock) ∧ some k_ ≠ (v426 : Value).ownBlock) ∧ some k_ ≠ (v430 : Value).ownBlock) ∧ some k_ ≠ (.slice Ao35 t438.length co35 : Value).ownBlock) ∧ some k_ ≠ (.slice Ao40 t445.length co40 : Value).ownBlock)) (n := t420.length) (c := co57) ?_).2.2; exact (by (with_reducible repeat (first | apply Kd.R_alloc | apply Kd.R_drewN | apply Kd.R_drew)); exact (Kd.R_mono (Kd.R_far (p := ⟨gb449, 2, none⟩) (Kd.R_far (p := ⟨gb449, 1, none⟩) (Kd.R_far (p := ⟨gb449, 0, none⟩) (Kd.R_types Oq3.out BK449.out (by decide)) (fun _ hk => hk.2) (.int .i64 t443)) (fun _ hk => hk.2) (.int .i64 t444)) (fun _ hk => hk.2) (.slice Ao40 t445.length co40)) (fun _ h_ => by first | exact h_.1 | (have hx_ := h_.1; and_intros <;> first | trivial | simp only [hx_, ne_eq, not_false_eq_true]))))); (case side4 => exact (Kd.R_reads' Oq3.out).2.1); rintro e w' ⟨rfl, ⟨nd, rfl⟩⟩; obtain ⟨Ao58, co58, eo58⟩ := Kd.R_slice Oq4.out; subst eo58; obtain ⟨Ao59, co59, eo59⟩ := Kd.R_slice Oq5.out; subst eo59) | (go_at_call 23; (with_reducible refine (laws_rSame.calls kj7 _ _ t424 _ _ t428 true _ ?side1 ?side2 ?side3 ?side4 A45.out).mono ?_); (case side1 => refine (Kd.R_reads' (e := 3) (base := w.heap.size) (ok := fun k_ => (((((((True ∧ some k_ ≠ (.slice Ao10 t405.length co10 : Value).ownBlock) ∧ some k_ ≠ (.slice Ao26 t413.length co26 : Value).ownBlock) ∧ some k_ ≠ (.slice Ao56 t416.length co56 : Value).ownBlock) ∧ some k_ ≠ (.slice Ao57 t420.length co57 : Value).ownBlock) ∧ some k_ ≠ (.slice Ao59 t428.length co59 : Value).ownBlock) ∧ some k_ ≠ (.slice Ao35 t438.length co35 : Value).ownBlock) ∧ some k_ ≠ (.slice Ao40 t445.length co40 : Value).ownBlock)) (n := t424.length) (c := co58) ?_).2.2; exact (by (with_reducible repeat (first | apply Kd.R_alloc | apply Kd.R_drewN | apply Kd.R_drew)); exact (Kd.R_mono (Kd.R_far (p := ⟨gb449, 2, none⟩) (Kd.R_far (p := ⟨gb449, 1, none⟩) (Kd.R_far (p := ⟨gb449, 0, none⟩) (Kd.R_types Oq4.out BK449.out (by decide)) (fun _ hk => hk.2) (.int .i64 t443)) (fun _ hk => hk.2) (.int .i64 t444)) (fun _ hk => hk.2) (.slice Ao40 t445.length co40)) (fun _ h_ => by first | exact h_.1 | (have hx_ := h_.1; and_intros <;> first | trivial | simp only [hx_, ne_eq, not_false_eq_true]))))); (case side2 => exact (Kd.R_reads' Oq4.out).2.1); (case side3 => refine (Kd.R_reads' (e := 3) (base := w.heap.size) (ok := fun k_ => (((((((True ∧ some k_ ≠ (.slice Ao10 t405.length co10 : Value).ownBlock) ∧ some k_ ≠ (.slice Ao26 t413.length co26 : Value).ownBlock) ∧ some k_ ≠ (.slice Ao56 t416.length co56 : Value).ownBlock) ∧ some k_ ≠ (.slice Ao57 t420.length co57 : Value).ownBlock) ∧ some k_ ≠ (.slice Ao58 t424.length co58 : Value).ownBlock) ∧ some k_ ≠ (.slice Ao35 t438.length co35 : Value).ownBlock) ∧ some k_ ≠ (.slice Ao40 t445.length co40 : Value).ownBlock)) (n := t428.length) (c := co59) ?_).2.2; exact (by (with_reducible repeat (first | apply Kd.R_alloc | apply Kd.R_drewN | apply Kd.R_drew)); exact (Kd.R_mono (Kd.R_far (p := ⟨gb449, 2, none⟩) (Kd.R_far (p := ⟨gb449, 1, none⟩) (Kd.R_far (p := ⟨gb449, 0, none⟩) (Kd.R_types Oq5.out BK449.out (by decide)) (fun _ hk => hk.2) (.int .i64 t443)) (fun _ hk => hk.2) (.int .i64 t444)) (fun _ hk => hk.2) (.slice Ao40 t445.length co40)) (fun _ h_ => by first | exact h_.1 | (have hx_ := h_.1; and_intros <;> first | trivial | simp only [hx_, ne_eq, not_false_eq_true]))))); (case side4 => exact (Kd.R_reads' Oq5.out).2.1); rintro e w' ⟨rfl, ⟨nd, rfl⟩⟩; have bq3 := Nq0.out; have cq3 := Nq2.out; have zq9 : w37.cell? ⟨gb442, 0, none⟩ = some (.int .i64 t436) := sqc BK442 0; have zq10 : w37.cell? ⟨gb442, 1, none⟩ = some (.int .i64 t437) := sqc BK442 1; have zq11 : w37.cell? ⟨gb442, 2, none⟩ = some (.slice Ao35 t438.length co35) := sqc BK442 2; have fq9 := blk_frozen BK442.out 0; have fq10 := blk_frozen BK442.out 1; have fq11 := blk_frozen BK442.out 2; have zq12 : w37.cell? ⟨gb449, 0, none⟩ = some (.int .i64 0) := sqc BK449 0; have zq13 : w37.cell? ⟨gb449, 1, none⟩ = some (.int .i64 0) := sqc BK449 1; have zq14 : w37.cell? ⟨gb449, 2, none⟩ = some (.slice none 0 0) := sqc BK449 2; have fq12 := blk_frozen BK449.out 0; have fq13 := blk_frozen BK449.out 1; have fq14 := blk_frozen BK449.out 2) | (go_at_call 24; (with_reducible refine (laws_rSameBoard.calls kj7 t436 t437 _ _ t438 t443 t444 _ _ t445 true _ ?side1 ?side2 ?side3 ?side4 A50.out).mono ?_); (case side1 => refine (Kd.R_reads' (e := 3) (base := w.heap.size) (ok := fun k_ => (((((((True ∧ some k_ ≠ (.slice Ao10 t405.length co10 : Value).ownBlock) ∧ some k_ ≠ (.slice Ao26 t413.length co26 : Value).ownBlock) ∧ some k_ ≠ (.slice Ao56 t416.length co56 : Value).ownBlock) ∧ some k_ ≠ (.slice Ao57 t420.length co57 : Value).ownBlock) ∧ some k_ ≠ (.slice Ao58 t424.length co58 : Value).ownBlock) ∧ some k_ ≠ (.slice Ao59 t428.length co59 : Value).ownBlock) ∧ some k_ ≠ (.slice Ao40 t445.length co40 : Value).ownBlock)) (n := t438.length) (c := co35) ?_).2.2; exact (by (with_reducible repeat (first | apply Kd.R_alloc | apply Kd.R_drewN | apply Kd.R_drew)); exact (Kd.R_mono (Kd.R_far (p := ⟨gb449, 2, none⟩) (Kd.R_far (p := ⟨gb449, 1, none⟩) (Kd.R_far (p := ⟨gb449, 0, none⟩) (Kd.R_types Oq6.out BK449.out (by decide)) (fun _ hk => hk.2) (.int .i64 t443)) (fun _ hk => hk.2) (.int .i64 t444)) (fun _ hk => hk.2) (.slice Ao40 t445.length co40)) (fun _ h_ => by first | exact h_.1 | (have hx_ := h_.1; and_intros <;> first | trivial | simp only [hx_, ne_eq, not_false_eq_true]))))); (case side2 => exact (Kd.R_reads' Oq6.out).2.1); (case side3 => refine (Kd.R_reads' (e := 3) (base := w.heap.size) (ok := fun k_ => (((((((True ∧ some k_ ≠ (.slice Ao10 t405.length co10 : Value).ownBlock) ∧ some k_ ≠ (.slice Ao26 t413.length co26 : Value).ownBlock) ∧ some k_ ≠ (.slice Ao56 t416.length co56 : Value).ownBlock) ∧ some k_ ≠ (.slice Ao57 t420.length co57 : Value).ownBlock) ∧ some k_ ≠ (.slice Ao58 t424.length co58 : Value).ownBlock) ∧ some k_ ≠ (.slice Ao59 t428.length co59 : Value).ownBlock) ∧ some k_ ≠ (.slice Ao35 t438.length co35 : Value).ownBlock)) (n := t445.length) (c := co40) ?_).2.2; exact (by (with_reducible repeat (first | apply Kd.R_alloc | apply Kd.R_drewN | apply Kd.R_drew)); exact (Kd.R_mono (Kd.R_far (p := ⟨gb449, 2, none⟩) (Kd.R_far (p := ⟨gb449, 1, none⟩) (Kd.R_far (p := ⟨gb449, 0, none⟩) (Kd.R_types Oq7.out BK449.out (by decide)) (fun _ hk => hk.2) (.int .i64 t443)) (fun _ hk => hk.2) (.int .i64 t444)) (fun _ hk => hk.2) (.slice Ao40 t445.length co40)) (fun _ h_ => by first | exact h_.1 | (have hx_ := h_.1; and_intros <;> first | trivial | simp only [hx_, ne_eq, not_false_eq_true]))))); (case side4 => exact (Kd.R_reads' Oq7.out).2.1); rintro e w63 ⟨rfl, hb⟩; have n0_ := am (Kd.R_below (by (with_reducible repeat (first | apply Kd.R_alloc | apply Kd.R_drewN | apply Kd.R_drew)); exact (Kd.R_mono (Kd.R_far (p := ⟨gb449, 2, none⟩) (Kd.R_far (p := ⟨gb449, 1, none⟩) (Kd.R_far (p := ⟨gb449, 0, none⟩) (Kd.R_types Oq17.out BK449.out (by decide)) (fun _ hk => hk.2) (.int .i64 t443)) (fun _ hk => hk.2) (.int .i64 t444)) (fun _ hk => hk.2) (.slice Ao40 t445.length co40)) (fun _ h_ => h_.1))) hb); have n1_ := am (Kd.R_below (by (with_reducible repeat (first | apply Kd.R_alloc | apply Kd.R_drewN | apply Kd.R_drew)); exact (Kd.R_mono (Kd.R_far (p := ⟨gb449, 2, none⟩) (Kd.R_far (p := ⟨gb449, 1, none⟩) (Kd.R_far (p := ⟨gb449, 0, none⟩) (Kd.R_types Oq1.out BK449.out (by decide)) (fun _ hk => hk.2) (.int .i64 t443)) (fun _ hk => hk.2) (.int .i64 t444)) (fun _ hk => hk.2) (.slice Ao40 t445.length co40)) (fun _ h_ => h_.1))) hb); have n2_ := am (Kd.R_below (by (with_reducible repeat (first | apply Kd.R_alloc | apply Kd.R_drewN | apply Kd.R_drew)); exact (Kd.R_mono (Kd.R_far (p := ⟨gb449, 2, none⟩) (Kd.R_far (p := ⟨gb449, 1, none⟩) (Kd.R_far (p := ⟨gb449, 0, none⟩) (Kd.R_types Oq2.out BK449.out (by decide)) (fun _ hk => hk.2) (.int .i64 t443)) (fun _ hk => hk.2) (.int .i64 t444)) (fun _ hk => hk.2) (.slice Ao40 t445.length co40)) (fun _ h_ => h_.1))) hb); have n3_ := am (Kd.R_below (by (with_reducible repeat (first | apply Kd.R_alloc | apply Kd.R_drewN | apply Kd.R_drew)); exact (Kd.R_mono (Kd.R_far (p := ⟨gb449, 2, none⟩) (Kd.R_far (p := ⟨gb449, 1, none⟩) (Kd.R_far (p := ⟨gb449, 0, none⟩) (Kd.R_types Oq3.out BK449.out (by decide)) (fun _ hk => hk.2) (.int .i64 t443)) (fun _ hk => hk.2) (.int .i64 t444)) (fun _ hk => hk.2) (.slice Ao40 t445.length co40)) (fun _ h_ => h_.1))) hb); have n4_ := am (Kd.R_below (by (with_reducible repeat (first | apply Kd.R_alloc | apply Kd.R_drewN | apply Kd.R_drew)); exact (Kd.R_mono (Kd.R_far (p := ⟨gb449, 2, none⟩) (Kd.R_far (p := ⟨gb449, 1, none⟩) (Kd.R_far (p := ⟨gb449, 0, none⟩) (Kd.R_types Oq4.out BK449.out (by decide)) (fun _ hk => hk.2) (.int .i64 t443)) (fun _ hk => hk.2) (.int .i64 t444)) (fun _ hk => hk.2) (.slice Ao40 t445.length co40)) (fun _ h_ => h_.1))) hb); have n5_ := am (Kd.R_below (by (with_reducible repeat (first | apply Kd.R_alloc | apply Kd.R_drewN | apply Kd.R_drew)); exact (Kd.R_mono (Kd.R_far (p := ⟨gb449, 2, none⟩) (Kd.R_far (p := ⟨gb449, 1, none⟩) (Kd.R_far (p := ⟨gb449, 0, none⟩) (Kd.R_types Oq5.out BK449.out (by decide)) (fun _ hk => hk.2) (.int .i64 t443)) (fun _ hk => hk.2) (.int .i64 t444)) (fun _ hk => hk.2) (.slice Ao40 t445.length co40)) (fun _ h_ => h_.1))) hb); have n6_ := am (Kd.R_below (by (with_reducible repeat (first | apply Kd.R_alloc | apply Kd.R_drewN | apply Kd.R_drew)); exact (Kd.R_mono (Kd.R_far (p := ⟨gb449, 2, none⟩) (Kd.R_far (p := ⟨gb449, 1, none⟩) (Kd.R_far (p := ⟨gb449, 0, none⟩) (Kd.R_types Oq6.out BK449.out (by decide)) (fun _ hk => hk.2) (.int .i64 t443)) (fun _ hk => hk.2) (.int .i64 t444)) (fun _ hk => hk.2) (.slice Ao40 t445.length co40)) (fun _ h_ => h_.1))) hb); have n7_ := am (Kd.R_below (by (with_reducible repeat (first | apply Kd.R_alloc | apply Kd.R_drewN | apply Kd.R_drew)); exact (Kd.R_mono (Kd.R_far (p := ⟨gb449, 2, none⟩) (Kd.R_far (p := ⟨gb449, 1, none⟩) (Kd.R_far (p := ⟨gb449, 0, none⟩) (Kd.R_types Oq7.out BK449.out (by decide)) (fun _ hk => hk.2) (.int .i64 t443)) (fun _ hk => hk.2) (.int .i64 t444)) (fun _ hk => hk.2) (.slice Ao40 t445.length co40)) (fun _ h_ => h_.1))) hb); have n8_ := am (blk_below (g := gb442) (o := .cells #[.int .i64 t436, .int .i64 t437, .slice Ao35 t438.length co35] 34 (0, 0)) (by (with_reducible repeat (first | refine blk_drewN ?_ _ | refine blk_drew ?_ | refine blk_alloc ?_ _)); refine blk_far ?_ Nq0.out _; (with_reducible repeat (first | refine blk_drewN ?_ _ | refine blk_drew ?_ | refine blk_alloc ?_ _)); refine blk_far ?_ Nq0.out _; (with_reducible repeat (first | refine blk_drewN ?_ _ | refine blk_drew ?_ | refine blk_alloc ?_ _)); refine blk_far ?_ Nq0.out _; (with_reducible repeat (first | refine blk_drewN ?_ _ | refine blk_drew ?_ | refine blk_alloc ?_ _)); exact BK442.out) hb); have n9_ := am (blk_below (g := gb449) (o := .cells #[.int .i64 t443, .int .i64 t444, .slice Ao40 t445.length co40] 34 (0, 0)) (by (with_reducible repeat (first | refine blk_drewN ?_ _ | refine blk_drew ?_ | refine blk_alloc ?_ _)); refine blk_put (cs := #[.int .i64 t443, .int .i64 t444, .slice none 0 0]) ?_ 2 _ rfl; (with_reducible repeat (first | refine blk_drewN ?_ _ | refine blk_drew ?_ | refine blk_alloc ?_ _)); refine blk_put (cs := #[.int .i64 t443, .int .i64 0, .slice none 0 0]) ?_ 1 _ rfl; (with_reducible repeat (first | refine blk_drewN ?_ _ | refine blk_drew ?_ | refine blk_alloc ?_ _)); refine blk_put (cs := #[.int .i64 0, .int .i64 0, .slice none 0 0]) ?_ 0 _ rfl; (with_reducible repeat (first | refine blk_drewN ?_ _ | refine blk_drew ?_ | refine blk_alloc ?_ _)); exact BK449.out) hb); have n10_ := am (below_step (by repeat with_reducible first | exact HB.out | apply pw_below_drewN | apply below_drew1 | refine below_set ?_ (Aside0.out (by assumption))) hb); clear Oq17; clear Oq1; clear Oq2; clear Oq3; clear Oq4; clear Oq5; clear Oq6; clear Oq7; clear BK442; clear BK449; clear HB; have Oq17 := n0_; have Oq1 := n1_; have Oq2 := n2_; have Oq3 := n3_; have Oq4 := n4_; have Oq5 := n5_; have Oq6 := n6_; have Oq7 := n7_; have BK442 := n8_; have BK449 := n9_; have HB := n10_; clear n0_ n1_ n2_ n3_ n4_ n5_ n6_ n7_ n8_ n9_ n10_; (try clear hb); (try clear hb2); (try clear hk); (try clear hi)) | (go_at_call 25; (with_reducible refine (impl_AreLengths.calls kj7 _ _ t413 t453 _ ?side1 ?side2 A52.out).mono ?_); (case side1 => repeat (first | exact (Kd.R_reads' Oq1.out).2.2 | (with_reducible first | refine Kd.C_alloc ?_ _ | refine Kd.C_drewN ?_ _ | refine Kd.C_drew ?_))); (case side2 => exact (Kd.R_reads' Oq1.out).2.1); rintro e w' ⟨rfl, ⟨nd, rfl⟩⟩))
                 go_meet
                 case rel => exact ⟨_, ((t441 != t417)), (by first | rfl | (simp; done) | (simp [*]; done)), H', ⟨by have := HJ7.out; first | omega | exact Nat.le_refl _⟩, ⟨by exact sqm Oq17 (fun _ hk => by first | exact ⟨hk.1.1.1.1.1.1.2, ⟨hk.1.1.1.1.1.2, ⟨hk.1.1.1.2, ⟨hk.1.2, hk.2⟩⟩⟩⟩ | (and_intros <;> first | trivial | simp only [hk, ne_eq, not_false_eq_true]))⟩, ⟨by exact sqm Oq1 (fun _ hk => by first | exact ⟨hk.1.1.1.1.1.1.2, ⟨hk.1.1.1.1.1.2, ⟨hk.1.1.1.2, ⟨hk.1.2, hk.2⟩⟩⟩⟩ | (and_intros <;> first | trivial | simp only [hk, ne_eq, not_false_eq_true]))⟩, ⟨by exact sqm Oq2 (fun _ hk => by first | exact ⟨hk.1.1.1.1.1.1.2, ⟨hk.1.1.1.1.1.2, ⟨hk.1.1.1.2, ⟨hk.1.2, hk.2⟩⟩⟩⟩ | (and_intros <;> first | trivial | simp only [hk, ne_eq, not_false_eq_true]))⟩, ⟨by exact sqm Oq4 (fun _ hk => by first | exact ⟨hk.1.1.1.1.1.1.2, ⟨hk.1.1.1.1.1.2, ⟨hk.1.1.1.1.2, ⟨hk.1.2, hk.2⟩⟩⟩⟩ | (and_intros <;> first | trivial | simp only [hk, ne_eq, not_false_eq_true]))⟩, ⟨by exact sqm Oq6 (fun _ hk => by first | exact ⟨hk.1.1.1.1.1.1.2, ⟨hk.1.1.1.1.1.2, ⟨hk.1.1.1.1.2, ⟨hk.1.1.2, hk.2⟩⟩⟩⟩ | (and_intros <;> first | trivial | simp only [hk, ne_eq, not_false_eq_true]))⟩, ⟨by exact sqm Oq7 (fun _ hk => by first | exact ⟨hk.1.1.1.1.1.1.2, ⟨hk.1.1.1.1.1.2, ⟨hk.1.1.1.1.2, ⟨hk.1.1.2, hk.2⟩⟩⟩⟩ | (and_intros <;> first | trivial | simp only [hk, ne_eq, not_false_eq_true]))⟩, ⟨by (with_reducible repeat (first | refine blk_drewN ?_ _ | refine blk_drew ?_ | refine blk_alloc ?_ _)); exact BK442.out⟩, ⟨by (with_reducible repeat (first | refine blk_drewN ?_ _ | refine blk_drew ?_ | refine blk_alloc ?_ _)); exact BK449.out⟩, ⟨by repeat with_reducible first | exact HB.out | apply pw_below_drewN | apply below_drew1 | refine below_set ?_ (Aside0.out (by assumption))⟩⟩
             ·
              replace c51 := Bool.eq_false_iff.mpr c51
              subst c51
              have H1 : (laws_FnFactorsTell.j1 kj7 l1 t405 t406 t409 t412 t413 t416 t417 t424 t432 true t436 t437 t438) = some true := by first | (rw [if_neg (show ¬ (false = true) by decide)] at H; exact H) | rfl
              clear H
              have H := H1
              clear H1
              exact absurd H (laws_FnFactorsTell.j1_no _ _ _ _ _ _ _ _ _ _ _ _ _ _)
           ·
            rw [if_neg c48] at H
            have c48b0 : (t432 == t434) = false := beq_eq_false_iff_ne.mpr c48
            have c48b1 : (t432 != t434) = true := bne_iff_ne.mpr c48
            exact absurd H (laws_FnFactorsTell.j1_no _ _ _ _ _ _ _ _ _ _ _ _ _ _)
         ·
          replace c46 := Bool.eq_false_iff.mpr c46
          subst c46
          have H1 : (laws_FnFactorsTell.j1 kj7 l1 t405 t406 t409 t412 t413 t416 t417 t424 t432 true t436 t437 t438) = some true := by first | (rw [if_neg (show ¬ (false = true) by decide)] at H; exact H) | rfl
          clear H
          have H := H1
          clear H1
          exact absurd H (laws_FnFactorsTell.j1_no _ _ _ _ _ _ _ _ _ _ _ _ _ _)
       ·
        replace c43 := Bool.eq_false_iff.mpr c43
        subst c43
        have H1 : (laws_FnFactorsTell.j1 kj7 l1 t405 t406 t409 t412 t413 t416 t417 t424 t432 true t436 t437 t438) = some true := by first | (rw [if_neg (show ¬ (false = true) by decide)] at H; exact H) | rfl
        clear H
        have H := H1
        clear H1
        exact absurd H (laws_FnFactorsTell.j1_no _ _ _ _ _ _ _ _ _ _ _ _ _ _)
     case rest => as_aux_lemma =>
      clear HC24
      try clear c1; try clear c2; try clear p2; try clear c3; try clear c4; try clear c5; try clear c6; try clear c10; try clear c11; try clear c12; try clear c13; try clear c13b0; try clear c13b1; try clear c13b2; try clear c14; try clear c15; try clear c16; try clear c17; try clear c18; try clear c19; try clear c20; try clear c21; try clear c22; try clear c38; try clear c41; try clear c41b0; try clear c41b1; try clear c41b2; try clear c43; try clear c44; try clear c44b0; try clear c44b1; try clear c44b2; try clear c46; try clear c47; try clear c47b0; try clear c47b1; try clear c47b2; try clear c48; try clear c48b0; try clear c48b1; try clear c49; try clear c49b0; try clear c49b1; try clear c49b2; try clear c51; try clear c53; try clear c53b0; try clear c53b1; try clear c53b2; try clear c54; try clear c54b0; try clear c54b1; try clear c54b2; try clear c55; try clear c55b0; try clear c55b1; try clear c55b2; try clear c60; try clear zq3; try clear zq4; try clear zq5; try clear zq6; try clear zq7; try clear zq8; try clear zq9; try clear zq10; try clear zq11; try clear zq12; try clear zq13; try clear zq14; try clear fq3; try clear fq4; try clear fq5; try clear fq6; try clear fq7; try clear fq8; try clear fq9; try clear fq10; try clear fq11; try clear fq12; try clear fq13; try clear fq14; try clear p2
      obtain ⟨kq, x172_23, rfl, HA, HJ23, Oq17, Oq12, Oq13, Oq14, Oq15, Oq16, BK442, BK449, HB⟩ := hcut
      cases kq with
      | zero => exact absurd HA.out (by simp [laws_FnFactorsTell.j1])
      | succ kj23 =>
       have H := HA.out
       clear HA
       simp only [laws_FnFactorsTell.j1] at H
       by_cases c64 : x172_23 = true
       ·
        subst c64
        have H1 : (some false) = some true := by first | (rw [if_pos rfl] at H; exact H) | rfl
        clear H
        have H := H1
        clear H1
        exact absurd (Option.some.inj H) (by decide)
       ·
        replace c64 := Bool.eq_false_iff.mpr c64
        subst c64
        have H1 : (if t417 = true then ((impl_RookNumbers.f t436 t437 t438).bind fun bt454 => ((impl_PermanentOf.f t436 t437 t438).bind fun bt458 => (if bt454.2 = true then (if bt458.2 = true then ((laws_rSame.f kj23 bt454.1 t416).bind fun t460 => (if t460 = true then (if bt458.1 = t432 then (if (t424.length : Int) = (t413.length : Int) then (laws_FnFactorsTell.j2 kj23 l1 t405 t406 t409 t412) else (some false)) else (some false)) else (some false))) else (some false)) else (some false)))) else (laws_FnFactorsTell.j2 kj23 l1 t405 t406 t409 t412)) = some true := by first | (rw [if_neg (show ¬ (false = true) by decide)] at H; exact H) | rfl
        clear H
        have H := H1
        clear H1
        have HC65 := Aside0.mk H
        clear H
        go_upto_if 173 with (fail)
        go_cut [] (fun wc => ∃ (kq : Nat), Aside0 (laws_FnFactorsTell.j2 kq l1 t405 t406 t409 t412 = some true) ∧ Aside0 (kq ≤ kj23) ∧ Aside0 (Kd.R (Kd.int .i64) 3 wc w.heap.size (fun k_ => some k_ ≠ ((.slice Ao35 t438.length co35) : Value).ownBlock ∧ some k_ ≠ ((.slice Ao40 t445.length co40) : Value).ownBlock) (.slice Ao10 t405.length co10) t405) ∧ Aside0 (Kd.R (Kd.int .i64) 3 wc w.heap.size (fun k_ => some k_ ≠ ((.slice Ao10 t405.length co10) : Value).ownBlock ∧ some k_ ≠ ((.slice Ao40 t445.length co40) : Value).ownBlock) (.slice Ao35 t438.length co35) t438) ∧ Aside0 (Kd.R (Kd.int .i64) 3 wc w.heap.size (fun k_ => some k_ ≠ ((.slice Ao10 t405.length co10) : Value).ownBlock ∧ some k_ ≠ ((.slice Ao35 t438.length co35) : Value).ownBlock) (.slice Ao40 t445.length co40) t445) ∧ Aside0 (wc.heap[gb442]? = some (.cells #[.int .i64 t436, .int .i64 t437, (.slice Ao35 t438.length co35)] 34 (0, 0))) ∧ Aside0 (wc.heap[gb449]? = some (.cells #[.int .i64 t443, .int .i64 t444, (.slice Ao40 t445.length co40)] 34 (0, 0))) ∧ Aside0 (Below w.heap.size w wc))
        case first => as_aux_lemma =>
         have H := HC65.out
         clear HC65
         by_cases c66 : t417 = true
         ·
          subst c66
          have H1 : ((impl_RookNumbers.f t436 t437 t438).bind fun bt454 => ((impl_PermanentOf.f t436 t437 t438).bind fun bt458 => (if bt454.2 = true then (if bt458.2 = true then ((laws_rSame.f kj23 bt454.1 t416).bind fun t460 => (if t460 = true then (if bt458.1 = t432 then (if (t424.length : Int) = (t413.length : Int) then (laws_FnFactorsTell.j2 kj23 l1 t405 t406 t409 t412) else (some false)) else (some false)) else (some false))) else (some false)) else (some false)))) = some true := by first | (rw [if_pos rfl] at H; exact H) | rfl
          clear H
          have H := H1
          clear H1
          replace H := Option.bind_eq_some_iff.mp H
          obtain ⟨⟨t454, t457⟩, A670, H⟩ := H
          replace H : ((impl_PermanentOf.f t436 t437 t438).bind fun bt458 => (if t457 = true then (if bt458.2 = true then ((laws_rSame.f kj23 t454 t416).bind fun t460 => (if t460 = true then (if bt458.1 = t432 then (if (t424.length : Int) = (t413.length : Int) then (laws_FnFactorsTell.j2 kj23 l1 t405 t406 t409 t412) else (some false)) else (some false)) else (some false))) else (some false)) else (some false))) = some true := H
          have A67 := Aside0.mk A670
          clear A670
          replace H := Option.bind_eq_some_iff.mp H
          obtain ⟨⟨t458, t459⟩, A680, H⟩ := H
          replace H : (if t457 = true then (if t459 = true then ((laws_rSame.f kj23 t454 t416).bind fun t460 => (if t460 = true then (if t458 = t432 then (if (t424.length : Int) = (t413.length : Int) then (laws_FnFactorsTell.j2 kj23 l1 t405 t406 t409 t412) else (some false)) else (some false)) else (some false))) else (some false)) else (some false)) = some true := H
          have A68 := Aside0.mk A680
          clear A680
          by_cases c69 : t457 = true
          ·
           subst c69
           have H1 : (if t459 = true then ((laws_rSame.f kj23 t454 t416).bind fun t460 => (if t460 = true then (if t458 = t432 then (if (t424.length : Int) = (t413.length : Int) then (laws_FnFactorsTell.j2 kj23 l1 t405 t406 t409 t412) else (some false)) else (some false)) else (some false))) else (some false)) = some true := by first | (rw [if_pos rfl] at H; exact H) | rfl
           clear H
           have H := H1
           clear H1
           by_cases c70 : t459 = true
           ·
            subst c70
            have H1 : ((laws_rSame.f kj23 t454 t416).bind fun t460 => (if t460 = true then (if t458 = t432 then (if (t424.length : Int) = (t413.length : Int) then (laws_FnFactorsTell.j2 kj23 l1 t405 t406 t409 t412) else (some false)) else (some false)) else (some false))) = some true := by first | (rw [if_pos rfl] at H; exact H) | rfl
            clear H
            have H := H1
            clear H1
            replace H := Option.bind_eq_some_iff.mp H
            obtain ⟨t460, A710, H⟩ := H
            replace H : (if t460 = true then (if t458 = t432 then (if (t424.length : Int) = (t413.length : Int) then (laws_FnFactorsTell.j2 kj23 l1 t405 t406 t409 t412) else (some false)) else (some false)) else (some false)) = some true := H
            have A71 := Aside0.mk A710
            clear A710
            by_cases c72 : t460 = true
            ·
             subst c72
             have H1 : (if t458 = t432 then (if (t424.length : Int) = (t413.length : Int) then (laws_FnFactorsTell.j2 kj23 l1 t405 t406 t409 t412) else (some false)) else (some false)) = some true := by first | (rw [if_pos rfl] at H; exact H) | rfl
             clear H
             have H := H1
             clear H1
             by_cases c73 : t458 = t432
             ·
              rw [if_pos c73] at H
              have c73b0 : (t458 == t432) = true := beq_iff_eq.mpr c73
              have c73b1 : (t458 != t432) = false := bne_eq_false_iff_eq.mpr c73
              clear c73
              (first | rw [c73b0] | (simp only [i64_w, i32_w]; rw [c73b0]) | skip)
              by_cases c74 : (t424.length : Int) = (t413.length : Int)
              ·
               rw [if_pos c74] at H
               have c74b0 : ((t424.length : Int) == (t413.length : Int)) = true := beq_iff_eq.mpr c74
               have c74b1 : ((t424.length : Int) != (t413.length : Int)) = false := bne_eq_false_iff_eq.mpr c74
               have c74b2 : (t424.length == t413.length) = true := by first | simpa using c74 | (simp at c74 ⊢; omega)
               clear c74
               have H' := Aside0.mk H
               clear H
               have bq4 := Nq0.out
               have cq4 := Nq2.out
               have zq15 : wc.cell? ⟨gb442, 0, none⟩ = some (.int .i64 t436) := sqc BK442 0
               have zq16 : wc.cell? ⟨gb442, 1, none⟩ = some (.int .i64 t437) := sqc BK442 1
               have zq17 : wc.cell? ⟨gb442, 2, none⟩ = some (.slice Ao35 t438.length co35) := sqc BK442 2
               have fq15 := blk_frozen BK442.out 0
               have fq16 := blk_frozen BK442.out 1
               have fq17 := blk_frozen BK442.out 2
               go_wp2_with (first | ((with_reducible refine gate_callee (f := 26) rfl ?_); refine goesL_ (some 176) rfl rfl Try.func26 (by kernel_rfl) rfl #[.agg #[.int .i64 t436, .int .i64 t437, .slice Ao35 t438.length co35]] rfl (by (try simp only [List.map_toArray, List.map_cons, List.map_nil]); try rfl) ?_; (with_reducible refine (impl_RookNumbers.calls t436 t437 _ _ t438 t454 true _ ?side1 ?side2 A67.out).mono ?_); (case side1 => repeat (first | exact (Kd.R_reads' Oq15.out).2.2 | (with_reducible first | refine Kd.C_alloc ?_ _ | refine Kd.C_drewN ?_ _ | refine Kd.C_drew ?_))); (case side2 => exact (Kd.R_reads' Oq15.out).2.1); rintro e w77 ⟨v455, rfl, ho0, hb⟩; refine ⟨_, rfl, ?_⟩; have n6_ := am (Kd.R_lower (Kd.R_new' (Kd.R_new' (Kd.R_new' (Kd.R_new' (Kd.R_new' (Kd.R_new' ho0 (sqL Oq17)) (sqL Oq12)) (sqL Oq13)) (sqL Oq14)) (sqL Oq15)) (sqL Oq16)) (below_size (by repeat with_reducible first | exact HB.out | apply pw_below_drewN | apply below_drew1 | refine below_set ?_ (Aside0.out (by assumption))))); have n9_ := am (below_step (by repeat with_reducible first | exact HB.out | apply pw_below_drewN | apply below_drew1 | refine below_set ?_ (Aside0.out (by assumption))) hb); clear HB; replace Oq17 := sqE Oq17 ho0 hb; replace Oq12 := sqE Oq12 ho0 hb; replace Oq13 := sqE Oq13 ho0 hb; replace Oq14 := sqE Oq14 ho0 hb; replace Oq15 := sqE Oq15 ho0 hb; replace Oq16 := sqE Oq16 ho0 hb; have Oq8 := n6_; replace BK442 := sqB BK442 hb; replace BK449 := sqB BK449 hb; have HB := n9_; clear n6_ n9_; (try clear hb); (try clear hb2); (try clear hk); (try clear hi); (try clear ho0); have zq18 : w77.cell? ⟨gb442, 0, none⟩ = some (.int .i64 t436) := sqc BK442 0; have zq19 : w77.cell? ⟨gb442, 1, none⟩ = some (.int .i64 t437) := sqc BK442 1; have zq20 : w77.cell? ⟨gb442, 2, none⟩ = some (.slice Ao35 t438.length co35) := sqc BK442 2; have fq18 := blk_frozen BK442.out 0; have fq19 := blk_frozen BK442.out 1; have fq20 := blk_frozen BK442.out 2) | ((with_reducible refine gate_callee (f := 27) rfl ?_); refine goesL_ (some 181) rfl rfl Try.func27 (by kernel_rfl) rfl #[.agg #[.int .i64 t436, .int .i64 t437, .slice Ao35 t438.length co35]] rfl (by (try simp only [List.map_toArray, List.map_cons, List.map_nil]); try rfl) ?_; (with_reducible refine (impl_PermanentOf.calls t436 t437 _ _ t438 t458 true _ ?side1 ?side2 A68.out).mono ?_); (case side1 => repeat (first | exact (Kd.R_reads' Oq15.out).2.2 | (with_reducible first | refine Kd.C_alloc ?_ _ | refine Kd.C_drewN ?_ _ | refine Kd.C_drew ?_))); (case side2 => exact (Kd.R_reads' Oq15.out).2.1); rintro e w79 ⟨rfl, hb⟩; refine ⟨_, rfl, ?_⟩; have n9_ := am (below_step (by repeat with_reducible first | exact HB.out | apply pw_below_drewN | apply below_drew1 | refine below_set ?_ (Aside0.out (by assumption))) hb); clear HB; replace Oq17 := sqR Oq17 hb; replace Oq12 := sqR Oq12 hb; replace Oq13 := sqR Oq13 hb; replace Oq14 := sqR Oq14 hb; replace Oq15 := sqR Oq15 hb; replace Oq16 := sqR Oq16 hb; replace Oq8 := sqR Oq8 hb; replace BK442 := sqB BK442 hb; replace BK449 := sqB BK449 hb; have HB := n9_; clear n9_; (try clear hb); (try clear hb2); (try clear hk); (try clear hi); obtain ⟨Ao80, co80, eo80⟩ := Kd.R_slice Oq8.out; subst eo80; obtain ⟨Ao81, co81, eo81⟩ := Kd.R_slice Oq13.out; subst eo81) | (go_at_call 23; (with_reducible refine (laws_rSame.calls kj23 _ _ t454 _ _ t416 true _ ?side1 ?side2 ?side3 ?side4 A71.out).mono ?_); (case side1 => repeat (first | exact (Kd.R_reads' Oq8.out).2.2 | (with_reducible first | refine Kd.C_alloc ?_ _ | refine Kd.C_drewN ?_ _ | refine Kd.C_drew ?_))); (case side2 => exact (Kd.R_reads' Oq8.out).2.1); (case side3 => repeat (first | exact (Kd.R_reads' Oq13.out).2.2 | (with_reducible first | refine Kd.C_alloc ?_ _ | refine Kd.C_drewN ?_ _ | refine Kd.C_drew ?_))); (case side4 => exact (Kd.R_reads' Oq13.out).2.1); rintro e w' ⟨rfl, ⟨nd, rfl⟩⟩; obtain ⟨Ao82, co82, eo82⟩ := Kd.R_slice Oq14.out; subst eo82))
               go_meet
               case rel => exact ⟨_, H', ⟨by have := HJ7.out; have := HJ23.out; first | omega | exact Nat.le_refl _⟩, ⟨by exact sqm Oq17 (fun _ hk => by first | exact ⟨hk.1.2.2.2.1, hk.1.2.2.2.2⟩ | (and_intros <;> first | trivial | simp only [hk, ne_eq, not_false_eq_true]))⟩, ⟨by exact sqm Oq15 (fun _ hk => by first | exact ⟨hk.1.1, hk.1.2.2.2.2⟩ | (and_intros <;> first | trivial | simp only [hk, ne_eq, not_false_eq_true]))⟩, ⟨by exact sqm Oq16 (fun _ hk => by first | exact ⟨hk.1.1, hk.1.2.2.2.2⟩ | (and_intros <;> first | trivial | simp only [hk, ne_eq, not_false_eq_true]))⟩, ⟨by (with_reducible repeat (first | refine blk_drewN ?_ _ | refine blk_drew ?_ | refine blk_alloc ?_ _)); exact BK442.out⟩, ⟨by (with_reducible repeat (first | refine blk_drewN ?_ _ | refine blk_drew ?_ | refine blk_alloc ?_ _)); exact BK449.out⟩, ⟨by repeat with_reducible first | exact HB.out | apply pw_below_drewN | apply below_drew1 | refine below_set ?_ (Aside0.out (by assumption))⟩⟩
              ·
               rw [if_neg c74] at H
               have c74b0 : ((t424.length : Int) == (t413.length : Int)) = false := beq_eq_false_iff_ne.mpr c74
               have c74b1 : ((t424.length : Int) != (t413.length : Int)) = true := bne_iff_ne.mpr c74
               have c74b2 : (t424.length == t413.length) = false := by first | simpa using c74 | (simp at c74 ⊢; omega)
               exact absurd (Option.some.inj H) (by decide)
             ·
              rw [if_neg c73] at H
              have c73b0 : (t458 == t432) = false := beq_eq_false_iff_ne.mpr c73
              have c73b1 : (t458 != t432) = true := bne_iff_ne.mpr c73
              (first | rw [c73b0] | (simp only [i64_w, i32_w]; rw [c73b0]) | skip)
              exact absurd (Option.some.inj H) (by decide)
            ·
             replace c72 := Bool.eq_false_iff.mpr c72
             subst c72
             have H1 : (some false) = some true := by first | (rw [if_neg (show ¬ (false = true) by decide)] at H; exact H) | rfl
             clear H
             have H := H1
             clear H1
             exact absurd (Option.some.inj H) (by decide)
           ·
            replace c70 := Bool.eq_false_iff.mpr c70
            subst c70
            have H1 : (some false) = some true := by first | (rw [if_neg (show ¬ (false = true) by decide)] at H; exact H) | rfl
            clear H
            have H := H1
            clear H1
            exact absurd (Option.some.inj H) (by decide)
          ·
           replace c69 := Bool.eq_false_iff.mpr c69
           subst c69
           have H1 : (some false) = some true := by first | (rw [if_neg (show ¬ (false = true) by decide)] at H; exact H) | rfl
           clear H
           have H := H1
           clear H1
           exact absurd (Option.some.inj H) (by decide)
         ·
          replace c66 := Bool.eq_false_iff.mpr c66
          subst c66
          have H1 : (laws_FnFactorsTell.j2 kj23 l1 t405 t406 t409 t412) = some true := by first | (rw [if_neg (show ¬ (false = true) by decide)] at H; exact H) | rfl
          clear H
          have H := H1
          clear H1
          have H' := Aside0.mk H
          clear H
          go_wp2
          go_meet
          case rel => exact ⟨_, H', ⟨by have := HJ7.out; have := HJ23.out; first | omega | exact Nat.le_refl _⟩, ⟨by exact sqm Oq17 (fun _ hk => by first | exact ⟨hk.2.2.2.1, hk.2.2.2.2⟩ | (and_intros <;> first | trivial | simp only [hk, ne_eq, not_false_eq_true]))⟩, ⟨by exact sqm Oq15 (fun _ hk => by first | exact ⟨hk.1, hk.2.2.2.2⟩ | (and_intros <;> first | trivial | simp only [hk, ne_eq, not_false_eq_true]))⟩, ⟨by exact sqm Oq16 (fun _ hk => by first | exact ⟨hk.1, hk.2.2.2.2⟩ | (and_intros <;> first | trivial | simp only [hk, ne_eq, not_false_eq_true]))⟩, ⟨by (with_reducible repeat (first | refine blk_drewN ?_ _ | refine blk_drew ?_ | refine blk_alloc ?_ _)); exact BK442.out⟩, ⟨by (with_reducible repeat (first | refine blk_drewN ?_ _ | refine blk_drew ?_ | refine blk_alloc ?_ _)); exact BK449.out⟩, ⟨by repeat with_reducible first | exact HB.out | apply pw_below_drewN | apply below_drew1 | refine below_set ?_ (Aside0.out (by assumption))⟩⟩
        case rest => as_aux_lemma =>
         clear HC65
         try clear c1; try clear c2; try clear p2; try clear c3; try clear c4; try clear c5; try clear c6; try clear c7; try clear c10; try clear c11; try clear c12; try clear c13; try clear c13b0; try clear c13b1; try clear c13b2; try clear c14; try clear c15; try clear c16; try clear c17; try clear c18; try clear c19; try clear c20; try clear c21; try clear c22; try clear c26; try clear c27; try clear c38; try clear c41; try clear c41b0; try clear c41b1; try clear c41b2; try clear c43; try clear c44; try clear c44b0; try clear c44b1; try clear c44b2; try clear c46; try clear c47; try clear c47b0; try clear c47b1; try clear c47b2; try clear c48; try clear c48b0; try clear c48b1; try clear c49; try clear c49b0; try clear c49b1; try clear c49b2; try clear c51; try clear c53; try clear c53b0; try clear c53b1; try clear c53b2; try clear c54; try clear c54b0; try clear c54b1; try clear c54b2; try clear c55; try clear c55b0; try clear c55b1; try clear c55b2; try clear c60; try clear c64; try clear c66; try clear c69; try clear c70; try clear c72; try clear c73; try clear c73b0; try clear c73b1; try clear c74; try clear c74b0; try clear c74b1; try clear c74b2; try clear c75; try clear zq3; try clear zq4; try clear zq5; try clear zq6; try clear zq7; try clear zq8; try clear zq9; try clear zq10; try clear zq11; try clear zq12; try clear zq13; try clear zq14; try clear zq15; try clear zq16; try clear zq17; try clear zq18; try clear zq19; try clear zq20; try clear fq3; try clear fq4; try clear fq5; try clear fq6; try clear fq7; try clear fq8; try clear fq9; try clear fq10; try clear fq11; try clear fq12; try clear fq13; try clear fq14; try clear fq15; try clear fq16; try clear fq17; try clear fq18; try clear fq19; try clear fq20; try clear p2
         obtain ⟨kq, HA, HJ64, Oq17, Oq15, Oq16, BK442, BK449, HB⟩ := hcut
         cases kq with
         | zero => exact absurd HA.out (by simp [laws_FnFactorsTell.j2])
         | succ kj64 =>
          have H := HA.out
          clear HA
          simp only [laws_FnFactorsTell.j2] at H
          replace H := Option.bind_eq_some_iff.mp H
          obtain ⟨t461, A830, H⟩ := H
          replace H : ((impl_StaircaseNumbers.f kj64 t461).bind fun bt462 => ((spec_StaircaseNumbers.f kj64 t461).bind fun bt466 => (if (bt462.2 != bt466.2) = true then (laws_FnFactorsTell.j3 kj64 t405 t406 t409 t412 true) else ((laws_rSame.f kj64 bt462.1 bt466.1).bind fun t470 => (laws_FnFactorsTell.j3 kj64 t405 t406 t409 t412 (!t470)))))) = some true := H
          have A83 := Aside0.mk A830
          clear A830
          replace H := Option.bind_eq_some_iff.mp H
          obtain ⟨⟨t462, t463⟩, A840, H⟩ := H
          replace H : ((spec_StaircaseNumbers.f kj64 t461).bind fun bt466 => (if (t463 != bt466.2) = true then (laws_FnFactorsTell.j3 kj64 t405 t406 t409 t412 true) else ((laws_rSame.f kj64 t462 bt466.1).bind fun t470 => (laws_FnFactorsTell.j3 kj64 t405 t406 t409 t412 (!t470))))) = some true := H
          have A84 := Aside0.mk A840
          clear A840
          replace H := Option.bind_eq_some_iff.mp H
          obtain ⟨⟨t466, t467⟩, A850, H⟩ := H
          replace H : (if (t463 != t467) = true then (laws_FnFactorsTell.j3 kj64 t405 t406 t409 t412 true) else ((laws_rSame.f kj64 t462 t466).bind fun t470 => (laws_FnFactorsTell.j3 kj64 t405 t406 t409 t412 (!t470)))) = some true := H
          have A85 := Aside0.mk A850
          clear A850
          have HC86 := Aside0.mk H
          clear H
          go_upto_region 27 with (first | ((with_reducible refine gate_callee (f := 28) rfl ?_); refine goesL_ (some 209) rfl rfl Try.func28 (by kernel_rfl) rfl #[.slice A1 l1.length c1] rfl (by (try simp only [List.map_toArray, List.map_cons, List.map_nil]); try rfl) ?_; (with_reducible refine (spec_DrawStaircaseNumbers.calls _ _ l1 t461 _ ?side1 ?side2 A83.out).mono ?_); (case side1 => repeat (first | exact (Kd.C_below HR1.out HB.out) | (with_reducible first | refine Kd.C_alloc ?_ _ | refine Kd.C_drewN ?_ _ | refine Kd.C_drew ?_))); (case side2 => exact HC1.out); rintro e w87 ⟨rfl, hb⟩; refine ⟨_, rfl, ?_⟩; have n5_ := am (below_step (by repeat with_reducible first | exact HB.out | apply pw_below_drewN | apply below_drew1 | refine below_set ?_ (Aside0.out (by assumption))) hb); clear HB; replace Oq17 := sqR Oq17 hb; replace Oq15 := sqR Oq15 hb; replace Oq16 := sqR Oq16 hb; replace BK442 := sqB BK442 hb; replace BK449 := sqB BK449 hb; have HB := n5_; clear n5_; (try clear hb); (try clear hb2); (try clear hk); (try clear hi)) | ((with_reducible refine gate_callee (f := 29) rfl ?_); refine goesL_ (some 212) rfl rfl Try.func29 (by kernel_rfl) rfl #[.int .i64 t461] rfl (by (try simp only [List.map_toArray, List.map_cons, List.map_nil]); try rfl) ?_; (with_reducible refine (impl_StaircaseNumbers.calls kj64 t461 t462 t463 _ A84.out).mono ?_); rintro e w88 ⟨v464, rfl, ho0, hb⟩; refine ⟨_, rfl, ?_⟩; have n3_ := am (Kd.R_lower (Kd.R_new' (Kd.R_new' (Kd.R_new' ho0 (sqL Oq17)) (sqL Oq15)) (sqL Oq16)) (below_size (by repeat with_reducible first | exact HB.out | apply pw_below_drewN | apply below_drew1 | refine below_set ?_ (Aside0.out (by assumption))))); have n6_ := am (below_step (by repeat with_reducible first | exact HB.out | apply pw_below_drewN | apply below_drew1 | refine below_set ?_ (Aside0.out (by assumption))) hb); clear HB; replace Oq17 := sqE Oq17 ho0 hb; replace Oq15 := sqE Oq15 ho0 hb; replace Oq16 := sqE Oq16 ho0 hb; have Oq9 := n3_; replace BK442 := sqB BK442 hb; replace BK449 := sqB BK449 hb; have HB := n6_; clear n3_ n6_; (try clear hb); (try clear hb2); (try clear hk); (try clear hi); (try clear ho0)) | ((with_reducible refine gate_callee (f := 30) rfl ?_); refine goesL_ (some 217) rfl rfl Try.func30 (by kernel_rfl) rfl #[.int .i64 t461] rfl (by (try simp only [List.map_toArray, List.map_cons, List.map_nil]); try rfl) ?_; (with_reducible refine (spec_StaircaseNumbers.calls kj64 t461 t466 t467 _ A85.out).mono ?_); rintro e w89 ⟨v468, rfl, ho0, hb⟩; refine ⟨_, rfl, ?_⟩; have n4_ := am (Kd.R_lower (Kd.R_new' (Kd.R_new' (Kd.R_new' (Kd.R_new' ho0 (sqL Oq17)) (sqL Oq15)) (sqL Oq16)) (sqL Oq9)) (below_size (by repeat with_reducible first | exact HB.out | apply pw_below_drewN | apply below_drew1 | refine below_set ?_ (Aside0.out (by assumption))))); have n7_ := am (below_step (by repeat with_reducible first | exact HB.out | apply pw_below_drewN | apply below_drew1 | refine below_set ?_ (Aside0.out (by assumption))) hb); clear HB; replace Oq17 := sqE Oq17 ho0 hb; replace Oq15 := sqE Oq15 ho0 hb; replace Oq16 := sqE Oq16 ho0 hb; replace Oq9 := sqE Oq9 ho0 hb; have Oq10 := n4_; replace BK442 := sqB BK442 hb; replace BK449 := sqB BK449 hb; have HB := n7_; clear n4_ n7_; (try clear hb); (try clear hb2); (try clear hk); (try clear hi); (try clear ho0)))
          (try simp only [Act.put, List.setIfInBounds_toArray, List.set_cons_zero, List.set_cons_succ])
          go_cut [228] (fun v228 wc => ∃ (kq : Nat) (x228_85 : Bool), v228 = .bool x228_85 ∧ Aside0 (laws_FnFactorsTell.j3 kq t405 t406 t409 t412 x228_85 = some true) ∧ Aside0 (kq ≤ kj64) ∧ Aside0 (Kd.R (Kd.int .i64) 3 wc w.heap.size (fun k_ => some k_ ≠ ((.slice Ao35 t438.length co35) : Value).ownBlock ∧ some k_ ≠ ((.slice Ao40 t445.length co40) : Value).ownBlock) (.slice Ao10 t405.length co10) t405) ∧ Aside0 (Kd.R (Kd.int .i64) 3 wc w.heap.size (fun k_ => some k_ ≠ ((.slice Ao10 t405.length co10) : Value).ownBlock ∧ some k_ ≠ ((.slice Ao40 t445.length co40) : Value).ownBlock) (.slice Ao35 t438.length co35) t438) ∧ Aside0 (Kd.R (Kd.int .i64) 3 wc w.heap.size (fun k_ => some k_ ≠ ((.slice Ao10 t405.length co10) : Value).ownBlock ∧ some k_ ≠ ((.slice Ao35 t438.length co35) : Value).ownBlock) (.slice Ao40 t445.length co40) t445) ∧ Aside0 (wc.heap[gb442]? = some (.cells #[.int .i64 t436, .int .i64 t437, (.slice Ao35 t438.length co35)] 34 (0, 0))) ∧ Aside0 (wc.heap[gb449]? = some (.cells #[.int .i64 t443, .int .i64 t444, (.slice Ao40 t445.length co40)] 34 (0, 0))) ∧ Aside0 (Below w.heap.size w wc))
          case first => as_aux_lemma =>
           have H := HC86.out
           clear HC86
           by_cases c90 : (t463 != t467) = true
           ·
            rw [if_pos c90] at H
            have c90b0 : (t463 != t467) = true := c90
            (try (have c90b1 : decide (t463 = t467) = false := by simpa using c90))
            (try (have c90b2 : (t463 == t467) = false := by simpa using c90))
            (try (have c90b3 : ¬ (t463 = t467) := by simpa using c90))
            clear c90
            (first | rw [c90b0] | (simp only [i64_w, i32_w]; rw [c90b0]) | rw [c90b1] | skip)
            exact absurd H (laws_FnFactorsTell.j3_no _ _ _ _ _)
           ·
            rw [if_neg c90] at H
            have c90b0 : (t463 != t467) = false := by simpa using c90
            (try (have c90b1 : decide (t463 = t467) = true := by simpa using c90))
            (try (have c90b2 : (t463 == t467) = true := by simpa using c90))
            clear c90
            (first | rw [c90b0] | (simp only [i64_w, i32_w]; rw [c90b0]) | rw [c90b1] | skip)
            replace H := Option.bind_eq_some_iff.mp H
            obtain ⟨t470, A910, H⟩ := H
            replace H : (laws_FnFactorsTell.j3 kj64 t405 t406 t409 t412 (!t470)) = some true := H
            have A91 := Aside0.mk A910
            clear A910
            have H' := Aside0.mk H
            clear H
            obtain ⟨Ao92, co92, eo92⟩ := Kd.R_slice Oq9.out
            subst eo92
            obtain ⟨Ao93, co93, eo93⟩ := Kd.R_slice Oq10.out
            subst eo93
            go_wp2_with (first | (go_at_call 23; (with_reducible refine (laws_rSame.calls kj64 _ _ t462 _ _ t466 t470 _ ?side1 ?side2 ?side3 ?side4 A91.out).mono ?_); (case side1 => repeat (first | exact (Kd.R_reads' Oq9.out).2.2 | (with_reducible first | refine Kd.C_alloc ?_ _ | refine Kd.C_drewN ?_ _ | refine Kd.C_drew ?_))); (case side2 => exact (Kd.R_reads' Oq9.out).2.1); (case side3 => repeat (first | exact (Kd.R_reads' Oq10.out).2.2 | (with_reducible first | refine Kd.C_alloc ?_ _ | refine Kd.C_drewN ?_ _ | refine Kd.C_drew ?_))); (case side4 => exact (Kd.R_reads' Oq10.out).2.1); rintro e w' ⟨rfl, ⟨nd, rfl⟩⟩))
            go_meet
            case rel => exact ⟨_, (!t470), (by first | rfl | (simp; done) | (simp [*]; done)), H', ⟨by have := HJ7.out; have := HJ23.out; have := HJ64.out; first | omega | exact Nat.le_refl _⟩, ⟨by exact sqm Oq17 (fun _ hk => by first | exact ⟨hk.1.1.1, hk.1.1.2⟩ | (and_intros <;> first | trivial | simp only [hk, ne_eq, not_false_eq_true]))⟩, ⟨by exact sqm Oq15 (fun _ hk => by first | exact ⟨hk.1.1.1, hk.1.1.2⟩ | (and_intros <;> first | trivial | simp only [hk, ne_eq, not_false_eq_true]))⟩, ⟨by exact sqm Oq16 (fun _ hk => by first | exact ⟨hk.1.1.1, hk.1.1.2⟩ | (and_intros <;> first | trivial | simp only [hk, ne_eq, not_false_eq_true]))⟩, ⟨by (with_reducible repeat (first | refine blk_drewN ?_ _ | refine blk_drew ?_ | refine blk_alloc ?_ _)); exact BK442.out⟩, ⟨by (with_reducible repeat (first | refine blk_drewN ?_ _ | refine blk_drew ?_ | refine blk_alloc ?_ _)); exact BK449.out⟩, ⟨by repeat with_reducible first | exact HB.out | apply pw_below_drewN | apply below_drew1 | refine below_set ?_ (Aside0.out (by assumption))⟩⟩
          case rest => as_aux_lemma =>
           clear HC86
           try clear c1; try clear c2; try clear p2; try clear c3; try clear c4; try clear c5; try clear c6; try clear c7; try clear c9; try clear c10; try clear c11; try clear c12; try clear c13; try clear c13b0; try clear c13b1; try clear c13b2; try clear c14; try clear c15; try clear c16; try clear c17; try clear c18; try clear c19; try clear c20; try clear c21; try clear c22; try clear c26; try clear c27; try clear c28; try clear c29; try clear c30; try clear c38; try clear c41; try clear c41b0; try clear c41b1; try clear c41b2; try clear c43; try clear c44; try clear c44b0; try clear c44b1; try clear c44b2; try clear c46; try clear c47; try clear c47b0; try clear c47b1; try clear c47b2; try clear c48; try clear c48b0; try clear c48b1; try clear c49; try clear c49b0; try clear c49b1; try clear c49b2; try clear c51; try clear c53; try clear c53b0; try clear c53b1; try clear c53b2; try clear c54; try clear c54b0; try clear c54b1; try clear c54b2; try clear c55; try clear c55b0; try clear c55b1; try clear c55b2; try clear c60; try clear c64; try clear c66; try clear c69; try clear c70; try clear c72; try clear c73; try clear c73b0; try clear c73b1; try clear c74; try clear c74b0; try clear c74b1; try clear c74b2; try clear c75; try clear c90; try clear c90b0; try clear c90b1; try clear c90b2; try clear zq3; try clear zq4; try clear zq5; try clear zq6; try clear zq7; try clear zq8; try clear zq9; try clear zq10; try clear zq11; try clear zq12; try clear zq13; try clear zq14; try clear zq15; try clear zq16; try clear zq17; try clear zq18; try clear zq19; try clear zq20; try clear fq3; try clear fq4; try clear fq5; try clear fq6; try clear fq7; try clear fq8; try clear fq9; try clear fq10; try clear fq11; try clear fq12; try clear fq13; try clear fq14; try clear fq15; try clear fq16; try clear fq17; try clear fq18; try clear fq19; try clear fq20; try clear p2
           obtain ⟨kq, x228_85, rfl, HA, HJ85, Oq17, Oq15, Oq16, BK442, BK449, HB⟩ := hcut
           cases kq with
           | zero => exact absurd HA.out (by simp [laws_FnFactorsTell.j3])
           | succ kj85 =>
            have H := HA.out
            clear HA
            simp only [laws_FnFactorsTell.j3] at H
            by_cases c94 : x228_85 = true
            ·
             subst c94
             have H1 : (some false) = some true := by first | (rw [if_pos rfl] at H; exact H) | rfl
             clear H
             have H := H1
             clear H1
             exact absurd (Option.some.inj H) (by decide)
            ·
             replace c94 := Bool.eq_false_iff.mpr c94
             subst c94
             have H1 : (if t412 = true then ((impl_BoardOfLengths.f kj85 t405).bind fun bt471 => ((impl_FactorialAt.f kj85 bt471.1 bt471.2.1 bt471.2.2.1 t406).bind fun bt478 => (if bt471.2.2.2 = true then (if bt478.2 = true then (some (bt478.1 == t409)) else (some false)) else (some false)))) else (some true)) = some true := by first | (rw [if_neg (show ¬ (false = true) by decide)] at H; exact H) | rfl
             clear H
             have H := H1
             clear H1
             by_cases c95 : t412 = true
             ·
              subst c95
              have H1 : ((impl_BoardOfLengths.f kj85 t405).bind fun bt471 => ((impl_FactorialAt.f kj85 bt471.1 bt471.2.1 bt471.2.2.1 t406).bind fun bt478 => (if bt471.2.2.2 = true then (if bt478.2 = true then (some (bt478.1 == t409)) else (some false)) else (some false)))) = some true := by first | (rw [if_pos rfl] at H; exact H) | rfl
              clear H
              have H := H1
              clear H1
              replace H := Option.bind_eq_some_iff.mp H
              obtain ⟨⟨t471, t472, t473, t476⟩, A960, H⟩ := H
              replace H : ((impl_FactorialAt.f kj85 t471 t472 t473 t406).bind fun bt478 => (if t476 = true then (if bt478.2 = true then (some (bt478.1 == t409)) else (some false)) else (some false))) = some true := H
              have A96 := Aside0.mk A960
              clear A960
              replace H := Option.bind_eq_some_iff.mp H
              obtain ⟨⟨t478, t479⟩, A970, H⟩ := H
              replace H : (if t476 = true then (if t479 = true then (some (t478 == t409)) else (some false)) else (some false)) = some true := H
              have A97 := Aside0.mk A970
              clear A970
              by_cases c98 : t476 = true
              ·
               subst c98
               have H1 : (if t479 = true then (some (t478 == t409)) else (some false)) = some true := by first | (rw [if_pos rfl] at H; exact H) | rfl
               clear H
               have H := H1
               clear H1
               by_cases c99 : t479 = true
               ·
                subst c99
                have H1 : (some (t478 == t409)) = some true := by first | (rw [if_pos rfl] at H; exact H) | rfl
                clear H
                have H := H1
                clear H1
                have hb_ := Option.some.inj H
                go_wp2_with (first | ((with_reducible refine gate_callee (f := 21) rfl ?_); refine goesL_ (some 233) rfl rfl Try.func21 (by kernel_rfl) rfl #[.slice Ao10 t405.length co10] rfl (by (try simp only [List.map_toArray, List.map_cons, List.map_nil]); try rfl) ?_; (with_reducible refine (impl_BoardOfLengths.calls kj85 _ _ t405 t471 t472 t473 true _ ?side1 ?side2 A96.out).mono ?_); (case side1 => repeat (first | exact (Kd.R_reads' Oq17.out).2.2 | (with_reducible first | refine Kd.C_alloc ?_ _ | refine Kd.C_drewN ?_ _ | refine Kd.C_drew ?_))); (case side2 => exact (Kd.R_reads' Oq17.out).2.1); rintro e w100 ⟨v474, rfl, ho0, hb⟩; refine ⟨_, rfl, ?_⟩; have n3_ := am (Kd.R_lower (Kd.R_new' (Kd.R_new' (Kd.R_new' ho0 (sqL Oq17)) (sqL Oq15)) (sqL Oq16)) (below_size (by repeat with_reducible first | exact HB.out | apply pw_below_drewN | apply below_drew1 | refine below_set ?_ (Aside0.out (by assumption))))); have n6_ := am (below_step (by repeat with_reducible first | exact HB.out | apply pw_below_drewN | apply below_drew1 | refine below_set ?_ (Aside0.out (by assumption))) hb); clear HB; replace Oq17 := sqE Oq17 ho0 hb; replace Oq15 := sqE Oq15 ho0 hb; replace Oq16 := sqE Oq16 ho0 hb; have Oq11 := n3_; replace BK442 := sqB BK442 hb; replace BK449 := sqB BK449 hb; have HB := n6_; clear n3_ n6_; (try clear hb); (try clear hb2); (try clear hk); (try clear hi); (try clear ho0)) | ((with_reducible refine gate_dst (N := 37) rfl ?_); (try (refine gate_guard (by rfl) ?_; dsimp only)); refine box_event ?hg (N := 37) ?hd (cs := #[.int .i64 0, .int .i64 0, .slice none 0 0]) (t := 34) ?hr ?_; (case hd => rfl); (case hg => rfl); (case hr => first | (go_simp; done) | (go_simp; rfl)); intro gb477 hg w101 hbox hb; have n6_ := am (below_step (by repeat with_reducible first | exact HB.out | apply pw_below_drewN | apply below_drew1 | refine below_set ?_ (Aside0.out (by assumption))) hb); have n7_ := am (hbox); have n8_ := am ((by rw [hg]; exact (below_size (by repeat with_reducible first | exact HB.out | apply pw_below_drewN | apply below_drew1 | refine below_set ?_ (Aside0.out (by assumption)))) : w.heap.size ≤ gb477)); have n9_ := am ((by rw [hg]; exact (below_size (by repeat with_reducible first | exact HB.out | apply pw_below_drewN | apply below_drew1 | refine below_set ?_ (Aside0.out (by assumption)))) : w.heap.size ≤ gb477)); have n10_ := am ((by rw [hg]; exact Nat.ne_of_lt (sqT BK442) : gb442 ≠ gb477)); have n11_ := am ((by rw [hg]; exact Nat.ne_of_gt (sqT BK442) : gb477 ≠ gb442)); have n12_ := am ((by rw [hg]; exact Nat.ne_of_lt (sqT BK449) : gb449 ≠ gb477)); have n13_ := am ((by rw [hg]; exact Nat.ne_of_gt (sqT BK449) : gb477 ≠ gb449)); clear HB; replace Oq17 := sqR Oq17 hb; replace Oq15 := sqR Oq15 hb; replace Oq16 := sqR Oq16 hb; replace Oq11 := sqR Oq11 hb; replace BK442 := sqB BK442 hb; replace BK449 := sqB BK449 hb; have HB := n6_; have BK477 := n7_; have GW477 := n8_; have GE477 := n9_; have Nq1 := n10_; have Nq4 := n11_; have Nq3 := n12_; have Nq5 := n13_; clear n6_ n7_ n8_ n9_ n10_ n11_ n12_ n13_; clear hb hbox hg; have bq0 := Nq4.out; have cq0 := Nq1.out; have bq1 := Nq5.out; have cq1 := Nq3.out; have zq0 : w101.cell? ⟨gb477, 0, none⟩ = some (.int .i64 0) := sqc BK477 0; have zq1 : w101.cell? ⟨gb477, 1, none⟩ = some (.int .i64 0) := sqc BK477 1; have zq2 : w101.cell? ⟨gb477, 2, none⟩ = some (.slice none 0 0) := sqc BK477 2; have fq0 := blk_frozen BK477.out 0; have fq1 := blk_frozen BK477.out 1; have fq2 := blk_frozen BK477.out 2; obtain ⟨Ao105, co105, eo105⟩ := Kd.R_slice Oq11.out; subst eo105) | ((with_reducible refine gate_callee (f := 31) rfl ?_); refine goesL_ (some 239) rfl rfl Try.func31 (by kernel_rfl) rfl #[.agg #[.int .i64 t471, .int .i64 t472, .slice Ao105 t473.length co105], .int .i64 t406] rfl (by (try simp only [List.map_toArray, List.map_cons, List.map_nil]); try rfl) ?_; (with_reducible refine (impl_FactorialAt.calls kj85 t471 t472 _ _ t473 t406 t478 true _ ?side1 ?side2 A97.out).mono ?_); (case side1 => refine (Kd.R_reads' (e := 3) (base := w.heap.size) (ok := fun k_ => (((True ∧ some k_ ≠ (.slice Ao10 t405.length co10 : Value).ownBlock) ∧ some k_ ≠ (.slice Ao35 t438.length co35 : Value).ownBlock) ∧ some k_ ≠ (.slice Ao40 t445.length co40 : Value).ownBlock)) (n := t473.length) (c := co105) ?_).2.2; exact (by (with_reducible repeat (first | apply Kd.R_alloc | apply Kd.R_drewN | apply Kd.R_drew)); exact (Kd.R_mono (Kd.R_far (p := ⟨gb477, 2, none⟩) (Kd.R_far (p := ⟨gb477, 1, none⟩) (Kd.R_far (p := ⟨gb477, 0, none⟩) (Kd.R_types Oq11.out BK477.out (by decide)) (fun _ hk => hk.2) (.int .i64 t471)) (fun _ hk => hk.2) (.int .i64 t472)) (fun _ hk => hk.2) (.slice Ao105 t473.length co105)) (fun _ h_ => by first | exact h_.1 | (have hx_ := h_.1; and_intros <;> first | trivial | simp only [hx_, ne_eq, not_false_eq_true]))))); (case side2 => exact (Kd.R_reads' Oq11.out).2.1); rintro e w106 ⟨rfl, hb⟩; refine ⟨_, rfl, ?_⟩; have n0_ := am (Kd.R_below (by (with_reducible repeat (first | apply Kd.R_alloc | apply Kd.R_drewN | apply Kd.R_drew)); exact (Kd.R_mono (Kd.R_far (p := ⟨gb477, 2, none⟩) (Kd.R_far (p := ⟨gb477, 1, none⟩) (Kd.R_far (p := ⟨gb477, 0, none⟩) (Kd.R_types Oq17.out BK477.out (by decide)) (fun _ hk => hk.2) (.int .i64 t471)) (fun _ hk => hk.2) (.int .i64 t472)) (fun _ hk => hk.2) (.slice Ao105 t473.length co105)) (fun _ h_ => h_.1))) hb); have n1_ := am (Kd.R_below (by (with_reducible repeat (first | apply Kd.R_alloc | apply Kd.R_drewN | apply Kd.R_drew)); exact (Kd.R_mono (Kd.R_far (p := ⟨gb477, 2, none⟩) (Kd.R_far (p := ⟨gb477, 1, none⟩) (Kd.R_far (p := ⟨gb477, 0, none⟩) (Kd.R_types Oq15.out BK477.out (by decide)) (fun _ hk => hk.2) (.int .i64 t471)) (fun _ hk => hk.2) (.int .i64 t472)) (fun _ hk => hk.2) (.slice Ao105 t473.length co105)) (fun _ h_ => h_.1))) hb); have n2_ := am (Kd.R_below (by (with_reducible repeat (first | apply Kd.R_alloc | apply Kd.R_drewN | apply Kd.R_drew)); exact (Kd.R_mono (Kd.R_far (p := ⟨gb477, 2, none⟩) (Kd.R_far (p := ⟨gb477, 1, none⟩) (Kd.R_far (p := ⟨gb477, 0, none⟩) (Kd.R_types Oq16.out BK477.out (by decide)) (fun _ hk => hk.2) (.int .i64 t471)) (fun _ hk => hk.2) (.int .i64 t472)) (fun _ hk => hk.2) (.slice Ao105 t473.length co105)) (fun _ h_ => h_.1))) hb); have n3_ := am (Kd.R_below (by (with_reducible repeat (first | apply Kd.R_alloc | apply Kd.R_drewN | apply Kd.R_drew)); exact (Kd.R_mono (Kd.R_far (p := ⟨gb477, 2, none⟩) (Kd.R_far (p := ⟨gb477, 1, none⟩) (Kd.R_far (p := ⟨gb477, 0, none⟩) (Kd.R_types Oq11.out BK477.out (by decide)) (fun _ hk => hk.2) (.int .i64 t471)) (fun _ hk => hk.2) (.int .i64 t472)) (fun _ hk => hk.2) (.slice Ao105 t473.length co105)) (fun _ h_ => h_.1))) hb); have n4_ := am (blk_below (g := gb442) (o := .cells #[.int .i64 t436, .int .i64 t437, .slice Ao35 t438.length co35] 34 (0, 0)) (by (with_reducible repeat (first | refine blk_drewN ?_ _ | refine blk_drew ?_ | refine blk_alloc ?_ _)); refine blk_far ?_ Nq1.out _; (with_reducible repeat (first | refine blk_drewN ?_ _ | refine blk_drew ?_ | refine blk_alloc ?_ _)); refine blk_far ?_ Nq1.out _; (with_reducible repeat (first | refine blk_drewN ?_ _ | refine blk_drew ?_ | refine blk_alloc ?_ _)); refine blk_far ?_ Nq1.out _; (with_reducible repeat (first | refine blk_drewN ?_ _ | refine blk_drew ?_ | refine blk_alloc ?_ _)); exact BK442.out) hb); have n5_ := am (blk_below (g := gb449) (o := .cells #[.int .i64 t443, .int .i64 t444, .slice Ao40 t445.length co40] 34 (0, 0)) (by (with_reducible repeat (first | refine blk_drewN ?_ _ | refine blk_drew ?_ | refine blk_alloc ?_ _)); refine blk_far ?_ Nq3.out _; (with_reducible repeat (first | refine blk_drewN ?_ _ | refine blk_drew ?_ | refine blk_alloc ?_ _)); refine blk_far ?_ Nq3.out _; (with_reducible repeat (first | refine blk_drewN ?_ _ | refine blk_drew ?_ | refine blk_alloc ?_ _)); refine blk_far ?_ Nq3.out _; (with_reducible repeat (first | refine blk_drewN ?_ _ | refine blk_drew ?_ | refine blk_alloc ?_ _)); exact BK449.out) hb); have n6_ := am (blk_below (g := gb477) (o := .cells #[.int .i64 t471, .int .i64 t472, .slice Ao105 t473.length co105] 34 (0, 0)) (by (with_reducible repeat (first | refine blk_drewN ?_ _ | refine blk_drew ?_ | refine blk_alloc ?_ _)); refine blk_put (cs := #[.int .i64 t471, .int .i64 t472, .slice none 0 0]) ?_ 2 _ rfl; (with_reducible repeat (first | refine blk_drewN ?_ _ | refine blk_drew ?_ | refine blk_alloc ?_ _)); refine blk_put (cs := #[.int .i64 t471, .int .i64 0, .slice none 0 0]) ?_ 1 _ rfl; (with_reducible repeat (first | refine blk_drewN ?_ _ | refine blk_drew ?_ | refine blk_alloc ?_ _)); refine blk_put (cs := #[.int .i64 0, .int .i64 0, .slice none 0 0]) ?_ 0 _ rfl; (with_reducible repeat (first | refine blk_drewN ?_ _ | refine blk_drew ?_ | refine blk_alloc ?_ _)); exact BK477.out) hb); have n7_ := am (below_step (by repeat with_reducible first | exact HB.out | apply pw_below_drewN | apply below_drew1 | refine below_set ?_ (Aside0.out (by assumption))) hb); clear Oq17; clear Oq15; clear Oq16; clear Oq11; clear BK442; clear BK449; clear BK477; clear HB; have Oq17 := n0_; have Oq15 := n1_; have Oq16 := n2_; have Oq11 := n3_; have BK442 := n4_; have BK449 := n5_; have BK477 := n6_; have HB := n7_; clear n0_ n1_ n2_ n3_ n4_ n5_ n6_ n7_; (try clear hb); (try clear hb2); (try clear hk); (try clear hi)))
                go_ret
                exact ⟨by first | rfl | (rw [hb_]) | (simp [errW_none, errW_some] <;> rfl) | (simp [*, errW_none, errW_some] <;> rfl), by repeat with_reducible first | exact HB.out | apply pw_below_drewN | apply below_drew1 | refine below_set ?_ (Aside0.out (by assumption))⟩
               ·
                replace c99 := Bool.eq_false_iff.mpr c99
                subst c99
                have H1 : (some false) = some true := by first | (rw [if_neg (show ¬ (false = true) by decide)] at H; exact H) | rfl
                clear H
                have H := H1
                clear H1
                exact absurd (Option.some.inj H) (by decide)
              ·
               replace c98 := Bool.eq_false_iff.mpr c98
               subst c98
               have H1 : (some false) = some true := by first | (rw [if_neg (show ¬ (false = true) by decide)] at H; exact H) | rfl
               clear H
               have H := H1
               clear H1
               exact absurd (Option.some.inj H) (by decide)
             ·
              replace c95 := Bool.eq_false_iff.mpr c95
              subst c95
              have H1 : (some true) = some true := by first | (rw [if_neg (show ¬ (false = true) by decide)] at H; exact H) | rfl
              clear H
              have H := H1
              clear H1 H
              go_wp2
              go_ret
              exact ⟨by first | rfl | (simp [errW_none, errW_some] <;> rfl) | (simp [*, errW_none, errW_some] <;> rfl), by repeat with_reducible first | exact HB.out | apply pw_below_drewN | apply below_drew1 | refine below_set ?_ (Aside0.out (by assumption))⟩

/-- The pure statement of laws_FnFactorsTell. -/
def laws_FnFactorsTell.Pure : Prop := ∀ (l0 : List Int) (l1 : List Int), l0.length ≤ maxLen → (∀ x ∈ l0, (Lit.int .u8 x).wf = true) → l1.length ≤ maxLen → (∀ x ∈ l1, (Lit.int .u8 x).wf = true) → ∃ k, laws_FnFactorsTell.f k l0 l1 = some true

end Go.Proofs.Ytfgfgkpmkfjeiaa.PFnFactorsTell
