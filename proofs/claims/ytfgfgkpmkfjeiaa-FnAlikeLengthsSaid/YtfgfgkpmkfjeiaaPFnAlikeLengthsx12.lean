-- Printed for this claim by wip/pp.py over the kit's printer; Lean checks it.
import Derived.Test.YtfgfgkpmkfjeiaaPFnAlikeLengthsx0
import Derived.Test.YtfgfgkpmkfjeiaaPFnAlikeLengthsx1
import Derived.Test.YtfgfgkpmkfjeiaaPFnAlikeLengthsx2
import Derived.Test.YtfgfgkpmkfjeiaaPFnAlikeLengthsx4
import Derived.Test.YtfgfgkpmkfjeiaaPFnAlikeLengthsx7
import Derived.Test.YtfgfgkpmkfjeiaaPFnAlikeLengthsx8
import Derived.Test.YtfgfgkpmkfjeiaaPFnAlikeLengthsx9
import Derived.Test.YtfgfgkpmkfjeiaaPFnAlikeLengthsx10
import Derived.Test.YtfgfgkpmkfjeiaaPFnAlikeLengthsx11
namespace Go.Proofs.Ytfgfgkpmkfjeiaa.PFnAlikeLengths
open Go.RowKit Go.Proofs.YtfgfgkpmkfjeiaaW.PrintWords Go.Proofs.YtfgfgkpmkfjeiaaW.PrintLast Go.Proofs.YtfgfgkpmkfjeiaaW.PrintMore
attribute [local go_sem] max2_int min2_int max_two min_two max_three min_three max_four min_four   -- for this text's walks alone
set_option linter.unusedVariables false
set_option linter.unusedSimpArgs false

/-! ### laws_FnAlikeLengths: function 4 -/
mutual
def laws_FnAlikeLengths.j0 : Nat → List Int → List Int → List Int → Bool → Bool → Bool → Option (Bool)
 | 0, _, _, _, _, _, _ => none
 | k + 1, x1, x5, x6, x7, x8, x85 => if x85 = true then (some false) else (if x8 = true then (laws_FnAlikeLengths.j1 k x1 x5 x6 x7 ((x5.length : Int) == (x6.length : Int))) else (laws_FnAlikeLengths.j1 k x1 x5 x6 x7 false))
def laws_FnAlikeLengths.j1 : Nat → List Int → List Int → List Int → Bool → Bool → Option (Bool)
 | 0, _, _, _, _, _ => none
 | k + 1, x1, x5, x6, x7, x93 => if x93 = true then ((impl_NumbersOfLengths.f k x5).bind fun bt490 => ((impl_NumbersOfLengths.f k x6).bind fun bt494 => (if bt490.2 = true then (if bt494.2 = true then ((laws_rSame.f k bt490.1 bt494.1).bind fun t498 => (if (x7 != t498) = true then (some false) else (laws_FnAlikeLengths.j2 k x1))) else (some false)) else (some false)))) else (laws_FnAlikeLengths.j2 k x1)
def laws_FnAlikeLengths.j2 : Nat → List Int → Option (Bool)
 | 0, _ => none
 | k + 1, x1 => (spec_DrawClassOf.f k x1).bind fun t499 => ((impl_ClassOf.f k t499).bind fun bt502 => ((spec_ClassOf.f k t499).bind fun bt506 => ((impl_CountClass.f k t499).bind fun bt510 => ((impl_StrictOf.f k t499).bind fun bt512 => ((spec_StrictOf.f k t499).bind fun bt516 => ((impl_SideOfLengths.f k t499).bind fun bt520 => ((spec_SideOfLengths.f k t499).bind fun bt524 => (if (bt502.2 != bt506.2) = true then (laws_FnAlikeLengths.j3 k x1 t499 bt502.1 bt502.2 bt510.1 bt512.1 bt520.1 true) else ((laws_rSameRows.f k bt502.1 bt506.1).bind fun t528 => (if t528 = true then (if (bt510.2 != bt502.2) = true then (laws_FnAlikeLengths.j3 k x1 t499 bt502.1 bt502.2 bt510.1 bt512.1 bt520.1 true) else (if (bt512.2 != bt516.2) = true then (laws_FnAlikeLengths.j3 k x1 t499 bt502.1 bt502.2 bt510.1 bt512.1 bt520.1 true) else ((laws_rSame.f k bt512.1 bt516.1).bind fun t529 => (if t529 = true then (if (bt520.2 != bt524.2) = true then (laws_FnAlikeLengths.j3 k x1 t499 bt502.1 bt502.2 bt510.1 bt512.1 bt520.1 true) else ((laws_rSame.f k bt520.1 bt524.1).bind fun t530 => (if t530 = true then (if (bt512.2 != bt502.2) = true then (laws_FnAlikeLengths.j3 k x1 t499 bt502.1 bt502.2 bt510.1 bt512.1 bt520.1 true) else (laws_FnAlikeLengths.j3 k x1 t499 bt502.1 bt502.2 bt510.1 bt512.1 bt520.1 (bt520.2 != bt502.2))) else (laws_FnAlikeLengths.j3 k x1 t499 bt502.1 bt502.2 bt510.1 bt512.1 bt520.1 true)))) else (laws_FnAlikeLengths.j3 k x1 t499 bt502.1 bt502.2 bt510.1 bt512.1 bt520.1 true))))) else (laws_FnAlikeLengths.j3 k x1 t499 bt502.1 bt502.2 bt510.1 bt512.1 bt520.1 true)))))))))))
def laws_FnAlikeLengths.j3 : Nat → List Int → List Int → List (List Int) → Bool → Int → List Int → List Int → Bool → Option (Bool)
 | 0, _, _, _, _, _, _, _, _ => none
 | k + 1, x1, x15, x16, x17, x20, x22, x26, x199 => if x199 = true then (some false) else ((spec_DrawLengthsFrom.f k x1).bind fun t531 => ((impl_LengthsFrom.f k t531).bind fun bt534 => ((spec_LengthsFrom.f k t531).bind fun bt538 => (if (bt534.2 != bt538.2) = true then (laws_FnAlikeLengths.j4 k x15 x16 x17 x20 x22 x26 t531 bt534.1 bt534.2 true) else ((laws_rSame.f k bt534.1 bt538.1).bind fun t542 => (laws_FnAlikeLengths.j4 k x15 x16 x17 x20 x22 x26 t531 bt534.1 bt534.2 (!t542)))))))
def laws_FnAlikeLengths.j4 : Nat → List Int → List (List Int) → Bool → Int → List Int → List Int → List Int → List Int → Bool → Bool → Option (Bool)
 | 0, _, _, _, _, _, _, _, _, _, _ => none
 | k + 1, x15, x16, x17, x20, x22, x26, x30, x31, x32, x220 => if x220 = true then (some false) else (if x32 = true then ((impl_FactorsOf.f k x31).bind fun bt543 => (if bt543.2 = true then ((laws_rSame.f k bt543.1 x30).bind fun t547 => (if t547 = true then (laws_FnAlikeLengths.j5 k x15 x16 x17 x20 x22 x26) else (some false))) else (some false))) else (laws_FnAlikeLengths.j5 k x15 x16 x17 x20 x22 x26))
def laws_FnAlikeLengths.j5 : Nat → List Int → List (List Int) → Bool → Int → List Int → List Int → Option (Bool)
 | 0, _, _, _, _, _, _ => none
 | k + 1, x15, x16, x17, x20, x22, x26 => if x17 = true then (if x20 = (x16.length : Int) then (laws_FnAlikeLengths.l0 k x15 x16 x22 x26 false x16 (x16.length : Int) 0) else (some false)) else (some true)
def laws_FnAlikeLengths.l0 : Nat → List Int → List (List Int) → List Int → List Int → Bool → List (List Int) → Int → Int → Option (Bool)
 | 0, _, _, _, _, _, _, _, _ => none
 | k + 1, x15, x16, x22, x26, x37, x241, x242, x243 => if x243 < x242 then (if 0 ≤ x243 then (if x243 < (x241.length : Int) then ((impl_AreAlikeLengths.f k (rd_L2 x241 x243) x15).bind fun bt549 => ((impl_StrictOf.f k (rd_L2 x241 x243)).bind fun bt551 => (if bt549.2 = true then (if bt549.1 = true then (if bt551.2 = true then ((laws_rSame.f k bt551.1 x22).bind fun t555 => (if t555 = true then (if x243 > 0 then (if 0 ≤ (wrap64 (x243 - 1)) then (if (wrap64 (x243 - 1)) < (x16.length : Int) then ((laws_rLess.f k (rd_L2 x16 (wrap64 (x243 - 1))) (rd_L2 x241 x243)).bind fun t557 => (if t557 = true then (if x37 = true then (laws_FnAlikeLengths.l0 k x15 x16 x22 x26 true x241 x242 (wrap64 (x243 + 1))) else ((laws_rSame.f k (rd_L2 x241 x243) x15).bind fun t558 => (laws_FnAlikeLengths.l0 k x15 x16 x22 x26 t558 x241 x242 (wrap64 (x243 + 1))))) else (some false))) else (none)) else (none)) else (if x37 = true then (laws_FnAlikeLengths.l0 k x15 x16 x22 x26 true x241 x242 (wrap64 (x243 + 1))) else ((laws_rSame.f k (rd_L2 x241 x243) x15).bind fun t559 => (laws_FnAlikeLengths.l0 k x15 x16 x22 x26 t559 x241 x242 (wrap64 (x243 + 1)))))) else (some false))) else (some false)) else (some false)) else (some false)))) else (none)) else (none)) else ((impl_FactorsOf.f k x15).bind fun bt560 => (laws_FnAlikeLengths.l1 k x15 x22 x26 x37 bt560.1 bt560.2 x22 (x22.length : Int) 0))
def laws_FnAlikeLengths.l1 : Nat → List Int → List Int → List Int → Bool → List Int → Bool → List Int → Int → Int → Option (Bool)
 | 0, _, _, _, _, _, _, _, _, _ => none
 | k + 1, x15, x22, x26, x37, x44, x45, x301, x302, x303 => if x303 < x302 then (if 0 ≤ x303 then (if x303 < (x301.length : Int) then (if x303 > 0 then (if 0 ≤ (wrap64 (x303 - 1)) then (if (wrap64 (x303 - 1)) < (x22.length : Int) then (if (rd x301 x303) < (rd x22 (wrap64 (x303 - 1))) then (laws_FnAlikeLengths.j8 k x15 x22 x26 x37 x44 x45 x303 (rd x301 x303) x301 x302 x303 true) else (if (rd x301 x303) = (rd x22 (wrap64 (x303 - 1))) then (laws_FnAlikeLengths.j8 k x15 x22 x26 x37 x44 x45 x303 (rd x301 x303) x301 x302 x303 (decide ((rd x301 x303) > 0))) else (laws_FnAlikeLengths.j8 k x15 x22 x26 x37 x44 x45 x303 (rd x301 x303) x301 x302 x303 false))) else (none)) else (none)) else (laws_FnAlikeLengths.j8 k x15 x22 x26 x37 x44 x45 x303 (rd x301 x303) x301 x302 x303 false)) else (none)) else (none)) else ((impl_AreAlikeLengths.f k x26 x15).bind fun bt564 => ((impl_SideOfLengths.f k x26).bind fun bt566 => (if x45 = true then (if x37 = true then (if bt564.2 = true then (if bt564.1 = true then (if bt566.2 = true then ((laws_rSame.f k bt566.1 x15).bind fun t570 => (some t570)) else (some false)) else (some false)) else (some false)) else (some false)) else (some false))))
def laws_FnAlikeLengths.j8 : Nat → List Int → List Int → List Int → Bool → List Int → Bool → Int → Int → List Int → Int → Int → Bool → Option (Bool)
 | 0, _, _, _, _, _, _, _, _, _, _, _, _ => none
 | k + 1, x15, x22, x26, x37, x44, x45, x46, x47, x301, x302, x303, x331 => if x331 = true then (some false) else (laws_FnAlikeLengths.l2 k x15 x22 x26 x37 x44 x45 x46 x47 0 0 x301 x302 x303 x22 (x22.length : Int) 0)
def laws_FnAlikeLengths.l2 : Nat → List Int → List Int → List Int → Bool → List Int → Bool → Int → Int → Int → Int → List Int → Int → Int → List Int → Int → Int → Option (Bool)
 | 0, _, _, _, _, _, _, _, _, _, _, _, _, _, _, _, _ => none
 | k + 1, x15, x22, x26, x37, x44, x45, x46, x47, x48, x49, x301, x302, x303, x332, x333, x334 => if x334 < x333 then (if 0 ≤ x334 then (if x334 < (x332.length : Int) then (if (wrap64 ((rd x332 x334) - x334)) = (wrap64 (x47 - x46)) then (laws_FnAlikeLengths.l2 k x15 x22 x26 x37 x44 x45 x46 x47 (wrap64 (x48 + 1)) x49 x301 x302 x303 x332 x333 (wrap64 (x334 + 1))) else (laws_FnAlikeLengths.l2 k x15 x22 x26 x37 x44 x45 x46 x47 x48 x49 x301 x302 x303 x332 x333 (wrap64 (x334 + 1)))) else (none)) else (none)) else (laws_FnAlikeLengths.l3 k x15 x22 x26 x37 x44 x45 x46 x47 x48 x49 x301 x302 x303 x44 (x44.length : Int) 0)
def laws_FnAlikeLengths.l3 : Nat → List Int → List Int → List Int → Bool → List Int → Bool → Int → Int → Int → Int → List Int → Int → Int → List Int → Int → Int → Option (Bool)
 | 0, _, _, _, _, _, _, _, _, _, _, _, _, _, _, _, _ => none
 | k + 1, x15, x22, x26, x37, x44, x45, x46, x47, x48, x49, x301, x302, x303, x349, x350, x351 => if x351 < x350 then (if 0 ≤ x351 then (if x351 < (x349.length : Int) then (if (rd x349 x351) = (wrap64 (x47 - x46)) then (laws_FnAlikeLengths.l3 k x15 x22 x26 x37 x44 x45 x46 x47 x48 (wrap64 (x49 + 1)) x301 x302 x303 x349 x350 (wrap64 (x351 + 1))) else (laws_FnAlikeLengths.l3 k x15 x22 x26 x37 x44 x45 x46 x47 x48 x49 x301 x302 x303 x349 x350 (wrap64 (x351 + 1)))) else (none)) else (none)) else (if x48 = x49 then (laws_FnAlikeLengths.l1 k x15 x22 x26 x37 x44 x45 x301 x302 (wrap64 (x303 + 1))) else (some false))
end
def laws_FnAlikeLengths.f (k : Nat) (l0 : List Int) (l1 : List Int) : Option (Bool) := (laws_big.f l0 l1).bind fun t479 => (if t479 = true then (some true) else ((spec_DrawAreAlikeLengths.f k l0).bind fun bt480 => ((impl_AreAlikeLengths.f k bt480.1 bt480.2).bind fun bt486 => ((spec_AreAlikeLengths.f k bt480.1 bt480.2).bind fun bt488 => (if (bt486.2 != bt488.2) = true then (laws_FnAlikeLengths.j0 k l1 bt480.1 bt480.2 bt486.1 bt486.2 true) else (laws_FnAlikeLengths.j0 k l1 bt480.1 bt480.2 bt486.1 bt486.2 (bt486.1 != bt488.1)))))))
theorem laws_FnAlikeLengths.mono_l : ∀ k, (∀ y0 y1 y2 y3 y4 y5, LeO (laws_FnAlikeLengths.j0 k y0 y1 y2 y3 y4 y5) (laws_FnAlikeLengths.j0 (k + 1) y0 y1 y2 y3 y4 y5)) ∧ (∀ y0 y1 y2 y3 y4, LeO (laws_FnAlikeLengths.j1 k y0 y1 y2 y3 y4) (laws_FnAlikeLengths.j1 (k + 1) y0 y1 y2 y3 y4)) ∧ (∀ y0, LeO (laws_FnAlikeLengths.j2 k y0) (laws_FnAlikeLengths.j2 (k + 1) y0)) ∧ (∀ y0 y1 y2 y3 y4 y5 y6 y7, LeO (laws_FnAlikeLengths.j3 k y0 y1 y2 y3 y4 y5 y6 y7) (laws_FnAlikeLengths.j3 (k + 1) y0 y1 y2 y3 y4 y5 y6 y7)) ∧ (∀ y0 y1 y2 y3 y4 y5 y6 y7 y8 y9, LeO (laws_FnAlikeLengths.j4 k y0 y1 y2 y3 y4 y5 y6 y7 y8 y9) (laws_FnAlikeLengths.j4 (k + 1) y0 y1 y2 y3 y4 y5 y6 y7 y8 y9)) ∧ (∀ y0 y1 y2 y3 y4 y5, LeO (laws_FnAlikeLengths.j5 k y0 y1 y2 y3 y4 y5) (laws_FnAlikeLengths.j5 (k + 1) y0 y1 y2 y3 y4 y5)) ∧ (∀ y0 y1 y2 y3 y4 y5 y6 y7, LeO (laws_FnAlikeLengths.l0 k y0 y1 y2 y3 y4 y5 y6 y7) (laws_FnAlikeLengths.l0 (k + 1) y0 y1 y2 y3 y4 y5 y6 y7)) ∧ (∀ y0 y1 y2 y3 y4 y5 y6 y7 y8, LeO (laws_FnAlikeLengths.l1 k y0 y1 y2 y3 y4 y5 y6 y7 y8) (laws_FnAlikeLengths.l1 (k + 1) y0 y1 y2 y3 y4 y5 y6 y7 y8)) ∧ (∀ y0 y1 y2 y3 y4 y5 y6 y7 y8 y9 y10 y11, LeO (laws_FnAlikeLengths.j8 k y0 y1 y2 y3 y4 y5 y6 y7 y8 y9 y10 y11) (laws_FnAlikeLengths.j8 (k + 1) y0 y1 y2 y3 y4 y5 y6 y7 y8 y9 y10 y11)) ∧ (∀ y0 y1 y2 y3 y4 y5 y6 y7 y8 y9 y10 y11 y12 y13 y14 y15, LeO (laws_FnAlikeLengths.l2 k y0 y1 y2 y3 y4 y5 y6 y7 y8 y9 y10 y11 y12 y13 y14 y15) (laws_FnAlikeLengths.l2 (k + 1) y0 y1 y2 y3 y4 y5 y6 y7 y8 y9 y10 y11 y12 y13 y14 y15)) ∧ (∀ y0 y1 y2 y3 y4 y5 y6 y7 y8 y9 y10 y11 y12 y13 y14 y15, LeO (laws_FnAlikeLengths.l3 k y0 y1 y2 y3 y4 y5 y6 y7 y8 y9 y10 y11 y12 y13 y14 y15) (laws_FnAlikeLengths.l3 (k + 1) y0 y1 y2 y3 y4 y5 y6 y7 y8 y9 y10 y11 y12 y13 y14 y15))
 | 0 => ⟨fun _ _ _ _ _ _ r h => by simp [laws_FnAlikeLengths.j0] at h, fun _ _ _ _ _ r h => by simp [laws_FnAlikeLengths.j1] at h, fun _ r h => by simp [laws_FnAlikeLengths.j2] at h, fun _ _ _ _ _ _ _ _ r h => by simp [laws_FnAlikeLengths.j3] at h, fun _ _ _ _ _ _ _ _ _ _ r h => by simp [laws_FnAlikeLengths.j4] at h, fun _ _ _ _ _ _ r h => by simp [laws_FnAlikeLengths.j5] at h, fun _ _ _ _ _ _ _ _ r h => by simp [laws_FnAlikeLengths.l0] at h, fun _ _ _ _ _ _ _ _ _ r h => by simp [laws_FnAlikeLengths.l1] at h, fun _ _ _ _ _ _ _ _ _ _ _ _ r h => by simp [laws_FnAlikeLengths.j8] at h, fun _ _ _ _ _ _ _ _ _ _ _ _ _ _ _ _ r h => by simp [laws_FnAlikeLengths.l2] at h, fun _ _ _ _ _ _ _ _ _ _ _ _ _ _ _ _ r h => by simp [laws_FnAlikeLengths.l3] at h⟩
 | k + 1 => by
  obtain ⟨ih0, ih1, ih2, ih3, ih4, ih5, ih6, ih7, ih8, ih9, ih10⟩ := laws_FnAlikeLengths.mono_l k
  refine ⟨?_, ?_, ?_, ?_, ?_, ?_, ?_, ?_, ?_, ?_, ?_⟩
  ·
   intro y0 y1 y2 y3 y4 y5
   unfold laws_FnAlikeLengths.j0
   repeat' first
   | (with_reducible exact ih0 _ _ _ _ _ _)
   | (with_reducible exact ih1 _ _ _ _ _)
   | (with_reducible exact ih2 _)
   | (with_reducible exact ih3 _ _ _ _ _ _ _ _)
   | (with_reducible exact ih4 _ _ _ _ _ _ _ _ _ _)
   | (with_reducible exact ih5 _ _ _ _ _ _)
   | (with_reducible exact ih6 _ _ _ _ _ _ _ _)
   | (with_reducible exact ih7 _ _ _ _ _ _ _ _ _)
   | (with_reducible exact ih8 _ _ _ _ _ _ _ _ _ _ _ _)
   | (with_reducible exact ih9 _ _ _ _ _ _ _ _ _ _ _ _ _ _ _ _)
   | (with_reducible exact ih10 _ _ _ _ _ _ _ _ _ _ _ _ _ _ _ _)
   | (with_reducible exact impl_AreAlikeLengths.mono _ _ _)
   | (with_reducible exact impl_ClassOf.mono _ _)
   | (with_reducible exact impl_CountClass.mono _ _)
   | (with_reducible exact impl_FactorsOf.mono _ _)
   | (with_reducible exact impl_LengthsFrom.mono _ _)
   | (with_reducible exact impl_NumbersOfLengths.mono _ _)
   | (with_reducible exact impl_SideOfLengths.mono _ _)
   | (with_reducible exact impl_StrictOf.mono _ _)
   | (with_reducible exact laws_rLess.mono _ _ _)
   | (with_reducible exact laws_rSame.mono _ _ _)
   | (with_reducible exact laws_rSameRows.mono _ _ _)
   | (with_reducible exact spec_AreAlikeLengths.mono _ _ _)
   | (with_reducible exact spec_ClassOf.mono _ _)
   | (with_reducible exact spec_DrawAreAlikeLengths.mono _ _)
   | (with_reducible exact spec_DrawClassOf.mono _ _)
   | (with_reducible exact spec_DrawLengthsFrom.mono _ _)
   | (with_reducible exact spec_LengthsFrom.mono _ _)
   | (with_reducible exact spec_SideOfLengths.mono _ _)
   | (with_reducible exact spec_StrictOf.mono _ _)
   | (with_reducible exact LeO.refl _)
   | (with_reducible exact LeO.none _)
   | (with_reducible refine LeO.ite ?_ ?_)
   | (with_reducible refine LeO.bind ?_ (fun _ => ?_))
   | exact ih0 _ _ _ _ _ _
   | exact ih1 _ _ _ _ _
   | exact ih2 _
   | exact ih3 _ _ _ _ _ _ _ _
   | exact ih4 _ _ _ _ _ _ _ _ _ _
   | exact ih5 _ _ _ _ _ _
   | exact ih6 _ _ _ _ _ _ _ _
   | exact ih7 _ _ _ _ _ _ _ _ _
   | exact ih8 _ _ _ _ _ _ _ _ _ _ _ _
   | exact ih9 _ _ _ _ _ _ _ _ _ _ _ _ _ _ _ _
   | exact ih10 _ _ _ _ _ _ _ _ _ _ _ _ _ _ _ _
   | exact impl_AreAlikeLengths.mono _ _ _
   | exact impl_ClassOf.mono _ _
   | exact impl_CountClass.mono _ _
   | exact impl_FactorsOf.mono _ _
   | exact impl_LengthsFrom.mono _ _
   | exact impl_NumbersOfLengths.mono _ _
   | exact impl_SideOfLengths.mono _ _
   | exact impl_StrictOf.mono _ _
   | exact laws_rLess.mono _ _ _
   | exact laws_rSame.mono _ _ _
   | exact laws_rSameRows.mono _ _ _
   | exact spec_AreAlikeLengths.mono _ _ _
   | exact spec_ClassOf.mono _ _
   | exact spec_DrawAreAlikeLengths.mono _ _
   | exact spec_DrawClassOf.mono _ _
   | exact spec_DrawLengthsFrom.mono _ _
   | exact spec_LengthsFrom.mono _ _
   | exact spec_SideOfLengths.mono _ _
   | exact spec_StrictOf.mono _ _
   | exact LeO.none _
   | refine LeO.ite ?_ ?_
   | refine LeO.bind ?_ (fun _ => ?_)
  ·
   intro y0 y1 y2 y3 y4
   unfold laws_FnAlikeLengths.j1
   repeat' first
   | (with_reducible exact ih0 _ _ _ _ _ _)
   | (with_reducible exact ih1 _ _ _ _ _)
   | (with_reducible exact ih2 _)
   | (with_reducible exact ih3 _ _ _ _ _ _ _ _)
   | (with_reducible exact ih4 _ _ _ _ _ _ _ _ _ _)
   | (with_reducible exact ih5 _ _ _ _ _ _)
   | (with_reducible exact ih6 _ _ _ _ _ _ _ _)
   | (with_reducible exact ih7 _ _ _ _ _ _ _ _ _)
   | (with_reducible exact ih8 _ _ _ _ _ _ _ _ _ _ _ _)
   | (with_reducible exact ih9 _ _ _ _ _ _ _ _ _ _ _ _ _ _ _ _)
   | (with_reducible exact ih10 _ _ _ _ _ _ _ _ _ _ _ _ _ _ _ _)
   | (with_reducible exact impl_AreAlikeLengths.mono _ _ _)
   | (with_reducible exact impl_ClassOf.mono _ _)
   | (with_reducible exact impl_CountClass.mono _ _)
   | (with_reducible exact impl_FactorsOf.mono _ _)
   | (with_reducible exact impl_LengthsFrom.mono _ _)
   | (with_reducible exact impl_NumbersOfLengths.mono _ _)
   | (with_reducible exact impl_SideOfLengths.mono _ _)
   | (with_reducible exact impl_StrictOf.mono _ _)
   | (with_reducible exact laws_rLess.mono _ _ _)
   | (with_reducible exact laws_rSame.mono _ _ _)
   | (with_reducible exact laws_rSameRows.mono _ _ _)
   | (with_reducible exact spec_AreAlikeLengths.mono _ _ _)
   | (with_reducible exact spec_ClassOf.mono _ _)
   | (with_reducible exact spec_DrawAreAlikeLengths.mono _ _)
   | (with_reducible exact spec_DrawClassOf.mono _ _)
   | (with_reducible exact spec_DrawLengthsFrom.mono _ _)
   | (with_reducible exact spec_LengthsFrom.mono _ _)
   | (with_reducible exact spec_SideOfLengths.mono _ _)
   | (with_reducible exact spec_StrictOf.mono _ _)
   | (with_reducible exact LeO.refl _)
   | (with_reducible exact LeO.none _)
   | (with_reducible refine LeO.ite ?_ ?_)
   | (with_reducible refine LeO.bind ?_ (fun _ => ?_))
   | exact ih0 _ _ _ _ _ _
   | exact ih1 _ _ _ _ _
   | exact ih2 _
   | exact ih3 _ _ _ _ _ _ _ _
   | exact ih4 _ _ _ _ _ _ _ _ _ _
   | exact ih5 _ _ _ _ _ _
   | exact ih6 _ _ _ _ _ _ _ _
   | exact ih7 _ _ _ _ _ _ _ _ _
   | exact ih8 _ _ _ _ _ _ _ _ _ _ _ _
   | exact ih9 _ _ _ _ _ _ _ _ _ _ _ _ _ _ _ _
   | exact ih10 _ _ _ _ _ _ _ _ _ _ _ _ _ _ _ _
   | exact impl_AreAlikeLengths.mono _ _ _
   | exact impl_ClassOf.mono _ _
   | exact impl_CountClass.mono _ _
   | exact impl_FactorsOf.mono _ _
   | exact impl_LengthsFrom.mono _ _
   | exact impl_NumbersOfLengths.mono _ _
   | exact impl_SideOfLengths.mono _ _
   | exact impl_StrictOf.mono _ _
   | exact laws_rLess.mono _ _ _
   | exact laws_rSame.mono _ _ _
   | exact laws_rSameRows.mono _ _ _
   | exact spec_AreAlikeLengths.mono _ _ _
   | exact spec_ClassOf.mono _ _
   | exact spec_DrawAreAlikeLengths.mono _ _
   | exact spec_DrawClassOf.mono _ _
   | exact spec_DrawLengthsFrom.mono _ _
   | exact spec_LengthsFrom.mono _ _
   | exact spec_SideOfLengths.mono _ _
   | exact spec_StrictOf.mono _ _
   | exact LeO.none _
   | refine LeO.ite ?_ ?_
   | refine LeO.bind ?_ (fun _ => ?_)
  ·
   intro y0
   unfold laws_FnAlikeLengths.j2
   repeat' first
   | (with_reducible exact ih0 _ _ _ _ _ _)
   | (with_reducible exact ih1 _ _ _ _ _)
   | (with_reducible exact ih2 _)
   | (with_reducible exact ih3 _ _ _ _ _ _ _ _)
   | (with_reducible exact ih4 _ _ _ _ _ _ _ _ _ _)
   | (with_reducible exact ih5 _ _ _ _ _ _)
   | (with_reducible exact ih6 _ _ _ _ _ _ _ _)
   | (with_reducible exact ih7 _ _ _ _ _ _ _ _ _)
   | (with_reducible exact ih8 _ _ _ _ _ _ _ _ _ _ _ _)
   | (with_reducible exact ih9 _ _ _ _ _ _ _ _ _ _ _ _ _ _ _ _)
   | (with_reducible exact ih10 _ _ _ _ _ _ _ _ _ _ _ _ _ _ _ _)
   | (with_reducible exact impl_AreAlikeLengths.mono _ _ _)
   | (with_reducible exact impl_ClassOf.mono _ _)
   | (with_reducible exact impl_CountClass.mono _ _)
   | (with_reducible exact impl_FactorsOf.mono _ _)
   | (with_reducible exact impl_LengthsFrom.mono _ _)
   | (with_reducible exact impl_NumbersOfLengths.mono _ _)
   | (with_reducible exact impl_SideOfLengths.mono _ _)
   | (with_reducible exact impl_StrictOf.mono _ _)
   | (with_reducible exact laws_rLess.mono _ _ _)
   | (with_reducible exact laws_rSame.mono _ _ _)
   | (with_reducible exact laws_rSameRows.mono _ _ _)
   | (with_reducible exact spec_AreAlikeLengths.mono _ _ _)
   | (with_reducible exact spec_ClassOf.mono _ _)
   | (with_reducible exact spec_DrawAreAlikeLengths.mono _ _)
   | (with_reducible exact spec_DrawClassOf.mono _ _)
   | (with_reducible exact spec_DrawLengthsFrom.mono _ _)
   | (with_reducible exact spec_LengthsFrom.mono _ _)
   | (with_reducible exact spec_SideOfLengths.mono _ _)
   | (with_reducible exact spec_StrictOf.mono _ _)
   | (with_reducible exact LeO.refl _)
   | (with_reducible exact LeO.none _)
   | (with_reducible refine LeO.ite ?_ ?_)
   | (with_reducible refine LeO.bind ?_ (fun _ => ?_))
   | exact ih0 _ _ _ _ _ _
   | exact ih1 _ _ _ _ _
   | exact ih2 _
   | exact ih3 _ _ _ _ _ _ _ _
   | exact ih4 _ _ _ _ _ _ _ _ _ _
   | exact ih5 _ _ _ _ _ _
   | exact ih6 _ _ _ _ _ _ _ _
   | exact ih7 _ _ _ _ _ _ _ _ _
   | exact ih8 _ _ _ _ _ _ _ _ _ _ _ _
   | exact ih9 _ _ _ _ _ _ _ _ _ _ _ _ _ _ _ _
   | exact ih10 _ _ _ _ _ _ _ _ _ _ _ _ _ _ _ _
   | exact impl_AreAlikeLengths.mono _ _ _
   | exact impl_ClassOf.mono _ _
   | exact impl_CountClass.mono _ _
   | exact impl_FactorsOf.mono _ _
   | exact impl_LengthsFrom.mono _ _
   | exact impl_NumbersOfLengths.mono _ _
   | exact impl_SideOfLengths.mono _ _
   | exact impl_StrictOf.mono _ _
   | exact laws_rLess.mono _ _ _
   | exact laws_rSame.mono _ _ _
   | exact laws_rSameRows.mono _ _ _
   | exact spec_AreAlikeLengths.mono _ _ _
   | exact spec_ClassOf.mono _ _
   | exact spec_DrawAreAlikeLengths.mono _ _
   | exact spec_DrawClassOf.mono _ _
   | exact spec_DrawLengthsFrom.mono _ _
   | exact spec_LengthsFrom.mono _ _
   | exact spec_SideOfLengths.mono _ _
   | exact spec_StrictOf.mono _ _
   | exact LeO.none _
   | refine LeO.ite ?_ ?_
   | refine LeO.bind ?_ (fun _ => ?_)
  ·
   intro y0 y1 y2 y3 y4 y5 y6 y7
   unfold laws_FnAlikeLengths.j3
   repeat' first
   | (with_reducible exact ih0 _ _ _ _ _ _)
   | (with_reducible exact ih1 _ _ _ _ _)
   | (with_reducible exact ih2 _)
   | (with_reducible exact ih3 _ _ _ _ _ _ _ _)
   | (with_reducible exact ih4 _ _ _ _ _ _ _ _ _ _)
   | (with_reducible exact ih5 _ _ _ _ _ _)
   | (with_reducible exact ih6 _ _ _ _ _ _ _ _)
   | (with_reducible exact ih7 _ _ _ _ _ _ _ _ _)
   | (with_reducible exact ih8 _ _ _ _ _ _ _ _ _ _ _ _)
   | (with_reducible exact ih9 _ _ _ _ _ _ _ _ _ _ _ _ _ _ _ _)
   | (with_reducible exact ih10 _ _ _ _ _ _ _ _ _ _ _ _ _ _ _ _)
   | (with_reducible exact impl_AreAlikeLengths.mono _ _ _)
   | (with_reducible exact impl_ClassOf.mono _ _)
   | (with_reducible exact impl_CountClass.mono _ _)
   | (with_reducible exact impl_FactorsOf.mono _ _)
   | (with_reducible exact impl_LengthsFrom.mono _ _)
   | (with_reducible exact impl_NumbersOfLengths.mono _ _)
   | (with_reducible exact impl_SideOfLengths.mono _ _)
   | (with_reducible exact impl_StrictOf.mono _ _)
   | (with_reducible exact laws_rLess.mono _ _ _)
   | (with_reducible exact laws_rSame.mono _ _ _)
   | (with_reducible exact laws_rSameRows.mono _ _ _)
   | (with_reducible exact spec_AreAlikeLengths.mono _ _ _)
   | (with_reducible exact spec_ClassOf.mono _ _)
   | (with_reducible exact spec_DrawAreAlikeLengths.mono _ _)
   | (with_reducible exact spec_DrawClassOf.mono _ _)
   | (with_reducible exact spec_DrawLengthsFrom.mono _ _)
   | (with_reducible exact spec_LengthsFrom.mono _ _)
   | (with_reducible exact spec_SideOfLengths.mono _ _)
   | (with_reducible exact spec_StrictOf.mono _ _)
   | (with_reducible exact LeO.refl _)
   | (with_reducible exact LeO.none _)
   | (with_reducible refine LeO.ite ?_ ?_)
   | (with_reducible refine LeO.bind ?_ (fun _ => ?_))
   | exact ih0 _ _ _ _ _ _
   | exact ih1 _ _ _ _ _
   | exact ih2 _
   | exact ih3 _ _ _ _ _ _ _ _
   | exact ih4 _ _ _ _ _ _ _ _ _ _
   | exact ih5 _ _ _ _ _ _
   | exact ih6 _ _ _ _ _ _ _ _
   | exact ih7 _ _ _ _ _ _ _ _ _
   | exact ih8 _ _ _ _ _ _ _ _ _ _ _ _
   | exact ih9 _ _ _ _ _ _ _ _ _ _ _ _ _ _ _ _
   | exact ih10 _ _ _ _ _ _ _ _ _ _ _ _ _ _ _ _
   | exact impl_AreAlikeLengths.mono _ _ _
   | exact impl_ClassOf.mono _ _
   | exact impl_CountClass.mono _ _
   | exact impl_FactorsOf.mono _ _
   | exact impl_LengthsFrom.mono _ _
   | exact impl_NumbersOfLengths.mono _ _
   | exact impl_SideOfLengths.mono _ _
   | exact impl_StrictOf.mono _ _
   | exact laws_rLess.mono _ _ _
   | exact laws_rSame.mono _ _ _
   | exact laws_rSameRows.mono _ _ _
   | exact spec_AreAlikeLengths.mono _ _ _
   | exact spec_ClassOf.mono _ _
   | exact spec_DrawAreAlikeLengths.mono _ _
   | exact spec_DrawClassOf.mono _ _
   | exact spec_DrawLengthsFrom.mono _ _
   | exact spec_LengthsFrom.mono _ _
   | exact spec_SideOfLengths.mono _ _
   | exact spec_StrictOf.mono _ _
   | exact LeO.none _
   | refine LeO.ite ?_ ?_
   | refine LeO.bind ?_ (fun _ => ?_)
  ·
   intro y0 y1 y2 y3 y4 y5 y6 y7 y8 y9
   unfold laws_FnAlikeLengths.j4
   repeat' first
   | (with_reducible exact ih0 _ _ _ _ _ _)
   | (with_reducible exact ih1 _ _ _ _ _)
   | (with_reducible exact ih2 _)
   | (with_reducible exact ih3 _ _ _ _ _ _ _ _)
   | (with_reducible exact ih4 _ _ _ _ _ _ _ _ _ _)
   | (with_reducible exact ih5 _ _ _ _ _ _)
   | (with_reducible exact ih6 _ _ _ _ _ _ _ _)
   | (with_reducible exact ih7 _ _ _ _ _ _ _ _ _)
   | (with_reducible exact ih8 _ _ _ _ _ _ _ _ _ _ _ _)
   | (with_reducible exact ih9 _ _ _ _ _ _ _ _ _ _ _ _ _ _ _ _)
   | (with_reducible exact ih10 _ _ _ _ _ _ _ _ _ _ _ _ _ _ _ _)
   | (with_reducible exact impl_AreAlikeLengths.mono _ _ _)
   | (with_reducible exact impl_ClassOf.mono _ _)
   | (with_reducible exact impl_CountClass.mono _ _)
   | (with_reducible exact impl_FactorsOf.mono _ _)
   | (with_reducible exact impl_LengthsFrom.mono _ _)
   | (with_reducible exact impl_NumbersOfLengths.mono _ _)
   | (with_reducible exact impl_SideOfLengths.mono _ _)
   | (with_reducible exact impl_StrictOf.mono _ _)
   | (with_reducible exact laws_rLess.mono _ _ _)
   | (with_reducible exact laws_rSame.mono _ _ _)
   | (with_reducible exact laws_rSameRows.mono _ _ _)
   | (with_reducible exact spec_AreAlikeLengths.mono _ _ _)
   | (with_reducible exact spec_ClassOf.mono _ _)
   | (with_reducible exact spec_DrawAreAlikeLengths.mono _ _)
   | (with_reducible exact spec_DrawClassOf.mono _ _)
   | (with_reducible exact spec_DrawLengthsFrom.mono _ _)
   | (with_reducible exact spec_LengthsFrom.mono _ _)
   | (with_reducible exact spec_SideOfLengths.mono _ _)
   | (with_reducible exact spec_StrictOf.mono _ _)
   | (with_reducible exact LeO.refl _)
   | (with_reducible exact LeO.none _)
   | (with_reducible refine LeO.ite ?_ ?_)
   | (with_reducible refine LeO.bind ?_ (fun _ => ?_))
   | exact ih0 _ _ _ _ _ _
   | exact ih1 _ _ _ _ _
   | exact ih2 _
   | exact ih3 _ _ _ _ _ _ _ _
   | exact ih4 _ _ _ _ _ _ _ _ _ _
   | exact ih5 _ _ _ _ _ _
   | exact ih6 _ _ _ _ _ _ _ _
   | exact ih7 _ _ _ _ _ _ _ _ _
   | exact ih8 _ _ _ _ _ _ _ _ _ _ _ _
   | exact ih9 _ _ _ _ _ _ _ _ _ _ _ _ _ _ _ _
   | exact ih10 _ _ _ _ _ _ _ _ _ _ _ _ _ _ _ _
   | exact impl_AreAlikeLengths.mono _ _ _
   | exact impl_ClassOf.mono _ _
   | exact impl_CountClass.mono _ _
   | exact impl_FactorsOf.mono _ _
   | exact impl_LengthsFrom.mono _ _
   | exact impl_NumbersOfLengths.mono _ _
   | exact impl_SideOfLengths.mono _ _
   | exact impl_StrictOf.mono _ _
   | exact laws_rLess.mono _ _ _
   | exact laws_rSame.mono _ _ _
   | exact laws_rSameRows.mono _ _ _
   | exact spec_AreAlikeLengths.mono _ _ _
   | exact spec_ClassOf.mono _ _
   | exact spec_DrawAreAlikeLengths.mono _ _
   | exact spec_DrawClassOf.mono _ _
   | exact spec_DrawLengthsFrom.mono _ _
   | exact spec_LengthsFrom.mono _ _
   | exact spec_SideOfLengths.mono _ _
   | exact spec_StrictOf.mono _ _
   | exact LeO.none _
   | refine LeO.ite ?_ ?_
   | refine LeO.bind ?_ (fun _ => ?_)
  ·
   intro y0 y1 y2 y3 y4 y5
   unfold laws_FnAlikeLengths.j5
   repeat' first
   | (with_reducible exact ih0 _ _ _ _ _ _)
   | (with_reducible exact ih1 _ _ _ _ _)
   | (with_reducible exact ih2 _)
   | (with_reducible exact ih3 _ _ _ _ _ _ _ _)
   | (with_reducible exact ih4 _ _ _ _ _ _ _ _ _ _)
   | (with_reducible exact ih5 _ _ _ _ _ _)
   | (with_reducible exact ih6 _ _ _ _ _ _ _ _)
   | (with_reducible exact ih7 _ _ _ _ _ _ _ _ _)
   | (with_reducible exact ih8 _ _ _ _ _ _ _ _ _ _ _ _)
   | (with_reducible exact ih9 _ _ _ _ _ _ _ _ _ _ _ _ _ _ _ _)
   | (with_reducible exact ih10 _ _ _ _ _ _ _ _ _ _ _ _ _ _ _ _)
   | (with_reducible exact impl_AreAlikeLengths.mono _ _ _)
   | (with_reducible exact impl_ClassOf.mono _ _)
   | (with_reducible exact impl_CountClass.mono _ _)
   | (with_reducible exact impl_FactorsOf.mono _ _)
   | (with_reducible exact impl_LengthsFrom.mono _ _)
   | (with_reducible exact impl_NumbersOfLengths.mono _ _)
   | (with_reducible exact impl_SideOfLengths.mono _ _)
   | (with_reducible exact impl_StrictOf.mono _ _)
   | (with_reducible exact laws_rLess.mono _ _ _)
   | (with_reducible exact laws_rSame.mono _ _ _)
   | (with_reducible exact laws_rSameRows.mono _ _ _)
   | (with_reducible exact spec_AreAlikeLengths.mono _ _ _)
   | (with_reducible exact spec_ClassOf.mono _ _)
   | (with_reducible exact spec_DrawAreAlikeLengths.mono _ _)
   | (with_reducible exact spec_DrawClassOf.mono _ _)
   | (with_reducible exact spec_DrawLengthsFrom.mono _ _)
   | (with_reducible exact spec_LengthsFrom.mono _ _)
   | (with_reducible exact spec_SideOfLengths.mono _ _)
   | (with_reducible exact spec_StrictOf.mono _ _)
   | (with_reducible exact LeO.refl _)
   | (with_reducible exact LeO.none _)
   | (with_reducible refine LeO.ite ?_ ?_)
   | (with_reducible refine LeO.bind ?_ (fun _ => ?_))
   | exact ih0 _ _ _ _ _ _
   | exact ih1 _ _ _ _ _
   | exact ih2 _
   | exact ih3 _ _ _ _ _ _ _ _
   | exact ih4 _ _ _ _ _ _ _ _ _ _
   | exact ih5 _ _ _ _ _ _
   | exact ih6 _ _ _ _ _ _ _ _
   | exact ih7 _ _ _ _ _ _ _ _ _
   | exact ih8 _ _ _ _ _ _ _ _ _ _ _ _
   | exact ih9 _ _ _ _ _ _ _ _ _ _ _ _ _ _ _ _
   | exact ih10 _ _ _ _ _ _ _ _ _ _ _ _ _ _ _ _
   | exact impl_AreAlikeLengths.mono _ _ _
   | exact impl_ClassOf.mono _ _
   | exact impl_CountClass.mono _ _
   | exact impl_FactorsOf.mono _ _
   | exact impl_LengthsFrom.mono _ _
   | exact impl_NumbersOfLengths.mono _ _
   | exact impl_SideOfLengths.mono _ _
   | exact impl_StrictOf.mono _ _
   | exact laws_rLess.mono _ _ _
   | exact laws_rSame.mono _ _ _
   | exact laws_rSameRows.mono _ _ _
   | exact spec_AreAlikeLengths.mono _ _ _
   | exact spec_ClassOf.mono _ _
   | exact spec_DrawAreAlikeLengths.mono _ _
   | exact spec_DrawClassOf.mono _ _
   | exact spec_DrawLengthsFrom.mono _ _
   | exact spec_LengthsFrom.mono _ _
   | exact spec_SideOfLengths.mono _ _
   | exact spec_StrictOf.mono _ _
   | exact LeO.none _
   | refine LeO.ite ?_ ?_
   | refine LeO.bind ?_ (fun _ => ?_)
  ·
   intro y0 y1 y2 y3 y4 y5 y6 y7
   unfold laws_FnAlikeLengths.l0
   repeat' first
   | (with_reducible exact ih0 _ _ _ _ _ _)
   | (with_reducible exact ih1 _ _ _ _ _)
   | (with_reducible exact ih2 _)
   | (with_reducible exact ih3 _ _ _ _ _ _ _ _)
   | (with_reducible exact ih4 _ _ _ _ _ _ _ _ _ _)
   | (with_reducible exact ih5 _ _ _ _ _ _)
   | (with_reducible exact ih6 _ _ _ _ _ _ _ _)
   | (with_reducible exact ih7 _ _ _ _ _ _ _ _ _)
   | (with_reducible exact ih8 _ _ _ _ _ _ _ _ _ _ _ _)
   | (with_reducible exact ih9 _ _ _ _ _ _ _ _ _ _ _ _ _ _ _ _)
   | (with_reducible exact ih10 _ _ _ _ _ _ _ _ _ _ _ _ _ _ _ _)
   | (with_reducible exact impl_AreAlikeLengths.mono _ _ _)
   | (with_reducible exact impl_ClassOf.mono _ _)
   | (with_reducible exact impl_CountClass.mono _ _)
   | (with_reducible exact impl_FactorsOf.mono _ _)
   | (with_reducible exact impl_LengthsFrom.mono _ _)
   | (with_reducible exact impl_NumbersOfLengths.mono _ _)
   | (with_reducible exact impl_SideOfLengths.mono _ _)
   | (with_reducible exact impl_StrictOf.mono _ _)
   | (with_reducible exact laws_rLess.mono _ _ _)
   | (with_reducible exact laws_rSame.mono _ _ _)
   | (with_reducible exact laws_rSameRows.mono _ _ _)
   | (with_reducible exact spec_AreAlikeLengths.mono _ _ _)
   | (with_reducible exact spec_ClassOf.mono _ _)
   | (with_reducible exact spec_DrawAreAlikeLengths.mono _ _)
   | (with_reducible exact spec_DrawClassOf.mono _ _)
   | (with_reducible exact spec_DrawLengthsFrom.mono _ _)
   | (with_reducible exact spec_LengthsFrom.mono _ _)
   | (with_reducible exact spec_SideOfLengths.mono _ _)
   | (with_reducible exact spec_StrictOf.mono _ _)
   | (with_reducible exact LeO.refl _)
   | (with_reducible exact LeO.none _)
   | (with_reducible refine LeO.ite ?_ ?_)
   | (with_reducible refine LeO.bind ?_ (fun _ => ?_))
   | exact ih0 _ _ _ _ _ _
   | exact ih1 _ _ _ _ _
   | exact ih2 _
   | exact ih3 _ _ _ _ _ _ _ _
   | exact ih4 _ _ _ _ _ _ _ _ _ _
   | exact ih5 _ _ _ _ _ _
   | exact ih6 _ _ _ _ _ _ _ _
   | exact ih7 _ _ _ _ _ _ _ _ _
   | exact ih8 _ _ _ _ _ _ _ _ _ _ _ _
   | exact ih9 _ _ _ _ _ _ _ _ _ _ _ _ _ _ _ _
   | exact ih10 _ _ _ _ _ _ _ _ _ _ _ _ _ _ _ _
   | exact impl_AreAlikeLengths.mono _ _ _
   | exact impl_ClassOf.mono _ _
   | exact impl_CountClass.mono _ _
   | exact impl_FactorsOf.mono _ _
   | exact impl_LengthsFrom.mono _ _
   | exact impl_NumbersOfLengths.mono _ _
   | exact impl_SideOfLengths.mono _ _
   | exact impl_StrictOf.mono _ _
   | exact laws_rLess.mono _ _ _
   | exact laws_rSame.mono _ _ _
   | exact laws_rSameRows.mono _ _ _
   | exact spec_AreAlikeLengths.mono _ _ _
   | exact spec_ClassOf.mono _ _
   | exact spec_DrawAreAlikeLengths.mono _ _
   | exact spec_DrawClassOf.mono _ _
   | exact spec_DrawLengthsFrom.mono _ _
   | exact spec_LengthsFrom.mono _ _
   | exact spec_SideOfLengths.mono _ _
   | exact spec_StrictOf.mono _ _
   | exact LeO.none _
   | refine LeO.ite ?_ ?_
   | refine LeO.bind ?_ (fun _ => ?_)
  ·
   intro y0 y1 y2 y3 y4 y5 y6 y7 y8
   unfold laws_FnAlikeLengths.l1
   repeat' first
   | (with_reducible exact ih0 _ _ _ _ _ _)
   | (with_reducible exact ih1 _ _ _ _ _)
   | (with_reducible exact ih2 _)
   | (with_reducible exact ih3 _ _ _ _ _ _ _ _)
   | (with_reducible exact ih4 _ _ _ _ _ _ _ _ _ _)
   | (with_reducible exact ih5 _ _ _ _ _ _)
   | (with_reducible exact ih6 _ _ _ _ _ _ _ _)
   | (with_reducible exact ih7 _ _ _ _ _ _ _ _ _)
   | (with_reducible exact ih8 _ _ _ _ _ _ _ _ _ _ _ _)
   | (with_reducible exact ih9 _ _ _ _ _ _ _ _ _ _ _ _ _ _ _ _)
   | (with_reducible exact ih10 _ _ _ _ _ _ _ _ _ _ _ _ _ _ _ _)
   | (with_reducible exact impl_AreAlikeLengths.mono _ _ _)
   | (with_reducible exact impl_ClassOf.mono _ _)
   | (with_reducible exact impl_CountClass.mono _ _)
   | (with_reducible exact impl_FactorsOf.mono _ _)
   | (with_reducible exact impl_LengthsFrom.mono _ _)
   | (with_reducible exact impl_NumbersOfLengths.mono _ _)
   | (with_reducible exact impl_SideOfLengths.mono _ _)
   | (with_reducible exact impl_StrictOf.mono _ _)
   | (with_reducible exact laws_rLess.mono _ _ _)
   | (with_reducible exact laws_rSame.mono _ _ _)
   | (with_reducible exact laws_rSameRows.mono _ _ _)
   | (with_reducible exact spec_AreAlikeLengths.mono _ _ _)
   | (with_reducible exact spec_ClassOf.mono _ _)
   | (with_reducible exact spec_DrawAreAlikeLengths.mono _ _)
   | (with_reducible exact spec_DrawClassOf.mono _ _)
   | (with_reducible exact spec_DrawLengthsFrom.mono _ _)
   | (with_reducible exact spec_LengthsFrom.mono _ _)
   | (with_reducible exact spec_SideOfLengths.mono _ _)
   | (with_reducible exact spec_StrictOf.mono _ _)
   | (with_reducible exact LeO.refl _)
   | (with_reducible exact LeO.none _)
   | (with_reducible refine LeO.ite ?_ ?_)
   | (with_reducible refine LeO.bind ?_ (fun _ => ?_))
   | exact ih0 _ _ _ _ _ _
   | exact ih1 _ _ _ _ _
   | exact ih2 _
   | exact ih3 _ _ _ _ _ _ _ _
   | exact ih4 _ _ _ _ _ _ _ _ _ _
   | exact ih5 _ _ _ _ _ _
   | exact ih6 _ _ _ _ _ _ _ _
   | exact ih7 _ _ _ _ _ _ _ _ _
   | exact ih8 _ _ _ _ _ _ _ _ _ _ _ _
   | exact ih9 _ _ _ _ _ _ _ _ _ _ _ _ _ _ _ _
   | exact ih10 _ _ _ _ _ _ _ _ _ _ _ _ _ _ _ _
   | exact impl_AreAlikeLengths.mono _ _ _
   | exact impl_ClassOf.mono _ _
   | exact impl_CountClass.mono _ _
   | exact impl_FactorsOf.mono _ _
   | exact impl_LengthsFrom.mono _ _
   | exact impl_NumbersOfLengths.mono _ _
   | exact impl_SideOfLengths.mono _ _
   | exact impl_StrictOf.mono _ _
   | exact laws_rLess.mono _ _ _
   | exact laws_rSame.mono _ _ _
   | exact laws_rSameRows.mono _ _ _
   | exact spec_AreAlikeLengths.mono _ _ _
   | exact spec_ClassOf.mono _ _
   | exact spec_DrawAreAlikeLengths.mono _ _
   | exact spec_DrawClassOf.mono _ _
   | exact spec_DrawLengthsFrom.mono _ _
   | exact spec_LengthsFrom.mono _ _
   | exact spec_SideOfLengths.mono _ _
   | exact spec_StrictOf.mono _ _
   | exact LeO.none _
   | refine LeO.ite ?_ ?_
   | refine LeO.bind ?_ (fun _ => ?_)
  ·
   intro y0 y1 y2 y3 y4 y5 y6 y7 y8 y9 y10 y11
   unfold laws_FnAlikeLengths.j8
   repeat' first
   | (with_reducible exact ih0 _ _ _ _ _ _)
   | (with_reducible exact ih1 _ _ _ _ _)
   | (with_reducible exact ih2 _)
   | (with_reducible exact ih3 _ _ _ _ _ _ _ _)
   | (with_reducible exact ih4 _ _ _ _ _ _ _ _ _ _)
   | (with_reducible exact ih5 _ _ _ _ _ _)
   | (with_reducible exact ih6 _ _ _ _ _ _ _ _)
   | (with_reducible exact ih7 _ _ _ _ _ _ _ _ _)
   | (with_reducible exact ih8 _ _ _ _ _ _ _ _ _ _ _ _)
   | (with_reducible exact ih9 _ _ _ _ _ _ _ _ _ _ _ _ _ _ _ _)
   | (with_reducible exact ih10 _ _ _ _ _ _ _ _ _ _ _ _ _ _ _ _)
   | (with_reducible exact impl_AreAlikeLengths.mono _ _ _)
   | (with_reducible exact impl_ClassOf.mono _ _)
   | (with_reducible exact impl_CountClass.mono _ _)
   | (with_reducible exact impl_FactorsOf.mono _ _)
   | (with_reducible exact impl_LengthsFrom.mono _ _)
   | (with_reducible exact impl_NumbersOfLengths.mono _ _)
   | (with_reducible exact impl_SideOfLengths.mono _ _)
   | (with_reducible exact impl_StrictOf.mono _ _)
   | (with_reducible exact laws_rLess.mono _ _ _)
   | (with_reducible exact laws_rSame.mono _ _ _)
   | (with_reducible exact laws_rSameRows.mono _ _ _)
   | (with_reducible exact spec_AreAlikeLengths.mono _ _ _)
   | (with_reducible exact spec_ClassOf.mono _ _)
   | (with_reducible exact spec_DrawAreAlikeLengths.mono _ _)
   | (with_reducible exact spec_DrawClassOf.mono _ _)
   | (with_reducible exact spec_DrawLengthsFrom.mono _ _)
   | (with_reducible exact spec_LengthsFrom.mono _ _)
   | (with_reducible exact spec_SideOfLengths.mono _ _)
   | (with_reducible exact spec_StrictOf.mono _ _)
   | (with_reducible exact LeO.refl _)
   | (with_reducible exact LeO.none _)
   | (with_reducible refine LeO.ite ?_ ?_)
   | (with_reducible refine LeO.bind ?_ (fun _ => ?_))
   | exact ih0 _ _ _ _ _ _
   | exact ih1 _ _ _ _ _
   | exact ih2 _
   | exact ih3 _ _ _ _ _ _ _ _
   | exact ih4 _ _ _ _ _ _ _ _ _ _
   | exact ih5 _ _ _ _ _ _
   | exact ih6 _ _ _ _ _ _ _ _
   | exact ih7 _ _ _ _ _ _ _ _ _
   | exact ih8 _ _ _ _ _ _ _ _ _ _ _ _
   | exact ih9 _ _ _ _ _ _ _ _ _ _ _ _ _ _ _ _
   | exact ih10 _ _ _ _ _ _ _ _ _ _ _ _ _ _ _ _
   | exact impl_AreAlikeLengths.mono _ _ _
   | exact impl_ClassOf.mono _ _
   | exact impl_CountClass.mono _ _
   | exact impl_FactorsOf.mono _ _
   | exact impl_LengthsFrom.mono _ _
   | exact impl_NumbersOfLengths.mono _ _
   | exact impl_SideOfLengths.mono _ _
   | exact impl_StrictOf.mono _ _
   | exact laws_rLess.mono _ _ _
   | exact laws_rSame.mono _ _ _
   | exact laws_rSameRows.mono _ _ _
   | exact spec_AreAlikeLengths.mono _ _ _
   | exact spec_ClassOf.mono _ _
   | exact spec_DrawAreAlikeLengths.mono _ _
   | exact spec_DrawClassOf.mono _ _
   | exact spec_DrawLengthsFrom.mono _ _
   | exact spec_LengthsFrom.mono _ _
   | exact spec_SideOfLengths.mono _ _
   | exact spec_StrictOf.mono _ _
   | exact LeO.none _
   | refine LeO.ite ?_ ?_
   | refine LeO.bind ?_ (fun _ => ?_)
  ·
   intro y0 y1 y2 y3 y4 y5 y6 y7 y8 y9 y10 y11 y12 y13 y14 y15
   unfold laws_FnAlikeLengths.l2
   repeat' first
   | (with_reducible exact ih0 _ _ _ _ _ _)
   | (with_reducible exact ih1 _ _ _ _ _)
   | (with_reducible exact ih2 _)
   | (with_reducible exact ih3 _ _ _ _ _ _ _ _)
   | (with_reducible exact ih4 _ _ _ _ _ _ _ _ _ _)
   | (with_reducible exact ih5 _ _ _ _ _ _)
   | (with_reducible exact ih6 _ _ _ _ _ _ _ _)
   | (with_reducible exact ih7 _ _ _ _ _ _ _ _ _)
   | (with_reducible exact ih8 _ _ _ _ _ _ _ _ _ _ _ _)
   | (with_reducible exact ih9 _ _ _ _ _ _ _ _ _ _ _ _ _ _ _ _)
   | (with_reducible exact ih10 _ _ _ _ _ _ _ _ _ _ _ _ _ _ _ _)
   | (with_reducible exact impl_AreAlikeLengths.mono _ _ _)
   | (with_reducible exact impl_ClassOf.mono _ _)
   | (with_reducible exact impl_CountClass.mono _ _)
   | (with_reducible exact impl_FactorsOf.mono _ _)
   | (with_reducible exact impl_LengthsFrom.mono _ _)
   | (with_reducible exact impl_NumbersOfLengths.mono _ _)
   | (with_reducible exact impl_SideOfLengths.mono _ _)
   | (with_reducible exact impl_StrictOf.mono _ _)
   | (with_reducible exact laws_rLess.mono _ _ _)
   | (with_reducible exact laws_rSame.mono _ _ _)
   | (with_reducible exact laws_rSameRows.mono _ _ _)
   | (with_reducible exact spec_AreAlikeLengths.mono _ _ _)
   | (with_reducible exact spec_ClassOf.mono _ _)
   | (with_reducible exact spec_DrawAreAlikeLengths.mono _ _)
   | (with_reducible exact spec_DrawClassOf.mono _ _)
   | (with_reducible exact spec_DrawLengthsFrom.mono _ _)
   | (with_reducible exact spec_LengthsFrom.mono _ _)
   | (with_reducible exact spec_SideOfLengths.mono _ _)
   | (with_reducible exact spec_StrictOf.mono _ _)
   | (with_reducible exact LeO.refl _)
   | (with_reducible exact LeO.none _)
   | (with_reducible refine LeO.ite ?_ ?_)
   | (with_reducible refine LeO.bind ?_ (fun _ => ?_))
   | exact ih0 _ _ _ _ _ _
   | exact ih1 _ _ _ _ _
   | exact ih2 _
   | exact ih3 _ _ _ _ _ _ _ _
   | exact ih4 _ _ _ _ _ _ _ _ _ _
   | exact ih5 _ _ _ _ _ _
   | exact ih6 _ _ _ _ _ _ _ _
   | exact ih7 _ _ _ _ _ _ _ _ _
   | exact ih8 _ _ _ _ _ _ _ _ _ _ _ _
   | exact ih9 _ _ _ _ _ _ _ _ _ _ _ _ _ _ _ _
   | exact ih10 _ _ _ _ _ _ _ _ _ _ _ _ _ _ _ _
   | exact impl_AreAlikeLengths.mono _ _ _
   | exact impl_ClassOf.mono _ _
   | exact impl_CountClass.mono _ _
   | exact impl_FactorsOf.mono _ _
   | exact impl_LengthsFrom.mono _ _
   | exact impl_NumbersOfLengths.mono _ _
   | exact impl_SideOfLengths.mono _ _
   | exact impl_StrictOf.mono _ _
   | exact laws_rLess.mono _ _ _
   | exact laws_rSame.mono _ _ _
   | exact laws_rSameRows.mono _ _ _
   | exact spec_AreAlikeLengths.mono _ _ _
   | exact spec_ClassOf.mono _ _
   | exact spec_DrawAreAlikeLengths.mono _ _
   | exact spec_DrawClassOf.mono _ _
   | exact spec_DrawLengthsFrom.mono _ _
   | exact spec_LengthsFrom.mono _ _
   | exact spec_SideOfLengths.mono _ _
   | exact spec_StrictOf.mono _ _
   | exact LeO.none _
   | refine LeO.ite ?_ ?_
   | refine LeO.bind ?_ (fun _ => ?_)
  ·
   intro y0 y1 y2 y3 y4 y5 y6 y7 y8 y9 y10 y11 y12 y13 y14 y15
   unfold laws_FnAlikeLengths.l3
   repeat' first
   | (with_reducible exact ih0 _ _ _ _ _ _)
   | (with_reducible exact ih1 _ _ _ _ _)
   | (with_reducible exact ih2 _)
   | (with_reducible exact ih3 _ _ _ _ _ _ _ _)
   | (with_reducible exact ih4 _ _ _ _ _ _ _ _ _ _)
   | (with_reducible exact ih5 _ _ _ _ _ _)
   | (with_reducible exact ih6 _ _ _ _ _ _ _ _)
   | (with_reducible exact ih7 _ _ _ _ _ _ _ _ _)
   | (with_reducible exact ih8 _ _ _ _ _ _ _ _ _ _ _ _)
   | (with_reducible exact ih9 _ _ _ _ _ _ _ _ _ _ _ _ _ _ _ _)
   | (with_reducible exact ih10 _ _ _ _ _ _ _ _ _ _ _ _ _ _ _ _)
   | (with_reducible exact impl_AreAlikeLengths.mono _ _ _)
   | (with_reducible exact impl_ClassOf.mono _ _)
   | (with_reducible exact impl_CountClass.mono _ _)
   | (with_reducible exact impl_FactorsOf.mono _ _)
   | (with_reducible exact impl_LengthsFrom.mono _ _)
   | (with_reducible exact impl_NumbersOfLengths.mono _ _)
   | (with_reducible exact impl_SideOfLengths.mono _ _)
   | (with_reducible exact impl_StrictOf.mono _ _)
   | (with_reducible exact laws_rLess.mono _ _ _)
   | (with_reducible exact laws_rSame.mono _ _ _)
   | (with_reducible exact laws_rSameRows.mono _ _ _)
   | (with_reducible exact spec_AreAlikeLengths.mono _ _ _)
   | (with_reducible exact spec_ClassOf.mono _ _)
   | (with_reducible exact spec_DrawAreAlikeLengths.mono _ _)
   | (with_reducible exact spec_DrawClassOf.mono _ _)
   | (with_reducible exact spec_DrawLengthsFrom.mono _ _)
   | (with_reducible exact spec_LengthsFrom.mono _ _)
   | (with_reducible exact spec_SideOfLengths.mono _ _)
   | (with_reducible exact spec_StrictOf.mono _ _)
   | (with_reducible exact LeO.refl _)
   | (with_reducible exact LeO.none _)
   | (with_reducible refine LeO.ite ?_ ?_)
   | (with_reducible refine LeO.bind ?_ (fun _ => ?_))
   | exact ih0 _ _ _ _ _ _
   | exact ih1 _ _ _ _ _
   | exact ih2 _
   | exact ih3 _ _ _ _ _ _ _ _
   | exact ih4 _ _ _ _ _ _ _ _ _ _
   | exact ih5 _ _ _ _ _ _
   | exact ih6 _ _ _ _ _ _ _ _
   | exact ih7 _ _ _ _ _ _ _ _ _
   | exact ih8 _ _ _ _ _ _ _ _ _ _ _ _
   | exact ih9 _ _ _ _ _ _ _ _ _ _ _ _ _ _ _ _
   | exact ih10 _ _ _ _ _ _ _ _ _ _ _ _ _ _ _ _
   | exact impl_AreAlikeLengths.mono _ _ _
   | exact impl_ClassOf.mono _ _
   | exact impl_CountClass.mono _ _
   | exact impl_FactorsOf.mono _ _
   | exact impl_LengthsFrom.mono _ _
   | exact impl_NumbersOfLengths.mono _ _
   | exact impl_SideOfLengths.mono _ _
   | exact impl_StrictOf.mono _ _
   | exact laws_rLess.mono _ _ _
   | exact laws_rSame.mono _ _ _
   | exact laws_rSameRows.mono _ _ _
   | exact spec_AreAlikeLengths.mono _ _ _
   | exact spec_ClassOf.mono _ _
   | exact spec_DrawAreAlikeLengths.mono _ _
   | exact spec_DrawClassOf.mono _ _
   | exact spec_DrawLengthsFrom.mono _ _
   | exact spec_LengthsFrom.mono _ _
   | exact spec_SideOfLengths.mono _ _
   | exact spec_StrictOf.mono _ _
   | exact LeO.none _
   | refine LeO.ite ?_ ?_
   | refine LeO.bind ?_ (fun _ => ?_)
theorem laws_FnAlikeLengths.mono : ∀ a0 a1 k, LeO (laws_FnAlikeLengths.f k a0 a1) (laws_FnAlikeLengths.f (k + 1) a0 a1) := by
 intro a0 a1 k
 obtain ⟨ih0, ih1, ih2, ih3, ih4, ih5, ih6, ih7, ih8, ih9, ih10⟩ := laws_FnAlikeLengths.mono_l k
 unfold laws_FnAlikeLengths.f
 repeat' first
   | (with_reducible exact ih0 _ _ _ _ _ _)
   | (with_reducible exact ih1 _ _ _ _ _)
   | (with_reducible exact ih2 _)
   | (with_reducible exact ih3 _ _ _ _ _ _ _ _)
   | (with_reducible exact ih4 _ _ _ _ _ _ _ _ _ _)
   | (with_reducible exact ih5 _ _ _ _ _ _)
   | (with_reducible exact ih6 _ _ _ _ _ _ _ _)
   | (with_reducible exact ih7 _ _ _ _ _ _ _ _ _)
   | (with_reducible exact ih8 _ _ _ _ _ _ _ _ _ _ _ _)
   | (with_reducible exact ih9 _ _ _ _ _ _ _ _ _ _ _ _ _ _ _ _)
   | (with_reducible exact ih10 _ _ _ _ _ _ _ _ _ _ _ _ _ _ _ _)
   | (with_reducible exact impl_AreAlikeLengths.mono _ _ _)
   | (with_reducible exact impl_ClassOf.mono _ _)
   | (with_reducible exact impl_CountClass.mono _ _)
   | (with_reducible exact impl_FactorsOf.mono _ _)
   | (with_reducible exact impl_LengthsFrom.mono _ _)
   | (with_reducible exact impl_NumbersOfLengths.mono _ _)
   | (with_reducible exact impl_SideOfLengths.mono _ _)
   | (with_reducible exact impl_StrictOf.mono _ _)
   | (with_reducible exact laws_rLess.mono _ _ _)
   | (with_reducible exact laws_rSame.mono _ _ _)
   | (with_reducible exact laws_rSameRows.mono _ _ _)
   | (with_reducible exact spec_AreAlikeLengths.mono _ _ _)
   | (with_reducible exact spec_ClassOf.mono _ _)
   | (with_reducible exact spec_DrawAreAlikeLengths.mono _ _)
   | (with_reducible exact spec_DrawClassOf.mono _ _)
   | (with_reducible exact spec_DrawLengthsFrom.mono _ _)
   | (with_reducible exact spec_LengthsFrom.mono _ _)
   | (with_reducible exact spec_SideOfLengths.mono _ _)
   | (with_reducible exact spec_StrictOf.mono _ _)
   | (with_reducible exact LeO.refl _)
   | (with_reducible exact LeO.none _)
   | (with_reducible refine LeO.ite ?_ ?_)
   | (with_reducible refine LeO.bind ?_ (fun _ => ?_))
   | exact ih0 _ _ _ _ _ _
   | exact ih1 _ _ _ _ _
   | exact ih2 _
   | exact ih3 _ _ _ _ _ _ _ _
   | exact ih4 _ _ _ _ _ _ _ _ _ _
   | exact ih5 _ _ _ _ _ _
   | exact ih6 _ _ _ _ _ _ _ _
   | exact ih7 _ _ _ _ _ _ _ _ _
   | exact ih8 _ _ _ _ _ _ _ _ _ _ _ _
   | exact ih9 _ _ _ _ _ _ _ _ _ _ _ _ _ _ _ _
   | exact ih10 _ _ _ _ _ _ _ _ _ _ _ _ _ _ _ _
   | exact impl_AreAlikeLengths.mono _ _ _
   | exact impl_ClassOf.mono _ _
   | exact impl_CountClass.mono _ _
   | exact impl_FactorsOf.mono _ _
   | exact impl_LengthsFrom.mono _ _
   | exact impl_NumbersOfLengths.mono _ _
   | exact impl_SideOfLengths.mono _ _
   | exact impl_StrictOf.mono _ _
   | exact laws_rLess.mono _ _ _
   | exact laws_rSame.mono _ _ _
   | exact laws_rSameRows.mono _ _ _
   | exact spec_AreAlikeLengths.mono _ _ _
   | exact spec_ClassOf.mono _ _
   | exact spec_DrawAreAlikeLengths.mono _ _
   | exact spec_DrawClassOf.mono _ _
   | exact spec_DrawLengthsFrom.mono _ _
   | exact spec_LengthsFrom.mono _ _
   | exact spec_SideOfLengths.mono _ _
   | exact spec_StrictOf.mono _ _
   | exact LeO.none _
   | refine LeO.ite ?_ ?_
   | refine LeO.bind ?_ (fun _ => ?_)
theorem laws_FnAlikeLengths.j0_no (k : Nat) (x1 : List Int) (x5 : List Int) (x6 : List Int) (x7 : Bool) (x8 : Bool) : ¬ (laws_FnAlikeLengths.j0 k x1 x5 x6 x7 x8 true = some true) := by
 cases k <;> simp [laws_FnAlikeLengths.j0]
theorem laws_FnAlikeLengths.j3_no (k : Nat) (x1 : List Int) (x15 : List Int) (x16 : List (List Int)) (x17 : Bool) (x20 : Int) (x22 : List Int) (x26 : List Int) : ¬ (laws_FnAlikeLengths.j3 k x1 x15 x16 x17 x20 x22 x26 true = some true) := by
 cases k <;> simp [laws_FnAlikeLengths.j3]
theorem laws_FnAlikeLengths.j4_no (k : Nat) (x15 : List Int) (x16 : List (List Int)) (x17 : Bool) (x20 : Int) (x22 : List Int) (x26 : List Int) (x30 : List Int) (x31 : List Int) (x32 : Bool) : ¬ (laws_FnAlikeLengths.j4 k x15 x16 x17 x20 x22 x26 x30 x31 x32 true = some true) := by
 cases k <;> simp [laws_FnAlikeLengths.j4]
theorem laws_FnAlikeLengths.j8_no (k : Nat) (x15 : List Int) (x22 : List Int) (x26 : List Int) (x37 : Bool) (x44 : List Int) (x45 : Bool) (x46 : Int) (x47 : Int) (x301 : List Int) (x302 : Int) (x303 : Int) : ¬ (laws_FnAlikeLengths.j8 k x15 x22 x26 x37 x44 x45 x46 x47 x301 x302 x303 true = some true) := by
 cases k <;> simp [laws_FnAlikeLengths.j8]
set_option maxHeartbeats 8000000 in
set_option maxRecDepth 100000 in
theorem laws_FnAlikeLengths.calls (k : Nat) (A0 : Option Addr) (c0 : Nat) (l0 : List Int) (A1 : Option Addr) (c1 : Nat) (l1 : List Int) (w : World) (hr0 : Kd.C (Kd.int .u8) w A0 l0.length l0) (hc0 : l0.length ≤ c0) (hr1 : Kd.C (Kd.int .u8) w A1 l1.length l1) (hc1 : l1.length ≤ c1) (h : laws_FnAlikeLengths.f k l0 l1 = some true) :
  Calls Try.prog 4 #[.slice A0 l0.length c0, .slice A1 l1.length c1] w fun e w' => e = .returned (.bool true) ∧ Below w.heap.size w w' := by
 have HR0 := Aside0.mk hr0
 have HC0 := Aside0.mk hc0
 clear hr0 hc0
 have HR1 := Aside0.mk hr1
 have HC1 := Aside0.mk hc1
 clear hr1 hc1
 have HB := am (Below.refl w.heap.size w)
 have H : ((laws_big.f l0 l1).bind fun t479 => (if t479 = true then (some true) else ((spec_DrawAreAlikeLengths.f k l0).bind fun bt480 => ((impl_AreAlikeLengths.f k bt480.1 bt480.2).bind fun bt486 => ((spec_AreAlikeLengths.f k bt480.1 bt480.2).bind fun bt488 => (if (bt486.2 != bt488.2) = true then (laws_FnAlikeLengths.j0 k l1 bt480.1 bt480.2 bt486.1 bt486.2 true) else (laws_FnAlikeLengths.j0 k l1 bt480.1 bt480.2 bt486.1 bt486.2 (bt486.1 != bt488.1)))))))) = some true := h
 clear h
 replace H := Option.bind_eq_some_iff.mp H
 obtain ⟨t479, A30, H⟩ := H
 replace H : (if t479 = true then (some true) else ((spec_DrawAreAlikeLengths.f k l0).bind fun bt480 => ((impl_AreAlikeLengths.f k bt480.1 bt480.2).bind fun bt486 => ((spec_AreAlikeLengths.f k bt480.1 bt480.2).bind fun bt488 => (if (bt486.2 != bt488.2) = true then (laws_FnAlikeLengths.j0 k l1 bt480.1 bt480.2 bt486.1 bt486.2 true) else (laws_FnAlikeLengths.j0 k l1 bt480.1 bt480.2 bt486.1 bt486.2 (bt486.1 != bt488.1))))))) = some true := H
 have A3 := Aside0.mk A30
 clear A30
 by_cases c4 : t479 = true
 ·
  subst c4
  have H1 : (some true) = some true := by first | (rw [if_pos rfl] at H; exact H) | rfl
  clear H
  have H := H1
  clear H1 H
  go_enter Try.func4, Try.ntmps4
  go_wp2_with (first | ((with_reducible refine gate_callee (f := 10) rfl ?_); refine goesL_ (some 60) rfl rfl Try.func10 (by kernel_rfl) rfl #[.slice A0 l0.length c0, .slice A1 l1.length c1] rfl (by (try simp only [List.map_toArray, List.map_cons, List.map_nil]); try rfl) ?_; (with_reducible refine (laws_big.calls _ _ l0 _ _ l1 true _ ?side1 ?side2 ?side3 ?side4 A3.out).mono ?_); (case side1 => repeat (first | exact HR0.out | (with_reducible first | refine Kd.C_alloc ?_ _ | refine Kd.C_drewN ?_ _ | refine Kd.C_drew ?_))); (case side2 => exact HC0.out); (case side3 => repeat (first | exact HR1.out | (with_reducible first | refine Kd.C_alloc ?_ _ | refine Kd.C_drewN ?_ _ | refine Kd.C_drew ?_))); (case side4 => exact HC1.out); rintro e w' ⟨rfl, ⟨nd, rfl⟩⟩; refine ⟨_, rfl, ?_⟩))
  go_ret
  exact ⟨by first | rfl | (simp [errW_none, errW_some] <;> rfl) | (simp [*, errW_none, errW_some] <;> rfl), by repeat with_reducible first | exact HB.out | apply pw_below_drewN | apply below_drew1⟩
 ·
  replace c4 := Bool.eq_false_iff.mpr c4
  subst c4
  have H1 : ((spec_DrawAreAlikeLengths.f k l0).bind fun bt480 => ((impl_AreAlikeLengths.f k bt480.1 bt480.2).bind fun bt486 => ((spec_AreAlikeLengths.f k bt480.1 bt480.2).bind fun bt488 => (if (bt486.2 != bt488.2) = true then (laws_FnAlikeLengths.j0 k l1 bt480.1 bt480.2 bt486.1 bt486.2 true) else (laws_FnAlikeLengths.j0 k l1 bt480.1 bt480.2 bt486.1 bt486.2 (bt486.1 != bt488.1)))))) = some true := by first | (rw [if_neg (show ¬ (false = true) by decide)] at H; exact H) | rfl
  clear H
  have H := H1
  clear H1
  replace H := Option.bind_eq_some_iff.mp H
  obtain ⟨⟨t480, t483⟩, A50, H⟩ := H
  replace H : ((impl_AreAlikeLengths.f k t480 t483).bind fun bt486 => ((spec_AreAlikeLengths.f k t480 t483).bind fun bt488 => (if (bt486.2 != bt488.2) = true then (laws_FnAlikeLengths.j0 k l1 t480 t483 bt486.1 bt486.2 true) else (laws_FnAlikeLengths.j0 k l1 t480 t483 bt486.1 bt486.2 (bt486.1 != bt488.1))))) = some true := H
  have A5 := Aside0.mk A50
  clear A50
  replace H := Option.bind_eq_some_iff.mp H
  obtain ⟨⟨t486, t487⟩, A60, H⟩ := H
  replace H : ((spec_AreAlikeLengths.f k t480 t483).bind fun bt488 => (if (t487 != bt488.2) = true then (laws_FnAlikeLengths.j0 k l1 t480 t483 t486 t487 true) else (laws_FnAlikeLengths.j0 k l1 t480 t483 t486 t487 (t486 != bt488.1)))) = some true := H
  have A6 := Aside0.mk A60
  clear A60
  replace H := Option.bind_eq_some_iff.mp H
  obtain ⟨⟨t488, t489⟩, A70, H⟩ := H
  replace H : (if (t487 != t489) = true then (laws_FnAlikeLengths.j0 k l1 t480 t483 t486 t487 true) else (laws_FnAlikeLengths.j0 k l1 t480 t483 t486 t487 (t486 != t488))) = some true := H
  have A7 := Aside0.mk A70
  clear A70
  have HC8 := Aside0.mk H
  clear H
  go_enter Try.func4, Try.ntmps4
  go_upto_region 6 with (first | ((with_reducible refine gate_callee (f := 10) rfl ?_); refine goesL_ (some 60) rfl rfl Try.func10 (by kernel_rfl) rfl #[.slice A0 l0.length c0, .slice A1 l1.length c1] rfl (by (try simp only [List.map_toArray, List.map_cons, List.map_nil]); try rfl) ?_; (with_reducible refine (laws_big.calls _ _ l0 _ _ l1 false _ ?side1 ?side2 ?side3 ?side4 A3.out).mono ?_); (case side1 => repeat (first | exact HR0.out | (with_reducible first | refine Kd.C_alloc ?_ _ | refine Kd.C_drewN ?_ _ | refine Kd.C_drew ?_))); (case side2 => exact HC0.out); (case side3 => repeat (first | exact HR1.out | (with_reducible first | refine Kd.C_alloc ?_ _ | refine Kd.C_drewN ?_ _ | refine Kd.C_drew ?_))); (case side4 => exact HC1.out); rintro e w' ⟨rfl, ⟨nd, rfl⟩⟩; refine ⟨_, rfl, ?_⟩) | ((with_reducible refine gate_callee (f := 32) rfl ?_); refine goesL_ (some 63) rfl rfl Try.func32 (by kernel_rfl) rfl #[.slice A0 l0.length c0] rfl (by (try simp only [List.map_toArray, List.map_cons, List.map_nil]); try rfl) ?_; (with_reducible refine (spec_DrawAreAlikeLengths.calls k _ _ l0 t480 t483 _ ?side1 ?side2 A5.out).mono ?_); (case side1 => repeat (first | exact HR0.out | (with_reducible first | refine Kd.C_alloc ?_ _ | refine Kd.C_drewN ?_ _ | refine Kd.C_drew ?_))); (case side2 => exact HC0.out); rintro e w9 ⟨v481, v484, rfl, ho0, ho1, hb⟩; refine ⟨_, rfl, ?_⟩; have n0_ := am (Kd.R_lower (Kd.R_mono (ok' := fun k_ => True) ho0 (fun _ hk_ => trivial)) (below_size (by repeat with_reducible first | exact HB.out | apply pw_below_drewN | apply below_drew1))); have n1_ := am (Kd.V_lower (Kd.V_mono (ok' := fun k_ => some k_ ≠ (v481 : Value).ownBlock) ho1 (fun k_ hk_ => hk_.2)) (below_size (by repeat with_reducible first | exact HB.out | apply pw_below_drewN | apply below_drew1))); have n2_ := am (below_step (by repeat with_reducible first | exact HB.out | apply pw_below_drewN | apply below_drew1) hb); clear HB; have Oq0 := n0_; have Oq1 := n1_; have HB := n2_; clear n0_ n1_ n2_; (try clear hb); (try clear hb2); (try clear hk); (try clear hi); (try clear ho0); (try clear ho1); obtain ⟨Ao10, co10, eo10⟩ := Kd.R_slice Oq0.out; subst eo10; obtain ⟨Ao11, co11, eo11⟩ := Kd.V_slice Oq1.out; subst eo11) | ((with_reducible refine gate_callee (f := 33) rfl ?_); refine goesL_ (some 69) rfl rfl Try.func33 (by kernel_rfl) rfl #[.slice Ao10 t480.length co10, .slice Ao11 t483.length co11] rfl (by (try simp only [List.map_toArray, List.map_cons, List.map_nil]); try rfl) ?_; (with_reducible refine (impl_AreAlikeLengths.calls k _ _ t480 _ _ t483 t486 t487 _ ?side1 ?side2 ?side3 ?side4 A6.out).mono ?_); (case side1 => repeat (first | exact (Kd.R_reads' Oq0.out).2.2 | (with_reducible first | refine Kd.C_alloc ?_ _ | refine Kd.C_drewN ?_ _ | refine Kd.C_drew ?_))); (case side2 => exact (Kd.R_reads' Oq0.out).2.1); (case side3 => repeat (first | exact (Kd.V_reads' Oq1.out).2.2 | (with_reducible first | refine Kd.C_alloc ?_ _ | refine Kd.C_drewN ?_ _ | refine Kd.C_drew ?_))); (case side4 => exact (Kd.V_reads' Oq1.out).2.1); rintro e w12 ⟨rfl, hb⟩; refine ⟨_, rfl, ?_⟩; have n1_ := am (Kd.V_below (by (with_reducible repeat (first | apply Kd.V_alloc | apply Kd.V_drewN | apply Kd.V_drew)); exact Oq1.out) hb); have n2_ := am (below_step (by repeat with_reducible first | exact HB.out | apply pw_below_drewN | apply below_drew1) hb); clear Oq1; clear HB; replace Oq0 := sqR Oq0 hb; have Oq1 := n1_; have HB := n2_; clear n1_ n2_; (try clear hb); (try clear hb2); (try clear hk); (try clear hi)) | ((with_reducible refine gate_callee (f := 34) rfl ?_); refine goesL_ (some 75) rfl rfl Try.func34 (by kernel_rfl) rfl #[.slice Ao10 t480.length co10, .slice Ao11 t483.length co11] rfl (by (try simp only [List.map_toArray, List.map_cons, List.map_nil]); try rfl) ?_; (with_reducible refine (spec_AreAlikeLengths.calls k _ _ t480 _ _ t483 t488 t489 _ ?side1 ?side2 ?side3 ?side4 A7.out).mono ?_); (case side1 => repeat (first | exact (Kd.R_reads' Oq0.out).2.2 | (with_reducible first | refine Kd.C_alloc ?_ _ | refine Kd.C_drewN ?_ _ | refine Kd.C_drew ?_))); (case side2 => exact (Kd.R_reads' Oq0.out).2.1); (case side3 => repeat (first | exact (Kd.V_reads' Oq1.out).2.2 | (with_reducible first | refine Kd.C_alloc ?_ _ | refine Kd.C_drewN ?_ _ | refine Kd.C_drew ?_))); (case side4 => exact (Kd.V_reads' Oq1.out).2.1); rintro e w13 ⟨rfl, hb⟩; refine ⟨_, rfl, ?_⟩; have n1_ := am (Kd.V_below (by (with_reducible repeat (first | apply Kd.V_alloc | apply Kd.V_drewN | apply Kd.V_drew)); exact Oq1.out) hb); have n2_ := am (below_step (by repeat with_reducible first | exact HB.out | apply pw_below_drewN | apply below_drew1) hb); clear Oq1; clear HB; replace Oq0 := sqR Oq0 hb; have Oq1 := n1_; have HB := n2_; clear n1_ n2_; (try clear hb); (try clear hb2); (try clear hk); (try clear hi)))
  (try simp only [Act.put, List.setIfInBounds_toArray, List.set_cons_zero, List.set_cons_succ])
  go_cut [85] (fun v85 wc => ∃ (kq : Nat) (x85_7 : Bool), v85 = .bool x85_7 ∧ Aside0 (laws_FnAlikeLengths.j0 kq l1 t480 t483 t486 t487 x85_7 = some true) ∧ Aside0 (kq ≤ k) ∧ Aside0 (Kd.R (Kd.int .i64) 3 wc w.heap.size (fun _ => True) (.slice Ao10 t480.length co10) t480) ∧ Aside0 (Kd.V (Kd.int .i64) 3 wc w.heap.size (fun k_ => some k_ ≠ ((.slice Ao10 t480.length co10) : Value).ownBlock) (.slice Ao11 t483.length co11) t483) ∧ Aside0 (Below w.heap.size w wc))
  case first => as_aux_lemma =>
   have H := HC8.out
   clear HC8
   by_cases c14 : (t487 != t489) = true
   ·
    rw [if_pos c14] at H
    have c14b0 : (t487 != t489) = true := c14
    (try (have c14b1 : decide (t487 = t489) = false := by simpa using c14))
    (try (have c14b2 : (t487 == t489) = false := by simpa using c14))
    (try (have c14b3 : ¬ (t487 = t489) := by simpa using c14))
    clear c14
    (first | rw [c14b0] | (simp only [i64_w, i32_w]; rw [c14b0]) | rw [c14b1] | skip)
    exact absurd H (laws_FnAlikeLengths.j0_no _ _ _ _ _ _)
   ·
    rw [if_neg c14] at H
    have c14b0 : (t487 != t489) = false := by simpa using c14
    (try (have c14b1 : decide (t487 = t489) = true := by simpa using c14))
    (try (have c14b2 : (t487 == t489) = true := by simpa using c14))
    clear c14
    (first | rw [c14b0] | (simp only [i64_w, i32_w]; rw [c14b0]) | rw [c14b1] | skip)
    have H' := Aside0.mk H
    clear H
    go_wp2
    go_meet
    case rel => exact ⟨_, ((t486 != t488)), (by first | rfl | (simp; done) | (simp [*]; done)), H', ⟨by first | omega | exact Nat.le_refl _⟩, ⟨by (with_reducible repeat (first | apply Kd.R_alloc | apply Kd.R_drewN | apply Kd.R_drew)); exact Oq0.out⟩, ⟨by (with_reducible repeat (first | apply Kd.V_alloc | apply Kd.V_drewN | apply Kd.V_drew)); exact Oq1.out⟩, ⟨by repeat with_reducible first | exact HB.out | apply pw_below_drewN | apply below_drew1⟩⟩
  case rest => as_aux_lemma =>
   clear HC8
   try clear c1; try clear p2; try clear c3; try clear c4; try clear c10; try clear c14; try clear c14b0; try clear c14b1; try clear c14b2
   obtain ⟨kq, x85_7, rfl, HA, HJ7, Oq29, Oq30, HB⟩ := hcut
   cases kq with
   | zero => exact absurd HA.out (by simp [laws_FnAlikeLengths.j0])
   | succ kj7 =>
    have H := HA.out
    clear HA
    simp only [laws_FnAlikeLengths.j0] at H
    by_cases c15 : x85_7 = true
    ·
     subst c15
     have H1 : (some false) = some true := by first | (rw [if_pos rfl] at H; exact H) | rfl
     clear H
     have H := H1
     clear H1
     exact absurd (Option.some.inj H) (by decide)
    ·
     replace c15 := Bool.eq_false_iff.mpr c15
     subst c15
     have H1 : (if t487 = true then (laws_FnAlikeLengths.j1 kj7 l1 t480 t483 t486 ((t480.length : Int) == (t483.length : Int))) else (laws_FnAlikeLengths.j1 kj7 l1 t480 t483 t486 false)) = some true := by first | (rw [if_neg (show ¬ (false = true) by decide)] at H; exact H) | rfl
     clear H
     have H := H1
     clear H1
     have HC16 := Aside0.mk H
     clear H
     go_upto_region 8 with (fail)
     go_cut [93] (fun v93 wc => ∃ (kq : Nat) (x93_15 : Bool), v93 = .bool x93_15 ∧ Aside0 (laws_FnAlikeLengths.j1 kq l1 t480 t483 t486 x93_15 = some true) ∧ Aside0 (kq ≤ kj7) ∧ Aside0 (Kd.R (Kd.int .i64) 3 wc w.heap.size (fun _ => True) (.slice Ao10 t480.length co10) t480) ∧ Aside0 (Kd.V (Kd.int .i64) 3 wc w.heap.size (fun k_ => some k_ ≠ ((.slice Ao10 t480.length co10) : Value).ownBlock) (.slice Ao11 t483.length co11) t483) ∧ Aside0 (Below w.heap.size w wc))
     case first => as_aux_lemma =>
      have H := HC16.out
      clear HC16
      by_cases c17 : t487 = true
      ·
       subst c17
       have H1 : (laws_FnAlikeLengths.j1 kj7 l1 t480 t483 t486 ((t480.length : Int) == (t483.length : Int))) = some true := by first | (rw [if_pos rfl] at H; exact H) | rfl
       clear H
       have H := H1
       clear H1
       have H' := Aside0.mk H
       clear H
       go_wp2
       go_meet
       case rel => exact ⟨_, (((t480.length : Int) == (t483.length : Int))), (by first | rfl | (simp; done) | (simp [*]; done)), H', ⟨by have := HJ7.out; first | omega | exact Nat.le_refl _⟩, ⟨by (with_reducible repeat (first | apply Kd.R_alloc | apply Kd.R_drewN | apply Kd.R_drew)); exact Oq29.out⟩, ⟨by (with_reducible repeat (first | apply Kd.V_alloc | apply Kd.V_drewN | apply Kd.V_drew)); exact Oq30.out⟩, ⟨by repeat with_reducible first | exact HB.out | apply pw_below_drewN | apply below_drew1⟩⟩
      ·
       replace c17 := Bool.eq_false_iff.mpr c17
       subst c17
       have H1 : (laws_FnAlikeLengths.j1 kj7 l1 t480 t483 t486 false) = some true := by first | (rw [if_neg (show ¬ (false = true) by decide)] at H; exact H) | rfl
       clear H
       have H := H1
       clear H1
       have H' := Aside0.mk H
       clear H
       go_wp2
       go_meet
       case rel => exact ⟨_, (false), (by first | rfl | (simp; done) | (simp [*]; done)), H', ⟨by have := HJ7.out; first | omega | exact Nat.le_refl _⟩, ⟨by (with_reducible repeat (first | apply Kd.R_alloc | apply Kd.R_drewN | apply Kd.R_drew)); exact Oq29.out⟩, ⟨by (with_reducible repeat (first | apply Kd.V_alloc | apply Kd.V_drewN | apply Kd.V_drew)); exact Oq30.out⟩, ⟨by repeat with_reducible first | exact HB.out | apply pw_below_drewN | apply below_drew1⟩⟩
     case rest => as_aux_lemma =>
      clear HC16
      try clear c1; try clear p2; try clear c3; try clear c4; try clear c10; try clear c14; try clear c14b0; try clear c14b1; try clear c14b2; try clear c15; try clear c17; try clear p2
      obtain ⟨kq, x93_15, rfl, HA, HJ15, Oq29, Oq30, HB⟩ := hcut
      cases kq with
      | zero => exact absurd HA.out (by simp [laws_FnAlikeLengths.j1])
      | succ kj15 =>
       have H := HA.out
       clear HA
       simp only [laws_FnAlikeLengths.j1] at H
       have HC18 := Aside0.mk H
       clear H
       go_upto_if 93 with (fail)
       go_cut [] (fun wc => ∃ (kq : Nat), Aside0 (laws_FnAlikeLengths.j2 kq l1 = some true) ∧ Aside0 (kq ≤ kj15) ∧ Aside0 (Below w.heap.size w wc))
       case first => as_aux_lemma =>
        have H := HC18.out
        clear HC18
        by_cases c19 : x93_15 = true
        ·
         subst c19
         have H1 : ((impl_NumbersOfLengths.f kj15 t480).bind fun bt490 => ((impl_NumbersOfLengths.f kj15 t483).bind fun bt494 => (if bt490.2 = true then (if bt494.2 = true then ((laws_rSame.f kj15 bt490.1 bt494.1).bind fun t498 => (if (t486 != t498) = true then (some false) else (laws_FnAlikeLengths.j2 kj15 l1))) else (some false)) else (some false)))) = some true := by first | (rw [if_pos rfl] at H; exact H) | rfl
         clear H
         have H := H1
         clear H1
         replace H := Option.bind_eq_some_iff.mp H
         obtain ⟨⟨t490, t491⟩, A200, H⟩ := H
         replace H : ((impl_NumbersOfLengths.f kj15 t483).bind fun bt494 => (if t491 = true then (if bt494.2 = true then ((laws_rSame.f kj15 t490 bt494.1).bind fun t498 => (if (t486 != t498) = true then (some false) else (laws_FnAlikeLengths.j2 kj15 l1))) else (some false)) else (some false))) = some true := H
         have A20 := Aside0.mk A200
         clear A200
         replace H := Option.bind_eq_some_iff.mp H
         obtain ⟨⟨t494, t495⟩, A210, H⟩ := H
         replace H : (if t491 = true then (if t495 = true then ((laws_rSame.f kj15 t490 t494).bind fun t498 => (if (t486 != t498) = true then (some false) else (laws_FnAlikeLengths.j2 kj15 l1))) else (some false)) else (some false)) = some true := H
         have A21 := Aside0.mk A210
         clear A210
         by_cases c22 : t491 = true
         ·
          subst c22
          have H1 : (if t495 = true then ((laws_rSame.f kj15 t490 t494).bind fun t498 => (if (t486 != t498) = true then (some false) else (laws_FnAlikeLengths.j2 kj15 l1))) else (some false)) = some true := by first | (rw [if_pos rfl] at H; exact H) | rfl
          clear H
          have H := H1
          clear H1
          by_cases c23 : t495 = true
          ·
           subst c23
           have H1 : ((laws_rSame.f kj15 t490 t494).bind fun t498 => (if (t486 != t498) = true then (some false) else (laws_FnAlikeLengths.j2 kj15 l1))) = some true := by first | (rw [if_pos rfl] at H; exact H) | rfl
           clear H
           have H := H1
           clear H1
           replace H := Option.bind_eq_some_iff.mp H
           obtain ⟨t498, A240, H⟩ := H
           replace H : (if (t486 != t498) = true then (some false) else (laws_FnAlikeLengths.j2 kj15 l1)) = some true := H
           have A24 := Aside0.mk A240
           clear A240
           by_cases c25 : (t486 != t498) = true
           ·
            rw [if_pos c25] at H
            have c25b0 : (t486 != t498) = true := c25
            (try (have c25b1 : decide (t486 = t498) = false := by simpa using c25))
            (try (have c25b2 : (t486 == t498) = false := by simpa using c25))
            (try (have c25b3 : ¬ (t486 = t498) := by simpa using c25))
            clear c25
            (first | rw [c25b0] | (simp only [i64_w, i32_w]; rw [c25b0]) | rw [c25b1] | skip)
            exact absurd (Option.some.inj H) (by decide)
           ·
            rw [if_neg c25] at H
            have c25b0 : (t486 != t498) = false := by simpa using c25
            (try (have c25b1 : decide (t486 = t498) = true := by simpa using c25))
            (try (have c25b2 : (t486 == t498) = true := by simpa using c25))
            clear c25
            (first | rw [c25b0] | (simp only [i64_w, i32_w]; rw [c25b0]) | rw [c25b1] | skip)
            have H' := Aside0.mk H
            clear H
            go_wp2_with (first | ((with_reducible refine gate_callee (f := 15) rfl ?_); refine goesL_ (some 96) rfl rfl Try.func15 (by kernel_rfl) rfl #[.slice Ao10 t480.length co10] rfl (by (try simp only [List.map_toArray, List.map_cons, List.map_nil]); try rfl) ?_; (with_reducible refine (impl_NumbersOfLengths.calls kj15 _ _ t480 t490 true _ ?side1 ?side2 A20.out).mono ?_); (case side1 => repeat (first | exact (Kd.R_reads' Oq29.out).2.2 | (with_reducible first | refine Kd.C_alloc ?_ _ | refine Kd.C_drewN ?_ _ | refine Kd.C_drew ?_))); (case side2 => exact (Kd.R_reads' Oq29.out).2.1); rintro e w26 ⟨v492, rfl, ho0, hb⟩; refine ⟨_, rfl, ?_⟩; have n1_ := am (Kd.V_elder' (by (with_reducible repeat (first | apply Kd.V_alloc | apply Kd.V_drewN | apply Kd.V_drew)); exact Oq30.out) (Kd.R_base ho0) hb); have n2_ := am (Kd.R_lower (Kd.R_new' ho0 (sqL Oq29)) (below_size (by repeat with_reducible first | exact HB.out | apply pw_below_drewN | apply below_drew1))); have n3_ := am (below_step (by repeat with_reducible first | exact HB.out | apply pw_below_drewN | apply below_drew1) hb); clear Oq30; clear HB; replace Oq29 := sqE Oq29 ho0 hb; have Oq30 := n1_; have Oq2 := n2_; have HB := n3_; clear n1_ n2_ n3_; (try clear hb); (try clear hb2); (try clear hk); (try clear hi); (try clear ho0)) | ((with_reducible refine gate_callee (f := 15) rfl ?_); refine goesL_ (some 101) rfl rfl Try.func15 (by kernel_rfl) rfl #[.slice Ao11 t483.length co11] rfl (by (try simp only [List.map_toArray, List.map_cons, List.map_nil]); try rfl) ?_; (with_reducible refine (impl_NumbersOfLengths.calls kj15 _ _ t483 t494 true _ ?side1 ?side2 A21.out).mono ?_); (case side1 => repeat (first | exact (Kd.V_reads' Oq30.out).2.2 | (with_reducible first | refine Kd.C_alloc ?_ _ | refine Kd.C_drewN ?_ _ | refine Kd.C_drew ?_))); (case side2 => exact (Kd.V_reads' Oq30.out).2.1); rintro e w27 ⟨v496, rfl, ho0, hb⟩; refine ⟨_, rfl, ?_⟩; have n1_ := am (Kd.V_elder' (by (with_reducible repeat (first | apply Kd.V_alloc | apply Kd.V_drewN | apply Kd.V_drew)); exact Oq30.out) (Kd.R_base ho0) hb); have n3_ := am (Kd.R_lower (Kd.R_new' (Kd.R_new' ho0 (sqL Oq29)) (sqL Oq2)) (below_size (by repeat with_reducible first | exact HB.out | apply pw_below_drewN | apply below_drew1))); have n4_ := am (below_step (by repeat with_reducible first | exact HB.out | apply pw_below_drewN | apply below_drew1) hb); clear Oq30; clear HB; replace Oq29 := sqE Oq29 ho0 hb; have Oq30 := n1_; replace Oq2 := sqE Oq2 ho0 hb; have Oq3 := n3_; have HB := n4_; clear n1_ n3_ n4_; (try clear hb); (try clear hb2); (try clear hk); (try clear hi); (try clear ho0); obtain ⟨Ao28, co28, eo28⟩ := Kd.R_slice Oq2.out; subst eo28; obtain ⟨Ao29, co29, eo29⟩ := Kd.R_slice Oq3.out; subst eo29) | (go_at_call 23; (with_reducible refine (laws_rSame.calls kj15 _ _ t490 _ _ t494 t498 _ ?side1 ?side2 ?side3 ?side4 A24.out).mono ?_); (case side1 => repeat (first | exact (Kd.R_reads' Oq2.out).2.2 | (with_reducible first | refine Kd.C_alloc ?_ _ | refine Kd.C_drewN ?_ _ | refine Kd.C_drew ?_))); (case side2 => exact (Kd.R_reads' Oq2.out).2.1); (case side3 => repeat (first | exact (Kd.R_reads' Oq3.out).2.2 | (with_reducible first | refine Kd.C_alloc ?_ _ | refine Kd.C_drewN ?_ _ | refine Kd.C_drew ?_))); (case side4 => exact (Kd.R_reads' Oq3.out).2.1); rintro e w' ⟨rfl, ⟨nd, rfl⟩⟩))
            go_meet
            case rel => exact ⟨_, H', ⟨by have := HJ7.out; have := HJ15.out; first | omega | exact Nat.le_refl _⟩, ⟨by repeat with_reducible first | exact HB.out | apply pw_below_drewN | apply below_drew1⟩⟩
          ·
           replace c23 := Bool.eq_false_iff.mpr c23
           subst c23
           have H1 : (some false) = some true := by first | (rw [if_neg (show ¬ (false = true) by decide)] at H; exact H) | rfl
           clear H
           have H := H1
           clear H1
           exact absurd (Option.some.inj H) (by decide)
         ·
          replace c22 := Bool.eq_false_iff.mpr c22
          subst c22
          have H1 : (some false) = some true := by first | (rw [if_neg (show ¬ (false = true) by decide)] at H; exact H) | rfl
          clear H
          have H := H1
          clear H1
          exact absurd (Option.some.inj H) (by decide)
        ·
         replace c19 := Bool.eq_false_iff.mpr c19
         subst c19
         have H1 : (laws_FnAlikeLengths.j2 kj15 l1) = some true := by first | (rw [if_neg (show ¬ (false = true) by decide)] at H; exact H) | rfl
         clear H
         have H := H1
         clear H1
         have H' := Aside0.mk H
         clear H
         go_wp2
         go_meet
         case rel => exact ⟨_, H', ⟨by have := HJ7.out; have := HJ15.out; first | omega | exact Nat.le_refl _⟩, ⟨by repeat with_reducible first | exact HB.out | apply pw_below_drewN | apply below_drew1⟩⟩
       case rest => as_aux_lemma =>
        clear HC18
        try clear c1; try clear c2; try clear p2; try clear c3; try clear c4; try clear c10; try clear c14; try clear c14b0; try clear c14b1; try clear c14b2; try clear c15; try clear c17; try clear c19; try clear c22; try clear c23; try clear c25; try clear c25b0; try clear c25b1; try clear c25b2; try clear p2
        obtain ⟨kq, HA, HJ17, HB⟩ := hcut
        cases kq with
        | zero => exact absurd HA.out (by simp [laws_FnAlikeLengths.j2])
        | succ kj17 =>
         have H := HA.out
         clear HA
         simp only [laws_FnAlikeLengths.j2] at H
         replace H := Option.bind_eq_some_iff.mp H
         obtain ⟨t499, A300, H⟩ := H
         replace H : ((impl_ClassOf.f kj17 t499).bind fun bt502 => ((spec_ClassOf.f kj17 t499).bind fun bt506 => ((impl_CountClass.f kj17 t499).bind fun bt510 => ((impl_StrictOf.f kj17 t499).bind fun bt512 => ((spec_StrictOf.f kj17 t499).bind fun bt516 => ((impl_SideOfLengths.f kj17 t499).bind fun bt520 => ((spec_SideOfLengths.f kj17 t499).bind fun bt524 => (if (bt502.2 != bt506.2) = true then (laws_FnAlikeLengths.j3 kj17 l1 t499 bt502.1 bt502.2 bt510.1 bt512.1 bt520.1 true) else ((laws_rSameRows.f kj17 bt502.1 bt506.1).bind fun t528 => (if t528 = true then (if (bt510.2 != bt502.2) = true then (laws_FnAlikeLengths.j3 kj17 l1 t499 bt502.1 bt502.2 bt510.1 bt512.1 bt520.1 true) else (if (bt512.2 != bt516.2) = true then (laws_FnAlikeLengths.j3 kj17 l1 t499 bt502.1 bt502.2 bt510.1 bt512.1 bt520.1 true) else ((laws_rSame.f kj17 bt512.1 bt516.1).bind fun t529 => (if t529 = true then (if (bt520.2 != bt524.2) = true then (laws_FnAlikeLengths.j3 kj17 l1 t499 bt502.1 bt502.2 bt510.1 bt512.1 bt520.1 true) else ((laws_rSame.f kj17 bt520.1 bt524.1).bind fun t530 => (if t530 = true then (if (bt512.2 != bt502.2) = true then (laws_FnAlikeLengths.j3 kj17 l1 t499 bt502.1 bt502.2 bt510.1 bt512.1 bt520.1 true) else (laws_FnAlikeLengths.j3 kj17 l1 t499 bt502.1 bt502.2 bt510.1 bt512.1 bt520.1 (bt520.2 != bt502.2))) else (laws_FnAlikeLengths.j3 kj17 l1 t499 bt502.1 bt502.2 bt510.1 bt512.1 bt520.1 true)))) else (laws_FnAlikeLengths.j3 kj17 l1 t499 bt502.1 bt502.2 bt510.1 bt512.1 bt520.1 true))))) else (laws_FnAlikeLengths.j3 kj17 l1 t499 bt502.1 bt502.2 bt510.1 bt512.1 bt520.1 true))))))))))) = some true := H
         have A30 := Aside0.mk A300
         clear A300
         replace H := Option.bind_eq_some_iff.mp H
         obtain ⟨⟨t502, t503⟩, A310, H⟩ := H
         replace H : ((spec_ClassOf.f kj17 t499).bind fun bt506 => ((impl_CountClass.f kj17 t499).bind fun bt510 => ((impl_StrictOf.f kj17 t499).bind fun bt512 => ((spec_StrictOf.f kj17 t499).bind fun bt516 => ((impl_SideOfLengths.f kj17 t499).bind fun bt520 => ((spec_SideOfLengths.f kj17 t499).bind fun bt524 => (if (t503 != bt506.2) = true then (laws_FnAlikeLengths.j3 kj17 l1 t499 t502 t503 bt510.1 bt512.1 bt520.1 true) else ((laws_rSameRows.f kj17 t502 bt506.1).bind fun t528 => (if t528 = true then (if (bt510.2 != t503) = true then (laws_FnAlikeLengths.j3 kj17 l1 t499 t502 t503 bt510.1 bt512.1 bt520.1 true) else (if (bt512.2 != bt516.2) = true then (laws_FnAlikeLengths.j3 kj17 l1 t499 t502 t503 bt510.1 bt512.1 bt520.1 true) else ((laws_rSame.f kj17 bt512.1 bt516.1).bind fun t529 => (if t529 = true then (if (bt520.2 != bt524.2) = true then (laws_FnAlikeLengths.j3 kj17 l1 t499 t502 t503 bt510.1 bt512.1 bt520.1 true) else ((laws_rSame.f kj17 bt520.1 bt524.1).bind fun t530 => (if t530 = true then (if (bt512.2 != t503) = true then (laws_FnAlikeLengths.j3 kj17 l1 t499 t502 t503 bt510.1 bt512.1 bt520.1 true) else (laws_FnAlikeLengths.j3 kj17 l1 t499 t502 t503 bt510.1 bt512.1 bt520.1 (bt520.2 != t503))) else (laws_FnAlikeLengths.j3 kj17 l1 t499 t502 t503 bt510.1 bt512.1 bt520.1 true)))) else (laws_FnAlikeLengths.j3 kj17 l1 t499 t502 t503 bt510.1 bt512.1 bt520.1 true))))) else (laws_FnAlikeLengths.j3 kj17 l1 t499 t502 t503 bt510.1 bt512.1 bt520.1 true)))))))))) = some true := H
         have A31 := Aside0.mk A310
         clear A310
         replace H := Option.bind_eq_some_iff.mp H
         obtain ⟨⟨t506, t509⟩, A320, H⟩ := H
         replace H : ((impl_CountClass.f kj17 t499).bind fun bt510 => ((impl_StrictOf.f kj17 t499).bind fun bt512 => ((spec_StrictOf.f kj17 t499).bind fun bt516 => ((impl_SideOfLengths.f kj17 t499).bind fun bt520 => ((spec_SideOfLengths.f kj17 t499).bind fun bt524 => (if (t503 != t509) = true then (laws_FnAlikeLengths.j3 kj17 l1 t499 t502 t503 bt510.1 bt512.1 bt520.1 true) else ((laws_rSameRows.f kj17 t502 t506).bind fun t528 => (if t528 = true then (if (bt510.2 != t503) = true then (laws_FnAlikeLengths.j3 kj17 l1 t499 t502 t503 bt510.1 bt512.1 bt520.1 true) else (if (bt512.2 != bt516.2) = true then (laws_FnAlikeLengths.j3 kj17 l1 t499 t502 t503 bt510.1 bt512.1 bt520.1 true) else ((laws_rSame.f kj17 bt512.1 bt516.1).bind fun t529 => (if t529 = true then (if (bt520.2 != bt524.2) = true then (laws_FnAlikeLengths.j3 kj17 l1 t499 t502 t503 bt510.1 bt512.1 bt520.1 true) else ((laws_rSame.f kj17 bt520.1 bt524.1).bind fun t530 => (if t530 = true then (if (bt512.2 != t503) = true then (laws_FnAlikeLengths.j3 kj17 l1 t499 t502 t503 bt510.1 bt512.1 bt520.1 true) else (laws_FnAlikeLengths.j3 kj17 l1 t499 t502 t503 bt510.1 bt512.1 bt520.1 (bt520.2 != t503))) else (laws_FnAlikeLengths.j3 kj17 l1 t499 t502 t503 bt510.1 bt512.1 bt520.1 true)))) else (laws_FnAlikeLengths.j3 kj17 l1 t499 t502 t503 bt510.1 bt512.1 bt520.1 true))))) else (laws_FnAlikeLengths.j3 kj17 l1 t499 t502 t503 bt510.1 bt512.1 bt520.1 true))))))))) = some true := H
         have A32 := Aside0.mk A320
         clear A320
         replace H := Option.bind_eq_some_iff.mp H
         obtain ⟨⟨t510, t511⟩, A330, H⟩ := H
         replace H : ((impl_StrictOf.f kj17 t499).bind fun bt512 => ((spec_StrictOf.f kj17 t499).bind fun bt516 => ((impl_SideOfLengths.f kj17 t499).bind fun bt520 => ((spec_SideOfLengths.f kj17 t499).bind fun bt524 => (if (t503 != t509) = true then (laws_FnAlikeLengths.j3 kj17 l1 t499 t502 t503 t510 bt512.1 bt520.1 true) else ((laws_rSameRows.f kj17 t502 t506).bind fun t528 => (if t528 = true then (if (t511 != t503) = true then (laws_FnAlikeLengths.j3 kj17 l1 t499 t502 t503 t510 bt512.1 bt520.1 true) else (if (bt512.2 != bt516.2) = true then (laws_FnAlikeLengths.j3 kj17 l1 t499 t502 t503 t510 bt512.1 bt520.1 true) else ((laws_rSame.f kj17 bt512.1 bt516.1).bind fun t529 => (if t529 = true then (if (bt520.2 != bt524.2) = true then (laws_FnAlikeLengths.j3 kj17 l1 t499 t502 t503 t510 bt512.1 bt520.1 true) else ((laws_rSame.f kj17 bt520.1 bt524.1).bind fun t530 => (if t530 = true then (if (bt512.2 != t503) = true then (laws_FnAlikeLengths.j3 kj17 l1 t499 t502 t503 t510 bt512.1 bt520.1 true) else (laws_FnAlikeLengths.j3 kj17 l1 t499 t502 t503 t510 bt512.1 bt520.1 (bt520.2 != t503))) else (laws_FnAlikeLengths.j3 kj17 l1 t499 t502 t503 t510 bt512.1 bt520.1 true)))) else (laws_FnAlikeLengths.j3 kj17 l1 t499 t502 t503 t510 bt512.1 bt520.1 true))))) else (laws_FnAlikeLengths.j3 kj17 l1 t499 t502 t503 t510 bt512.1 bt520.1 true)))))))) = some true := H
         have A33 := Aside0.mk A330
         clear A330
         replace H := Option.bind_eq_some_iff.mp H
         obtain ⟨⟨t512, t513⟩, A340, H⟩ := H
         replace H : ((spec_StrictOf.f kj17 t499).bind fun bt516 => ((impl_SideOfLengths.f kj17 t499).bind fun bt520 => ((spec_SideOfLengths.f kj17 t499).bind fun bt524 => (if (t503 != t509) = true then (laws_FnAlikeLengths.j3 kj17 l1 t499 t502 t503 t510 t512 bt520.1 true) else ((laws_rSameRows.f kj17 t502 t506).bind fun t528 => (if t528 = true then (if (t511 != t503) = true then (laws_FnAlikeLengths.j3 kj17 l1 t499 t502 t503 t510 t512 bt520.1 true) else (if (t513 != bt516.2) = true then (laws_FnAlikeLengths.j3 kj17 l1 t499 t502 t503 t510 t512 bt520.1 true) else ((laws_rSame.f kj17 t512 bt516.1).bind fun t529 => (if t529 = true then (if (bt520.2 != bt524.2) = true then (laws_FnAlikeLengths.j3 kj17 l1 t499 t502 t503 t510 t512 bt520.1 true) else ((laws_rSame.f kj17 bt520.1 bt524.1).bind fun t530 => (if t530 = true then (if (t513 != t503) = true then (laws_FnAlikeLengths.j3 kj17 l1 t499 t502 t503 t510 t512 bt520.1 true) else (laws_FnAlikeLengths.j3 kj17 l1 t499 t502 t503 t510 t512 bt520.1 (bt520.2 != t503))) else (laws_FnAlikeLengths.j3 kj17 l1 t499 t502 t503 t510 t512 bt520.1 true)))) else (laws_FnAlikeLengths.j3 kj17 l1 t499 t502 t503 t510 t512 bt520.1 true))))) else (laws_FnAlikeLengths.j3 kj17 l1 t499 t502 t503 t510 t512 bt520.1 true))))))) = some true := H
         have A34 := Aside0.mk A340
         clear A340
         replace H := Option.bind_eq_some_iff.mp H
         obtain ⟨⟨t516, t517⟩, A350, H⟩ := H
         replace H : ((impl_SideOfLengths.f kj17 t499).bind fun bt520 => ((spec_SideOfLengths.f kj17 t499).bind fun bt524 => (if (t503 != t509) = true then (laws_FnAlikeLengths.j3 kj17 l1 t499 t502 t503 t510 t512 bt520.1 true) else ((laws_rSameRows.f kj17 t502 t506).bind fun t528 => (if t528 = true then (if (t511 != t503) = true then (laws_FnAlikeLengths.j3 kj17 l1 t499 t502 t503 t510 t512 bt520.1 true) else (if (t513 != t517) = true then (laws_FnAlikeLengths.j3 kj17 l1 t499 t502 t503 t510 t512 bt520.1 true) else ((laws_rSame.f kj17 t512 t516).bind fun t529 => (if t529 = true then (if (bt520.2 != bt524.2) = true then (laws_FnAlikeLengths.j3 kj17 l1 t499 t502 t503 t510 t512 bt520.1 true) else ((laws_rSame.f kj17 bt520.1 bt524.1).bind fun t530 => (if t530 = true then (if (t513 != t503) = true then (laws_FnAlikeLengths.j3 kj17 l1 t499 t502 t503 t510 t512 bt520.1 true) else (laws_FnAlikeLengths.j3 kj17 l1 t499 t502 t503 t510 t512 bt520.1 (bt520.2 != t503))) else (laws_FnAlikeLengths.j3 kj17 l1 t499 t502 t503 t510 t512 bt520.1 true)))) else (laws_FnAlikeLengths.j3 kj17 l1 t499 t502 t503 t510 t512 bt520.1 true))))) else (laws_FnAlikeLengths.j3 kj17 l1 t499 t502 t503 t510 t512 bt520.1 true)))))) = some true := H
         have A35 := Aside0.mk A350
         clear A350
         replace H := Option.bind_eq_some_iff.mp H
         obtain ⟨⟨t520, t521⟩, A360, H⟩ := H
         replace H : ((spec_SideOfLengths.f kj17 t499).bind fun bt524 => (if (t503 != t509) = true then (laws_FnAlikeLengths.j3 kj17 l1 t499 t502 t503 t510 t512 t520 true) else ((laws_rSameRows.f kj17 t502 t506).bind fun t528 => (if t528 = true then (if (t511 != t503) = true then (laws_FnAlikeLengths.j3 kj17 l1 t499 t502 t503 t510 t512 t520 true) else (if (t513 != t517) = true then (laws_FnAlikeLengths.j3 kj17 l1 t499 t502 t503 t510 t512 t520 true) else ((laws_rSame.f kj17 t512 t516).bind fun t529 => (if t529 = true then (if (t521 != bt524.2) = true then (laws_FnAlikeLengths.j3 kj17 l1 t499 t502 t503 t510 t512 t520 true) else ((laws_rSame.f kj17 t520 bt524.1).bind fun t530 => (if t530 = true then (if (t513 != t503) = true then (laws_FnAlikeLengths.j3 kj17 l1 t499 t502 t503 t510 t512 t520 true) else (laws_FnAlikeLengths.j3 kj17 l1 t499 t502 t503 t510 t512 t520 (t521 != t503))) else (laws_FnAlikeLengths.j3 kj17 l1 t499 t502 t503 t510 t512 t520 true)))) else (laws_FnAlikeLengths.j3 kj17 l1 t499 t502 t503 t510 t512 t520 true))))) else (laws_FnAlikeLengths.j3 kj17 l1 t499 t502 t503 t510 t512 t520 true))))) = some true := H
         have A36 := Aside0.mk A360
         clear A360
         replace H := Option.bind_eq_some_iff.mp H
         obtain ⟨⟨t524, t525⟩, A370, H⟩ := H
         replace H : (if (t503 != t509) = true then (laws_FnAlikeLengths.j3 kj17 l1 t499 t502 t503 t510 t512 t520 true) else ((laws_rSameRows.f kj17 t502 t506).bind fun t528 => (if t528 = true then (if (t511 != t503) = true then (laws_FnAlikeLengths.j3 kj17 l1 t499 t502 t503 t510 t512 t520 true) else (if (t513 != t517) = true then (laws_FnAlikeLengths.j3 kj17 l1 t499 t502 t503 t510 t512 t520 true) else ((laws_rSame.f kj17 t512 t516).bind fun t529 => (if t529 = true then (if (t521 != t525) = true then (laws_FnAlikeLengths.j3 kj17 l1 t499 t502 t503 t510 t512 t520 true) else ((laws_rSame.f kj17 t520 t524).bind fun t530 => (if t530 = true then (if (t513 != t503) = true then (laws_FnAlikeLengths.j3 kj17 l1 t499 t502 t503 t510 t512 t520 true) else (laws_FnAlikeLengths.j3 kj17 l1 t499 t502 t503 t510 t512 t520 (t521 != t503))) else (laws_FnAlikeLengths.j3 kj17 l1 t499 t502 t503 t510 t512 t520 true)))) else (laws_FnAlikeLengths.j3 kj17 l1 t499 t502 t503 t510 t512 t520 true))))) else (laws_FnAlikeLengths.j3 kj17 l1 t499 t502 t503 t510 t512 t520 true)))) = some true := H
         have A37 := Aside0.mk A370
         clear A370
         have HC38 := Aside0.mk H
         clear H
         go_upto_region 21 with (first | ((with_reducible refine gate_callee (f := 35) rfl ?_); refine goesL_ (some 118) rfl rfl Try.func35 (by kernel_rfl) rfl #[.slice A1 l1.length c1] rfl (by (try simp only [List.map_toArray, List.map_cons, List.map_nil]); try rfl) ?_; (with_reducible refine (spec_DrawClassOf.calls kj17 _ _ l1 t499 _ ?side1 ?side2 A30.out).mono ?_); (case side1 => repeat (first | exact (Kd.C_below HR1.out HB.out) | (with_reducible first | refine Kd.C_alloc ?_ _ | refine Kd.C_drewN ?_ _ | refine Kd.C_drew ?_))); (case side2 => exact HC1.out); rintro e w39 ⟨v500, rfl, ho0, hb⟩; refine ⟨_, rfl, ?_⟩; have n0_ := am (Kd.R_lower ho0 (below_size (by repeat with_reducible first | exact HB.out | apply pw_below_drewN | apply below_drew1))); have n1_ := am (below_step (by repeat with_reducible first | exact HB.out | apply pw_below_drewN | apply below_drew1) hb); clear HB; have Oq4 := n0_; have HB := n1_; clear n0_ n1_; (try clear hb); (try clear hb2); (try clear hk); (try clear hi); (try clear ho0); obtain ⟨Ao40, co40, eo40⟩ := Kd.R_slice Oq4.out; subst eo40) | ((with_reducible refine gate_callee (f := 36) rfl ?_); refine goesL_ (some 121) rfl rfl Try.func36 (by kernel_rfl) rfl #[.slice Ao40 t499.length co40] rfl (by (try simp only [List.map_toArray, List.map_cons, List.map_nil]); try rfl) ?_; (with_reducible refine (impl_ClassOf.calls kj17 _ _ t499 t502 t503 _ ?side1 ?side2 A31.out).mono ?_); (case side1 => repeat (first | exact (Kd.R_reads' Oq4.out).2.2 | (with_reducible first | refine Kd.C_alloc ?_ _ | refine Kd.C_drewN ?_ _ | refine Kd.C_drew ?_))); (case side2 => exact (Kd.R_reads' Oq4.out).2.1); rintro e w41 ⟨v504, rfl, ho0, hb⟩; refine ⟨_, rfl, ?_⟩; have n1_ := am (Kd.N_lower (Kd.N_mono (ok' := fun k_ => some k_ ≠ (.slice Ao40 t499.length co40 : Value).ownBlock) (Kd.S_N (Kd.S_bound ho0)) (fun k_ hk_ => (Kd.fresh' (sqL Oq4) k_ hk_.2.1))) (below_size (by repeat with_reducible first | exact HB.out | apply pw_below_drewN | apply below_drew1))); have n2_ := am (below_step (by repeat with_reducible first | exact HB.out | apply pw_below_drewN | apply below_drew1) hb); clear HB; replace Oq4 := sqR Oq4 hb; have Oq5 := n1_; have HB := n2_; clear n1_ n2_; (try clear hb); (try clear hb2); (try clear hk); (try clear hi); (try clear ho0)) | ((with_reducible refine gate_callee (f := 37) rfl ?_); refine goesL_ (some 126) rfl rfl Try.func37 (by kernel_rfl) rfl #[.slice Ao40 t499.length co40] rfl (by (try simp only [List.map_toArray, List.map_cons, List.map_nil]); try rfl) ?_; (with_reducible refine (spec_ClassOf.calls kj17 _ _ t499 t506 t509 _ ?side1 ?side2 A32.out).mono ?_); (case side1 => repeat (first | exact (Kd.R_reads' Oq4.out).2.2 | (with_reducible first | refine Kd.C_alloc ?_ _ | refine Kd.C_drewN ?_ _ | refine Kd.C_drew ?_))); (case side2 => exact (Kd.R_reads' Oq4.out).2.1); rintro e w42 ⟨v507, rfl, ho0, hb⟩; refine ⟨_, rfl, ?_⟩; have n1_ := am (Kd.N_elder' (by (with_reducible repeat (first | apply Kd.N_alloc | apply Kd.N_drewN | apply Kd.N_drew)); exact Oq5.out) (Kd.N_base ho0) hb); have n2_ := am (Kd.N_lower (Kd.N_mono (ok' := fun k_ => some k_ ≠ (.slice Ao40 t499.length co40 : Value).ownBlock ∧ some k_ ≠ (v504 : Value).ownBlock) ho0 (fun k_ hk_ => ⟨(Kd.fresh' (sqL Oq4) k_ hk_), (Kd.fresh' (Kd.N_lt (by (with_reducible repeat (first | apply Kd.N_alloc | apply Kd.N_drewN | apply Kd.N_drew)); exact Oq5.out)) k_ hk_)⟩)) (below_size (by repeat with_reducible first | exact HB.out | apply pw_below_drewN | apply below_drew1))); have n3_ := am (below_step (by repeat with_reducible first | exact HB.out | apply pw_below_drewN | apply below_drew1) hb); clear Oq5; clear HB; replace Oq4 := sqR Oq4 hb; have Oq5 := n1_; have Oq6 := n2_; have HB := n3_; clear n1_ n2_ n3_; (try clear hb); (try clear hb2); (try clear hk); (try clear hi); (try clear ho0)) | ((with_reducible refine gate_callee (f := 38) rfl ?_); refine goesL_ (some 131) rfl rfl Try.func38 (by kernel_rfl) rfl #[.slice Ao40 t499.length co40] rfl (by (try simp only [List.map_toArray, List.map_cons, List.map_nil]); try rfl) ?_; (with_reducible refine (impl_CountClass.calls kj17 _ _ t499 t510 t511 _ ?side1 ?side2 A33.out).mono ?_); (case side1 => repeat (first | exact (Kd.R_reads' Oq4.out).2.2 | (with_reducible first | refine Kd.C_alloc ?_ _ | refine Kd.C_drewN ?_ _ | refine Kd.C_drew ?_))); (case side2 => exact (Kd.R_reads' Oq4.out).2.1); rintro e w43 ⟨rfl, hb⟩; refine ⟨_, rfl, ?_⟩; have n1_ := am (Kd.N_below (by (with_reducible repeat (first | apply Kd.N_alloc | apply Kd.N_drewN | apply Kd.N_drew)); exact Oq5.out) hb); have n2_ := am (Kd.N_below (by (with_reducible repeat (first | apply Kd.N_alloc | apply Kd.N_drewN | apply Kd.N_drew)); exact Oq6.out) hb); have n3_ := am (below_step (by repeat with_reducible first | exact HB.out | apply pw_below_drewN | apply below_drew1) hb); clear Oq5; clear Oq6; clear HB; replace Oq4 := sqR Oq4 hb; have Oq5 := n1_; have Oq6 := n2_; have HB := n3_; clear n1_ n2_ n3_; (try clear hb); (try clear hb2); (try clear hk); (try clear hi)) | ((with_reducible refine gate_callee (f := 39) rfl ?_); refine goesL_ (some 136) rfl rfl Try.func39 (by kernel_rfl) rfl #[.slice Ao40 t499.length co40] rfl (by (try simp only [List.map_toArray, List.map_cons, List.map_nil]); try rfl) ?_; (with_reducible refine (impl_StrictOf.calls kj17 _ _ t499 t512 t513 _ ?side1 ?side2 A34.out).mono ?_); (case side1 => repeat (first | exact (Kd.R_reads' Oq4.out).2.2 | (with_reducible first | refine Kd.C_alloc ?_ _ | refine Kd.C_drewN ?_ _ | refine Kd.C_drew ?_))); (case side2 => exact (Kd.R_reads' Oq4.out).2.1); rintro e w44 ⟨v514, rfl, ho0, hb⟩; refine ⟨_, rfl, ?_⟩; have n1_ := am (Kd.N_elder' (by (with_reducible repeat (first | apply Kd.N_alloc | apply Kd.N_drewN | apply Kd.N_drew)); exact Oq5.out) (Kd.R_base ho0) hb); have n2_ := am (Kd.N_elder' (by (with_reducible repeat (first | apply Kd.N_alloc | apply Kd.N_drewN | apply Kd.N_drew)); exact Oq6.out) (Kd.R_base ho0) hb); have n3_ := am (Kd.R_lower (Kd.R_new' ho0 (sqL Oq4)) (below_size (by repeat with_reducible first | exact HB.out | apply pw_below_drewN | apply below_drew1))); have n4_ := am (below_step (by repeat with_reducible first | exact HB.out | apply pw_below_drewN | apply below_drew1) hb); clear Oq5; clear Oq6; clear HB; replace Oq4 := sqE Oq4 ho0 hb; have Oq5 := n1_; have Oq6 := n2_; have Oq7 := n3_; have HB := n4_; clear n1_ n2_ n3_ n4_; (try clear hb); (try clear hb2); (try clear hk); (try clear hi); (try clear ho0)) | ((with_reducible refine gate_callee (f := 40) rfl ?_); refine goesL_ (some 141) rfl rfl Try.func40 (by kernel_rfl) rfl #[.slice Ao40 t499.length co40] rfl (by (try simp only [List.map_toArray, List.map_cons, List.map_nil]); try rfl) ?_; (with_reducible refine (spec_StrictOf.calls kj17 _ _ t499 t516 t517 _ ?side1 ?side2 A35.out).mono ?_); (case side1 => repeat (first | exact (Kd.R_reads' Oq4.out).2.2 | (with_reducible first | refine Kd.C_alloc ?_ _ | refine Kd.C_drewN ?_ _ | refine Kd.C_drew ?_))); (case side2 => exact (Kd.R_reads' Oq4.out).2.1); rintro e w45 ⟨v518, rfl, ho0, hb⟩; refine ⟨_, rfl, ?_⟩; have n1_ := am (Kd.N_elder' (by (with_reducible repeat (first | apply Kd.N_alloc | apply Kd.N_drewN | apply Kd.N_drew)); exact Oq5.out) (Kd.R_base ho0) hb); have n2_ := am (Kd.N_elder' (by (with_reducible repeat (first | apply Kd.N_alloc | apply Kd.N_drewN | apply Kd.N_drew)); exact Oq6.out) (Kd.R_base ho0) hb); have n4_ := am (Kd.R_lower (Kd.R_new' (Kd.R_new' ho0 (sqL Oq4)) (sqL Oq7)) (below_size (by repeat with_reducible first | exact HB.out | apply pw_below_drewN | apply below_drew1))); have n5_ := am (below_step (by repeat with_reducible first | exact HB.out | apply pw_below_drewN | apply below_drew1) hb); clear Oq5; clear Oq6; clear HB; replace Oq4 := sqE Oq4 ho0 hb; have Oq5 := n1_; have Oq6 := n2_; replace Oq7 := sqE Oq7 ho0 hb; have Oq8 := n4_; have HB := n5_; clear n1_ n2_ n4_ n5_; (try clear hb); (try clear hb2); (try clear hk); (try clear hi); (try clear ho0)) | ((with_reducible refine gate_callee (f := 41) rfl ?_); refine goesL_ (some 146) rfl rfl Try.func41 (by kernel_rfl) rfl #[.slice Ao40 t499.length co40] rfl (by (try simp only [List.map_toArray, List.map_cons, List.map_nil]); try rfl) ?_; (with_reducible refine (impl_SideOfLengths.calls kj17 _ _ t499 t520 t521 _ ?side1 ?side2 A36.out).mono ?_); (case side1 => repeat (first | exact (Kd.R_reads' Oq4.out).2.2 | (with_reducible first | refine Kd.C_alloc ?_ _ | refine Kd.C_drewN ?_ _ | refine Kd.C_drew ?_))); (case side2 => exact (Kd.R_reads' Oq4.out).2.1); rintro e w46 ⟨v522, rfl, ho0, hb⟩; refine ⟨_, rfl, ?_⟩; have n1_ := am (Kd.N_elder' (by (with_reducible repeat (first | apply Kd.N_alloc | apply Kd.N_drewN | apply Kd.N_drew)); exact Oq5.out) (Kd.R_base ho0) hb); have n2_ := am (Kd.N_elder' (by (with_reducible repeat (first | apply Kd.N_alloc | apply Kd.N_drewN | apply Kd.N_drew)); exact Oq6.out) (Kd.R_base ho0) hb); have n5_ := am (Kd.R_lower (Kd.R_new' (Kd.R_new' (Kd.R_new' ho0 (sqL Oq4)) (sqL Oq7)) (sqL Oq8)) (below_size (by repeat with_reducible first | exact HB.out | apply pw_below_drewN | apply below_drew1))); have n6_ := am (below_step (by repeat with_reducible first | exact HB.out | apply pw_below_drewN | apply below_drew1) hb); clear Oq5; clear Oq6; clear HB; replace Oq4 := sqE Oq4 ho0 hb; have Oq5 := n1_; have Oq6 := n2_; replace Oq7 := sqE Oq7 ho0 hb; replace Oq8 := sqE Oq8 ho0 hb; have Oq9 := n5_; have HB := n6_; clear n1_ n2_ n5_ n6_; (try clear hb); (try clear hb2); (try clear hk); (try clear hi); (try clear ho0)) | ((with_reducible refine gate_callee (f := 42) rfl ?_); refine goesL_ (some 151) rfl rfl Try.func42 (by kernel_rfl) rfl #[.slice Ao40 t499.length co40] rfl (by (try simp only [List.map_toArray, List.map_cons, List.map_nil]); try rfl) ?_; (with_reducible refine (spec_SideOfLengths.calls kj17 _ _ t499 t524 t525 _ ?side1 ?side2 A37.out).mono ?_); (case side1 => repeat (first | exact (Kd.R_reads' Oq4.out).2.2 | (with_reducible first | refine Kd.C_alloc ?_ _ | refine Kd.C_drewN ?_ _ | refine Kd.C_drew ?_))); (case side2 => exact (Kd.R_reads' Oq4.out).2.1); rintro e w47 ⟨v526, rfl, ho0, hb⟩; refine ⟨_, rfl, ?_⟩; have n1_ := am (Kd.N_elder' (by (with_reducible repeat (first | apply Kd.N_alloc | apply Kd.N_drewN | apply Kd.N_drew)); exact Oq5.out) (Kd.R_base ho0) hb); have n2_ := am (Kd.N_elder' (by (with_reducible repeat (first | apply Kd.N_alloc | apply Kd.N_drewN | apply Kd.N_drew)); exact Oq6.out) (Kd.R_base ho0) hb); have n6_ := am (Kd.R_lower (Kd.R_new' (Kd.R_new' (Kd.R_new' (Kd.R_new' ho0 (sqL Oq4)) (sqL Oq7)) (sqL Oq8)) (sqL Oq9)) (below_size (by repeat with_reducible first | exact HB.out | apply pw_below_drewN | apply below_drew1))); have n7_ := am (below_step (by repeat with_reducible first | exact HB.out | apply pw_below_drewN | apply below_drew1) hb); clear Oq5; clear Oq6; clear HB; replace Oq4 := sqE Oq4 ho0 hb; have Oq5 := n1_; have Oq6 := n2_; replace Oq7 := sqE Oq7 ho0 hb; replace Oq8 := sqE Oq8 ho0 hb; replace Oq9 := sqE Oq9 ho0 hb; have Oq10 := n6_; have HB := n7_; clear n1_ n2_ n6_ n7_; (try clear hb); (try clear hb2); (try clear hk); (try clear hi); (try clear ho0)))
         (try simp only [Act.put, List.setIfInBounds_toArray, List.set_cons_zero, List.set_cons_succ])
         go_cut [199] (fun v199 wc => ∃ (kq : Nat) (x199_37 : Bool), v199 = .bool x199_37 ∧ Aside0 (laws_FnAlikeLengths.j3 kq l1 t499 t502 t503 t510 t512 t520 x199_37 = some true) ∧ Aside0 (kq ≤ kj17) ∧ Aside0 (Kd.R (Kd.int .i64) 3 wc w.heap.size (fun k_ => some k_ ≠ (v514 : Value).ownBlock ∧ some k_ ≠ (v522 : Value).ownBlock) (.slice Ao40 t499.length co40) t499) ∧ Aside0 (Kd.N (Kd.slice 3 (Kd.int .i64)) 24 wc w.heap.size (fun k_ => some k_ ≠ ((.slice Ao40 t499.length co40) : Value).ownBlock ∧ some k_ ≠ (v514 : Value).ownBlock ∧ some k_ ≠ (v522 : Value).ownBlock) v504 t502) ∧ Aside0 (Kd.R (Kd.int .i64) 3 wc w.heap.size (fun k_ => some k_ ≠ ((.slice Ao40 t499.length co40) : Value).ownBlock ∧ some k_ ≠ (v522 : Value).ownBlock) v514 t512) ∧ Aside0 (Kd.R (Kd.int .i64) 3 wc w.heap.size (fun k_ => some k_ ≠ ((.slice Ao40 t499.length co40) : Value).ownBlock ∧ some k_ ≠ (v514 : Value).ownBlock) v522 t520) ∧ Aside0 (Below w.heap.size w wc))
         case first => as_aux_lemma =>
          have H := HC38.out
          clear HC38
          by_cases c48 : (t503 != t509) = true
          ·
           rw [if_pos c48] at H
           have c48b0 : (t503 != t509) = true := c48
           (try (have c48b1 : decide (t503 = t509) = false := by simpa using c48))
           (try (have c48b2 : (t503 == t509) = false := by simpa using c48))
           (try (have c48b3 : ¬ (t503 = t509) := by simpa using c48))
           clear c48
           (first | rw [c48b0] | (simp only [i64_w, i32_w]; rw [c48b0]) | rw [c48b1] | skip)
           exact absurd H (laws_FnAlikeLengths.j3_no _ _ _ _ _ _ _ _)
          ·
           rw [if_neg c48] at H
           have c48b0 : (t503 != t509) = false := by simpa using c48
           (try (have c48b1 : decide (t503 = t509) = true := by simpa using c48))
           (try (have c48b2 : (t503 == t509) = true := by simpa using c48))
           clear c48
           (first | rw [c48b0] | (simp only [i64_w, i32_w]; rw [c48b0]) | rw [c48b1] | skip)
           replace H := Option.bind_eq_some_iff.mp H
           obtain ⟨t528, A490, H⟩ := H
           replace H : (if t528 = true then (if (t511 != t503) = true then (laws_FnAlikeLengths.j3 kj17 l1 t499 t502 t503 t510 t512 t520 true) else (if (t513 != t517) = true then (laws_FnAlikeLengths.j3 kj17 l1 t499 t502 t503 t510 t512 t520 true) else ((laws_rSame.f kj17 t512 t516).bind fun t529 => (if t529 = true then (if (t521 != t525) = true then (laws_FnAlikeLengths.j3 kj17 l1 t499 t502 t503 t510 t512 t520 true) else ((laws_rSame.f kj17 t520 t524).bind fun t530 => (if t530 = true then (if (t513 != t503) = true then (laws_FnAlikeLengths.j3 kj17 l1 t499 t502 t503 t510 t512 t520 true) else (laws_FnAlikeLengths.j3 kj17 l1 t499 t502 t503 t510 t512 t520 (t521 != t503))) else (laws_FnAlikeLengths.j3 kj17 l1 t499 t502 t503 t510 t512 t520 true)))) else (laws_FnAlikeLengths.j3 kj17 l1 t499 t502 t503 t510 t512 t520 true))))) else (laws_FnAlikeLengths.j3 kj17 l1 t499 t502 t503 t510 t512 t520 true)) = some true := H
           have A49 := Aside0.mk A490
           clear A490
           by_cases c50 : t528 = true
           ·
            subst c50
            have H1 : (if (t511 != t503) = true then (laws_FnAlikeLengths.j3 kj17 l1 t499 t502 t503 t510 t512 t520 true) else (if (t513 != t517) = true then (laws_FnAlikeLengths.j3 kj17 l1 t499 t502 t503 t510 t512 t520 true) else ((laws_rSame.f kj17 t512 t516).bind fun t529 => (if t529 = true then (if (t521 != t525) = true then (laws_FnAlikeLengths.j3 kj17 l1 t499 t502 t503 t510 t512 t520 true) else ((laws_rSame.f kj17 t520 t524).bind fun t530 => (if t530 = true then (if (t513 != t503) = true then (laws_FnAlikeLengths.j3 kj17 l1 t499 t502 t503 t510 t512 t520 true) else (laws_FnAlikeLengths.j3 kj17 l1 t499 t502 t503 t510 t512 t520 (t521 != t503))) else (laws_FnAlikeLengths.j3 kj17 l1 t499 t502 t503 t510 t512 t520 true)))) else (laws_FnAlikeLengths.j3 kj17 l1 t499 t502 t503 t510 t512 t520 true))))) = some true := by first | (rw [if_pos rfl] at H; exact H) | rfl
            clear H
            have H := H1
            clear H1
            by_cases c51 : (t511 != t503) = true
            ·
             rw [if_pos c51] at H
             have c51b0 : (t511 != t503) = true := c51
             (try (have c51b1 : decide (t511 = t503) = false := by simpa using c51))
             (try (have c51b2 : (t511 == t503) = false := by simpa using c51))
             (try (have c51b3 : ¬ (t511 = t503) := by simpa using c51))
             clear c51
             exact absurd H (laws_FnAlikeLengths.j3_no _ _ _ _ _ _ _ _)
            ·
             rw [if_neg c51] at H
             have c51b0 : (t511 != t503) = false := by simpa using c51
             (try (have c51b1 : decide (t511 = t503) = true := by simpa using c51))
             (try (have c51b2 : (t511 == t503) = true := by simpa using c51))
             clear c51
             by_cases c52 : (t513 != t517) = true
             ·
              rw [if_pos c52] at H
              have c52b0 : (t513 != t517) = true := c52
              (try (have c52b1 : decide (t513 = t517) = false := by simpa using c52))
              (try (have c52b2 : (t513 == t517) = false := by simpa using c52))
              (try (have c52b3 : ¬ (t513 = t517) := by simpa using c52))
              clear c52
              exact absurd H (laws_FnAlikeLengths.j3_no _ _ _ _ _ _ _ _)
             ·
              rw [if_neg c52] at H
              have c52b0 : (t513 != t517) = false := by simpa using c52
              (try (have c52b1 : decide (t513 = t517) = true := by simpa using c52))
              (try (have c52b2 : (t513 == t517) = true := by simpa using c52))
              clear c52
              replace H := Option.bind_eq_some_iff.mp H
              obtain ⟨t529, A530, H⟩ := H
              replace H : (if t529 = true then (if (t521 != t525) = true then (laws_FnAlikeLengths.j3 kj17 l1 t499 t502 t503 t510 t512 t520 true) else ((laws_rSame.f kj17 t520 t524).bind fun t530 => (if t530 = true then (if (t513 != t503) = true then (laws_FnAlikeLengths.j3 kj17 l1 t499 t502 t503 t510 t512 t520 true) else (laws_FnAlikeLengths.j3 kj17 l1 t499 t502 t503 t510 t512 t520 (t521 != t503))) else (laws_FnAlikeLengths.j3 kj17 l1 t499 t502 t503 t510 t512 t520 true)))) else (laws_FnAlikeLengths.j3 kj17 l1 t499 t502 t503 t510 t512 t520 true)) = some true := H
              have A53 := Aside0.mk A530
              clear A530
              by_cases c54 : t529 = true
              ·
               subst c54
               have H1 : (if (t521 != t525) = true then (laws_FnAlikeLengths.j3 kj17 l1 t499 t502 t503 t510 t512 t520 true) else ((laws_rSame.f kj17 t520 t524).bind fun t530 => (if t530 = true then (if (t513 != t503) = true then (laws_FnAlikeLengths.j3 kj17 l1 t499 t502 t503 t510 t512 t520 true) else (laws_FnAlikeLengths.j3 kj17 l1 t499 t502 t503 t510 t512 t520 (t521 != t503))) else (laws_FnAlikeLengths.j3 kj17 l1 t499 t502 t503 t510 t512 t520 true)))) = some true := by first | (rw [if_pos rfl] at H; exact H) | rfl
               clear H
               have H := H1
               clear H1
               by_cases c55 : (t521 != t525) = true
               ·
                rw [if_pos c55] at H
                have c55b0 : (t521 != t525) = true := c55
                (try (have c55b1 : decide (t521 = t525) = false := by simpa using c55))
                (try (have c55b2 : (t521 == t525) = false := by simpa using c55))
                (try (have c55b3 : ¬ (t521 = t525) := by simpa using c55))
                clear c55
                exact absurd H (laws_FnAlikeLengths.j3_no _ _ _ _ _ _ _ _)
               ·
                rw [if_neg c55] at H
                have c55b0 : (t521 != t525) = false := by simpa using c55
                (try (have c55b1 : decide (t521 = t525) = true := by simpa using c55))
                (try (have c55b2 : (t521 == t525) = true := by simpa using c55))
                clear c55
                replace H := Option.bind_eq_some_iff.mp H
                obtain ⟨t530, A560, H⟩ := H
                replace H : (if t530 = true then (if (t513 != t503) = true then (laws_FnAlikeLengths.j3 kj17 l1 t499 t502 t503 t510 t512 t520 true) else (laws_FnAlikeLengths.j3 kj17 l1 t499 t502 t503 t510 t512 t520 (t521 != t503))) else (laws_FnAlikeLengths.j3 kj17 l1 t499 t502 t503 t510 t512 t520 true)) = some true := H
                have A56 := Aside0.mk A560
                clear A560
                by_cases c57 : t530 = true
                ·
                 subst c57
                 have H1 : (if (t513 != t503) = true then (laws_FnAlikeLengths.j3 kj17 l1 t499 t502 t503 t510 t512 t520 true) else (laws_FnAlikeLengths.j3 kj17 l1 t499 t502 t503 t510 t512 t520 (t521 != t503))) = some true := by first | (rw [if_pos rfl] at H; exact H) | rfl
                 clear H
                 have H := H1
                 clear H1
                 by_cases c58 : (t513 != t503) = true
                 ·
                  rw [if_pos c58] at H
                  have c58b0 : (t513 != t503) = true := c58
                  (try (have c58b1 : decide (t513 = t503) = false := by simpa using c58))
                  (try (have c58b2 : (t513 == t503) = false := by simpa using c58))
                  (try (have c58b3 : ¬ (t513 = t503) := by simpa using c58))
                  clear c58
                  exact absurd H (laws_FnAlikeLengths.j3_no _ _ _ _ _ _ _ _)
                 ·
                  rw [if_neg c58] at H
                  have c58b0 : (t513 != t503) = false := by simpa using c58
                  (try (have c58b1 : decide (t513 = t503) = true := by simpa using c58))
                  (try (have c58b2 : (t513 == t503) = true := by simpa using c58))
                  clear c58
                  have H' := Aside0.mk H
                  clear H
                  obtain ⟨Ao59, co59, eo59⟩ := Kd.N_slice Oq5.out
                  subst eo59
                  obtain ⟨Ao60, co60, eo60⟩ := Kd.N_slice Oq6.out
                  subst eo60
                  go_wp2_with (first | (go_at_call 43; (with_reducible refine (laws_rSameRows.calls kj17 _ _ t502 _ _ t506 true _ ?side1 ?side2 ?side3 ?side4 A49.out).mono ?_); (case side1 => repeat (first | exact (Kd.N_reads' Oq5.out).2.2 | (with_reducible first | refine Kd.C_alloc ?_ _ | refine Kd.C_drewN ?_ _ | refine Kd.C_drew ?_))); (case side2 => exact (Kd.N_reads' Oq5.out).2.1); (case side3 => repeat (first | exact (Kd.N_reads' Oq6.out).2.2 | (with_reducible first | refine Kd.C_alloc ?_ _ | refine Kd.C_drewN ?_ _ | refine Kd.C_drew ?_))); (case side4 => exact (Kd.N_reads' Oq6.out).2.1); rintro e w' ⟨rfl, ⟨nd, rfl⟩⟩; obtain ⟨Ao61, co61, eo61⟩ := Kd.R_slice Oq7.out; subst eo61; obtain ⟨Ao62, co62, eo62⟩ := Kd.R_slice Oq8.out; subst eo62) | (go_at_call 23; (with_reducible refine (laws_rSame.calls kj17 _ _ t512 _ _ t516 true _ ?side1 ?side2 ?side3 ?side4 A53.out).mono ?_); (case side1 => repeat (first | exact (Kd.R_reads' Oq7.out).2.2 | (with_reducible first | refine Kd.C_alloc ?_ _ | refine Kd.C_drewN ?_ _ | refine Kd.C_drew ?_))); (case side2 => exact (Kd.R_reads' Oq7.out).2.1); (case side3 => repeat (first | exact (Kd.R_reads' Oq8.out).2.2 | (with_reducible first | refine Kd.C_alloc ?_ _ | refine Kd.C_drewN ?_ _ | refine Kd.C_drew ?_))); (case side4 => exact (Kd.R_reads' Oq8.out).2.1); rintro e w' ⟨rfl, ⟨nd, rfl⟩⟩; obtain ⟨Ao63, co63, eo63⟩ := Kd.R_slice Oq9.out; subst eo63; obtain ⟨Ao64, co64, eo64⟩ := Kd.R_slice Oq10.out; subst eo64) | (go_at_call 23; (with_reducible refine (laws_rSame.calls kj17 _ _ t520 _ _ t524 true _ ?side1 ?side2 ?side3 ?side4 A56.out).mono ?_); (case side1 => repeat (first | exact (Kd.R_reads' Oq9.out).2.2 | (with_reducible first | refine Kd.C_alloc ?_ _ | refine Kd.C_drewN ?_ _ | refine Kd.C_drew ?_))); (case side2 => exact (Kd.R_reads' Oq9.out).2.1); (case side3 => repeat (first | exact (Kd.R_reads' Oq10.out).2.2 | (with_reducible first | refine Kd.C_alloc ?_ _ | refine Kd.C_drewN ?_ _ | refine Kd.C_drew ?_))); (case side4 => exact (Kd.R_reads' Oq10.out).2.1); rintro e w' ⟨rfl, ⟨nd, rfl⟩⟩))
                  go_meet
                  case rel => exact ⟨_, ((t521 != t503)), (by first | rfl | (simp; done) | (simp [*]; done)), H', ⟨by have := HJ7.out; have := HJ15.out; have := HJ17.out; first | omega | exact Nat.le_refl _⟩, ⟨by exact sqm Oq4 (fun _ hk => by first | exact ⟨hk.1.1.1.2, hk.1.2⟩ | (and_intros <;> first | trivial | simp only [hk, ne_eq, not_false_eq_true]))⟩, ⟨by (with_reducible repeat (first | apply Kd.N_alloc | apply Kd.N_drewN | apply Kd.N_drew)); exact Kd.N_mono Oq5.out (fun _ hk => ⟨hk.1.1.1.1.1, ⟨hk.1.1.1.2, hk.1.2⟩⟩)⟩, ⟨by exact sqm Oq7 (fun _ hk => by first | exact ⟨hk.1.1.1.2, hk.1.2⟩ | (and_intros <;> first | trivial | simp only [hk, ne_eq, not_false_eq_true]))⟩, ⟨by exact sqm Oq9 (fun _ hk => by first | exact ⟨hk.1.1.1.2, hk.1.1.2⟩ | (and_intros <;> first | trivial | simp only [hk, ne_eq, not_false_eq_true]))⟩, ⟨by repeat with_reducible first | exact HB.out | apply pw_below_drewN | apply below_drew1⟩⟩
                ·
                 replace c57 := Bool.eq_false_iff.mpr c57
                 subst c57
                 have H1 : (laws_FnAlikeLengths.j3 kj17 l1 t499 t502 t503 t510 t512 t520 true) = some true := by first | (rw [if_neg (show ¬ (false = true) by decide)] at H; exact H) | rfl
                 clear H
                 have H := H1
                 clear H1
                 exact absurd H (laws_FnAlikeLengths.j3_no _ _ _ _ _ _ _ _)
              ·
               replace c54 := Bool.eq_false_iff.mpr c54
               subst c54
               have H1 : (laws_FnAlikeLengths.j3 kj17 l1 t499 t502 t503 t510 t512 t520 true) = some true := by first | (rw [if_neg (show ¬ (false = true) by decide)] at H; exact H) | rfl
               clear H
               have H := H1
               clear H1
               exact absurd H (laws_FnAlikeLengths.j3_no _ _ _ _ _ _ _ _)
           ·
            replace c50 := Bool.eq_false_iff.mpr c50
            subst c50
            have H1 : (laws_FnAlikeLengths.j3 kj17 l1 t499 t502 t503 t510 t512 t520 true) = some true := by first | (rw [if_neg (show ¬ (false = true) by decide)] at H; exact H) | rfl
            clear H
            have H := H1
            clear H1
            exact absurd H (laws_FnAlikeLengths.j3_no _ _ _ _ _ _ _ _)
         case rest => as_aux_lemma =>
          clear HC38
          try clear c1; try clear c2; try clear p2; try clear c3; try clear c4; try clear c5; try clear c10; try clear c14; try clear c14b0; try clear c14b1; try clear c14b2; try clear c15; try clear c17; try clear c19; try clear c22; try clear c23; try clear c25; try clear c25b0; try clear c25b1; try clear c25b2; try clear c32; try clear c33; try clear c34; try clear c35; try clear c36; try clear c37; try clear c38; try clear c39; try clear c40; try clear c41; try clear c42; try clear c48; try clear c48b0; try clear c48b1; try clear c48b2; try clear c50; try clear c51; try clear c51b0; try clear c51b1; try clear c51b2; try clear c52; try clear c52b0; try clear c52b1; try clear c52b2; try clear c54; try clear c55; try clear c55b0; try clear c55b1; try clear c55b2; try clear c57; try clear c58; try clear c58b0; try clear c58b1; try clear c58b2; try clear p2
          obtain ⟨kq, x199_37, rfl, HA, HJ37, Oq18, Oq19, Oq20, Oq22, HB⟩ := hcut
          cases kq with
          | zero => exact absurd HA.out (by simp [laws_FnAlikeLengths.j3])
          | succ kj37 =>
           have H := HA.out
           clear HA
           simp only [laws_FnAlikeLengths.j3] at H
           by_cases c65 : x199_37 = true
           ·
            subst c65
            have H1 : (some false) = some true := by first | (rw [if_pos rfl] at H; exact H) | rfl
            clear H
            have H := H1
            clear H1
            exact absurd (Option.some.inj H) (by decide)
           ·
            replace c65 := Bool.eq_false_iff.mpr c65
            subst c65
            have H1 : ((spec_DrawLengthsFrom.f kj37 l1).bind fun t531 => ((impl_LengthsFrom.f kj37 t531).bind fun bt534 => ((spec_LengthsFrom.f kj37 t531).bind fun bt538 => (if (bt534.2 != bt538.2) = true then (laws_FnAlikeLengths.j4 kj37 t499 t502 t503 t510 t512 t520 t531 bt534.1 bt534.2 true) else ((laws_rSame.f kj37 bt534.1 bt538.1).bind fun t542 => (laws_FnAlikeLengths.j4 kj37 t499 t502 t503 t510 t512 t520 t531 bt534.1 bt534.2 (!t542))))))) = some true := by first | (rw [if_neg (show ¬ (false = true) by decide)] at H; exact H) | rfl
            clear H
            have H := H1
            clear H1
            replace H := Option.bind_eq_some_iff.mp H
            obtain ⟨t531, A660, H⟩ := H
            replace H : ((impl_LengthsFrom.f kj37 t531).bind fun bt534 => ((spec_LengthsFrom.f kj37 t531).bind fun bt538 => (if (bt534.2 != bt538.2) = true then (laws_FnAlikeLengths.j4 kj37 t499 t502 t503 t510 t512 t520 t531 bt534.1 bt534.2 true) else ((laws_rSame.f kj37 bt534.1 bt538.1).bind fun t542 => (laws_FnAlikeLengths.j4 kj37 t499 t502 t503 t510 t512 t520 t531 bt534.1 bt534.2 (!t542)))))) = some true := H
            have A66 := Aside0.mk A660
            clear A660
            replace H := Option.bind_eq_some_iff.mp H
            obtain ⟨⟨t534, t535⟩, A670, H⟩ := H
            replace H : ((spec_LengthsFrom.f kj37 t531).bind fun bt538 => (if (t535 != bt538.2) = true then (laws_FnAlikeLengths.j4 kj37 t499 t502 t503 t510 t512 t520 t531 t534 t535 true) else ((laws_rSame.f kj37 t534 bt538.1).bind fun t542 => (laws_FnAlikeLengths.j4 kj37 t499 t502 t503 t510 t512 t520 t531 t534 t535 (!t542))))) = some true := H
            have A67 := Aside0.mk A670
            clear A670
            replace H := Option.bind_eq_some_iff.mp H
            obtain ⟨⟨t538, t541⟩, A680, H⟩ := H
            replace H : (if (t535 != t541) = true then (laws_FnAlikeLengths.j4 kj37 t499 t502 t503 t510 t512 t520 t531 t534 t535 true) else ((laws_rSame.f kj37 t534 t538).bind fun t542 => (laws_FnAlikeLengths.j4 kj37 t499 t502 t503 t510 t512 t520 t531 t534 t535 (!t542)))) = some true := H
            have A68 := Aside0.mk A680
            clear A680
            have HC69 := Aside0.mk H
            clear H
            go_upto_region 26 with (first | ((with_reducible refine gate_callee (f := 44) rfl ?_); refine goesL_ (some 201) rfl rfl Try.func44 (by kernel_rfl) rfl #[.slice A1 l1.length c1] rfl (by (try simp only [List.map_toArray, List.map_cons, List.map_nil]); try rfl) ?_; (with_reducible refine (spec_DrawLengthsFrom.calls kj37 _ _ l1 t531 _ ?side1 ?side2 A66.out).mono ?_); (case side1 => repeat (first | exact (Kd.C_below HR1.out HB.out) | (with_reducible first | refine Kd.C_alloc ?_ _ | refine Kd.C_drewN ?_ _ | refine Kd.C_drew ?_))); (case side2 => exact HC1.out); rintro e w70 ⟨v532, rfl, ho0, hb⟩; refine ⟨_, rfl, ?_⟩; have n1_ := am (Kd.N_elder' (by (with_reducible repeat (first | apply Kd.N_alloc | apply Kd.N_drewN | apply Kd.N_drew)); exact Oq19.out) (Kd.R_base ho0) hb); have n4_ := am (Kd.R_lower (Kd.R_new' (Kd.R_new' (Kd.R_new' ho0 (sqL Oq18)) (sqL Oq20)) (sqL Oq22)) (below_size (by repeat with_reducible first | exact HB.out | apply pw_below_drewN | apply below_drew1))); have n5_ := am (below_step (by repeat with_reducible first | exact HB.out | apply pw_below_drewN | apply below_drew1) hb); clear Oq19; clear HB; replace Oq18 := sqE Oq18 ho0 hb; have Oq19 := n1_; replace Oq20 := sqE Oq20 ho0 hb; replace Oq22 := sqE Oq22 ho0 hb; have Oq11 := n4_; have HB := n5_; clear n1_ n4_ n5_; (try clear hb); (try clear hb2); (try clear hk); (try clear hi); (try clear ho0); obtain ⟨Ao71, co71, eo71⟩ := Kd.R_slice Oq11.out; subst eo71) | ((with_reducible refine gate_callee (f := 45) rfl ?_); refine goesL_ (some 204) rfl rfl Try.func45 (by kernel_rfl) rfl #[.slice Ao71 t531.length co71] rfl (by (try simp only [List.map_toArray, List.map_cons, List.map_nil]); try rfl) ?_; (with_reducible refine (impl_LengthsFrom.calls kj37 _ _ t531 t534 t535 _ ?side1 ?side2 A67.out).mono ?_); (case side1 => repeat (first | exact (Kd.R_reads' Oq11.out).2.2 | (with_reducible first | refine Kd.C_alloc ?_ _ | refine Kd.C_drewN ?_ _ | refine Kd.C_drew ?_))); (case side2 => exact (Kd.R_reads' Oq11.out).2.1); rintro e w72 ⟨v536, rfl, ho0, hb⟩; refine ⟨_, rfl, ?_⟩; have n1_ := am (Kd.N_elder' (by (with_reducible repeat (first | apply Kd.N_alloc | apply Kd.N_drewN | apply Kd.N_drew)); exact Oq19.out) (Kd.R_base ho0) hb); have n5_ := am (Kd.R_lower (Kd.R_new' (Kd.R_new' (Kd.R_new' (Kd.R_new' ho0 (sqL Oq18)) (sqL Oq20)) (sqL Oq22)) (sqL Oq11)) (below_size (by repeat with_reducible first | exact HB.out | apply pw_below_drewN | apply below_drew1))); have n6_ := am (below_step (by repeat with_reducible first | exact HB.out | apply pw_below_drewN | apply below_drew1) hb); clear Oq19; clear HB; replace Oq18 := sqE Oq18 ho0 hb; have Oq19 := n1_; replace Oq20 := sqE Oq20 ho0 hb; replace Oq22 := sqE Oq22 ho0 hb; replace Oq11 := sqE Oq11 ho0 hb; have Oq12 := n5_; have HB := n6_; clear n1_ n5_ n6_; (try clear hb); (try clear hb2); (try clear hk); (try clear hi); (try clear ho0)) | ((with_reducible refine gate_callee (f := 46) rfl ?_); refine goesL_ (some 209) rfl rfl Try.func46 (by kernel_rfl) rfl #[.slice Ao71 t531.length co71] rfl (by (try simp only [List.map_toArray, List.map_cons, List.map_nil]); try rfl) ?_; (with_reducible refine (spec_LengthsFrom.calls kj37 _ _ t531 t538 t541 _ ?side1 ?side2 A68.out).mono ?_); (case side1 => repeat (first | exact (Kd.R_reads' Oq11.out).2.2 | (with_reducible first | refine Kd.C_alloc ?_ _ | refine Kd.C_drewN ?_ _ | refine Kd.C_drew ?_))); (case side2 => exact (Kd.R_reads' Oq11.out).2.1); rintro e w73 ⟨v539, rfl, ho0, hb⟩; refine ⟨_, rfl, ?_⟩; have n1_ := am (Kd.N_below (by (with_reducible repeat (first | apply Kd.N_alloc | apply Kd.N_drewN | apply Kd.N_drew)); exact Oq19.out) hb); have n6_ := am (Kd.V_lower (Kd.V_mono (ok' := fun k_ => some k_ ≠ (.slice Ao40 t499.length co40 : Value).ownBlock ∧ some k_ ≠ (v504 : Value).ownBlock ∧ some k_ ≠ (v514 : Value).ownBlock ∧ some k_ ≠ (v522 : Value).ownBlock ∧ some k_ ≠ (.slice Ao71 t531.length co71 : Value).ownBlock ∧ some k_ ≠ (v536 : Value).ownBlock) ho0 (fun k_ hk_ => ⟨(Kd.fresh' (sqL Oq18) k_ hk_), (Kd.fresh' (Kd.N_lt (by (with_reducible repeat (first | apply Kd.N_alloc | apply Kd.N_drewN | apply Kd.N_drew)); exact Oq19.out)) k_ hk_), (Kd.fresh' (sqL Oq20) k_ hk_), (Kd.fresh' (sqL Oq22) k_ hk_), (Kd.fresh' (sqL Oq11) k_ hk_), (Kd.fresh' (sqL Oq12) k_ hk_)⟩)) (below_size (by repeat with_reducible first | exact HB.out | apply pw_below_drewN | apply below_drew1))); have n7_ := am (below_step (by repeat with_reducible first | exact HB.out | apply pw_below_drewN | apply below_drew1) hb); clear Oq19; clear HB; replace Oq18 := sqR Oq18 hb; have Oq19 := n1_; replace Oq20 := sqR Oq20 hb; replace Oq22 := sqR Oq22 hb; replace Oq11 := sqR Oq11 hb; replace Oq12 := sqR Oq12 hb; have Oq13 := n6_; have HB := n7_; clear n1_ n6_ n7_; (try clear hb); (try clear hb2); (try clear hk); (try clear hi); (try clear ho0)))
            (try simp only [Act.put, List.setIfInBounds_toArray, List.set_cons_zero, List.set_cons_succ])
            go_cut [220] (fun v220 wc => ∃ (kq : Nat) (x220_68 : Bool), v220 = .bool x220_68 ∧ Aside0 (laws_FnAlikeLengths.j4 kq t499 t502 t503 t510 t512 t520 t531 t534 t535 x220_68 = some true) ∧ Aside0 (kq ≤ kj37) ∧ Aside0 (Kd.R (Kd.int .i64) 3 wc w.heap.size (fun k_ => some k_ ≠ (v514 : Value).ownBlock ∧ some k_ ≠ (v522 : Value).ownBlock ∧ some k_ ≠ ((.slice Ao71 t531.length co71) : Value).ownBlock ∧ some k_ ≠ (v536 : Value).ownBlock) (.slice Ao40 t499.length co40) t499) ∧ Aside0 (Kd.N (Kd.slice 3 (Kd.int .i64)) 24 wc w.heap.size (fun k_ => some k_ ≠ ((.slice Ao40 t499.length co40) : Value).ownBlock ∧ some k_ ≠ (v514 : Value).ownBlock ∧ some k_ ≠ (v522 : Value).ownBlock ∧ some k_ ≠ ((.slice Ao71 t531.length co71) : Value).ownBlock ∧ some k_ ≠ (v536 : Value).ownBlock) v504 t502) ∧ Aside0 (Kd.R (Kd.int .i64) 3 wc w.heap.size (fun k_ => some k_ ≠ ((.slice Ao40 t499.length co40) : Value).ownBlock ∧ some k_ ≠ (v522 : Value).ownBlock ∧ some k_ ≠ ((.slice Ao71 t531.length co71) : Value).ownBlock ∧ some k_ ≠ (v536 : Value).ownBlock) v514 t512) ∧ Aside0 (Kd.R (Kd.int .i64) 3 wc w.heap.size (fun k_ => some k_ ≠ ((.slice Ao40 t499.length co40) : Value).ownBlock ∧ some k_ ≠ (v514 : Value).ownBlock ∧ some k_ ≠ ((.slice Ao71 t531.length co71) : Value).ownBlock ∧ some k_ ≠ (v536 : Value).ownBlock) v522 t520) ∧ Aside0 (Kd.R (Kd.int .i64) 3 wc w.heap.size (fun k_ => some k_ ≠ ((.slice Ao40 t499.length co40) : Value).ownBlock ∧ some k_ ≠ (v514 : Value).ownBlock ∧ some k_ ≠ (v522 : Value).ownBlock ∧ some k_ ≠ (v536 : Value).ownBlock) (.slice Ao71 t531.length co71) t531) ∧ Aside0 (Kd.R (Kd.int .i64) 3 wc w.heap.size (fun k_ => some k_ ≠ ((.slice Ao40 t499.length co40) : Value).ownBlock ∧ some k_ ≠ (v514 : Value).ownBlock ∧ some k_ ≠ (v522 : Value).ownBlock ∧ some k_ ≠ ((.slice Ao71 t531.length co71) : Value).ownBlock) v536 t534) ∧ Aside0 (Below w.heap.size w wc))
            case first => as_aux_lemma =>
             have H := HC69.out
             clear HC69
             by_cases c74 : (t535 != t541) = true
             ·
              rw [if_pos c74] at H
              have c74b0 : (t535 != t541) = true := c74
              (try (have c74b1 : decide (t535 = t541) = false := by simpa using c74))
              (try (have c74b2 : (t535 == t541) = false := by simpa using c74))
              (try (have c74b3 : ¬ (t535 = t541) := by simpa using c74))
              clear c74
              (first | rw [c74b0] | (simp only [i64_w, i32_w]; rw [c74b0]) | rw [c74b1] | skip)
              exact absurd H (laws_FnAlikeLengths.j4_no _ _ _ _ _ _ _ _ _ _)
             ·
              rw [if_neg c74] at H
              have c74b0 : (t535 != t541) = false := by simpa using c74
              (try (have c74b1 : decide (t535 = t541) = true := by simpa using c74))
              (try (have c74b2 : (t535 == t541) = true := by simpa using c74))
              clear c74
              (first | rw [c74b0] | (simp only [i64_w, i32_w]; rw [c74b0]) | rw [c74b1] | skip)
              replace H := Option.bind_eq_some_iff.mp H
              obtain ⟨t542, A750, H⟩ := H
              replace H : (laws_FnAlikeLengths.j4 kj37 t499 t502 t503 t510 t512 t520 t531 t534 t535 (!t542)) = some true := H
              have A75 := Aside0.mk A750
              clear A750
              have H' := Aside0.mk H
              clear H
              obtain ⟨Ao76, co76, eo76⟩ := Kd.R_slice Oq12.out
              subst eo76
              obtain ⟨Ao77, co77, eo77⟩ := Kd.V_slice Oq13.out
              subst eo77
              go_wp2_with (first | (go_at_call 23; (with_reducible refine (laws_rSame.calls kj37 _ _ t534 _ _ t538 t542 _ ?side1 ?side2 ?side3 ?side4 A75.out).mono ?_); (case side1 => repeat (first | exact (Kd.R_reads' Oq12.out).2.2 | (with_reducible first | refine Kd.C_alloc ?_ _ | refine Kd.C_drewN ?_ _ | refine Kd.C_drew ?_))); (case side2 => exact (Kd.R_reads' Oq12.out).2.1); (case side3 => repeat (first | exact (Kd.V_reads' Oq13.out).2.2 | (with_reducible first | refine Kd.C_alloc ?_ _ | refine Kd.C_drewN ?_ _ | refine Kd.C_drew ?_))); (case side4 => exact (Kd.V_reads' Oq13.out).2.1); rintro e w' ⟨rfl, ⟨nd, rfl⟩⟩))
              go_meet
              case rel => exact ⟨_, (!t542), (by first | rfl | (simp; done) | (simp [*]; done)), H', ⟨by have := HJ7.out; have := HJ15.out; have := HJ17.out; have := HJ37.out; first | omega | exact Nat.le_refl _⟩, ⟨by exact sqm Oq18 (fun _ hk => by first | exact ⟨hk.1.1.1, ⟨hk.1.1.2, ⟨hk.1.2, hk.2⟩⟩⟩ | (and_intros <;> first | trivial | simp only [hk, ne_eq, not_false_eq_true]))⟩, ⟨by (with_reducible repeat (first | apply Kd.N_alloc | apply Kd.N_drewN | apply Kd.N_drew)); exact Kd.N_mono Oq19.out (fun _ hk => ⟨hk.1.1.1, ⟨hk.1.1.2.1, ⟨hk.1.1.2.2, ⟨hk.1.2, hk.2⟩⟩⟩⟩)⟩, ⟨by exact sqm Oq20 (fun _ hk => by first | exact ⟨hk.1.1.1, ⟨hk.1.1.2, ⟨hk.1.2, hk.2⟩⟩⟩ | (and_intros <;> first | trivial | simp only [hk, ne_eq, not_false_eq_true]))⟩, ⟨by exact sqm Oq22 (fun _ hk => by first | exact ⟨hk.1.1.1, ⟨hk.1.1.2, ⟨hk.1.2, hk.2⟩⟩⟩ | (and_intros <;> first | trivial | simp only [hk, ne_eq, not_false_eq_true]))⟩, ⟨by exact sqm Oq11 (fun _ hk => by first | exact ⟨hk.1.1.1.2, ⟨hk.1.1.2, ⟨hk.1.2, hk.2⟩⟩⟩ | (and_intros <;> first | trivial | simp only [hk, ne_eq, not_false_eq_true]))⟩, ⟨by exact sqm Oq12 (fun _ hk => by first | exact ⟨hk.1.1.1.2, ⟨hk.1.1.2, ⟨hk.1.2, hk.2⟩⟩⟩ | (and_intros <;> first | trivial | simp only [hk, ne_eq, not_false_eq_true]))⟩, ⟨by repeat with_reducible first | exact HB.out | apply pw_below_drewN | apply below_drew1⟩⟩
            case rest => as_aux_lemma =>
             clear HC69
             try clear c1; try clear c2; try clear p2; try clear c3; try clear c4; try clear c5; try clear c6; try clear c7; try clear c10; try clear c14; try clear c14b0; try clear c14b1; try clear c14b2; try clear c15; try clear c17; try clear c19; try clear c22; try clear c23; try clear c25; try clear c25b0; try clear c25b1; try clear c25b2; try clear c32; try clear c33; try clear c34; try clear c35; try clear c36; try clear c37; try clear c38; try clear c39; try clear c40; try clear c41; try clear c42; try clear c44; try clear c45; try clear c46; try clear c48; try clear c48b0; try clear c48b1; try clear c48b2; try clear c50; try clear c51; try clear c51b0; try clear c51b1; try clear c51b2; try clear c52; try clear c52b0; try clear c52b1; try clear c52b2; try clear c54; try clear c55; try clear c55b0; try clear c55b1; try clear c55b2; try clear c57; try clear c58; try clear c58b0; try clear c58b1; try clear c58b2; try clear c65; try clear c74; try clear c74b0; try clear c74b1; try clear c74b2; try clear p2
             obtain ⟨kq, x220_68, rfl, HA, HJ68, Oq18, Oq19, Oq20, Oq22, Oq23, Oq25, HB⟩ := hcut
             cases kq with
             | zero => exact absurd HA.out (by simp [laws_FnAlikeLengths.j4])
             | succ kj68 =>
              have H := HA.out
              clear HA
              simp only [laws_FnAlikeLengths.j4] at H
              by_cases c78 : x220_68 = true
              ·
               subst c78
               have H1 : (some false) = some true := by first | (rw [if_pos rfl] at H; exact H) | rfl
               clear H
               have H := H1
               clear H1
               exact absurd (Option.some.inj H) (by decide)
              ·
               replace c78 := Bool.eq_false_iff.mpr c78
               subst c78
               have H1 : (if t535 = true then ((impl_FactorsOf.f kj68 t534).bind fun bt543 => (if bt543.2 = true then ((laws_rSame.f kj68 bt543.1 t531).bind fun t547 => (if t547 = true then (laws_FnAlikeLengths.j5 kj68 t499 t502 t503 t510 t512 t520) else (some false))) else (some false))) else (laws_FnAlikeLengths.j5 kj68 t499 t502 t503 t510 t512 t520)) = some true := by first | (rw [if_neg (show ¬ (false = true) by decide)] at H; exact H) | rfl
               clear H
               have H := H1
               clear H1
               have HC79 := Aside0.mk H
               clear H
               go_upto_if 221 with (fail)
               go_cut [] (fun wc => ∃ (kq : Nat), Aside0 (laws_FnAlikeLengths.j5 kq t499 t502 t503 t510 t512 t520 = some true) ∧ Aside0 (kq ≤ kj68) ∧ Aside0 (Kd.R (Kd.int .i64) 3 wc w.heap.size (fun k_ => some k_ ≠ (v514 : Value).ownBlock ∧ some k_ ≠ (v522 : Value).ownBlock) (.slice Ao40 t499.length co40) t499) ∧ Aside0 (Kd.N (Kd.slice 3 (Kd.int .i64)) 24 wc w.heap.size (fun k_ => some k_ ≠ ((.slice Ao40 t499.length co40) : Value).ownBlock ∧ some k_ ≠ (v514 : Value).ownBlock ∧ some k_ ≠ (v522 : Value).ownBlock) v504 t502) ∧ Aside0 (Kd.R (Kd.int .i64) 3 wc w.heap.size (fun k_ => some k_ ≠ ((.slice Ao40 t499.length co40) : Value).ownBlock ∧ some k_ ≠ (v522 : Value).ownBlock) v514 t512) ∧ Aside0 (Kd.R (Kd.int .i64) 3 wc w.heap.size (fun k_ => some k_ ≠ ((.slice Ao40 t499.length co40) : Value).ownBlock ∧ some k_ ≠ (v514 : Value).ownBlock) v522 t520) ∧ Aside0 (Below w.heap.size w wc))
               case first => as_aux_lemma =>
                have H := HC79.out
                clear HC79
                by_cases c80 : t535 = true
                ·
                 subst c80
                 have H1 : ((impl_FactorsOf.f kj68 t534).bind fun bt543 => (if bt543.2 = true then ((laws_rSame.f kj68 bt543.1 t531).bind fun t547 => (if t547 = true then (laws_FnAlikeLengths.j5 kj68 t499 t502 t503 t510 t512 t520) else (some false))) else (some false))) = some true := by first | (rw [if_pos rfl] at H; exact H) | rfl
                 clear H
                 have H := H1
                 clear H1
                 replace H := Option.bind_eq_some_iff.mp H
                 obtain ⟨⟨t543, t544⟩, A810, H⟩ := H
                 replace H : (if t544 = true then ((laws_rSame.f kj68 t543 t531).bind fun t547 => (if t547 = true then (laws_FnAlikeLengths.j5 kj68 t499 t502 t503 t510 t512 t520) else (some false))) else (some false)) = some true := H
                 have A81 := Aside0.mk A810
                 clear A810
                 by_cases c82 : t544 = true
                 ·
                  subst c82
                  have H1 : ((laws_rSame.f kj68 t543 t531).bind fun t547 => (if t547 = true then (laws_FnAlikeLengths.j5 kj68 t499 t502 t503 t510 t512 t520) else (some false))) = some true := by first | (rw [if_pos rfl] at H; exact H) | rfl
                  clear H
                  have H := H1
                  clear H1
                  replace H := Option.bind_eq_some_iff.mp H
                  obtain ⟨t547, A830, H⟩ := H
                  replace H : (if t547 = true then (laws_FnAlikeLengths.j5 kj68 t499 t502 t503 t510 t512 t520) else (some false)) = some true := H
                  have A83 := Aside0.mk A830
                  clear A830
                  by_cases c84 : t547 = true
                  ·
                   subst c84
                   have H1 : (laws_FnAlikeLengths.j5 kj68 t499 t502 t503 t510 t512 t520) = some true := by first | (rw [if_pos rfl] at H; exact H) | rfl
                   clear H
                   have H := H1
                   clear H1
                   have H' := Aside0.mk H
                   clear H
                   obtain ⟨Ao85, co85, eo85⟩ := Kd.R_slice Oq25.out
                   subst eo85
                   go_wp2_with (first | ((with_reducible refine gate_callee (f := 17) rfl ?_); refine goesL_ (some 224) rfl rfl Try.func17 (by kernel_rfl) rfl #[.slice Ao85 t534.length co85] rfl (by (try simp only [List.map_toArray, List.map_cons, List.map_nil]); try rfl) ?_; (with_reducible refine (impl_FactorsOf.calls kj68 _ _ t534 t543 true _ ?side1 ?side2 A81.out).mono ?_); (case side1 => repeat (first | exact (Kd.R_reads' Oq25.out).2.2 | (with_reducible first | refine Kd.C_alloc ?_ _ | refine Kd.C_drewN ?_ _ | refine Kd.C_drew ?_))); (case side2 => exact (Kd.R_reads' Oq25.out).2.1); rintro e w86 ⟨v545, rfl, ho0, hb⟩; refine ⟨_, rfl, ?_⟩; have n1_ := am (Kd.N_elder' (by (with_reducible repeat (first | apply Kd.N_alloc | apply Kd.N_drewN | apply Kd.N_drew)); exact Oq19.out) (Kd.R_base ho0) hb); have n6_ := am (Kd.R_lower (Kd.R_new' (Kd.R_new' (Kd.R_new' (Kd.R_new' (Kd.R_new' ho0 (sqL Oq18)) (sqL Oq20)) (sqL Oq22)) (sqL Oq23)) (sqL Oq25)) (below_size (by repeat with_reducible first | exact HB.out | apply pw_below_drewN | apply below_drew1))); have n7_ := am (below_step (by repeat with_reducible first | exact HB.out | apply pw_below_drewN | apply below_drew1) hb); clear Oq19; clear HB; replace Oq18 := sqE Oq18 ho0 hb; have Oq19 := n1_; replace Oq20 := sqE Oq20 ho0 hb; replace Oq22 := sqE Oq22 ho0 hb; replace Oq23 := sqE Oq23 ho0 hb; replace Oq25 := sqE Oq25 ho0 hb; have Oq14 := n6_; have HB := n7_; clear n1_ n6_ n7_; (try clear hb); (try clear hb2); (try clear hk); (try clear hi); (try clear ho0); obtain ⟨Ao87, co87, eo87⟩ := Kd.R_slice Oq14.out; subst eo87) | (go_at_call 23; (with_reducible refine (laws_rSame.calls kj68 _ _ t543 _ _ t531 true _ ?side1 ?side2 ?side3 ?side4 A83.out).mono ?_); (case side1 => repeat (first | exact (Kd.R_reads' Oq14.out).2.2 | (with_reducible first | refine Kd.C_alloc ?_ _ | refine Kd.C_drewN ?_ _ | refine Kd.C_drew ?_))); (case side2 => exact (Kd.R_reads' Oq14.out).2.1); (case side3 => repeat (first | exact (Kd.R_reads' Oq23.out).2.2 | (with_reducible first | refine Kd.C_alloc ?_ _ | refine Kd.C_drewN ?_ _ | refine Kd.C_drew ?_))); (case side4 => exact (Kd.R_reads' Oq23.out).2.1); rintro e w' ⟨rfl, ⟨nd, rfl⟩⟩))
                   go_meet
                   case rel => exact ⟨_, H', ⟨by have := HJ7.out; have := HJ15.out; have := HJ17.out; have := HJ37.out; have := HJ68.out; first | omega | exact Nat.le_refl _⟩, ⟨by exact sqm Oq18 (fun _ hk => by first | exact ⟨hk.1.1, hk.1.2.1⟩ | (and_intros <;> first | trivial | simp only [hk, ne_eq, not_false_eq_true]))⟩, ⟨by (with_reducible repeat (first | apply Kd.N_alloc | apply Kd.N_drewN | apply Kd.N_drew)); exact Kd.N_mono Oq19.out (fun _ hk => ⟨hk.1.1, ⟨hk.1.2.1, hk.1.2.2.1⟩⟩)⟩, ⟨by exact sqm Oq20 (fun _ hk => by first | exact ⟨hk.1.1, hk.1.2.1⟩ | (and_intros <;> first | trivial | simp only [hk, ne_eq, not_false_eq_true]))⟩, ⟨by exact sqm Oq22 (fun _ hk => by first | exact ⟨hk.1.1, hk.1.2.1⟩ | (and_intros <;> first | trivial | simp only [hk, ne_eq, not_false_eq_true]))⟩, ⟨by repeat with_reducible first | exact HB.out | apply pw_below_drewN | apply below_drew1⟩⟩
                  ·
                   replace c84 := Bool.eq_false_iff.mpr c84
                   subst c84
                   have H1 : (some false) = some true := by first | (rw [if_neg (show ¬ (false = true) by decide)] at H; exact H) | rfl
                   clear H
                   have H := H1
                   clear H1
                   exact absurd (Option.some.inj H) (by decide)
                 ·
                  replace c82 := Bool.eq_false_iff.mpr c82
                  subst c82
                  have H1 : (some false) = some true := by first | (rw [if_neg (show ¬ (false = true) by decide)] at H; exact H) | rfl
                  clear H
                  have H := H1
                  clear H1
                  exact absurd (Option.some.inj H) (by decide)
                ·
                 replace c80 := Bool.eq_false_iff.mpr c80
                 subst c80
                 have H1 : (laws_FnAlikeLengths.j5 kj68 t499 t502 t503 t510 t512 t520) = some true := by first | (rw [if_neg (show ¬ (false = true) by decide)] at H; exact H) | rfl
                 clear H
                 have H := H1
                 clear H1
                 have H' := Aside0.mk H
                 clear H
                 go_wp2
                 go_meet
                 case rel => exact ⟨_, H', ⟨by have := HJ7.out; have := HJ15.out; have := HJ17.out; have := HJ37.out; have := HJ68.out; first | omega | exact Nat.le_refl _⟩, ⟨by exact sqm Oq18 (fun _ hk => by first | exact ⟨hk.1, hk.2.1⟩ | (and_intros <;> first | trivial | simp only [hk, ne_eq, not_false_eq_true]))⟩, ⟨by (with_reducible repeat (first | apply Kd.N_alloc | apply Kd.N_drewN | apply Kd.N_drew)); exact Kd.N_mono Oq19.out (fun _ hk => ⟨hk.1, ⟨hk.2.1, hk.2.2.1⟩⟩)⟩, ⟨by exact sqm Oq20 (fun _ hk => by first | exact ⟨hk.1, hk.2.1⟩ | (and_intros <;> first | trivial | simp only [hk, ne_eq, not_false_eq_true]))⟩, ⟨by exact sqm Oq22 (fun _ hk => by first | exact ⟨hk.1, hk.2.1⟩ | (and_intros <;> first | trivial | simp only [hk, ne_eq, not_false_eq_true]))⟩, ⟨by repeat with_reducible first | exact HB.out | apply pw_below_drewN | apply below_drew1⟩⟩
               case rest => as_aux_lemma =>
                clear HC79
                try clear c1; try clear c2; try clear p2; try clear c3; try clear c4; try clear c5; try clear c6; try clear c7; try clear c8; try clear c10; try clear c14; try clear c14b0; try clear c14b1; try clear c14b2; try clear c15; try clear c17; try clear c19; try clear c22; try clear c23; try clear c25; try clear c25b0; try clear c25b1; try clear c25b2; try clear c32; try clear c33; try clear c34; try clear c35; try clear c36; try clear c37; try clear c38; try clear c39; try clear c40; try clear c41; try clear c42; try clear c44; try clear c45; try clear c46; try clear c48; try clear c48b0; try clear c48b1; try clear c48b2; try clear c50; try clear c51; try clear c51b0; try clear c51b1; try clear c51b2; try clear c52; try clear c52b0; try clear c52b1; try clear c52b2; try clear c54; try clear c55; try clear c55b0; try clear c55b1; try clear c55b2; try clear c57; try clear c58; try clear c58b0; try clear c58b1; try clear c58b2; try clear c65; try clear c74; try clear c74b0; try clear c74b1; try clear c74b2; try clear c78; try clear c80; try clear c82; try clear c84; try clear p2
                obtain ⟨kq, HA, HJ78, Oq18, Oq19, Oq20, Oq22, HB⟩ := hcut
                cases kq with
                | zero => exact absurd HA.out (by simp [laws_FnAlikeLengths.j5])
                | succ kj78 =>
                 have H := HA.out
                 clear HA
                 simp only [laws_FnAlikeLengths.j5] at H
                 by_cases c88 : t503 = true
                 ·
                  subst c88
                  have H1 : (if t510 = (t502.length : Int) then (laws_FnAlikeLengths.l0 kj78 t499 t502 t512 t520 false t502 (t502.length : Int) 0) else (some false)) = some true := by first | (rw [if_pos rfl] at H; exact H) | rfl
                  clear H
                  have H := H1
                  clear H1
                  by_cases c89 : t510 = (t502.length : Int)
                  ·
                   rw [if_pos c89] at H
                   have c89b0 : (t510 == (t502.length : Int)) = true := beq_iff_eq.mpr c89
                   have c89b1 : (t510 != (t502.length : Int)) = false := bne_eq_false_iff_eq.mpr c89
                   clear c89
                   have H' := Aside0.mk H
                   clear H
                   obtain ⟨Ao90, co90, eo90⟩ := Kd.N_slice Oq19.out
                   subst eo90
                   go_wp2
                   go_loopg [37, 243] kj78 (fun kq v37 v243 w' => ∃ (x37_7 : Bool) (x243_7 : Int), v37 = .bool x37_7 ∧ v243 = .int .i64 x243_7 ∧ Aside0 (laws_FnAlikeLengths.l0 kq t499 t502 t512 t520 x37_7 t502 (t502.length : Int) x243_7 = some true) ∧ Aside0 (kq ≤ kj78) ∧ Aside0 (Kd.R (Kd.int .i64) 3 w' w.heap.size (fun k_ => some k_ ≠ (v514 : Value).ownBlock ∧ some k_ ≠ (v522 : Value).ownBlock) (.slice Ao40 t499.length co40) t499) ∧ Aside0 (Kd.N (Kd.slice 3 (Kd.int .i64)) 24 w' w.heap.size (fun k_ => some k_ ≠ ((.slice Ao40 t499.length co40) : Value).ownBlock ∧ some k_ ≠ (v514 : Value).ownBlock ∧ some k_ ≠ (v522 : Value).ownBlock) (.slice Ao90 t502.length co90) t502) ∧ Aside0 (Kd.R (Kd.int .i64) 3 w' w.heap.size (fun k_ => some k_ ≠ ((.slice Ao40 t499.length co40) : Value).ownBlock ∧ some k_ ≠ (v522 : Value).ownBlock) v514 t512) ∧ Aside0 (Kd.R (Kd.int .i64) 3 w' w.heap.size (fun k_ => some k_ ≠ ((.slice Ao40 t499.length co40) : Value).ownBlock ∧ some k_ ≠ (v514 : Value).ownBlock) v522 t520) ∧ Aside0 (Kd.N (Kd.slice 3 (Kd.int .i64)) 24 w' w.heap.size (fun k_ => some k_ ≠ ((.slice Ao40 t499.length co40) : Value).ownBlock ∧ some k_ ≠ (v514 : Value).ownBlock ∧ some k_ ≠ (v522 : Value).ownBlock) (.slice Ao90 t502.length co90) t502) ∧ Aside0 (Below w.heap.size w w'))
                   case atStart => exact ⟨(false), (0), (by first | rfl | (simp; done) | (simp [*]; done)), (by first | rfl | (simp; done) | (simp [*]; done)), H', ⟨Nat.le_refl _⟩, ⟨by (with_reducible repeat (first | apply Kd.R_alloc | apply Kd.R_drewN | apply Kd.R_drew)); exact Oq18.out⟩, ⟨by (with_reducible repeat (first | apply Kd.N_alloc | apply Kd.N_drewN | apply Kd.N_drew)); exact Oq19.out⟩, ⟨by (with_reducible repeat (first | apply Kd.R_alloc | apply Kd.R_drewN | apply Kd.R_drew)); exact Oq20.out⟩, ⟨by (with_reducible repeat (first | apply Kd.R_alloc | apply Kd.R_drewN | apply Kd.R_drew)); exact Oq22.out⟩, ⟨by (with_reducible repeat (first | apply Kd.N_alloc | apply Kd.N_drewN | apply Kd.N_drew)); exact Oq19.out⟩, ⟨by repeat with_reducible first | exact HB.out | apply pw_below_drewN | apply below_drew1⟩⟩
                   case round =>
                    clear H'
                    try clear c1; try clear c2; try clear p2; try clear c3; try clear c4; try clear c5; try clear c6; try clear c7; try clear c8; try clear c10; try clear c14; try clear c14b0; try clear c14b1; try clear c14b2; try clear c15; try clear c17; try clear c19; try clear c22; try clear c23; try clear c25; try clear c25b0; try clear c25b1; try clear c25b2; try clear c32; try clear c33; try clear c34; try clear c35; try clear c36; try clear c37; try clear c38; try clear c39; try clear c40; try clear c41; try clear c42; try clear c44; try clear c45; try clear c46; try clear c48; try clear c48b0; try clear c48b1; try clear c48b2; try clear c50; try clear c51; try clear c51b0; try clear c51b1; try clear c51b2; try clear c52; try clear c52b0; try clear c52b1; try clear c52b2; try clear c54; try clear c55; try clear c55b0; try clear c55b1; try clear c55b2; try clear c57; try clear c58; try clear c58b0; try clear c58b1; try clear c58b2; try clear c65; try clear c74; try clear c74b0; try clear c74b1; try clear c74b2; try clear c78; try clear c80; try clear c82; try clear c84; try clear c88; try clear c89; try clear c89b0; try clear c89b1; try clear p2
                    obtain ⟨x37_7, x243_7, rfl, rfl, HA, HK7, Oq18, Oq19, Oq20, Oq22, Oq21, HB⟩ := hrel
                    cases gk with
                    | zero => exact absurd HA.out (by simp [laws_FnAlikeLengths.l0])
                    | succ k7 =>
                     have H := HA.out
                     clear HA
                     simp only [laws_FnAlikeLengths.l0] at H
                     by_cases c91 : x243_7 < (t502.length : Int)
                     ·
                      rw [if_pos c91] at H
                      have c91b0 : decide (x243_7 < (t502.length : Int)) = true := decide_eq_true c91
                      clear c91
                      by_cases c92 : 0 ≤ x243_7
                      ·
                       rw [if_pos c92] at H
                       have c92b0 : decide (0 ≤ x243_7) = true := decide_eq_true c92
                       clear c92
                       by_cases c93 : x243_7 < (t502.length : Int)
                       ·
                        rw [if_pos c93] at H
                        have c93b0 : decide (x243_7 < (t502.length : Int)) = true := decide_eq_true c93
                        clear c93
                        replace H := Option.bind_eq_some_iff.mp H
                        obtain ⟨⟨t549, t550⟩, A940, H⟩ := H
                        replace H : ((impl_StrictOf.f k7 (rd_L2 t502 x243_7)).bind fun bt551 => (if t550 = true then (if t549 = true then (if bt551.2 = true then ((laws_rSame.f k7 bt551.1 t512).bind fun t555 => (if t555 = true then (if x243_7 > 0 then (if 0 ≤ (wrap64 (x243_7 - 1)) then (if (wrap64 (x243_7 - 1)) < (t502.length : Int) then ((laws_rLess.f k7 (rd_L2 t502 (wrap64 (x243_7 - 1))) (rd_L2 t502 x243_7)).bind fun t557 => (if t557 = true then (if x37_7 = true then (laws_FnAlikeLengths.l0 k7 t499 t502 t512 t520 true t502 (t502.length : Int) (wrap64 (x243_7 + 1))) else ((laws_rSame.f k7 (rd_L2 t502 x243_7) t499).bind fun t558 => (laws_FnAlikeLengths.l0 k7 t499 t502 t512 t520 t558 t502 (t502.length : Int) (wrap64 (x243_7 + 1))))) else (some false))) else (none)) else (none)) else (if x37_7 = true then (laws_FnAlikeLengths.l0 k7 t499 t502 t512 t520 true t502 (t502.length : Int) (wrap64 (x243_7 + 1))) else ((laws_rSame.f k7 (rd_L2 t502 x243_7) t499).bind fun t559 => (laws_FnAlikeLengths.l0 k7 t499 t502 t512 t520 t559 t502 (t502.length : Int) (wrap64 (x243_7 + 1)))))) else (some false))) else (some false)) else (some false)) else (some false))) = some true := H
                        have A94 := Aside0.mk A940
                        clear A940
                        replace H := Option.bind_eq_some_iff.mp H
                        obtain ⟨⟨t551, t552⟩, A950, H⟩ := H
                        replace H : (if t550 = true then (if t549 = true then (if t552 = true then ((laws_rSame.f k7 t551 t512).bind fun t555 => (if t555 = true then (if x243_7 > 0 then (if 0 ≤ (wrap64 (x243_7 - 1)) then (if (wrap64 (x243_7 - 1)) < (t502.length : Int) then ((laws_rLess.f k7 (rd_L2 t502 (wrap64 (x243_7 - 1))) (rd_L2 t502 x243_7)).bind fun t557 => (if t557 = true then (if x37_7 = true then (laws_FnAlikeLengths.l0 k7 t499 t502 t512 t520 true t502 (t502.length : Int) (wrap64 (x243_7 + 1))) else ((laws_rSame.f k7 (rd_L2 t502 x243_7) t499).bind fun t558 => (laws_FnAlikeLengths.l0 k7 t499 t502 t512 t520 t558 t502 (t502.length : Int) (wrap64 (x243_7 + 1))))) else (some false))) else (none)) else (none)) else (if x37_7 = true then (laws_FnAlikeLengths.l0 k7 t499 t502 t512 t520 true t502 (t502.length : Int) (wrap64 (x243_7 + 1))) else ((laws_rSame.f k7 (rd_L2 t502 x243_7) t499).bind fun t559 => (laws_FnAlikeLengths.l0 k7 t499 t502 t512 t520 t559 t502 (t502.length : Int) (wrap64 (x243_7 + 1)))))) else (some false))) else (some false)) else (some false)) else (some false)) = some true := H
                        have A95 := Aside0.mk A950
                        clear A950
                        by_cases c96 : t550 = true
                        ·
                         subst c96
                         have H1 : (if t549 = true then (if t552 = true then ((laws_rSame.f k7 t551 t512).bind fun t555 => (if t555 = true then (if x243_7 > 0 then (if 0 ≤ (wrap64 (x243_7 - 1)) then (if (wrap64 (x243_7 - 1)) < (t502.length : Int) then ((laws_rLess.f k7 (rd_L2 t502 (wrap64 (x243_7 - 1))) (rd_L2 t502 x243_7)).bind fun t557 => (if t557 = true then (if x37_7 = true then (laws_FnAlikeLengths.l0 k7 t499 t502 t512 t520 true t502 (t502.length : Int) (wrap64 (x243_7 + 1))) else ((laws_rSame.f k7 (rd_L2 t502 x243_7) t499).bind fun t558 => (laws_FnAlikeLengths.l0 k7 t499 t502 t512 t520 t558 t502 (t502.length : Int) (wrap64 (x243_7 + 1))))) else (some false))) else (none)) else (none)) else (if x37_7 = true then (laws_FnAlikeLengths.l0 k7 t499 t502 t512 t520 true t502 (t502.length : Int) (wrap64 (x243_7 + 1))) else ((laws_rSame.f k7 (rd_L2 t502 x243_7) t499).bind fun t559 => (laws_FnAlikeLengths.l0 k7 t499 t502 t512 t520 t559 t502 (t502.length : Int) (wrap64 (x243_7 + 1)))))) else (some false))) else (some false)) else (some false)) = some true := by first | (rw [if_pos rfl] at H; exact H) | rfl
                         clear H
                         have H := H1
                         clear H1
                         by_cases c97 : t549 = true
                         ·
                          subst c97
                          have H1 : (if t552 = true then ((laws_rSame.f k7 t551 t512).bind fun t555 => (if t555 = true then (if x243_7 > 0 then (if 0 ≤ (wrap64 (x243_7 - 1)) then (if (wrap64 (x243_7 - 1)) < (t502.length : Int) then ((laws_rLess.f k7 (rd_L2 t502 (wrap64 (x243_7 - 1))) (rd_L2 t502 x243_7)).bind fun t557 => (if t557 = true then (if x37_7 = true then (laws_FnAlikeLengths.l0 k7 t499 t502 t512 t520 true t502 (t502.length : Int) (wrap64 (x243_7 + 1))) else ((laws_rSame.f k7 (rd_L2 t502 x243_7) t499).bind fun t558 => (laws_FnAlikeLengths.l0 k7 t499 t502 t512 t520 t558 t502 (t502.length : Int) (wrap64 (x243_7 + 1))))) else (some false))) else (none)) else (none)) else (if x37_7 = true then (laws_FnAlikeLengths.l0 k7 t499 t502 t512 t520 true t502 (t502.length : Int) (wrap64 (x243_7 + 1))) else ((laws_rSame.f k7 (rd_L2 t502 x243_7) t499).bind fun t559 => (laws_FnAlikeLengths.l0 k7 t499 t502 t512 t520 t559 t502 (t502.length : Int) (wrap64 (x243_7 + 1)))))) else (some false))) else (some false)) = some true := by first | (rw [if_pos rfl] at H; exact H) | rfl
                          clear H
                          have H := H1
                          clear H1
                          by_cases c98 : t552 = true
                          ·
                           subst c98
                           have H1 : ((laws_rSame.f k7 t551 t512).bind fun t555 => (if t555 = true then (if x243_7 > 0 then (if 0 ≤ (wrap64 (x243_7 - 1)) then (if (wrap64 (x243_7 - 1)) < (t502.length : Int) then ((laws_rLess.f k7 (rd_L2 t502 (wrap64 (x243_7 - 1))) (rd_L2 t502 x243_7)).bind fun t557 => (if t557 = true then (if x37_7 = true then (laws_FnAlikeLengths.l0 k7 t499 t502 t512 t520 true t502 (t502.length : Int) (wrap64 (x243_7 + 1))) else ((laws_rSame.f k7 (rd_L2 t502 x243_7) t499).bind fun t558 => (laws_FnAlikeLengths.l0 k7 t499 t502 t512 t520 t558 t502 (t502.length : Int) (wrap64 (x243_7 + 1))))) else (some false))) else (none)) else (none)) else (if x37_7 = true then (laws_FnAlikeLengths.l0 k7 t499 t502 t512 t520 true t502 (t502.length : Int) (wrap64 (x243_7 + 1))) else ((laws_rSame.f k7 (rd_L2 t502 x243_7) t499).bind fun t559 => (laws_FnAlikeLengths.l0 k7 t499 t502 t512 t520 t559 t502 (t502.length : Int) (wrap64 (x243_7 + 1)))))) else (some false))) = some true := by first | (rw [if_pos rfl] at H; exact H) | rfl
                           clear H
                           have H := H1
                           clear H1
                           replace H := Option.bind_eq_some_iff.mp H
                           obtain ⟨t555, A990, H⟩ := H
                           replace H : (if t555 = true then (if x243_7 > 0 then (if 0 ≤ (wrap64 (x243_7 - 1)) then (if (wrap64 (x243_7 - 1)) < (t502.length : Int) then ((laws_rLess.f k7 (rd_L2 t502 (wrap64 (x243_7 - 1))) (rd_L2 t502 x243_7)).bind fun t557 => (if t557 = true then (if x37_7 = true then (laws_FnAlikeLengths.l0 k7 t499 t502 t512 t520 true t502 (t502.length : Int) (wrap64 (x243_7 + 1))) else ((laws_rSame.f k7 (rd_L2 t502 x243_7) t499).bind fun t558 => (laws_FnAlikeLengths.l0 k7 t499 t502 t512 t520 t558 t502 (t502.length : Int) (wrap64 (x243_7 + 1))))) else (some false))) else (none)) else (none)) else (if x37_7 = true then (laws_FnAlikeLengths.l0 k7 t499 t502 t512 t520 true t502 (t502.length : Int) (wrap64 (x243_7 + 1))) else ((laws_rSame.f k7 (rd_L2 t502 x243_7) t499).bind fun t559 => (laws_FnAlikeLengths.l0 k7 t499 t502 t512 t520 t559 t502 (t502.length : Int) (wrap64 (x243_7 + 1)))))) else (some false)) = some true := H
                           have A99 := Aside0.mk A990
                           clear A990
                           by_cases c100 : t555 = true
                           ·
                            subst c100
                            have H1 : (if x243_7 > 0 then (if 0 ≤ (wrap64 (x243_7 - 1)) then (if (wrap64 (x243_7 - 1)) < (t502.length : Int) then ((laws_rLess.f k7 (rd_L2 t502 (wrap64 (x243_7 - 1))) (rd_L2 t502 x243_7)).bind fun t557 => (if t557 = true then (if x37_7 = true then (laws_FnAlikeLengths.l0 k7 t499 t502 t512 t520 true t502 (t502.length : Int) (wrap64 (x243_7 + 1))) else ((laws_rSame.f k7 (rd_L2 t502 x243_7) t499).bind fun t558 => (laws_FnAlikeLengths.l0 k7 t499 t502 t512 t520 t558 t502 (t502.length : Int) (wrap64 (x243_7 + 1))))) else (some false))) else (none)) else (none)) else (if x37_7 = true then (laws_FnAlikeLengths.l0 k7 t499 t502 t512 t520 true t502 (t502.length : Int) (wrap64 (x243_7 + 1))) else ((laws_rSame.f k7 (rd_L2 t502 x243_7) t499).bind fun t559 => (laws_FnAlikeLengths.l0 k7 t499 t502 t512 t520 t559 t502 (t502.length : Int) (wrap64 (x243_7 + 1)))))) = some true := by first | (rw [if_pos rfl] at H; exact H) | rfl
                            clear H
                            have H := H1
                            clear H1
                            by_cases c101 : x243_7 > 0
                            ·
                             rw [if_pos c101] at H
                             have c101b0 : decide (0 < x243_7) = true := decide_eq_true c101
                             clear c101
                             obtain ⟨ji102, hji102⟩ : ∃ j_ : Int, (wrap64 (x243_7 - 1)) = j_ := ⟨_, rfl⟩
                             replace H : (if 0 ≤ (ji102) then (if (ji102) < (t502.length : Int) then ((laws_rLess.f k7 (rd_L2 t502 (ji102)) (rd_L2 t502 x243_7)).bind fun t557 => (if t557 = true then (if x37_7 = true then (laws_FnAlikeLengths.l0 k7 t499 t502 t512 t520 true t502 (t502.length : Int) (wrap64 (x243_7 + 1))) else ((laws_rSame.f k7 (rd_L2 t502 x243_7) t499).bind fun t558 => (laws_FnAlikeLengths.l0 k7 t499 t502 t512 t520 t558 t502 (t502.length : Int) (wrap64 (x243_7 + 1))))) else (some false))) else (none)) else (none)) = some true := by first | (rw [hji102] at H; exact H) | (simp only [hji102] at H ⊢; exact H)
                             (try rw [hji102] at A94)
                             (try rw [hji102] at A95)
                             (try rw [hji102] at A99)
                             have hji102w : (IntKind.i64.wrap (x243_7 - 1)) = ji102 := (i64_w _).trans hji102
                             by_cases c103 : 0 ≤ (ji102)
                             ·
                              rw [if_pos c103] at H
                              have c103b0 : decide (0 ≤ (ji102)) = true := decide_eq_true c103
                              clear c103
                              by_cases c104 : (ji102) < (t502.length : Int)
                              ·
                               rw [if_pos c104] at H
                               have c104b0 : decide ((ji102) < (t502.length : Int)) = true := decide_eq_true c104
                               clear c104
                               replace H := Option.bind_eq_some_iff.mp H
                               obtain ⟨t557, A1050, H⟩ := H
                               replace H : (if t557 = true then (if x37_7 = true then (laws_FnAlikeLengths.l0 k7 t499 t502 t512 t520 true t502 (t502.length : Int) (wrap64 (x243_7 + 1))) else ((laws_rSame.f k7 (rd_L2 t502 x243_7) t499).bind fun t558 => (laws_FnAlikeLengths.l0 k7 t499 t502 t512 t520 t558 t502 (t502.length : Int) (wrap64 (x243_7 + 1))))) else (some false)) = some true := H
                               have A105 := Aside0.mk A1050
                               clear A1050
                               by_cases c106 : t557 = true
                               ·
                                subst c106
                                have H1 : (if x37_7 = true then (laws_FnAlikeLengths.l0 k7 t499 t502 t512 t520 true t502 (t502.length : Int) (wrap64 (x243_7 + 1))) else ((laws_rSame.f k7 (rd_L2 t502 x243_7) t499).bind fun t558 => (laws_FnAlikeLengths.l0 k7 t499 t502 t512 t520 t558 t502 (t502.length : Int) (wrap64 (x243_7 + 1))))) = some true := by first | (rw [if_pos rfl] at H; exact H) | rfl
                                clear H
                                have H := H1
                                clear H1
                                by_cases c107 : x37_7 = true
                                ·
                                 subst c107
                                 have H1 : (laws_FnAlikeLengths.l0 k7 t499 t502 t512 t520 true t502 (t502.length : Int) (wrap64 (x243_7 + 1))) = some true := by first | (rw [if_pos rfl] at H; exact H) | rfl
                                 clear H
                                 have H := H1
                                 clear H1
                                 have H' := Aside0.mk H
                                 clear H
                                 have p548 : 0 ≤ (x243_7 : Int) := of_decide_eq_true (by first | (with_reducible assumption) | assumption)
                                 have q548 : x243_7 < (t502.length : Int) := of_decide_eq_true (by first | (with_reducible assumption) | assumption)
                                 obtain ⟨ad548, A548_0, c548_0, e548, hx548_0, hl548_0, hi548_0⟩ := at_L2 (Kd.N_reads' Oq21.out).2.2 x243_7 p548 q548
                                 cases e548
                                 obtain ⟨ce548, hce548, hMe548, hcc548⟩ := Kd.N_get Oq21.out [] x243_7 p548 (by first | exact q548 | exact of_decide_eq_true (by first | (with_reducible assumption) | assumption) | (have e_ := (Kd.N_reads' Oq21.out).1; omega))
                                 obtain ⟨ua548_0, uc548_0, rfl, ul548_0, ge548_0⟩ := Kd.FK_slice_open hMe548
                                 have hv548_0 := hcc548 0 _ rfl
                                 rw [Nat.add_zero, show ((Kd.slice 3 (Kd.int .i64))).sz = 1 from rfl, Nat.mul_one] at hv548_0
                                 replace hv548_0 := Option.some.inj (hv548_0.symm.trans hx548_0)
                                 injection hv548_0 with hva_ hvn_ hvc_
                                 rw [hva_] at ge548_0
                                 rw [hvc_] at ul548_0
                                 have HL548_0 := am (show Kd.V (Kd.int .i64) 3 _ w.heap.size _ _ (rd_L2 t502 x243_7) from Kd.V_mk ul548_0 ge548_0)
                                 clear hva_ hvn_ hvc_ ge548_0 ul548_0 hcc548 hce548
                                 have HR548_0 := Aside0.mk hi548_0
                                 have HC548_0 := Aside0.mk hl548_0
                                 clear hi548_0 hl548_0
                                 replace p548 := eq_true p548
                                 replace q548 := eq_true q548
                                 go_wp2_with (first | ((with_reducible refine gate_callee (f := 33) rfl ?_); refine goesL_ (some 251) rfl rfl Try.func33 (by kernel_rfl) rfl #[.slice A548_0 (rd_L2 t502 x243_7).length c548_0, .slice Ao40 t499.length co40] rfl (by (try simp only [List.map_toArray, List.map_cons, List.map_nil]); try rfl) ?_; (with_reducible refine (impl_AreAlikeLengths.calls k7 _ _ (rd_L2 t502 x243_7) _ _ t499 true true _ ?side1 ?side2 ?side3 ?side4 A94.out).mono ?_); (case side1 => repeat (first | exact (by repeat (first | (with_reducible exact HR548_0.out) | (with_reducible first | refine Kd.C_alloc ?_ _ | refine Kd.C_drewN ?_ _ | refine Kd.C_drew ?_) | exact HR548_0.out)) | (with_reducible first | refine Kd.C_alloc ?_ _ | refine Kd.C_drewN ?_ _ | refine Kd.C_drew ?_))); (case side2 => exact HC548_0.out); (case side3 => repeat (first | exact (Kd.R_reads' Oq18.out).2.2 | (with_reducible first | refine Kd.C_alloc ?_ _ | refine Kd.C_drewN ?_ _ | refine Kd.C_drew ?_))); (case side4 => exact (Kd.R_reads' Oq18.out).2.1); rintro e w108 ⟨rfl, hb⟩; refine ⟨_, rfl, ?_⟩; have n1_ := am (Kd.N_below (by (with_reducible repeat (first | apply Kd.N_alloc | apply Kd.N_drewN | apply Kd.N_drew)); exact Oq19.out) hb); have n4_ := am (Kd.N_below (by (with_reducible repeat (first | apply Kd.N_alloc | apply Kd.N_drewN | apply Kd.N_drew)); exact Oq21.out) hb); have n5_ := am (Kd.V_below (by (with_reducible repeat (first | apply Kd.V_alloc | apply Kd.V_drewN | apply Kd.V_drew)); exact HL548_0.out) hb); have n6_ := am (Kd.C_below (by repeat (first | (with_reducible exact HR548_0.out) | (with_reducible first | refine Kd.C_alloc ?_ _ | refine Kd.C_drewN ?_ _ | refine Kd.C_drew ?_) | exact HR548_0.out)) hb); have n7_ := am (below_step (by repeat with_reducible first | exact HB.out | apply pw_below_drewN | apply below_drew1) hb); clear Oq19; clear Oq21; clear HL548_0; clear HR548_0; clear HB; replace Oq18 := sqR Oq18 hb; have Oq19 := n1_; replace Oq20 := sqR Oq20 hb; replace Oq22 := sqR Oq22 hb; have Oq21 := n4_; have HL548_0 := n5_; have HR548_0 := n6_; have HB := n7_; clear n1_ n4_ n5_ n6_ n7_; (try clear hb); (try clear hb2); (try clear hk); (try clear hi)) | ((with_reducible refine gate_callee (f := 39) rfl ?_); refine goesL_ (some 256) rfl rfl Try.func39 (by kernel_rfl) rfl #[.slice A548_0 (rd_L2 t502 x243_7).length c548_0] rfl (by (try simp only [List.map_toArray, List.map_cons, List.map_nil]); try rfl) ?_; (with_reducible refine (impl_StrictOf.calls k7 _ _ (rd_L2 t502 x243_7) t551 true _ ?side1 ?side2 A95.out).mono ?_); (case side1 => repeat (first | exact (by repeat (first | (with_reducible exact HR548_0.out) | (with_reducible first | refine Kd.C_alloc ?_ _ | refine Kd.C_drewN ?_ _ | refine Kd.C_drew ?_) | exact HR548_0.out)) | (with_reducible first | refine Kd.C_alloc ?_ _ | refine Kd.C_drewN ?_ _ | refine Kd.C_drew ?_))); (case side2 => exact HC548_0.out); rintro e w109 ⟨v553, rfl, ho0, hb⟩; refine ⟨_, rfl, ?_⟩; have n1_ := am (Kd.N_elder' (by (with_reducible repeat (first | apply Kd.N_alloc | apply Kd.N_drewN | apply Kd.N_drew)); exact Oq19.out) (Kd.R_base ho0) hb); have n4_ := am (Kd.N_elder' (by (with_reducible repeat (first | apply Kd.N_alloc | apply Kd.N_drewN | apply Kd.N_drew)); exact Oq21.out) (Kd.R_base ho0) hb); have n5_ := am (Kd.V_elder' (by (with_reducible repeat (first | apply Kd.V_alloc | apply Kd.V_drewN | apply Kd.V_drew)); exact HL548_0.out) (Kd.R_base ho0) hb); have n6_ := am (Kd.R_lower (Kd.R_new' (Kd.R_new' (Kd.R_new' ho0 (sqL Oq18)) (sqL Oq20)) (sqL Oq22)) (below_size (by repeat with_reducible first | exact HB.out | apply pw_below_drewN | apply below_drew1))); have n7_ := am (Kd.C_below (by repeat (first | (with_reducible exact HR548_0.out) | (with_reducible first | refine Kd.C_alloc ?_ _ | refine Kd.C_drewN ?_ _ | refine Kd.C_drew ?_) | exact HR548_0.out)) hb); have n8_ := am (below_step (by repeat with_reducible first | exact HB.out | apply pw_below_drewN | apply below_drew1) hb); clear Oq19; clear Oq21; clear HL548_0; clear HR548_0; clear HB; replace Oq18 := sqE Oq18 ho0 hb; have Oq19 := n1_; replace Oq20 := sqE Oq20 ho0 hb; replace Oq22 := sqE Oq22 ho0 hb; have Oq21 := n4_; have HL548_0 := n5_; have Oq15 := n6_; have HR548_0 := n7_; have HB := n8_; clear n1_ n4_ n5_ n6_ n7_ n8_; (try clear hb); (try clear hb2); (try clear hk); (try clear hi); (try clear ho0); obtain ⟨Ao110, co110, eo110⟩ := Kd.R_slice Oq15.out; subst eo110; obtain ⟨Ao111, co111, eo111⟩ := Kd.R_slice Oq20.out; subst eo111) | (go_at_call 23; (with_reducible refine (laws_rSame.calls k7 _ _ t551 _ _ t512 true _ ?side1 ?side2 ?side3 ?side4 A99.out).mono ?_); (case side1 => repeat (first | exact (Kd.R_reads' Oq15.out).2.2 | (with_reducible first | refine Kd.C_alloc ?_ _ | refine Kd.C_drewN ?_ _ | refine Kd.C_drew ?_))); (case side2 => exact (Kd.R_reads' Oq15.out).2.1); (case side3 => repeat (first | exact (Kd.R_reads' Oq20.out).2.2 | (with_reducible first | refine Kd.C_alloc ?_ _ | refine Kd.C_drewN ?_ _ | refine Kd.C_drew ?_))); (case side4 => exact (Kd.R_reads' Oq20.out).2.1); rintro e w' ⟨rfl, ⟨nd, rfl⟩⟩; have p556 : 0 ≤ ((ji102) : Int) := of_decide_eq_true (by first | (with_reducible assumption) | assumption); have q556 : (ji102) < (t502.length : Int) := of_decide_eq_true (by first | (with_reducible assumption) | assumption); obtain ⟨ad556, A556_0, c556_0, e556, hx556_0, hl556_0, hi556_0⟩ := at_L2 (Kd.N_reads' Oq19.out).2.2 (ji102) p556 q556; obtain rfl : ad548 = ad556 := (by injection e556); obtain ⟨ce556, hce556, hMe556, hcc556⟩ := Kd.N_get Oq19.out [] (ji102) p556 (by first | exact q556 | exact of_decide_eq_true (by first | (with_reducible assumption) | assumption) | (have e_ := (Kd.N_reads' Oq19.out).1; omega)); obtain ⟨ua556_0, uc556_0, rfl, ul556_0, ge556_0⟩ := Kd.FK_slice_open hMe556; have hv556_0 := hcc556 0 _ rfl; rw [Nat.add_zero, show ((Kd.slice 3 (Kd.int .i64))).sz = 1 from rfl, Nat.mul_one] at hv556_0; replace hv556_0 := Option.some.inj (hv556_0.symm.trans hx556_0); injection hv556_0 with hva_ hvn_ hvc_; rw [hva_] at ge556_0; rw [hvc_] at ul556_0; have HL556_0 := am (show Kd.V (Kd.int .i64) 3 _ w.heap.size _ _ (rd_L2 t502 (ji102)) from Kd.V_mk ul556_0 ge556_0); clear hva_ hvn_ hvc_ ge556_0 ul556_0; clear hcc556 hce556; have HR556_0 := Aside0.mk hi556_0; have HC556_0 := Aside0.mk hl556_0; clear hi556_0 hl556_0; replace p556 := eq_true p556; replace q556 := eq_true q556) | (go_at_call 47; (with_reducible refine (laws_rLess.calls k7 _ _ (rd_L2 t502 (ji102)) _ _ (rd_L2 t502 x243_7) true _ ?side1 ?side2 ?side3 ?side4 A105.out).mono ?_); (case side1 => repeat (first | exact (by repeat (first | (with_reducible exact HR556_0.out) | (with_reducible first | refine Kd.C_alloc ?_ _ | refine Kd.C_drewN ?_ _ | refine Kd.C_drew ?_) | exact HR556_0.out)) | (with_reducible first | refine Kd.C_alloc ?_ _ | refine Kd.C_drewN ?_ _ | refine Kd.C_drew ?_))); (case side2 => exact HC556_0.out); (case side3 => repeat (first | exact (by repeat (first | (with_reducible exact HR548_0.out) | (with_reducible first | refine Kd.C_alloc ?_ _ | refine Kd.C_drewN ?_ _ | refine Kd.C_drew ?_) | exact HR548_0.out)) | (with_reducible first | refine Kd.C_alloc ?_ _ | refine Kd.C_drewN ?_ _ | refine Kd.C_drew ?_))); (case side4 => exact HC548_0.out); rintro e w' ⟨rfl, ⟨nd, rfl⟩⟩))
                                 go_roundg k7
                                 case measure => have := HJ7.out; have := HJ15.out; have := HJ17.out; have := HJ37.out; have := HJ68.out; have := HJ78.out; have := HK7.out; omega
                                 case rel => exact ⟨(true), (wrap64 (x243_7 + 1)), (by first | rfl | (simp; done) | (simp [*]; done)), (by first | rfl | (simp; done) | (simp [*]; done)), H', ⟨by have := HJ7.out; have := HJ15.out; have := HJ17.out; have := HJ37.out; have := HJ68.out; have := HJ78.out; have := HK7.out; omega⟩, ⟨by exact sqm Oq18 (fun _ hk => by first | exact ⟨hk.1.1, hk.1.2⟩ | (and_intros <;> first | trivial | simp only [hk, ne_eq, not_false_eq_true]))⟩, ⟨by (with_reducible repeat (first | apply Kd.N_alloc | apply Kd.N_drewN | apply Kd.N_drew)); exact Kd.N_mono Oq19.out (fun _ hk => ⟨hk.1.1, ⟨hk.1.2.1, hk.1.2.2⟩⟩)⟩, ⟨by exact sqm Oq20 (fun _ hk => by first | exact ⟨hk.1.1, hk.1.2⟩ | (and_intros <;> first | trivial | simp only [hk, ne_eq, not_false_eq_true]))⟩, ⟨by exact sqm Oq22 (fun _ hk => by first | exact ⟨hk.1.1, hk.1.2⟩ | (and_intros <;> first | trivial | simp only [hk, ne_eq, not_false_eq_true]))⟩, ⟨by (with_reducible repeat (first | apply Kd.N_alloc | apply Kd.N_drewN | apply Kd.N_drew)); exact Kd.N_mono Oq21.out (fun _ hk => ⟨hk.1.1, ⟨hk.1.2.1, hk.1.2.2⟩⟩)⟩, ⟨by repeat with_reducible first | exact HB.out | apply pw_below_drewN | apply below_drew1⟩⟩
                                ·
                                 replace c107 := Bool.eq_false_iff.mpr c107
                                 subst c107
                                 have H1 : ((laws_rSame.f k7 (rd_L2 t502 x243_7) t499).bind fun t558 => (laws_FnAlikeLengths.l0 k7 t499 t502 t512 t520 t558 t502 (t502.length : Int) (wrap64 (x243_7 + 1)))) = some true := by first | (rw [if_neg (show ¬ (false = true) by decide)] at H; exact H) | rfl
                                 clear H
                                 have H := H1
                                 clear H1
                                 replace H := Option.bind_eq_some_iff.mp H
                                 obtain ⟨t558, A1120, H⟩ := H
                                 replace H : (laws_FnAlikeLengths.l0 k7 t499 t502 t512 t520 t558 t502 (t502.length : Int) (wrap64 (x243_7 + 1))) = some true := H
                                 have A112 := Aside0.mk A1120
                                 clear A1120
                                 have H' := Aside0.mk H
                                 clear H
                                 have p548 : 0 ≤ (x243_7 : Int) := of_decide_eq_true (by first | (with_reducible assumption) | assumption)
                                 have q548 : x243_7 < (t502.length : Int) := of_decide_eq_true (by first | (with_reducible assumption) | assumption)
                                 obtain ⟨ad548, A548_0, c548_0, e548, hx548_0, hl548_0, hi548_0⟩ := at_L2 (Kd.N_reads' Oq21.out).2.2 x243_7 p548 q548
                                 cases e548
                                 obtain ⟨ce548, hce548, hMe548, hcc548⟩ := Kd.N_get Oq21.out [] x243_7 p548 (by first | exact q548 | exact of_decide_eq_true (by first | (with_reducible assumption) | assumption) | (have e_ := (Kd.N_reads' Oq21.out).1; omega))
                                 obtain ⟨ua548_0, uc548_0, rfl, ul548_0, ge548_0⟩ := Kd.FK_slice_open hMe548
                                 have hv548_0 := hcc548 0 _ rfl
                                 rw [Nat.add_zero, show ((Kd.slice 3 (Kd.int .i64))).sz = 1 from rfl, Nat.mul_one] at hv548_0
                                 replace hv548_0 := Option.some.inj (hv548_0.symm.trans hx548_0)
                                 injection hv548_0 with hva_ hvn_ hvc_
                                 rw [hva_] at ge548_0
                                 rw [hvc_] at ul548_0
                                 have HL548_0 := am (show Kd.V (Kd.int .i64) 3 _ w.heap.size _ _ (rd_L2 t502 x243_7) from Kd.V_mk ul548_0 ge548_0)
                                 clear hva_ hvn_ hvc_ ge548_0 ul548_0 hcc548 hce548
                                 have HR548_0 := Aside0.mk hi548_0
                                 have HC548_0 := Aside0.mk hl548_0
                                 clear hi548_0 hl548_0
                                 replace p548 := eq_true p548
                                 replace q548 := eq_true q548
                                 go_wp2_with (first | ((with_reducible refine gate_callee (f := 33) rfl ?_); refine goesL_ (some 251) rfl rfl Try.func33 (by kernel_rfl) rfl #[.slice A548_0 (rd_L2 t502 x243_7).length c548_0, .slice Ao40 t499.length co40] rfl (by (try simp only [List.map_toArray, List.map_cons, List.map_nil]); try rfl) ?_; (with_reducible refine (impl_AreAlikeLengths.calls k7 _ _ (rd_L2 t502 x243_7) _ _ t499 true true _ ?side1 ?side2 ?side3 ?side4 A94.out).mono ?_); (case side1 => repeat (first | exact (by repeat (first | (with_reducible exact HR548_0.out) | (with_reducible first | refine Kd.C_alloc ?_ _ | refine Kd.C_drewN ?_ _ | refine Kd.C_drew ?_) | exact HR548_0.out)) | (with_reducible first | refine Kd.C_alloc ?_ _ | refine Kd.C_drewN ?_ _ | refine Kd.C_drew ?_))); (case side2 => exact HC548_0.out); (case side3 => repeat (first | exact (Kd.R_reads' Oq18.out).2.2 | (with_reducible first | refine Kd.C_alloc ?_ _ | refine Kd.C_drewN ?_ _ | refine Kd.C_drew ?_))); (case side4 => exact (Kd.R_reads' Oq18.out).2.1); rintro e w113 ⟨rfl, hb⟩; refine ⟨_, rfl, ?_⟩; have n1_ := am (Kd.N_below (by (with_reducible repeat (first | apply Kd.N_alloc | apply Kd.N_drewN | apply Kd.N_drew)); exact Oq19.out) hb); have n4_ := am (Kd.N_below (by (with_reducible repeat (first | apply Kd.N_alloc | apply Kd.N_drewN | apply Kd.N_drew)); exact Oq21.out) hb); have n5_ := am (Kd.V_below (by (with_reducible repeat (first | apply Kd.V_alloc | apply Kd.V_drewN | apply Kd.V_drew)); exact HL548_0.out) hb); have n6_ := am (Kd.C_below (by repeat (first | (with_reducible exact HR548_0.out) | (with_reducible first | refine Kd.C_alloc ?_ _ | refine Kd.C_drewN ?_ _ | refine Kd.C_drew ?_) | exact HR548_0.out)) hb); have n7_ := am (below_step (by repeat with_reducible first | exact HB.out | apply pw_below_drewN | apply below_drew1) hb); clear Oq19; clear Oq21; clear HL548_0; clear HR548_0; clear HB; replace Oq18 := sqR Oq18 hb; have Oq19 := n1_; replace Oq20 := sqR Oq20 hb; replace Oq22 := sqR Oq22 hb; have Oq21 := n4_; have HL548_0 := n5_; have HR548_0 := n6_; have HB := n7_; clear n1_ n4_ n5_ n6_ n7_; (try clear hb); (try clear hb2); (try clear hk); (try clear hi)) | ((with_reducible refine gate_callee (f := 39) rfl ?_); refine goesL_ (some 256) rfl rfl Try.func39 (by kernel_rfl) rfl #[.slice A548_0 (rd_L2 t502 x243_7).length c548_0] rfl (by (try simp only [List.map_toArray, List.map_cons, List.map_nil]); try rfl) ?_; (with_reducible refine (impl_StrictOf.calls k7 _ _ (rd_L2 t502 x243_7) t551 true _ ?side1 ?side2 A95.out).mono ?_); (case side1 => repeat (first | exact (by repeat (first | (with_reducible exact HR548_0.out) | (with_reducible first | refine Kd.C_alloc ?_ _ | refine Kd.C_drewN ?_ _ | refine Kd.C_drew ?_) | exact HR548_0.out)) | (with_reducible first | refine Kd.C_alloc ?_ _ | refine Kd.C_drewN ?_ _ | refine Kd.C_drew ?_))); (case side2 => exact HC548_0.out); rintro e w114 ⟨v553, rfl, ho0, hb⟩; refine ⟨_, rfl, ?_⟩; have n1_ := am (Kd.N_elder' (by (with_reducible repeat (first | apply Kd.N_alloc | apply Kd.N_drewN | apply Kd.N_drew)); exact Oq19.out) (Kd.R_base ho0) hb); have n4_ := am (Kd.N_elder' (by (with_reducible repeat (first | apply Kd.N_alloc | apply Kd.N_drewN | apply Kd.N_drew)); exact Oq21.out) (Kd.R_base ho0) hb); have n5_ := am (Kd.V_elder' (by (with_reducible repeat (first | apply Kd.V_alloc | apply Kd.V_drewN | apply Kd.V_drew)); exact HL548_0.out) (Kd.R_base ho0) hb); have n6_ := am (Kd.R_lower (Kd.R_new' (Kd.R_new' (Kd.R_new' ho0 (sqL Oq18)) (sqL Oq20)) (sqL Oq22)) (below_size (by repeat with_reducible first | exact HB.out | apply pw_below_drewN | apply below_drew1))); have n7_ := am (Kd.C_below (by repeat (first | (with_reducible exact HR548_0.out) | (with_reducible first | refine Kd.C_alloc ?_ _ | refine Kd.C_drewN ?_ _ | refine Kd.C_drew ?_) | exact HR548_0.out)) hb); have n8_ := am (below_step (by repeat with_reducible first | exact HB.out | apply pw_below_drewN | apply below_drew1) hb); clear Oq19; clear Oq21; clear HL548_0; clear HR548_0; clear HB; replace Oq18 := sqE Oq18 ho0 hb; have Oq19 := n1_; replace Oq20 := sqE Oq20 ho0 hb; replace Oq22 := sqE Oq22 ho0 hb; have Oq21 := n4_; have HL548_0 := n5_; have Oq15 := n6_; have HR548_0 := n7_; have HB := n8_; clear n1_ n4_ n5_ n6_ n7_ n8_; (try clear hb); (try clear hb2); (try clear hk); (try clear hi); (try clear ho0); obtain ⟨Ao115, co115, eo115⟩ := Kd.R_slice Oq15.out; subst eo115; obtain ⟨Ao116, co116, eo116⟩ := Kd.R_slice Oq20.out; subst eo116) | (go_at_call 23; (with_reducible refine (laws_rSame.calls k7 _ _ t551 _ _ t512 true _ ?side1 ?side2 ?side3 ?side4 A99.out).mono ?_); (case side1 => repeat (first | exact (Kd.R_reads' Oq15.out).2.2 | (with_reducible first | refine Kd.C_alloc ?_ _ | refine Kd.C_drewN ?_ _ | refine Kd.C_drew ?_))); (case side2 => exact (Kd.R_reads' Oq15.out).2.1); (case side3 => repeat (first | exact (Kd.R_reads' Oq20.out).2.2 | (with_reducible first | refine Kd.C_alloc ?_ _ | refine Kd.C_drewN ?_ _ | refine Kd.C_drew ?_))); (case side4 => exact (Kd.R_reads' Oq20.out).2.1); rintro e w' ⟨rfl, ⟨nd, rfl⟩⟩; have p556 : 0 ≤ ((ji102) : Int) := of_decide_eq_true (by first | (with_reducible assumption) | assumption); have q556 : (ji102) < (t502.length : Int) := of_decide_eq_true (by first | (with_reducible assumption) | assumption); obtain ⟨ad556, A556_0, c556_0, e556, hx556_0, hl556_0, hi556_0⟩ := at_L2 (Kd.N_reads' Oq19.out).2.2 (ji102) p556 q556; obtain rfl : ad548 = ad556 := (by injection e556); obtain ⟨ce556, hce556, hMe556, hcc556⟩ := Kd.N_get Oq19.out [] (ji102) p556 (by first | exact q556 | exact of_decide_eq_true (by first | (with_reducible assumption) | assumption) | (have e_ := (Kd.N_reads' Oq19.out).1; omega)); obtain ⟨ua556_0, uc556_0, rfl, ul556_0, ge556_0⟩ := Kd.FK_slice_open hMe556; have hv556_0 := hcc556 0 _ rfl; rw [Nat.add_zero, show ((Kd.slice 3 (Kd.int .i64))).sz = 1 from rfl, Nat.mul_one] at hv556_0; replace hv556_0 := Option.some.inj (hv556_0.symm.trans hx556_0); injection hv556_0 with hva_ hvn_ hvc_; rw [hva_] at ge556_0; rw [hvc_] at ul556_0; have HL556_0 := am (show Kd.V (Kd.int .i64) 3 _ w.heap.size _ _ (rd_L2 t502 (ji102)) from Kd.V_mk ul556_0 ge556_0); clear hva_ hvn_ hvc_ ge556_0 ul556_0; clear hcc556 hce556; have HR556_0 := Aside0.mk hi556_0; have HC556_0 := Aside0.mk hl556_0; clear hi556_0 hl556_0; replace p556 := eq_true p556; replace q556 := eq_true q556) | (go_at_call 47; (with_reducible refine (laws_rLess.calls k7 _ _ (rd_L2 t502 (ji102)) _ _ (rd_L2 t502 x243_7) true _ ?side1 ?side2 ?side3 ?side4 A105.out).mono ?_); (case side1 => repeat (first | exact (by repeat (first | (with_reducible exact HR556_0.out) | (with_reducible first | refine Kd.C_alloc ?_ _ | refine Kd.C_drewN ?_ _ | refine Kd.C_drew ?_) | exact HR556_0.out)) | (with_reducible first | refine Kd.C_alloc ?_ _ | refine Kd.C_drewN ?_ _ | refine Kd.C_drew ?_))); (case side2 => exact HC556_0.out); (case side3 => repeat (first | exact (by repeat (first | (with_reducible exact HR548_0.out) | (with_reducible first | refine Kd.C_alloc ?_ _ | refine Kd.C_drewN ?_ _ | refine Kd.C_drew ?_) | exact HR548_0.out)) | (with_reducible first | refine Kd.C_alloc ?_ _ | refine Kd.C_drewN ?_ _ | refine Kd.C_drew ?_))); (case side4 => exact HC548_0.out); rintro e w' ⟨rfl, ⟨nd, rfl⟩⟩) | (go_at_call 23; (with_reducible refine (laws_rSame.calls k7 _ _ (rd_L2 t502 x243_7) _ _ t499 t558 _ ?side1 ?side2 ?side3 ?side4 A112.out).mono ?_); (case side1 => repeat (first | exact (by repeat (first | (with_reducible exact HR548_0.out) | (with_reducible first | refine Kd.C_alloc ?_ _ | refine Kd.C_drewN ?_ _ | refine Kd.C_drew ?_) | exact HR548_0.out)) | (with_reducible first | refine Kd.C_alloc ?_ _ | refine Kd.C_drewN ?_ _ | refine Kd.C_drew ?_))); (case side2 => exact HC548_0.out); (case side3 => repeat (first | exact (Kd.R_reads' Oq18.out).2.2 | (with_reducible first | refine Kd.C_alloc ?_ _ | refine Kd.C_drewN ?_ _ | refine Kd.C_drew ?_))); (case side4 => exact (Kd.R_reads' Oq18.out).2.1); rintro e w' ⟨rfl, ⟨nd, rfl⟩⟩))
                                 go_roundg k7
                                 case measure => have := HJ7.out; have := HJ15.out; have := HJ17.out; have := HJ37.out; have := HJ68.out; have := HJ78.out; have := HK7.out; omega
                                 case rel => exact ⟨(t558), (wrap64 (x243_7 + 1)), (by first | rfl | (simp; done) | (simp [*]; done)), (by first | rfl | (simp; done) | (simp [*]; done)), H', ⟨by have := HJ7.out; have := HJ15.out; have := HJ17.out; have := HJ37.out; have := HJ68.out; have := HJ78.out; have := HK7.out; omega⟩, ⟨by exact sqm Oq18 (fun _ hk => by first | exact ⟨hk.1.1, hk.1.2⟩ | (and_intros <;> first | trivial | simp only [hk, ne_eq, not_false_eq_true]))⟩, ⟨by (with_reducible repeat (first | apply Kd.N_alloc | apply Kd.N_drewN | apply Kd.N_drew)); exact Kd.N_mono Oq19.out (fun _ hk => ⟨hk.1.1, ⟨hk.1.2.1, hk.1.2.2⟩⟩)⟩, ⟨by exact sqm Oq20 (fun _ hk => by first | exact ⟨hk.1.1, hk.1.2⟩ | (and_intros <;> first | trivial | simp only [hk, ne_eq, not_false_eq_true]))⟩, ⟨by exact sqm Oq22 (fun _ hk => by first | exact ⟨hk.1.1, hk.1.2⟩ | (and_intros <;> first | trivial | simp only [hk, ne_eq, not_false_eq_true]))⟩, ⟨by (with_reducible repeat (first | apply Kd.N_alloc | apply Kd.N_drewN | apply Kd.N_drew)); exact Kd.N_mono Oq21.out (fun _ hk => ⟨hk.1.1, ⟨hk.1.2.1, hk.1.2.2⟩⟩)⟩, ⟨by repeat with_reducible first | exact HB.out | apply pw_below_drewN | apply below_drew1⟩⟩
                               ·
                                replace c106 := Bool.eq_false_iff.mpr c106
                                subst c106
                                have H1 : (some false) = some true := by first | (rw [if_neg (show ¬ (false = true) by decide)] at H; exact H) | rfl
                                clear H
                                have H := H1
                                clear H1
                                exact absurd (Option.some.inj H) (by decide)
                              ·
                               rw [if_neg c104] at H
                               exact absurd H (by simp)
                             ·
                              rw [if_neg c103] at H
                              exact absurd H (by simp)
                            ·
                             rw [if_neg c101] at H
                             have c101b0 : decide (0 < x243_7) = false := decide_eq_false c101
                             clear c101
                             by_cases c117 : x37_7 = true
                             ·
                              subst c117
                              have H1 : (laws_FnAlikeLengths.l0 k7 t499 t502 t512 t520 true t502 (t502.length : Int) (wrap64 (x243_7 + 1))) = some true := by first | (rw [if_pos rfl] at H; exact H) | rfl
                              clear H
                              have H := H1
                              clear H1
                              have H' := Aside0.mk H
                              clear H
                              have p548 : 0 ≤ (x243_7 : Int) := of_decide_eq_true (by first | (with_reducible assumption) | assumption)
                              have q548 : x243_7 < (t502.length : Int) := of_decide_eq_true (by first | (with_reducible assumption) | assumption)
                              obtain ⟨ad548, A548_0, c548_0, e548, hx548_0, hl548_0, hi548_0⟩ := at_L2 (Kd.N_reads' Oq21.out).2.2 x243_7 p548 q548
                              cases e548
                              obtain ⟨ce548, hce548, hMe548, hcc548⟩ := Kd.N_get Oq21.out [] x243_7 p548 (by first | exact q548 | exact of_decide_eq_true (by first | (with_reducible assumption) | assumption) | (have e_ := (Kd.N_reads' Oq21.out).1; omega))
                              obtain ⟨ua548_0, uc548_0, rfl, ul548_0, ge548_0⟩ := Kd.FK_slice_open hMe548
                              have hv548_0 := hcc548 0 _ rfl
                              rw [Nat.add_zero, show ((Kd.slice 3 (Kd.int .i64))).sz = 1 from rfl, Nat.mul_one] at hv548_0
                              replace hv548_0 := Option.some.inj (hv548_0.symm.trans hx548_0)
                              injection hv548_0 with hva_ hvn_ hvc_
                              rw [hva_] at ge548_0
                              rw [hvc_] at ul548_0
                              have HL548_0 := am (show Kd.V (Kd.int .i64) 3 _ w.heap.size _ _ (rd_L2 t502 x243_7) from Kd.V_mk ul548_0 ge548_0)
                              clear hva_ hvn_ hvc_ ge548_0 ul548_0 hcc548 hce548
                              have HR548_0 := Aside0.mk hi548_0
                              have HC548_0 := Aside0.mk hl548_0
                              clear hi548_0 hl548_0
                              replace p548 := eq_true p548
                              replace q548 := eq_true q548
                              go_wp2_with (first | ((with_reducible refine gate_callee (f := 33) rfl ?_); refine goesL_ (some 251) rfl rfl Try.func33 (by kernel_rfl) rfl #[.slice A548_0 (rd_L2 t502 x243_7).length c548_0, .slice Ao40 t499.length co40] rfl (by (try simp only [List.map_toArray, List.map_cons, List.map_nil]); try rfl) ?_; (with_reducible refine (impl_AreAlikeLengths.calls k7 _ _ (rd_L2 t502 x243_7) _ _ t499 true true _ ?side1 ?side2 ?side3 ?side4 A94.out).mono ?_); (case side1 => repeat (first | exact (by repeat (first | (with_reducible exact HR548_0.out) | (with_reducible first | refine Kd.C_alloc ?_ _ | refine Kd.C_drewN ?_ _ | refine Kd.C_drew ?_) | exact HR548_0.out)) | (with_reducible first | refine Kd.C_alloc ?_ _ | refine Kd.C_drewN ?_ _ | refine Kd.C_drew ?_))); (case side2 => exact HC548_0.out); (case side3 => repeat (first | exact (Kd.R_reads' Oq18.out).2.2 | (with_reducible first | refine Kd.C_alloc ?_ _ | refine Kd.C_drewN ?_ _ | refine Kd.C_drew ?_))); (case side4 => exact (Kd.R_reads' Oq18.out).2.1); rintro e w118 ⟨rfl, hb⟩; refine ⟨_, rfl, ?_⟩; have n1_ := am (Kd.N_below (by (with_reducible repeat (first | apply Kd.N_alloc | apply Kd.N_drewN | apply Kd.N_drew)); exact Oq19.out) hb); have n4_ := am (Kd.N_below (by (with_reducible repeat (first | apply Kd.N_alloc | apply Kd.N_drewN | apply Kd.N_drew)); exact Oq21.out) hb); have n5_ := am (Kd.V_below (by (with_reducible repeat (first | apply Kd.V_alloc | apply Kd.V_drewN | apply Kd.V_drew)); exact HL548_0.out) hb); have n6_ := am (Kd.C_below (by repeat (first | (with_reducible exact HR548_0.out) | (with_reducible first | refine Kd.C_alloc ?_ _ | refine Kd.C_drewN ?_ _ | refine Kd.C_drew ?_) | exact HR548_0.out)) hb); have n7_ := am (below_step (by repeat with_reducible first | exact HB.out | apply pw_below_drewN | apply below_drew1) hb); clear Oq19; clear Oq21; clear HL548_0; clear HR548_0; clear HB; replace Oq18 := sqR Oq18 hb; have Oq19 := n1_; replace Oq20 := sqR Oq20 hb; replace Oq22 := sqR Oq22 hb; have Oq21 := n4_; have HL548_0 := n5_; have HR548_0 := n6_; have HB := n7_; clear n1_ n4_ n5_ n6_ n7_; (try clear hb); (try clear hb2); (try clear hk); (try clear hi)) | ((with_reducible refine gate_callee (f := 39) rfl ?_); refine goesL_ (some 256) rfl rfl Try.func39 (by kernel_rfl) rfl #[.slice A548_0 (rd_L2 t502 x243_7).length c548_0] rfl (by (try simp only [List.map_toArray, List.map_cons, List.map_nil]); try rfl) ?_; (with_reducible refine (impl_StrictOf.calls k7 _ _ (rd_L2 t502 x243_7) t551 true _ ?side1 ?side2 A95.out).mono ?_); (case side1 => repeat (first | exact (by repeat (first | (with_reducible exact HR548_0.out) | (with_reducible first | refine Kd.C_alloc ?_ _ | refine Kd.C_drewN ?_ _ | refine Kd.C_drew ?_) | exact HR548_0.out)) | (with_reducible first | refine Kd.C_alloc ?_ _ | refine Kd.C_drewN ?_ _ | refine Kd.C_drew ?_))); (case side2 => exact HC548_0.out); rintro e w119 ⟨v553, rfl, ho0, hb⟩; refine ⟨_, rfl, ?_⟩; have n1_ := am (Kd.N_elder' (by (with_reducible repeat (first | apply Kd.N_alloc | apply Kd.N_drewN | apply Kd.N_drew)); exact Oq19.out) (Kd.R_base ho0) hb); have n4_ := am (Kd.N_elder' (by (with_reducible repeat (first | apply Kd.N_alloc | apply Kd.N_drewN | apply Kd.N_drew)); exact Oq21.out) (Kd.R_base ho0) hb); have n5_ := am (Kd.V_elder' (by (with_reducible repeat (first | apply Kd.V_alloc | apply Kd.V_drewN | apply Kd.V_drew)); exact HL548_0.out) (Kd.R_base ho0) hb); have n6_ := am (Kd.R_lower (Kd.R_new' (Kd.R_new' (Kd.R_new' ho0 (sqL Oq18)) (sqL Oq20)) (sqL Oq22)) (below_size (by repeat with_reducible first | exact HB.out | apply pw_below_drewN | apply below_drew1))); have n7_ := am (Kd.C_below (by repeat (first | (with_reducible exact HR548_0.out) | (with_reducible first | refine Kd.C_alloc ?_ _ | refine Kd.C_drewN ?_ _ | refine Kd.C_drew ?_) | exact HR548_0.out)) hb); have n8_ := am (below_step (by repeat with_reducible first | exact HB.out | apply pw_below_drewN | apply below_drew1) hb); clear Oq19; clear Oq21; clear HL548_0; clear HR548_0; clear HB; replace Oq18 := sqE Oq18 ho0 hb; have Oq19 := n1_; replace Oq20 := sqE Oq20 ho0 hb; replace Oq22 := sqE Oq22 ho0 hb; have Oq21 := n4_; have HL548_0 := n5_; have Oq15 := n6_; have HR548_0 := n7_; have HB := n8_; clear n1_ n4_ n5_ n6_ n7_ n8_; (try clear hb); (try clear hb2); (try clear hk); (try clear hi); (try clear ho0); obtain ⟨Ao120, co120, eo120⟩ := Kd.R_slice Oq15.out; subst eo120; obtain ⟨Ao121, co121, eo121⟩ := Kd.R_slice Oq20.out; subst eo121) | (go_at_call 23; (with_reducible refine (laws_rSame.calls k7 _ _ t551 _ _ t512 true _ ?side1 ?side2 ?side3 ?side4 A99.out).mono ?_); (case side1 => repeat (first | exact (Kd.R_reads' Oq15.out).2.2 | (with_reducible first | refine Kd.C_alloc ?_ _ | refine Kd.C_drewN ?_ _ | refine Kd.C_drew ?_))); (case side2 => exact (Kd.R_reads' Oq15.out).2.1); (case side3 => repeat (first | exact (Kd.R_reads' Oq20.out).2.2 | (with_reducible first | refine Kd.C_alloc ?_ _ | refine Kd.C_drewN ?_ _ | refine Kd.C_drew ?_))); (case side4 => exact (Kd.R_reads' Oq20.out).2.1); rintro e w' ⟨rfl, ⟨nd, rfl⟩⟩))
                              go_roundg k7
                              case measure => have := HJ7.out; have := HJ15.out; have := HJ17.out; have := HJ37.out; have := HJ68.out; have := HJ78.out; have := HK7.out; omega
                              case rel => exact ⟨(true), (wrap64 (x243_7 + 1)), (by first | rfl | (simp; done) | (simp [*]; done)), (by first | rfl | (simp; done) | (simp [*]; done)), H', ⟨by have := HJ7.out; have := HJ15.out; have := HJ17.out; have := HJ37.out; have := HJ68.out; have := HJ78.out; have := HK7.out; omega⟩, ⟨by exact sqm Oq18 (fun _ hk => by first | exact ⟨hk.1.1, hk.1.2⟩ | (and_intros <;> first | trivial | simp only [hk, ne_eq, not_false_eq_true]))⟩, ⟨by (with_reducible repeat (first | apply Kd.N_alloc | apply Kd.N_drewN | apply Kd.N_drew)); exact Kd.N_mono Oq19.out (fun _ hk => ⟨hk.1.1, ⟨hk.1.2.1, hk.1.2.2⟩⟩)⟩, ⟨by exact sqm Oq20 (fun _ hk => by first | exact ⟨hk.1.1, hk.1.2⟩ | (and_intros <;> first | trivial | simp only [hk, ne_eq, not_false_eq_true]))⟩, ⟨by exact sqm Oq22 (fun _ hk => by first | exact ⟨hk.1.1, hk.1.2⟩ | (and_intros <;> first | trivial | simp only [hk, ne_eq, not_false_eq_true]))⟩, ⟨by (with_reducible repeat (first | apply Kd.N_alloc | apply Kd.N_drewN | apply Kd.N_drew)); exact Kd.N_mono Oq21.out (fun _ hk => ⟨hk.1.1, ⟨hk.1.2.1, hk.1.2.2⟩⟩)⟩, ⟨by repeat with_reducible first | exact HB.out | apply pw_below_drewN | apply below_drew1⟩⟩
                             ·
                              replace c117 := Bool.eq_false_iff.mpr c117
                              subst c117
                              have H1 : ((laws_rSame.f k7 (rd_L2 t502 x243_7) t499).bind fun t559 => (laws_FnAlikeLengths.l0 k7 t499 t502 t512 t520 t559 t502 (t502.length : Int) (wrap64 (x243_7 + 1)))) = some true := by first | (rw [if_neg (show ¬ (false = true) by decide)] at H; exact H) | rfl
                              clear H
                              have H := H1
                              clear H1
                              replace H := Option.bind_eq_some_iff.mp H
                              obtain ⟨t559, A1220, H⟩ := H
                              replace H : (laws_FnAlikeLengths.l0 k7 t499 t502 t512 t520 t559 t502 (t502.length : Int) (wrap64 (x243_7 + 1))) = some true := H
                              have A122 := Aside0.mk A1220
                              clear A1220
                              have H' := Aside0.mk H
                              clear H
                              have p548 : 0 ≤ (x243_7 : Int) := of_decide_eq_true (by first | (with_reducible assumption) | assumption)
                              have q548 : x243_7 < (t502.length : Int) := of_decide_eq_true (by first | (with_reducible assumption) | assumption)
                              obtain ⟨ad548, A548_0, c548_0, e548, hx548_0, hl548_0, hi548_0⟩ := at_L2 (Kd.N_reads' Oq21.out).2.2 x243_7 p548 q548
                              cases e548
                              obtain ⟨ce548, hce548, hMe548, hcc548⟩ := Kd.N_get Oq21.out [] x243_7 p548 (by first | exact q548 | exact of_decide_eq_true (by first | (with_reducible assumption) | assumption) | (have e_ := (Kd.N_reads' Oq21.out).1; omega))
                              obtain ⟨ua548_0, uc548_0, rfl, ul548_0, ge548_0⟩ := Kd.FK_slice_open hMe548
                              have hv548_0 := hcc548 0 _ rfl
                              rw [Nat.add_zero, show ((Kd.slice 3 (Kd.int .i64))).sz = 1 from rfl, Nat.mul_one] at hv548_0
                              replace hv548_0 := Option.some.inj (hv548_0.symm.trans hx548_0)
                              injection hv548_0 with hva_ hvn_ hvc_
                              rw [hva_] at ge548_0
                              rw [hvc_] at ul548_0
                              have HL548_0 := am (show Kd.V (Kd.int .i64) 3 _ w.heap.size _ _ (rd_L2 t502 x243_7) from Kd.V_mk ul548_0 ge548_0)
                              clear hva_ hvn_ hvc_ ge548_0 ul548_0 hcc548 hce548
                              have HR548_0 := Aside0.mk hi548_0
                              have HC548_0 := Aside0.mk hl548_0
                              clear hi548_0 hl548_0
                              replace p548 := eq_true p548
                              replace q548 := eq_true q548
                              go_wp2_with (first | ((with_reducible refine gate_callee (f := 33) rfl ?_); refine goesL_ (some 251) rfl rfl Try.func33 (by kernel_rfl) rfl #[.slice A548_0 (rd_L2 t502 x243_7).length c548_0, .slice Ao40 t499.length co40] rfl (by (try simp only [List.map_toArray, List.map_cons, List.map_nil]); try rfl) ?_; (with_reducible refine (impl_AreAlikeLengths.calls k7 _ _ (rd_L2 t502 x243_7) _ _ t499 true true _ ?side1 ?side2 ?side3 ?side4 A94.out).mono ?_); (case side1 => repeat (first | exact (by repeat (first | (with_reducible exact HR548_0.out) | (with_reducible first | refine Kd.C_alloc ?_ _ | refine Kd.C_drewN ?_ _ | refine Kd.C_drew ?_) | exact HR548_0.out)) | (with_reducible first | refine Kd.C_alloc ?_ _ | refine Kd.C_drewN ?_ _ | refine Kd.C_drew ?_))); (case side2 => exact HC548_0.out); (case side3 => repeat (first | exact (Kd.R_reads' Oq18.out).2.2 | (with_reducible first | refine Kd.C_alloc ?_ _ | refine Kd.C_drewN ?_ _ | refine Kd.C_drew ?_))); (case side4 => exact (Kd.R_reads' Oq18.out).2.1); rintro e w123 ⟨rfl, hb⟩; refine ⟨_, rfl, ?_⟩; have n1_ := am (Kd.N_below (by (with_reducible repeat (first | apply Kd.N_alloc | apply Kd.N_drewN | apply Kd.N_drew)); exact Oq19.out) hb); have n4_ := am (Kd.N_below (by (with_reducible repeat (first | apply Kd.N_alloc | apply Kd.N_drewN | apply Kd.N_drew)); exact Oq21.out) hb); have n5_ := am (Kd.V_below (by (with_reducible repeat (first | apply Kd.V_alloc | apply Kd.V_drewN | apply Kd.V_drew)); exact HL548_0.out) hb); have n6_ := am (Kd.C_below (by repeat (first | (with_reducible exact HR548_0.out) | (with_reducible first | refine Kd.C_alloc ?_ _ | refine Kd.C_drewN ?_ _ | refine Kd.C_drew ?_) | exact HR548_0.out)) hb); have n7_ := am (below_step (by repeat with_reducible first | exact HB.out | apply pw_below_drewN | apply below_drew1) hb); clear Oq19; clear Oq21; clear HL548_0; clear HR548_0; clear HB; replace Oq18 := sqR Oq18 hb; have Oq19 := n1_; replace Oq20 := sqR Oq20 hb; replace Oq22 := sqR Oq22 hb; have Oq21 := n4_; have HL548_0 := n5_; have HR548_0 := n6_; have HB := n7_; clear n1_ n4_ n5_ n6_ n7_; (try clear hb); (try clear hb2); (try clear hk); (try clear hi)) | ((with_reducible refine gate_callee (f := 39) rfl ?_); refine goesL_ (some 256) rfl rfl Try.func39 (by kernel_rfl) rfl #[.slice A548_0 (rd_L2 t502 x243_7).length c548_0] rfl (by (try simp only [List.map_toArray, List.map_cons, List.map_nil]); try rfl) ?_; (with_reducible refine (impl_StrictOf.calls k7 _ _ (rd_L2 t502 x243_7) t551 true _ ?side1 ?side2 A95.out).mono ?_); (case side1 => repeat (first | exact (by repeat (first | (with_reducible exact HR548_0.out) | (with_reducible first | refine Kd.C_alloc ?_ _ | refine Kd.C_drewN ?_ _ | refine Kd.C_drew ?_) | exact HR548_0.out)) | (with_reducible first | refine Kd.C_alloc ?_ _ | refine Kd.C_drewN ?_ _ | refine Kd.C_drew ?_))); (case side2 => exact HC548_0.out); rintro e w124 ⟨v553, rfl, ho0, hb⟩; refine ⟨_, rfl, ?_⟩; have n1_ := am (Kd.N_elder' (by (with_reducible repeat (first | apply Kd.N_alloc | apply Kd.N_drewN | apply Kd.N_drew)); exact Oq19.out) (Kd.R_base ho0) hb); have n4_ := am (Kd.N_elder' (by (with_reducible repeat (first | apply Kd.N_alloc | apply Kd.N_drewN | apply Kd.N_drew)); exact Oq21.out) (Kd.R_base ho0) hb); have n5_ := am (Kd.V_elder' (by (with_reducible repeat (first | apply Kd.V_alloc | apply Kd.V_drewN | apply Kd.V_drew)); exact HL548_0.out) (Kd.R_base ho0) hb); have n6_ := am (Kd.R_lower (Kd.R_new' (Kd.R_new' (Kd.R_new' ho0 (sqL Oq18)) (sqL Oq20)) (sqL Oq22)) (below_size (by repeat with_reducible first | exact HB.out | apply pw_below_drewN | apply below_drew1))); have n7_ := am (Kd.C_below (by repeat (first | (with_reducible exact HR548_0.out) | (with_reducible first | refine Kd.C_alloc ?_ _ | refine Kd.C_drewN ?_ _ | refine Kd.C_drew ?_) | exact HR548_0.out)) hb); have n8_ := am (below_step (by repeat with_reducible first | exact HB.out | apply pw_below_drewN | apply below_drew1) hb); clear Oq19; clear Oq21; clear HL548_0; clear HR548_0; clear HB; replace Oq18 := sqE Oq18 ho0 hb; have Oq19 := n1_; replace Oq20 := sqE Oq20 ho0 hb; replace Oq22 := sqE Oq22 ho0 hb; have Oq21 := n4_; have HL548_0 := n5_; have Oq15 := n6_; have HR548_0 := n7_; have HB := n8_; clear n1_ n4_ n5_ n6_ n7_ n8_; (try clear hb); (try clear hb2); (try clear hk); (try clear hi); (try clear ho0); obtain ⟨Ao125, co125, eo125⟩ := Kd.R_slice Oq15.out; subst eo125; obtain ⟨Ao126, co126, eo126⟩ := Kd.R_slice Oq20.out; subst eo126) | (go_at_call 23; (with_reducible refine (laws_rSame.calls k7 _ _ t551 _ _ t512 true _ ?side1 ?side2 ?side3 ?side4 A99.out).mono ?_); (case side1 => repeat (first | exact (Kd.R_reads' Oq15.out).2.2 | (with_reducible first | refine Kd.C_alloc ?_ _ | refine Kd.C_drewN ?_ _ | refine Kd.C_drew ?_))); (case side2 => exact (Kd.R_reads' Oq15.out).2.1); (case side3 => repeat (first | exact (Kd.R_reads' Oq20.out).2.2 | (with_reducible first | refine Kd.C_alloc ?_ _ | refine Kd.C_drewN ?_ _ | refine Kd.C_drew ?_))); (case side4 => exact (Kd.R_reads' Oq20.out).2.1); rintro e w' ⟨rfl, ⟨nd, rfl⟩⟩) | (go_at_call 23; (with_reducible refine (laws_rSame.calls k7 _ _ (rd_L2 t502 x243_7) _ _ t499 t559 _ ?side1 ?side2 ?side3 ?side4 A122.out).mono ?_); (case side1 => repeat (first | exact (by repeat (first | (with_reducible exact HR548_0.out) | (with_reducible first | refine Kd.C_alloc ?_ _ | refine Kd.C_drewN ?_ _ | refine Kd.C_drew ?_) | exact HR548_0.out)) | (with_reducible first | refine Kd.C_alloc ?_ _ | refine Kd.C_drewN ?_ _ | refine Kd.C_drew ?_))); (case side2 => exact HC548_0.out); (case side3 => repeat (first | exact (Kd.R_reads' Oq18.out).2.2 | (with_reducible first | refine Kd.C_alloc ?_ _ | refine Kd.C_drewN ?_ _ | refine Kd.C_drew ?_))); (case side4 => exact (Kd.R_reads' Oq18.out).2.1); rintro e w' ⟨rfl, ⟨nd, rfl⟩⟩))
                              go_roundg k7
                              case measure => have := HJ7.out; have := HJ15.out; have := HJ17.out; have := HJ37.out; have := HJ68.out; have := HJ78.out; have := HK7.out; omega
                              case rel => exact ⟨(t559), (wrap64 (x243_7 + 1)), (by first | rfl | (simp; done) | (simp [*]; done)), (by first | rfl | (simp; done) | (simp [*]; done)), H', ⟨by have := HJ7.out; have := HJ15.out; have := HJ17.out; have := HJ37.out; have := HJ68.out; have := HJ78.out; have := HK7.out; omega⟩, ⟨by exact sqm Oq18 (fun _ hk => by first | exact ⟨hk.1.1, hk.1.2⟩ | (and_intros <;> first | trivial | simp only [hk, ne_eq, not_false_eq_true]))⟩, ⟨by (with_reducible repeat (first | apply Kd.N_alloc | apply Kd.N_drewN | apply Kd.N_drew)); exact Kd.N_mono Oq19.out (fun _ hk => ⟨hk.1.1, ⟨hk.1.2.1, hk.1.2.2⟩⟩)⟩, ⟨by exact sqm Oq20 (fun _ hk => by first | exact ⟨hk.1.1, hk.1.2⟩ | (and_intros <;> first | trivial | simp only [hk, ne_eq, not_false_eq_true]))⟩, ⟨by exact sqm Oq22 (fun _ hk => by first | exact ⟨hk.1.1, hk.1.2⟩ | (and_intros <;> first | trivial | simp only [hk, ne_eq, not_false_eq_true]))⟩, ⟨by (with_reducible repeat (first | apply Kd.N_alloc | apply Kd.N_drewN | apply Kd.N_drew)); exact Kd.N_mono Oq21.out (fun _ hk => ⟨hk.1.1, ⟨hk.1.2.1, hk.1.2.2⟩⟩)⟩, ⟨by repeat with_reducible first | exact HB.out | apply pw_below_drewN | apply below_drew1⟩⟩
                           ·
                            replace c100 := Bool.eq_false_iff.mpr c100
                            subst c100
                            have H1 : (some false) = some true := by first | (rw [if_neg (show ¬ (false = true) by decide)] at H; exact H) | rfl
                            clear H
                            have H := H1
                            clear H1
                            exact absurd (Option.some.inj H) (by decide)
                          ·
                           replace c98 := Bool.eq_false_iff.mpr c98
                           subst c98
                           have H1 : (some false) = some true := by first | (rw [if_neg (show ¬ (false = true) by decide)] at H; exact H) | rfl
                           clear H
                           have H := H1
                           clear H1
                           exact absurd (Option.some.inj H) (by decide)
                         ·
                          replace c97 := Bool.eq_false_iff.mpr c97
                          subst c97
                          have H1 : (some false) = some true := by first | (rw [if_neg (show ¬ (false = true) by decide)] at H; exact H) | rfl
                          clear H
                          have H := H1
                          clear H1
                          exact absurd (Option.some.inj H) (by decide)
                        ·
                         replace c96 := Bool.eq_false_iff.mpr c96
                         subst c96
                         have H1 : (some false) = some true := by first | (rw [if_neg (show ¬ (false = true) by decide)] at H; exact H) | rfl
                         clear H
                         have H := H1
                         clear H1
                         exact absurd (Option.some.inj H) (by decide)
                       ·
                        rw [if_neg c93] at H
                        exact absurd H (by simp)
                      ·
                       rw [if_neg c92] at H
                       exact absurd H (by simp)
                     ·
                      rw [if_neg c91] at H
                      have c91b0 : decide (x243_7 < (t502.length : Int)) = false := decide_eq_false c91
                      clear c91
                      replace H := Option.bind_eq_some_iff.mp H
                      obtain ⟨⟨t560, t561⟩, A1270, H⟩ := H
                      replace H : (laws_FnAlikeLengths.l1 k7 t499 t512 t520 x37_7 t560 t561 t512 (t512.length : Int) 0) = some true := H
                      have A127 := Aside0.mk A1270
                      clear A1270
                      have H' := Aside0.mk H
                      clear H
                      go_wp2_with (first | ((with_reducible refine gate_callee (f := 17) rfl ?_); refine goesL_ (some 298) rfl rfl Try.func17 (by kernel_rfl) rfl #[.slice Ao40 t499.length co40] rfl (by (try simp only [List.map_toArray, List.map_cons, List.map_nil]); try rfl) ?_; (with_reducible refine (impl_FactorsOf.calls k7 _ _ t499 t560 t561 _ ?side1 ?side2 A127.out).mono ?_); (case side1 => repeat (first | exact (Kd.R_reads' Oq18.out).2.2 | (with_reducible first | refine Kd.C_alloc ?_ _ | refine Kd.C_drewN ?_ _ | refine Kd.C_drew ?_))); (case side2 => exact (Kd.R_reads' Oq18.out).2.1); rintro e w128 ⟨v562, rfl, ho0, hb⟩; refine ⟨_, rfl, ?_⟩; have n1_ := am (Kd.N_elder' (by (with_reducible repeat (first | apply Kd.N_alloc | apply Kd.N_drewN | apply Kd.N_drew)); exact Oq19.out) (Kd.R_base ho0) hb); have n4_ := am (Kd.N_elder' (by (with_reducible repeat (first | apply Kd.N_alloc | apply Kd.N_drewN | apply Kd.N_drew)); exact Oq21.out) (Kd.R_base ho0) hb); have n5_ := am (Kd.R_lower (Kd.R_new' (Kd.R_new' (Kd.R_new' ho0 (sqL Oq18)) (sqL Oq20)) (sqL Oq22)) (below_size (by repeat with_reducible first | exact HB.out | apply pw_below_drewN | apply below_drew1))); have n6_ := am (below_step (by repeat with_reducible first | exact HB.out | apply pw_below_drewN | apply below_drew1) hb); clear Oq19; clear Oq21; clear HB; replace Oq18 := sqE Oq18 ho0 hb; have Oq19 := n1_; replace Oq20 := sqE Oq20 ho0 hb; replace Oq22 := sqE Oq22 ho0 hb; have Oq21 := n4_; have Oq16 := n5_; have HB := n6_; clear n1_ n4_ n5_ n6_; (try clear hb); (try clear hb2); (try clear hk); (try clear hi); (try clear ho0); obtain ⟨Ao129, co129, eo129⟩ := Kd.R_slice Oq20.out; subst eo129))
                      go_loopg [303] k7 (fun kq v303 w' => ∃ (x303_8 : Int), v303 = .int .i64 x303_8 ∧ Aside0 (laws_FnAlikeLengths.l1 kq t499 t512 t520 x37_7 t560 t561 t512 (t512.length : Int) x303_8 = some true) ∧ Aside0 (kq ≤ k7) ∧ Aside0 (Kd.R (Kd.int .i64) 3 w' w.heap.size (fun k_ => some k_ ≠ ((.slice Ao129 t512.length co129) : Value).ownBlock ∧ some k_ ≠ (v522 : Value).ownBlock ∧ some k_ ≠ (v562 : Value).ownBlock ∧ some k_ ≠ ((.slice Ao129 t512.length co129) : Value).ownBlock) (.slice Ao40 t499.length co40) t499) ∧ Aside0 (Kd.R (Kd.int .i64) 3 w' w.heap.size (fun k_ => some k_ ≠ ((.slice Ao40 t499.length co40) : Value).ownBlock ∧ some k_ ≠ (v522 : Value).ownBlock ∧ some k_ ≠ (v562 : Value).ownBlock) (.slice Ao129 t512.length co129) t512) ∧ Aside0 (Kd.R (Kd.int .i64) 3 w' w.heap.size (fun k_ => some k_ ≠ ((.slice Ao40 t499.length co40) : Value).ownBlock ∧ some k_ ≠ ((.slice Ao129 t512.length co129) : Value).ownBlock ∧ some k_ ≠ (v562 : Value).ownBlock ∧ some k_ ≠ ((.slice Ao129 t512.length co129) : Value).ownBlock) v522 t520) ∧ Aside0 (Kd.R (Kd.int .i64) 3 w' w.heap.size (fun k_ => some k_ ≠ ((.slice Ao40 t499.length co40) : Value).ownBlock ∧ some k_ ≠ ((.slice Ao129 t512.length co129) : Value).ownBlock ∧ some k_ ≠ (v522 : Value).ownBlock ∧ some k_ ≠ ((.slice Ao129 t512.length co129) : Value).ownBlock) v562 t560) ∧ Aside0 (Kd.R (Kd.int .i64) 3 w' w.heap.size (fun k_ => some k_ ≠ ((.slice Ao40 t499.length co40) : Value).ownBlock ∧ some k_ ≠ (v522 : Value).ownBlock ∧ some k_ ≠ (v562 : Value).ownBlock) (.slice Ao129 t512.length co129) t512) ∧ Aside0 (Below w.heap.size w w'))
                      case atStart => exact ⟨(0), (by first | rfl | (simp; done) | (simp [*]; done)), H', ⟨Nat.le_refl _⟩, ⟨by exact sqm Oq18 (fun _ hk => by first | exact ⟨hk.1.1, ⟨hk.1.2, ⟨hk.2, hk.1.1⟩⟩⟩ | (and_intros <;> first | trivial | simp only [hk, ne_eq, not_false_eq_true]))⟩, ⟨by exact sqm Oq20 (fun _ hk => by first | exact ⟨hk.1.1, ⟨hk.1.2, hk.2⟩⟩ | (and_intros <;> first | trivial | simp only [hk, ne_eq, not_false_eq_true]))⟩, ⟨by exact sqm Oq22 (fun _ hk => by first | exact ⟨hk.1.1, ⟨hk.1.2, ⟨hk.2, hk.1.2⟩⟩⟩ | (and_intros <;> first | trivial | simp only [hk, ne_eq, not_false_eq_true]))⟩, ⟨by exact sqm Oq16 (fun _ hk => by first | exact ⟨hk.1.1.2, ⟨hk.1.2, ⟨hk.2, hk.1.2⟩⟩⟩ | (and_intros <;> first | trivial | simp only [hk, ne_eq, not_false_eq_true]))⟩, ⟨by exact sqm Oq20 (fun _ hk => by first | exact ⟨hk.1.1, ⟨hk.1.2, hk.2⟩⟩ | (and_intros <;> first | trivial | simp only [hk, ne_eq, not_false_eq_true]))⟩, ⟨by repeat with_reducible first | exact HB.out | apply pw_below_drewN | apply below_drew1⟩⟩
                      case round =>
                       clear H'
                       try clear c1; try clear c2; try clear p2; try clear c3; try clear c4; try clear c5; try clear p5; try clear q5; try clear hx5; try clear c6; try clear p6; try clear c7; try clear c8; try clear c9; try clear c10; try clear c11; try clear c14; try clear c14b0; try clear c14b1; try clear c14b2; try clear c15; try clear c17; try clear c19; try clear c22; try clear c23; try clear c25; try clear c25b0; try clear c25b1; try clear c25b2; try clear c32; try clear c33; try clear c34; try clear c35; try clear c36; try clear c37; try clear c38; try clear c39; try clear c40; try clear c41; try clear c42; try clear c44; try clear c45; try clear c46; try clear c48; try clear c48b0; try clear c48b1; try clear c48b2; try clear c50; try clear c51; try clear c51b0; try clear c51b1; try clear c51b2; try clear c52; try clear c52b0; try clear c52b1; try clear c52b2; try clear c54; try clear p54; try clear q54; try clear hx54; try clear c55; try clear c55b0; try clear c55b1; try clear c55b2; try clear p55; try clear q55; try clear hx55; try clear c57; try clear c58; try clear c58b0; try clear c58b1; try clear c58b2; try clear p64; try clear c65; try clear c74; try clear c74b0; try clear c74b1; try clear c74b2; try clear c78; try clear c80; try clear c82; try clear c84; try clear c88; try clear c89; try clear c89b0; try clear c89b1; try clear c91; try clear c91b0; try clear c92; try clear c92b0; try clear c93; try clear c93b0; try clear c96; try clear c97; try clear c98; try clear c100; try clear c101; try clear c101b0; try clear c103; try clear c103b0; try clear c104; try clear c104b0; try clear c106; try clear c107; try clear c117; try clear hx548_0; try clear hx556_0; try clear p2; try clear p548; try clear p556; try clear q548; try clear q556
                       obtain ⟨x303_8, rfl, HA, HK8, Oq18, Oq20, Oq22, Oq28, Oq24, HB⟩ := hrel
                       cases gk with
                       | zero => exact absurd HA.out (by simp [laws_FnAlikeLengths.l1])
                       | succ k8 =>
                        have H := HA.out
                        clear HA
                        simp only [laws_FnAlikeLengths.l1] at H
                        by_cases c130 : x303_8 < (t512.length : Int)
                        ·
                         rw [if_pos c130] at H
                         have c130b0 : decide (x303_8 < (t512.length : Int)) = true := decide_eq_true c130
                         clear c130
                         by_cases c131 : 0 ≤ x303_8
                         ·
                          rw [if_pos c131] at H
                          have c131b0 : decide (0 ≤ x303_8) = true := decide_eq_true c131
                          clear c131
                          by_cases c132 : x303_8 < (t512.length : Int)
                          ·
                           rw [if_pos c132] at H
                           have c132b0 : decide (x303_8 < (t512.length : Int)) = true := decide_eq_true c132
                           clear c132
                           have HC133 := Aside0.mk H
                           clear H
                           have p571 : 0 ≤ (x303_8 : Int) := of_decide_eq_true (by first | (with_reducible assumption) | assumption)
                           have q571 : x303_8 < (t512.length : Int) := of_decide_eq_true (by first | (with_reducible assumption) | assumption)
                           obtain ⟨ad571, e571, hx571_0⟩ := Kd.at_int (Kd.R_reads' Oq24.out).2.2 x303_8 p571 q571
                           cases e571
                           replace p571 := eq_true p571
                           replace q571 := eq_true q571
                           go_upto_region 50 with (fail)
                           go_cut [331] (fun v331 wc => ∃ (kq : Nat) (x331_132 : Bool), v331 = .bool x331_132 ∧ Aside0 (laws_FnAlikeLengths.j8 kq t499 t512 t520 x37_7 t560 t561 x303_8 (rd t512 x303_8) t512 (t512.length : Int) x303_8 x331_132 = some true) ∧ Aside0 (kq ≤ k8) ∧ Aside0 (Kd.R (Kd.int .i64) 3 wc w.heap.size (fun k_ => some k_ ≠ ((.slice (some ad571) t512.length co129) : Value).ownBlock ∧ some k_ ≠ (v522 : Value).ownBlock ∧ some k_ ≠ (v562 : Value).ownBlock ∧ some k_ ≠ ((.slice (some ad571) t512.length co129) : Value).ownBlock) (.slice Ao40 t499.length co40) t499) ∧ Aside0 (Kd.R (Kd.int .i64) 3 wc w.heap.size (fun k_ => some k_ ≠ ((.slice Ao40 t499.length co40) : Value).ownBlock ∧ some k_ ≠ (v522 : Value).ownBlock ∧ some k_ ≠ (v562 : Value).ownBlock) (.slice (some ad571) t512.length co129) t512) ∧ Aside0 (Kd.R (Kd.int .i64) 3 wc w.heap.size (fun k_ => some k_ ≠ ((.slice Ao40 t499.length co40) : Value).ownBlock ∧ some k_ ≠ ((.slice (some ad571) t512.length co129) : Value).ownBlock ∧ some k_ ≠ (v562 : Value).ownBlock ∧ some k_ ≠ ((.slice (some ad571) t512.length co129) : Value).ownBlock) v522 t520) ∧ Aside0 (Kd.R (Kd.int .i64) 3 wc w.heap.size (fun k_ => some k_ ≠ ((.slice Ao40 t499.length co40) : Value).ownBlock ∧ some k_ ≠ ((.slice (some ad571) t512.length co129) : Value).ownBlock ∧ some k_ ≠ (v522 : Value).ownBlock ∧ some k_ ≠ ((.slice (some ad571) t512.length co129) : Value).ownBlock) v562 t560) ∧ Aside0 (Kd.R (Kd.int .i64) 3 wc w.heap.size (fun k_ => some k_ ≠ ((.slice Ao40 t499.length co40) : Value).ownBlock ∧ some k_ ≠ (v522 : Value).ownBlock ∧ some k_ ≠ (v562 : Value).ownBlock) (.slice (some ad571) t512.length co129) t512) ∧ Aside0 (Below w.heap.size w wc))
                           case first => as_aux_lemma =>
                            have H := HC133.out
                            clear HC133
                            by_cases c134 : x303_8 > 0
                            ·
                             rw [if_pos c134] at H
                             have c134b0 : decide (0 < x303_8) = true := decide_eq_true c134
                             clear c134
                             (first | rw [c134b0] | (simp only [i64_w, i32_w]; rw [c134b0]) | skip)
                             obtain ⟨ji135, hji135⟩ : ∃ j_ : Int, (wrap64 (x303_8 - 1)) = j_ := ⟨_, rfl⟩
                             replace H : (if 0 ≤ (ji135) then (if (ji135) < (t512.length : Int) then (if (rd t512 x303_8) < (rd t512 (ji135)) then (laws_FnAlikeLengths.j8 k8 t499 t512 t520 x37_7 t560 t561 x303_8 (rd t512 x303_8) t512 (t512.length : Int) x303_8 true) else (if (rd t512 x303_8) = (rd t512 (ji135)) then (laws_FnAlikeLengths.j8 k8 t499 t512 t520 x37_7 t560 t561 x303_8 (rd t512 x303_8) t512 (t512.length : Int) x303_8 (decide ((rd t512 x303_8) > 0))) else (laws_FnAlikeLengths.j8 k8 t499 t512 t520 x37_7 t560 t561 x303_8 (rd t512 x303_8) t512 (t512.length : Int) x303_8 false))) else (none)) else (none)) = some true := by first | (rw [hji135] at H; exact H) | (simp only [hji135] at H ⊢; exact H)
                             have hji135w : (IntKind.i64.wrap (x303_8 - 1)) = ji135 := (i64_w _).trans hji135
                             by_cases c136 : 0 ≤ (ji135)
                             ·
                              rw [if_pos c136] at H
                              have c136b0 : decide (0 ≤ (ji135)) = true := decide_eq_true c136
                              clear c136
                              by_cases c137 : (ji135) < (t512.length : Int)
                              ·
                               rw [if_pos c137] at H
                               have c137b0 : decide ((ji135) < (t512.length : Int)) = true := decide_eq_true c137
                               clear c137
                               by_cases c138 : (rd t512 x303_8) < (rd t512 (ji135))
                               ·
                                rw [if_pos c138] at H
                                have c138b0 : decide ((rd t512 x303_8) < (rd t512 (ji135))) = true := decide_eq_true c138
                                clear c138
                                exact absurd H (laws_FnAlikeLengths.j8_no _ _ _ _ _ _ _ _ _ _ _ _)
                               ·
                                rw [if_neg c138] at H
                                have c138b0 : decide ((rd t512 x303_8) < (rd t512 (ji135))) = false := decide_eq_false c138
                                clear c138
                                by_cases c139 : (rd t512 x303_8) = (rd t512 (ji135))
                                ·
                                 rw [if_pos c139] at H
                                 have c139b0 : ((rd t512 x303_8) == (rd t512 (ji135))) = true := beq_iff_eq.mpr c139
                                 have c139b1 : ((rd t512 x303_8) != (rd t512 (ji135))) = false := bne_eq_false_iff_eq.mpr c139
                                 clear c139
                                 have H' := Aside0.mk H
                                 clear H
                                 have p572 : 0 ≤ ((ji135) : Int) := of_decide_eq_true (by first | (with_reducible assumption) | assumption)
                                 have q572 : (ji135) < (t512.length : Int) := of_decide_eq_true (by first | (with_reducible assumption) | assumption)
                                 obtain ⟨ad572, e572, hx572_0⟩ := Kd.at_int (Kd.R_reads' Oq20.out).2.2 (ji135) p572 q572
                                 obtain rfl : ad571 = ad572 := (by injection e572)
                                 replace p572 := eq_true p572
                                 replace q572 := eq_true q572
                                 have p573 : 0 ≤ ((ji135) : Int) := of_decide_eq_true (by first | (with_reducible assumption) | assumption)
                                 have q573 : (ji135) < (t512.length : Int) := of_decide_eq_true (by first | (with_reducible assumption) | assumption)
                                 obtain ⟨ad573, e573, hx573_0⟩ := Kd.at_int (Kd.R_reads' Oq20.out).2.2 (ji135) p573 q573
                                 obtain rfl : ad571 = ad573 := (by injection e573)
                                 replace p573 := eq_true p573
                                 replace q573 := eq_true q573
                                 go_wp2
                                 go_meet
                                 case rel => exact ⟨_, (decide ((rd t512 x303_8) > 0)), (by first | rfl | (simp; done) | (simp [*]; done)), H', ⟨by have := HJ7.out; have := HJ15.out; have := HJ17.out; have := HJ37.out; have := HJ68.out; have := HJ78.out; have := HK7.out; have := HK8.out; first | omega | exact Nat.le_refl _⟩, ⟨by (with_reducible repeat (first | apply Kd.R_alloc | apply Kd.R_drewN | apply Kd.R_drew)); exact Oq18.out⟩, ⟨by (with_reducible repeat (first | apply Kd.R_alloc | apply Kd.R_drewN | apply Kd.R_drew)); exact Oq20.out⟩, ⟨by (with_reducible repeat (first | apply Kd.R_alloc | apply Kd.R_drewN | apply Kd.R_drew)); exact Oq22.out⟩, ⟨by (with_reducible repeat (first | apply Kd.R_alloc | apply Kd.R_drewN | apply Kd.R_drew)); exact Oq28.out⟩, ⟨by (with_reducible repeat (first | apply Kd.R_alloc | apply Kd.R_drewN | apply Kd.R_drew)); exact Oq24.out⟩, ⟨by repeat with_reducible first | exact HB.out | apply pw_below_drewN | apply below_drew1⟩⟩
                                ·
                                 rw [if_neg c139] at H
                                 have c139b0 : ((rd t512 x303_8) == (rd t512 (ji135))) = false := beq_eq_false_iff_ne.mpr c139
                                 have c139b1 : ((rd t512 x303_8) != (rd t512 (ji135))) = true := bne_iff_ne.mpr c139
                                 have H' := Aside0.mk H
                                 clear H
                                 have p572 : 0 ≤ ((ji135) : Int) := of_decide_eq_true (by first | (with_reducible assumption) | assumption)
                                 have q572 : (ji135) < (t512.length : Int) := of_decide_eq_true (by first | (with_reducible assumption) | assumption)
                                 obtain ⟨ad572, e572, hx572_0⟩ := Kd.at_int (Kd.R_reads' Oq20.out).2.2 (ji135) p572 q572
                                 obtain rfl : ad571 = ad572 := (by injection e572)
                                 replace p572 := eq_true p572
                                 replace q572 := eq_true q572
                                 have p573 : 0 ≤ ((ji135) : Int) := of_decide_eq_true (by first | (with_reducible assumption) | assumption)
                                 have q573 : (ji135) < (t512.length : Int) := of_decide_eq_true (by first | (with_reducible assumption) | assumption)
                                 obtain ⟨ad573, e573, hx573_0⟩ := Kd.at_int (Kd.R_reads' Oq20.out).2.2 (ji135) p573 q573
                                 obtain rfl : ad571 = ad573 := (by injection e573)
                                 replace p573 := eq_true p573
                                 replace q573 := eq_true q573
                                 go_wp2
                                 go_meet
                                 case rel => exact ⟨_, (false), (by first | rfl | (simp; done) | (simp [*]; done)), H', ⟨by have := HJ7.out; have := HJ15.out; have := HJ17.out; have := HJ37.out; have := HJ68.out; have := HJ78.out; have := HK7.out; have := HK8.out; first | omega | exact Nat.le_refl _⟩, ⟨by (with_reducible repeat (first | apply Kd.R_alloc | apply Kd.R_drewN | apply Kd.R_drew)); exact Oq18.out⟩, ⟨by (with_reducible repeat (first | apply Kd.R_alloc | apply Kd.R_drewN | apply Kd.R_drew)); exact Oq20.out⟩, ⟨by (with_reducible repeat (first | apply Kd.R_alloc | apply Kd.R_drewN | apply Kd.R_drew)); exact Oq22.out⟩, ⟨by (with_reducible repeat (first | apply Kd.R_alloc | apply Kd.R_drewN | apply Kd.R_drew)); exact Oq28.out⟩, ⟨by (with_reducible repeat (first | apply Kd.R_alloc | apply Kd.R_drewN | apply Kd.R_drew)); exact Oq24.out⟩, ⟨by repeat with_reducible first | exact HB.out | apply pw_below_drewN | apply below_drew1⟩⟩
                              ·
                               rw [if_neg c137] at H
                               exact absurd H (by simp)
                             ·
                              rw [if_neg c136] at H
                              exact absurd H (by simp)
                            ·
                             rw [if_neg c134] at H
                             have c134b0 : decide (0 < x303_8) = false := decide_eq_false c134
                             clear c134
                             (first | rw [c134b0] | (simp only [i64_w, i32_w]; rw [c134b0]) | skip)
                             have H' := Aside0.mk H
                             clear H
                             go_wp2
                             go_meet
                             case rel => exact ⟨_, (false), (by first | rfl | (simp; done) | (simp [*]; done)), H', ⟨by have := HJ7.out; have := HJ15.out; have := HJ17.out; have := HJ37.out; have := HJ68.out; have := HJ78.out; have := HK7.out; have := HK8.out; first | omega | exact Nat.le_refl _⟩, ⟨by (with_reducible repeat (first | apply Kd.R_alloc | apply Kd.R_drewN | apply Kd.R_drew)); exact Oq18.out⟩, ⟨by (with_reducible repeat (first | apply Kd.R_alloc | apply Kd.R_drewN | apply Kd.R_drew)); exact Oq20.out⟩, ⟨by (with_reducible repeat (first | apply Kd.R_alloc | apply Kd.R_drewN | apply Kd.R_drew)); exact Oq22.out⟩, ⟨by (with_reducible repeat (first | apply Kd.R_alloc | apply Kd.R_drewN | apply Kd.R_drew)); exact Oq28.out⟩, ⟨by (with_reducible repeat (first | apply Kd.R_alloc | apply Kd.R_drewN | apply Kd.R_drew)); exact Oq24.out⟩, ⟨by repeat with_reducible first | exact HB.out | apply pw_below_drewN | apply below_drew1⟩⟩
                           case rest => as_aux_lemma =>
                            clear HC133
                            try clear c1; try clear c2; try clear p2; try clear c3; try clear c4; try clear c5; try clear p5; try clear q5; try clear hx5; try clear c6; try clear p6; try clear c7; try clear c8; try clear c9; try clear c10; try clear c11; try clear c13; try clear c14; try clear c14b0; try clear c14b1; try clear c14b2; try clear c15; try clear c17; try clear c19; try clear c22; try clear c23; try clear c25; try clear c25b0; try clear c25b1; try clear c25b2; try clear c32; try clear c33; try clear c34; try clear c35; try clear c36; try clear c37; try clear c38; try clear c39; try clear c40; try clear c41; try clear c42; try clear c44; try clear c45; try clear c46; try clear c48; try clear c48b0; try clear c48b1; try clear c48b2; try clear c50; try clear c51; try clear c51b0; try clear c51b1; try clear c51b2; try clear c52; try clear c52b0; try clear c52b1; try clear c52b2; try clear c54; try clear p54; try clear q54; try clear hx54; try clear c55; try clear c55b0; try clear c55b1; try clear c55b2; try clear p55; try clear q55; try clear hx55; try clear c57; try clear p57; try clear q57; try clear hx57; try clear c58; try clear c58b0; try clear c58b1; try clear c58b2; try clear p64; try clear c65; try clear c74; try clear c74b0; try clear c74b1; try clear c74b2; try clear c78; try clear c80; try clear c82; try clear c84; try clear c88; try clear c89; try clear c89b0; try clear c89b1; try clear c91; try clear c91b0; try clear c92; try clear c92b0; try clear c93; try clear c93b0; try clear c96; try clear c97; try clear c98; try clear c100; try clear c101; try clear c101b0; try clear c103; try clear c103b0; try clear c104; try clear c104b0; try clear c106; try clear c107; try clear c117; try clear c130; try clear c130b0; try clear c131; try clear c131b0; try clear c132; try clear c132b0; try clear c134; try clear c134b0; try clear c136; try clear c136b0; try clear c137; try clear c137b0; try clear c138; try clear c138b0; try clear c139; try clear c139b0; try clear c139b1; try clear hx548_0; try clear hx556_0; try clear hx571_0; try clear hx572_0; try clear hx573_0; try clear p2; try clear p5; try clear p54; try clear p548; try clear p55; try clear p556; try clear p571; try clear p572; try clear p573; try clear p6; try clear p64; try clear q5; try clear q54; try clear q548; try clear q55; try clear q556; try clear q571; try clear q572; try clear q573
                            obtain ⟨kq, x331_132, rfl, HA, HJ132, Oq18, Oq20, Oq22, Oq28, Oq24, HB⟩ := hcut
                            cases kq with
                            | zero => exact absurd HA.out (by simp [laws_FnAlikeLengths.j8])
                            | succ kj132 =>
                             have H := HA.out
                             clear HA
                             simp only [laws_FnAlikeLengths.j8] at H
                             by_cases c140 : x331_132 = true
                             ·
                              subst c140
                              have H1 : (some false) = some true := by first | (rw [if_pos rfl] at H; exact H) | rfl
                              clear H
                              have H := H1
                              clear H1
                              exact absurd (Option.some.inj H) (by decide)
                             ·
                              replace c140 := Bool.eq_false_iff.mpr c140
                              subst c140
                              have H1 : (laws_FnAlikeLengths.l2 kj132 t499 t512 t520 x37_7 t560 t561 x303_8 (rd t512 x303_8) 0 0 t512 (t512.length : Int) x303_8 t512 (t512.length : Int) 0) = some true := by first | (rw [if_neg (show ¬ (false = true) by decide)] at H; exact H) | rfl
                              clear H
                              have H := H1
                              clear H1
                              have H' := Aside0.mk H
                              clear H
                              go_wp2
                              go_loopg [48, 334] kj132 (fun kq v48 v334 w' => ∃ (x48_10 : Int) (x334_10 : Int), v48 = .int .i64 x48_10 ∧ v334 = .int .i64 x334_10 ∧ Aside0 (laws_FnAlikeLengths.l2 kq t499 t512 t520 x37_7 t560 t561 x303_8 (rd t512 x303_8) x48_10 0 t512 (t512.length : Int) x303_8 t512 (t512.length : Int) x334_10 = some true) ∧ Aside0 (kq ≤ kj132) ∧ Aside0 (Kd.R (Kd.int .i64) 3 w' w.heap.size (fun k_ => some k_ ≠ ((.slice (some ad571) t512.length co129) : Value).ownBlock ∧ some k_ ≠ (v522 : Value).ownBlock ∧ some k_ ≠ (v562 : Value).ownBlock ∧ some k_ ≠ ((.slice (some ad571) t512.length co129) : Value).ownBlock ∧ some k_ ≠ ((.slice (some ad571) t512.length co129) : Value).ownBlock) (.slice Ao40 t499.length co40) t499) ∧ Aside0 (Kd.R (Kd.int .i64) 3 w' w.heap.size (fun k_ => some k_ ≠ ((.slice Ao40 t499.length co40) : Value).ownBlock ∧ some k_ ≠ (v522 : Value).ownBlock ∧ some k_ ≠ (v562 : Value).ownBlock) (.slice (some ad571) t512.length co129) t512) ∧ Aside0 (Kd.R (Kd.int .i64) 3 w' w.heap.size (fun k_ => some k_ ≠ ((.slice Ao40 t499.length co40) : Value).ownBlock ∧ some k_ ≠ ((.slice (some ad571) t512.length co129) : Value).ownBlock ∧ some k_ ≠ (v562 : Value).ownBlock ∧ some k_ ≠ ((.slice (some ad571) t512.length co129) : Value).ownBlock ∧ some k_ ≠ ((.slice (some ad571) t512.length co129) : Value).ownBlock) v522 t520) ∧ Aside0 (Kd.R (Kd.int .i64) 3 w' w.heap.size (fun k_ => some k_ ≠ ((.slice Ao40 t499.length co40) : Value).ownBlock ∧ some k_ ≠ ((.slice (some ad571) t512.length co129) : Value).ownBlock ∧ some k_ ≠ (v522 : Value).ownBlock ∧ some k_ ≠ ((.slice (some ad571) t512.length co129) : Value).ownBlock ∧ some k_ ≠ ((.slice (some ad571) t512.length co129) : Value).ownBlock) v562 t560) ∧ Aside0 (Kd.R (Kd.int .i64) 3 w' w.heap.size (fun k_ => some k_ ≠ ((.slice Ao40 t499.length co40) : Value).ownBlock ∧ some k_ ≠ (v522 : Value).ownBlock ∧ some k_ ≠ (v562 : Value).ownBlock) (.slice (some ad571) t512.length co129) t512) ∧ Aside0 (Kd.R (Kd.int .i64) 3 w' w.heap.size (fun k_ => some k_ ≠ ((.slice Ao40 t499.length co40) : Value).ownBlock ∧ some k_ ≠ (v522 : Value).ownBlock ∧ some k_ ≠ (v562 : Value).ownBlock) (.slice (some ad571) t512.length co129) t512) ∧ Aside0 (Below w.heap.size w w'))
                              case atStart => exact ⟨(0), (0), (by first | rfl | (simp; done) | (simp [*]; done)), (by first | rfl | (simp; done) | (simp [*]; done)), H', ⟨Nat.le_refl _⟩, ⟨by exact sqm Oq18 (fun _ hk => by first | exact ⟨hk.1, ⟨hk.2.1, ⟨hk.2.2.1, ⟨hk.2.2.2, hk.1⟩⟩⟩⟩ | (and_intros <;> first | trivial | simp only [hk, ne_eq, not_false_eq_true]))⟩, ⟨by (with_reducible repeat (first | apply Kd.R_alloc | apply Kd.R_drewN | apply Kd.R_drew)); exact Oq20.out⟩, ⟨by exact sqm Oq22 (fun _ hk => by first | exact ⟨hk.1, ⟨hk.2.1, ⟨hk.2.2.1, ⟨hk.2.2.2, hk.2.1⟩⟩⟩⟩ | (and_intros <;> first | trivial | simp only [hk, ne_eq, not_false_eq_true]))⟩, ⟨by exact sqm Oq28 (fun _ hk => by first | exact ⟨hk.1, ⟨hk.2.1, ⟨hk.2.2.1, ⟨hk.2.2.2, hk.2.1⟩⟩⟩⟩ | (and_intros <;> first | trivial | simp only [hk, ne_eq, not_false_eq_true]))⟩, ⟨by (with_reducible repeat (first | apply Kd.R_alloc | apply Kd.R_drewN | apply Kd.R_drew)); exact Oq24.out⟩, ⟨by (with_reducible repeat (first | apply Kd.R_alloc | apply Kd.R_drewN | apply Kd.R_drew)); exact Oq20.out⟩, ⟨by repeat with_reducible first | exact HB.out | apply pw_below_drewN | apply below_drew1⟩⟩
                              case round =>
                               clear H'
                               try clear c1; try clear c2; try clear p2; try clear c3; try clear c4; try clear c5; try clear p5; try clear q5; try clear hx5; try clear c6; try clear p6; try clear c7; try clear c8; try clear c9; try clear c10; try clear c11; try clear c13; try clear c14; try clear c14b0; try clear c14b1; try clear c14b2; try clear c15; try clear c17; try clear c19; try clear c22; try clear c23; try clear c25; try clear c25b0; try clear c25b1; try clear c25b2; try clear c32; try clear c33; try clear c34; try clear c35; try clear c36; try clear c37; try clear c38; try clear c39; try clear c40; try clear c41; try clear c42; try clear c44; try clear c45; try clear c46; try clear c48; try clear c48b0; try clear c48b1; try clear c48b2; try clear c50; try clear c51; try clear c51b0; try clear c51b1; try clear c51b2; try clear c52; try clear c52b0; try clear c52b1; try clear c52b2; try clear c54; try clear p54; try clear q54; try clear hx54; try clear c55; try clear c55b0; try clear c55b1; try clear c55b2; try clear p55; try clear q55; try clear hx55; try clear c57; try clear p57; try clear q57; try clear hx57; try clear c58; try clear c58b0; try clear c58b1; try clear c58b2; try clear p64; try clear c65; try clear c74; try clear c74b0; try clear c74b1; try clear c74b2; try clear c78; try clear c80; try clear c82; try clear c84; try clear c88; try clear c89; try clear c89b0; try clear c89b1; try clear c91; try clear c91b0; try clear c92; try clear c92b0; try clear c93; try clear c93b0; try clear c96; try clear c97; try clear c98; try clear c100; try clear c101; try clear c101b0; try clear c103; try clear c103b0; try clear c104; try clear c104b0; try clear c106; try clear c107; try clear c117; try clear c130; try clear c130b0; try clear c131; try clear c131b0; try clear c132; try clear c132b0; try clear c134; try clear c134b0; try clear c136; try clear c136b0; try clear c137; try clear c137b0; try clear c138; try clear c138b0; try clear c139; try clear c139b0; try clear c139b1; try clear c140; try clear hx548_0; try clear hx556_0; try clear hx571_0; try clear hx572_0; try clear hx573_0; try clear p2; try clear p5; try clear p54; try clear p548; try clear p55; try clear p556; try clear p57; try clear p571; try clear p572; try clear p573; try clear p6; try clear p64; try clear q5; try clear q54; try clear q548; try clear q55; try clear q556; try clear q57; try clear q571; try clear q572; try clear q573
                               obtain ⟨x48_10, x334_10, rfl, rfl, HA, HK10, Oq18, Oq20, Oq22, Oq28, Oq24, Oq26, HB⟩ := hrel
                               cases gk with
                               | zero => exact absurd HA.out (by simp [laws_FnAlikeLengths.l2])
                               | succ k10 =>
                                have H := HA.out
                                clear HA
                                simp only [laws_FnAlikeLengths.l2] at H
                                by_cases c141 : x334_10 < (t512.length : Int)
                                ·
                                 rw [if_pos c141] at H
                                 have c141b0 : decide (x334_10 < (t512.length : Int)) = true := decide_eq_true c141
                                 clear c141
                                 by_cases c142 : 0 ≤ x334_10
                                 ·
                                  rw [if_pos c142] at H
                                  have c142b0 : decide (0 ≤ x334_10) = true := decide_eq_true c142
                                  clear c142
                                  by_cases c143 : x334_10 < (t512.length : Int)
                                  ·
                                   rw [if_pos c143] at H
                                   have c143b0 : decide (x334_10 < (t512.length : Int)) = true := decide_eq_true c143
                                   clear c143
                                   by_cases c144 : (wrap64 ((rd t512 x334_10) - x334_10)) = (wrap64 ((rd t512 x303_8) - x303_8))
                                   ·
                                    rw [if_pos c144] at H
                                    have c144b0 : ((wrap64 ((rd t512 x334_10) - x334_10)) == (wrap64 ((rd t512 x303_8) - x303_8))) = true := beq_iff_eq.mpr c144
                                    have c144b1 : ((wrap64 ((rd t512 x334_10) - x334_10)) != (wrap64 ((rd t512 x303_8) - x303_8))) = false := bne_eq_false_iff_eq.mpr c144
                                    clear c144
                                    have H' := Aside0.mk H
                                    clear H
                                    have p574 : 0 ≤ (x334_10 : Int) := of_decide_eq_true (by first | (with_reducible assumption) | assumption)
                                    have q574 : x334_10 < (t512.length : Int) := of_decide_eq_true (by first | (with_reducible assumption) | assumption)
                                    obtain ⟨ad574, e574, hx574_0⟩ := Kd.at_int (Kd.R_reads' Oq26.out).2.2 x334_10 p574 q574
                                    obtain rfl : ad571 = ad574 := (by injection e574)
                                    replace p574 := eq_true p574
                                    replace q574 := eq_true q574
                                    go_wp2
                                    go_roundg k10
                                    case measure => have := HJ7.out; have := HJ15.out; have := HJ17.out; have := HJ37.out; have := HJ68.out; have := HJ78.out; have := HK7.out; have := HK8.out; have := HJ132.out; have := HK10.out; omega
                                    case rel => exact ⟨(wrap64 (x48_10 + 1)), (wrap64 (x334_10 + 1)), (by first | rfl | (simp; done) | (simp [*]; done)), (by first | rfl | (simp; done) | (simp [*]; done)), H', ⟨by have := HJ7.out; have := HJ15.out; have := HJ17.out; have := HJ37.out; have := HJ68.out; have := HJ78.out; have := HK7.out; have := HK8.out; have := HJ132.out; have := HK10.out; omega⟩, ⟨by (with_reducible repeat (first | apply Kd.R_alloc | apply Kd.R_drewN | apply Kd.R_drew)); exact Oq18.out⟩, ⟨by (with_reducible repeat (first | apply Kd.R_alloc | apply Kd.R_drewN | apply Kd.R_drew)); exact Oq20.out⟩, ⟨by (with_reducible repeat (first | apply Kd.R_alloc | apply Kd.R_drewN | apply Kd.R_drew)); exact Oq22.out⟩, ⟨by (with_reducible repeat (first | apply Kd.R_alloc | apply Kd.R_drewN | apply Kd.R_drew)); exact Oq28.out⟩, ⟨by (with_reducible repeat (first | apply Kd.R_alloc | apply Kd.R_drewN | apply Kd.R_drew)); exact Oq24.out⟩, ⟨by (with_reducible repeat (first | apply Kd.R_alloc | apply Kd.R_drewN | apply Kd.R_drew)); exact Oq26.out⟩, ⟨by repeat with_reducible first | exact HB.out | apply pw_below_drewN | apply below_drew1⟩⟩
                                   ·
                                    rw [if_neg c144] at H
                                    have c144b0 : ((wrap64 ((rd t512 x334_10) - x334_10)) == (wrap64 ((rd t512 x303_8) - x303_8))) = false := beq_eq_false_iff_ne.mpr c144
                                    have c144b1 : ((wrap64 ((rd t512 x334_10) - x334_10)) != (wrap64 ((rd t512 x303_8) - x303_8))) = true := bne_iff_ne.mpr c144
                                    have H' := Aside0.mk H
                                    clear H
                                    have p574 : 0 ≤ (x334_10 : Int) := of_decide_eq_true (by first | (with_reducible assumption) | assumption)
                                    have q574 : x334_10 < (t512.length : Int) := of_decide_eq_true (by first | (with_reducible assumption) | assumption)
                                    obtain ⟨ad574, e574, hx574_0⟩ := Kd.at_int (Kd.R_reads' Oq26.out).2.2 x334_10 p574 q574
                                    obtain rfl : ad571 = ad574 := (by injection e574)
                                    replace p574 := eq_true p574
                                    replace q574 := eq_true q574
                                    go_wp2
                                    go_roundg k10
                                    case measure => have := HJ7.out; have := HJ15.out; have := HJ17.out; have := HJ37.out; have := HJ68.out; have := HJ78.out; have := HK7.out; have := HK8.out; have := HJ132.out; have := HK10.out; omega
                                    case rel => exact ⟨(x48_10), (wrap64 (x334_10 + 1)), (by first | rfl | (simp; done) | (simp [*]; done)), (by first | rfl | (simp; done) | (simp [*]; done)), H', ⟨by have := HJ7.out; have := HJ15.out; have := HJ17.out; have := HJ37.out; have := HJ68.out; have := HJ78.out; have := HK7.out; have := HK8.out; have := HJ132.out; have := HK10.out; omega⟩, ⟨by (with_reducible repeat (first | apply Kd.R_alloc | apply Kd.R_drewN | apply Kd.R_drew)); exact Oq18.out⟩, ⟨by (with_reducible repeat (first | apply Kd.R_alloc | apply Kd.R_drewN | apply Kd.R_drew)); exact Oq20.out⟩, ⟨by (with_reducible repeat (first | apply Kd.R_alloc | apply Kd.R_drewN | apply Kd.R_drew)); exact Oq22.out⟩, ⟨by (with_reducible repeat (first | apply Kd.R_alloc | apply Kd.R_drewN | apply Kd.R_drew)); exact Oq28.out⟩, ⟨by (with_reducible repeat (first | apply Kd.R_alloc | apply Kd.R_drewN | apply Kd.R_drew)); exact Oq24.out⟩, ⟨by (with_reducible repeat (first | apply Kd.R_alloc | apply Kd.R_drewN | apply Kd.R_drew)); exact Oq26.out⟩, ⟨by repeat with_reducible first | exact HB.out | apply pw_below_drewN | apply below_drew1⟩⟩
                                  ·
                                   rw [if_neg c143] at H
                                   exact absurd H (by simp)
                                 ·
                                  rw [if_neg c142] at H
                                  exact absurd H (by simp)
                                ·
                                 rw [if_neg c141] at H
                                 have c141b0 : decide (x334_10 < (t512.length : Int)) = false := decide_eq_false c141
                                 clear c141
                                 have H' := Aside0.mk H
                                 clear H
                                 obtain ⟨Ao145, co145, eo145⟩ := Kd.R_slice Oq28.out
                                 subst eo145
                                 go_wp2
                                 go_loopg [49, 351] k10 (fun kq v49 v351 w' => ∃ (x49_11 : Int) (x351_11 : Int), v49 = .int .i64 x49_11 ∧ v351 = .int .i64 x351_11 ∧ Aside0 (laws_FnAlikeLengths.l3 kq t499 t512 t520 x37_7 t560 t561 x303_8 (rd t512 x303_8) x48_10 x49_11 t512 (t512.length : Int) x303_8 t560 (t560.length : Int) x351_11 = some true) ∧ Aside0 (kq ≤ k10) ∧ Aside0 (Kd.R (Kd.int .i64) 3 w' w.heap.size (fun k_ => some k_ ≠ ((.slice (some ad571) t512.length co129) : Value).ownBlock ∧ some k_ ≠ (v522 : Value).ownBlock ∧ some k_ ≠ ((.slice Ao145 t560.length co145) : Value).ownBlock ∧ some k_ ≠ ((.slice (some ad571) t512.length co129) : Value).ownBlock ∧ some k_ ≠ ((.slice Ao145 t560.length co145) : Value).ownBlock) (.slice Ao40 t499.length co40) t499) ∧ Aside0 (Kd.R (Kd.int .i64) 3 w' w.heap.size (fun k_ => some k_ ≠ ((.slice Ao40 t499.length co40) : Value).ownBlock ∧ some k_ ≠ (v522 : Value).ownBlock ∧ some k_ ≠ ((.slice Ao145 t560.length co145) : Value).ownBlock ∧ some k_ ≠ ((.slice Ao145 t560.length co145) : Value).ownBlock) (.slice (some ad571) t512.length co129) t512) ∧ Aside0 (Kd.R (Kd.int .i64) 3 w' w.heap.size (fun k_ => some k_ ≠ ((.slice Ao40 t499.length co40) : Value).ownBlock ∧ some k_ ≠ ((.slice (some ad571) t512.length co129) : Value).ownBlock ∧ some k_ ≠ ((.slice Ao145 t560.length co145) : Value).ownBlock ∧ some k_ ≠ ((.slice (some ad571) t512.length co129) : Value).ownBlock ∧ some k_ ≠ ((.slice Ao145 t560.length co145) : Value).ownBlock) v522 t520) ∧ Aside0 (Kd.R (Kd.int .i64) 3 w' w.heap.size (fun k_ => some k_ ≠ ((.slice Ao40 t499.length co40) : Value).ownBlock ∧ some k_ ≠ ((.slice (some ad571) t512.length co129) : Value).ownBlock ∧ some k_ ≠ (v522 : Value).ownBlock ∧ some k_ ≠ ((.slice (some ad571) t512.length co129) : Value).ownBlock) (.slice Ao145 t560.length co145) t560) ∧ Aside0 (Kd.R (Kd.int .i64) 3 w' w.heap.size (fun k_ => some k_ ≠ ((.slice Ao40 t499.length co40) : Value).ownBlock ∧ some k_ ≠ (v522 : Value).ownBlock ∧ some k_ ≠ ((.slice Ao145 t560.length co145) : Value).ownBlock ∧ some k_ ≠ ((.slice Ao145 t560.length co145) : Value).ownBlock) (.slice (some ad571) t512.length co129) t512) ∧ Aside0 (Kd.R (Kd.int .i64) 3 w' w.heap.size (fun k_ => some k_ ≠ ((.slice Ao40 t499.length co40) : Value).ownBlock ∧ some k_ ≠ ((.slice (some ad571) t512.length co129) : Value).ownBlock ∧ some k_ ≠ (v522 : Value).ownBlock ∧ some k_ ≠ ((.slice (some ad571) t512.length co129) : Value).ownBlock) (.slice Ao145 t560.length co145) t560) ∧ Aside0 (Below w.heap.size w w'))
                                 case atStart => exact ⟨(0), (0), (by first | rfl | (simp; done) | (simp [*]; done)), (by first | rfl | (simp; done) | (simp [*]; done)), H', ⟨Nat.le_refl _⟩, ⟨by exact sqm Oq18 (fun _ hk => by first | exact ⟨hk.1, ⟨hk.2.1, ⟨hk.2.2.1, ⟨hk.2.2.2.1, hk.2.2.1⟩⟩⟩⟩ | (and_intros <;> first | trivial | simp only [hk, ne_eq, not_false_eq_true]))⟩, ⟨by exact sqm Oq20 (fun _ hk => by first | exact ⟨hk.1, ⟨hk.2.1, ⟨hk.2.2, hk.2.2⟩⟩⟩ | (and_intros <;> first | trivial | simp only [hk, ne_eq, not_false_eq_true]))⟩, ⟨by exact sqm Oq22 (fun _ hk => by first | exact ⟨hk.1, ⟨hk.2.1, ⟨hk.2.2.1, ⟨hk.2.2.2.1, hk.2.2.1⟩⟩⟩⟩ | (and_intros <;> first | trivial | simp only [hk, ne_eq, not_false_eq_true]))⟩, ⟨by exact sqm Oq28 (fun _ hk => by first | exact ⟨hk.1, ⟨hk.2.1, ⟨hk.2.2.1, hk.2.2.2.1⟩⟩⟩ | (and_intros <;> first | trivial | simp only [hk, ne_eq, not_false_eq_true]))⟩, ⟨by exact sqm Oq24 (fun _ hk => by first | exact ⟨hk.1, ⟨hk.2.1, ⟨hk.2.2, hk.2.2⟩⟩⟩ | (and_intros <;> first | trivial | simp only [hk, ne_eq, not_false_eq_true]))⟩, ⟨by exact sqm Oq28 (fun _ hk => by first | exact ⟨hk.1, ⟨hk.2.1, ⟨hk.2.2.1, hk.2.2.2.1⟩⟩⟩ | (and_intros <;> first | trivial | simp only [hk, ne_eq, not_false_eq_true]))⟩, ⟨by repeat with_reducible first | exact HB.out | apply pw_below_drewN | apply below_drew1⟩⟩
                                 case round =>
                                  clear H'
                                  try clear c1; try clear c2; try clear p2; try clear c3; try clear c4; try clear c5; try clear p5; try clear q5; try clear hx5; try clear c6; try clear p6; try clear c7; try clear c8; try clear c9; try clear c10; try clear c11; try clear c13; try clear c14; try clear c14b0; try clear c14b1; try clear c14b2; try clear c15; try clear c17; try clear c19; try clear c22; try clear c23; try clear c25; try clear c25b0; try clear c25b1; try clear c25b2; try clear c32; try clear c33; try clear c34; try clear c35; try clear c36; try clear c37; try clear c38; try clear c39; try clear c40; try clear c41; try clear c42; try clear c44; try clear c45; try clear c46; try clear c48; try clear c48b0; try clear c48b1; try clear c48b2; try clear c50; try clear c51; try clear c51b0; try clear c51b1; try clear c51b2; try clear c52; try clear c52b0; try clear c52b1; try clear c52b2; try clear c54; try clear p54; try clear q54; try clear hx54; try clear c55; try clear c55b0; try clear c55b1; try clear c55b2; try clear p55; try clear q55; try clear hx55; try clear c57; try clear p57; try clear q57; try clear hx57; try clear c58; try clear c58b0; try clear c58b1; try clear c58b2; try clear p64; try clear c65; try clear c74; try clear c74b0; try clear c74b1; try clear c74b2; try clear c78; try clear c80; try clear c82; try clear c84; try clear c88; try clear c89; try clear c89b0; try clear c89b1; try clear c91; try clear c91b0; try clear c92; try clear c92b0; try clear c93; try clear c93b0; try clear c96; try clear c97; try clear c98; try clear c100; try clear c101; try clear c101b0; try clear c103; try clear c103b0; try clear c104; try clear c104b0; try clear c106; try clear c107; try clear c117; try clear c130; try clear c130b0; try clear c131; try clear c131b0; try clear c132; try clear c132b0; try clear c134; try clear c134b0; try clear c136; try clear c136b0; try clear c137; try clear c137b0; try clear c138; try clear c138b0; try clear c139; try clear c139b0; try clear c139b1; try clear c140; try clear c141; try clear c141b0; try clear c142; try clear c142b0; try clear c143; try clear c143b0; try clear c144; try clear c144b0; try clear c144b1; try clear hx548_0; try clear hx556_0; try clear hx571_0; try clear hx572_0; try clear hx573_0; try clear hx574_0; try clear p2; try clear p5; try clear p54; try clear p548; try clear p55; try clear p556; try clear p57; try clear p571; try clear p572; try clear p573; try clear p574; try clear p6; try clear p64; try clear q5; try clear q54; try clear q548; try clear q55; try clear q556; try clear q57; try clear q571; try clear q572; try clear q573; try clear q574
                                  obtain ⟨x49_11, x351_11, rfl, rfl, HA, HK11, Oq18, Oq20, Oq22, Oq28, Oq24, Oq27, HB⟩ := hrel
                                  cases gk with
                                  | zero => exact absurd HA.out (by simp [laws_FnAlikeLengths.l3])
                                  | succ k11 =>
                                   have H := HA.out
                                   clear HA
                                   simp only [laws_FnAlikeLengths.l3] at H
                                   by_cases c146 : x351_11 < (t560.length : Int)
                                   ·
                                    rw [if_pos c146] at H
                                    have c146b0 : decide (x351_11 < (t560.length : Int)) = true := decide_eq_true c146
                                    clear c146
                                    by_cases c147 : 0 ≤ x351_11
                                    ·
                                     rw [if_pos c147] at H
                                     have c147b0 : decide (0 ≤ x351_11) = true := decide_eq_true c147
                                     clear c147
                                     by_cases c148 : x351_11 < (t560.length : Int)
                                     ·
                                      rw [if_pos c148] at H
                                      have c148b0 : decide (x351_11 < (t560.length : Int)) = true := decide_eq_true c148
                                      clear c148
                                      by_cases c149 : (rd t560 x351_11) = (wrap64 ((rd t512 x303_8) - x303_8))
                                      ·
                                       rw [if_pos c149] at H
                                       have c149b0 : ((rd t560 x351_11) == (wrap64 ((rd t512 x303_8) - x303_8))) = true := beq_iff_eq.mpr c149
                                       have c149b1 : ((rd t560 x351_11) != (wrap64 ((rd t512 x303_8) - x303_8))) = false := bne_eq_false_iff_eq.mpr c149
                                       clear c149
                                       have H' := Aside0.mk H
                                       clear H
                                       have p575 : 0 ≤ (x351_11 : Int) := of_decide_eq_true (by first | (with_reducible assumption) | assumption)
                                       have q575 : x351_11 < (t560.length : Int) := of_decide_eq_true (by first | (with_reducible assumption) | assumption)
                                       obtain ⟨ad575, e575, hx575_0⟩ := Kd.at_int (Kd.R_reads' Oq27.out).2.2 x351_11 p575 q575
                                       cases e575
                                       replace p575 := eq_true p575
                                       replace q575 := eq_true q575
                                       go_wp2
                                       go_roundg k11
                                       case measure => have := HJ7.out; have := HJ15.out; have := HJ17.out; have := HJ37.out; have := HJ68.out; have := HJ78.out; have := HK7.out; have := HK8.out; have := HJ132.out; have := HK10.out; have := HK11.out; omega
                                       case rel => exact ⟨(wrap64 (x49_11 + 1)), (wrap64 (x351_11 + 1)), (by first | rfl | (simp; done) | (simp [*]; done)), (by first | rfl | (simp; done) | (simp [*]; done)), H', ⟨by have := HJ7.out; have := HJ15.out; have := HJ17.out; have := HJ37.out; have := HJ68.out; have := HJ78.out; have := HK7.out; have := HK8.out; have := HJ132.out; have := HK10.out; have := HK11.out; omega⟩, ⟨by (with_reducible repeat (first | apply Kd.R_alloc | apply Kd.R_drewN | apply Kd.R_drew)); exact Oq18.out⟩, ⟨by (with_reducible repeat (first | apply Kd.R_alloc | apply Kd.R_drewN | apply Kd.R_drew)); exact Oq20.out⟩, ⟨by (with_reducible repeat (first | apply Kd.R_alloc | apply Kd.R_drewN | apply Kd.R_drew)); exact Oq22.out⟩, ⟨by (with_reducible repeat (first | apply Kd.R_alloc | apply Kd.R_drewN | apply Kd.R_drew)); exact Oq28.out⟩, ⟨by (with_reducible repeat (first | apply Kd.R_alloc | apply Kd.R_drewN | apply Kd.R_drew)); exact Oq24.out⟩, ⟨by (with_reducible repeat (first | apply Kd.R_alloc | apply Kd.R_drewN | apply Kd.R_drew)); exact Oq27.out⟩, ⟨by repeat with_reducible first | exact HB.out | apply pw_below_drewN | apply below_drew1⟩⟩
                                      ·
                                       rw [if_neg c149] at H
                                       have c149b0 : ((rd t560 x351_11) == (wrap64 ((rd t512 x303_8) - x303_8))) = false := beq_eq_false_iff_ne.mpr c149
                                       have c149b1 : ((rd t560 x351_11) != (wrap64 ((rd t512 x303_8) - x303_8))) = true := bne_iff_ne.mpr c149
                                       have H' := Aside0.mk H
                                       clear H
                                       have p575 : 0 ≤ (x351_11 : Int) := of_decide_eq_true (by first | (with_reducible assumption) | assumption)
                                       have q575 : x351_11 < (t560.length : Int) := of_decide_eq_true (by first | (with_reducible assumption) | assumption)
                                       obtain ⟨ad575, e575, hx575_0⟩ := Kd.at_int (Kd.R_reads' Oq27.out).2.2 x351_11 p575 q575
                                       cases e575
                                       replace p575 := eq_true p575
                                       replace q575 := eq_true q575
                                       go_wp2
                                       go_roundg k11
                                       case measure => have := HJ7.out; have := HJ15.out; have := HJ17.out; have := HJ37.out; have := HJ68.out; have := HJ78.out; have := HK7.out; have := HK8.out; have := HJ132.out; have := HK10.out; have := HK11.out; omega
                                       case rel => exact ⟨(x49_11), (wrap64 (x351_11 + 1)), (by first | rfl | (simp; done) | (simp [*]; done)), (by first | rfl | (simp; done) | (simp [*]; done)), H', ⟨by have := HJ7.out; have := HJ15.out; have := HJ17.out; have := HJ37.out; have := HJ68.out; have := HJ78.out; have := HK7.out; have := HK8.out; have := HJ132.out; have := HK10.out; have := HK11.out; omega⟩, ⟨by (with_reducible repeat (first | apply Kd.R_alloc | apply Kd.R_drewN | apply Kd.R_drew)); exact Oq18.out⟩, ⟨by (with_reducible repeat (first | apply Kd.R_alloc | apply Kd.R_drewN | apply Kd.R_drew)); exact Oq20.out⟩, ⟨by (with_reducible repeat (first | apply Kd.R_alloc | apply Kd.R_drewN | apply Kd.R_drew)); exact Oq22.out⟩, ⟨by (with_reducible repeat (first | apply Kd.R_alloc | apply Kd.R_drewN | apply Kd.R_drew)); exact Oq28.out⟩, ⟨by (with_reducible repeat (first | apply Kd.R_alloc | apply Kd.R_drewN | apply Kd.R_drew)); exact Oq24.out⟩, ⟨by (with_reducible repeat (first | apply Kd.R_alloc | apply Kd.R_drewN | apply Kd.R_drew)); exact Oq27.out⟩, ⟨by repeat with_reducible first | exact HB.out | apply pw_below_drewN | apply below_drew1⟩⟩
                                     ·
                                      rw [if_neg c148] at H
                                      exact absurd H (by simp)
                                    ·
                                     rw [if_neg c147] at H
                                     exact absurd H (by simp)
                                   ·
                                    rw [if_neg c146] at H
                                    have c146b0 : decide (x351_11 < (t560.length : Int)) = false := decide_eq_false c146
                                    clear c146
                                    by_cases c150 : x48_10 = x49_11
                                    ·
                                     rw [if_pos c150] at H
                                     have c150b0 : (x48_10 == x49_11) = true := beq_iff_eq.mpr c150
                                     have c150b1 : (x48_10 != x49_11) = false := bne_eq_false_iff_eq.mpr c150
                                     clear c150
                                     have H' := Aside0.mk H
                                     clear H
                                     go_wp2
                                     go_roundg k11
                                     case measure => have := HJ7.out; have := HJ15.out; have := HJ17.out; have := HJ37.out; have := HJ68.out; have := HJ78.out; have := HK7.out; have := HK8.out; have := HJ132.out; have := HK10.out; have := HK11.out; omega
                                     case rel => exact ⟨(wrap64 (x303_8 + 1)), (by first | rfl | (simp; done) | (simp [*]; done)), H', ⟨by have := HJ7.out; have := HJ15.out; have := HJ17.out; have := HJ37.out; have := HJ68.out; have := HJ78.out; have := HK7.out; have := HK8.out; have := HJ132.out; have := HK10.out; have := HK11.out; omega⟩, ⟨by exact sqm Oq18 (fun _ hk => by first | exact ⟨hk.1, ⟨hk.2.1, ⟨hk.2.2.1, hk.2.2.2.1⟩⟩⟩ | (and_intros <;> first | trivial | simp only [hk, ne_eq, not_false_eq_true]))⟩, ⟨by exact sqm Oq20 (fun _ hk => by first | exact ⟨hk.1, ⟨hk.2.1, hk.2.2.1⟩⟩ | (and_intros <;> first | trivial | simp only [hk, ne_eq, not_false_eq_true]))⟩, ⟨by exact sqm Oq22 (fun _ hk => by first | exact ⟨hk.1, ⟨hk.2.1, ⟨hk.2.2.1, hk.2.2.2.1⟩⟩⟩ | (and_intros <;> first | trivial | simp only [hk, ne_eq, not_false_eq_true]))⟩, ⟨by (with_reducible repeat (first | apply Kd.R_alloc | apply Kd.R_drewN | apply Kd.R_drew)); exact Oq28.out⟩, ⟨by exact sqm Oq24 (fun _ hk => by first | exact ⟨hk.1, ⟨hk.2.1, hk.2.2.1⟩⟩ | (and_intros <;> first | trivial | simp only [hk, ne_eq, not_false_eq_true]))⟩, ⟨by repeat with_reducible first | exact HB.out | apply pw_below_drewN | apply below_drew1⟩⟩
                                    ·
                                     rw [if_neg c150] at H
                                     have c150b0 : (x48_10 == x49_11) = false := beq_eq_false_iff_ne.mpr c150
                                     have c150b1 : (x48_10 != x49_11) = true := bne_iff_ne.mpr c150
                                     exact absurd (Option.some.inj H) (by decide)
                          ·
                           rw [if_neg c132] at H
                           exact absurd H (by simp)
                         ·
                          rw [if_neg c131] at H
                          exact absurd H (by simp)
                        ·
                         rw [if_neg c130] at H
                         have c130b0 : decide (x303_8 < (t512.length : Int)) = false := decide_eq_false c130
                         clear c130
                         replace H := Option.bind_eq_some_iff.mp H
                         obtain ⟨⟨t564, t565⟩, A1510, H⟩ := H
                         replace H : ((impl_SideOfLengths.f k8 t520).bind fun bt566 => (if t561 = true then (if x37_7 = true then (if t565 = true then (if t564 = true then (if bt566.2 = true then ((laws_rSame.f k8 bt566.1 t499).bind fun t570 => (some t570)) else (some false)) else (some false)) else (some false)) else (some false)) else (some false))) = some true := H
                         have A151 := Aside0.mk A1510
                         clear A1510
                         replace H := Option.bind_eq_some_iff.mp H
                         obtain ⟨⟨t566, t567⟩, A1520, H⟩ := H
                         replace H : (if t561 = true then (if x37_7 = true then (if t565 = true then (if t564 = true then (if t567 = true then ((laws_rSame.f k8 t566 t499).bind fun t570 => (some t570)) else (some false)) else (some false)) else (some false)) else (some false)) else (some false)) = some true := H
                         have A152 := Aside0.mk A1520
                         clear A1520
                         by_cases c153 : t561 = true
                         ·
                          subst c153
                          have H1 : (if x37_7 = true then (if t565 = true then (if t564 = true then (if t567 = true then ((laws_rSame.f k8 t566 t499).bind fun t570 => (some t570)) else (some false)) else (some false)) else (some false)) else (some false)) = some true := by first | (rw [if_pos rfl] at H; exact H) | rfl
                          clear H
                          have H := H1
                          clear H1
                          by_cases c154 : x37_7 = true
                          ·
                           subst c154
                           have H1 : (if t565 = true then (if t564 = true then (if t567 = true then ((laws_rSame.f k8 t566 t499).bind fun t570 => (some t570)) else (some false)) else (some false)) else (some false)) = some true := by first | (rw [if_pos rfl] at H; exact H) | rfl
                           clear H
                           have H := H1
                           clear H1
                           by_cases c155 : t565 = true
                           ·
                            subst c155
                            have H1 : (if t564 = true then (if t567 = true then ((laws_rSame.f k8 t566 t499).bind fun t570 => (some t570)) else (some false)) else (some false)) = some true := by first | (rw [if_pos rfl] at H; exact H) | rfl
                            clear H
                            have H := H1
                            clear H1
                            by_cases c156 : t564 = true
                            ·
                             subst c156
                             have H1 : (if t567 = true then ((laws_rSame.f k8 t566 t499).bind fun t570 => (some t570)) else (some false)) = some true := by first | (rw [if_pos rfl] at H; exact H) | rfl
                             clear H
                             have H := H1
                             clear H1
                             by_cases c157 : t567 = true
                             ·
                              subst c157
                              have H1 : ((laws_rSame.f k8 t566 t499).bind fun t570 => (some t570)) = some true := by first | (rw [if_pos rfl] at H; exact H) | rfl
                              clear H
                              have H := H1
                              clear H1
                              replace H := Option.bind_eq_some_iff.mp H
                              obtain ⟨t570, A1580, H⟩ := H
                              replace H : (some t570) = some true := H
                              have A158 := Aside0.mk A1580
                              clear A1580
                              have hb_ := Option.some.inj H
                              obtain ⟨Ao159, co159, eo159⟩ := Kd.R_slice Oq22.out
                              subst eo159
                              go_wp2_with (first | ((with_reducible refine gate_callee (f := 33) rfl ?_); refine goesL_ (some 370) rfl rfl Try.func33 (by kernel_rfl) rfl #[.slice Ao159 t520.length co159, .slice Ao40 t499.length co40] rfl (by (try simp only [List.map_toArray, List.map_cons, List.map_nil]); try rfl) ?_; (with_reducible refine (impl_AreAlikeLengths.calls k8 _ _ t520 _ _ t499 true true _ ?side1 ?side2 ?side3 ?side4 A151.out).mono ?_); (case side1 => repeat (first | exact (Kd.R_reads' Oq22.out).2.2 | (with_reducible first | refine Kd.C_alloc ?_ _ | refine Kd.C_drewN ?_ _ | refine Kd.C_drew ?_))); (case side2 => exact (Kd.R_reads' Oq22.out).2.1); (case side3 => repeat (first | exact (Kd.R_reads' Oq18.out).2.2 | (with_reducible first | refine Kd.C_alloc ?_ _ | refine Kd.C_drewN ?_ _ | refine Kd.C_drew ?_))); (case side4 => exact (Kd.R_reads' Oq18.out).2.1); rintro e w160 ⟨rfl, hb⟩; refine ⟨_, rfl, ?_⟩; have n5_ := am (below_step (by repeat with_reducible first | exact HB.out | apply pw_below_drewN | apply below_drew1) hb); clear HB; replace Oq18 := sqR Oq18 hb; replace Oq20 := sqR Oq20 hb; replace Oq22 := sqR Oq22 hb; replace Oq28 := sqR Oq28 hb; replace Oq24 := sqR Oq24 hb; have HB := n5_; clear n5_; (try clear hb); (try clear hb2); (try clear hk); (try clear hi)) | ((with_reducible refine gate_callee (f := 41) rfl ?_); refine goesL_ (some 375) rfl rfl Try.func41 (by kernel_rfl) rfl #[.slice Ao159 t520.length co159] rfl (by (try simp only [List.map_toArray, List.map_cons, List.map_nil]); try rfl) ?_; (with_reducible refine (impl_SideOfLengths.calls k8 _ _ t520 t566 true _ ?side1 ?side2 A152.out).mono ?_); (case side1 => repeat (first | exact (Kd.R_reads' Oq22.out).2.2 | (with_reducible first | refine Kd.C_alloc ?_ _ | refine Kd.C_drewN ?_ _ | refine Kd.C_drew ?_))); (case side2 => exact (Kd.R_reads' Oq22.out).2.1); rintro e w161 ⟨v568, rfl, ho0, hb⟩; refine ⟨_, rfl, ?_⟩; have n5_ := am (Kd.R_lower (Kd.R_new' (Kd.R_new' (Kd.R_new' (Kd.R_new' (Kd.R_new' ho0 (sqL Oq18)) (sqL Oq20)) (sqL Oq22)) (sqL Oq28)) (sqL Oq24)) (below_size (by repeat with_reducible first | exact HB.out | apply pw_below_drewN | apply below_drew1))); have n6_ := am (below_step (by repeat with_reducible first | exact HB.out | apply pw_below_drewN | apply below_drew1) hb); clear HB; replace Oq18 := sqE Oq18 ho0 hb; replace Oq20 := sqE Oq20 ho0 hb; replace Oq22 := sqE Oq22 ho0 hb; replace Oq28 := sqE Oq28 ho0 hb; replace Oq24 := sqE Oq24 ho0 hb; have Oq17 := n5_; have HB := n6_; clear n5_ n6_; (try clear hb); (try clear hb2); (try clear hk); (try clear hi); (try clear ho0); obtain ⟨Ao162, co162, eo162⟩ := Kd.R_slice Oq17.out; subst eo162) | (go_at_call 23; (with_reducible refine (laws_rSame.calls k8 _ _ t566 _ _ t499 t570 _ ?side1 ?side2 ?side3 ?side4 A158.out).mono ?_); (case side1 => repeat (first | exact (Kd.R_reads' Oq17.out).2.2 | (with_reducible first | refine Kd.C_alloc ?_ _ | refine Kd.C_drewN ?_ _ | refine Kd.C_drew ?_))); (case side2 => exact (Kd.R_reads' Oq17.out).2.1); (case side3 => repeat (first | exact (Kd.R_reads' Oq18.out).2.2 | (with_reducible first | refine Kd.C_alloc ?_ _ | refine Kd.C_drewN ?_ _ | refine Kd.C_drew ?_))); (case side4 => exact (Kd.R_reads' Oq18.out).2.1); rintro e w' ⟨rfl, ⟨nd, rfl⟩⟩))
                              go_ret
                              exact ⟨by first | rfl | (rw [hb_]) | (simp [errW_none, errW_some] <;> rfl) | (simp [*, errW_none, errW_some] <;> rfl), by repeat with_reducible first | exact HB.out | apply pw_below_drewN | apply below_drew1⟩
                             ·
                              replace c157 := Bool.eq_false_iff.mpr c157
                              subst c157
                              have H1 : (some false) = some true := by first | (rw [if_neg (show ¬ (false = true) by decide)] at H; exact H) | rfl
                              clear H
                              have H := H1
                              clear H1
                              exact absurd (Option.some.inj H) (by decide)
                            ·
                             replace c156 := Bool.eq_false_iff.mpr c156
                             subst c156
                             have H1 : (some false) = some true := by first | (rw [if_neg (show ¬ (false = true) by decide)] at H; exact H) | rfl
                             clear H
                             have H := H1
                             clear H1
                             exact absurd (Option.some.inj H) (by decide)
                           ·
                            replace c155 := Bool.eq_false_iff.mpr c155
                            subst c155
                            have H1 : (some false) = some true := by first | (rw [if_neg (show ¬ (false = true) by decide)] at H; exact H) | rfl
                            clear H
                            have H := H1
                            clear H1
                            exact absurd (Option.some.inj H) (by decide)
                          ·
                           replace c154 := Bool.eq_false_iff.mpr c154
                           subst c154
                           have H1 : (some false) = some true := by first | (rw [if_neg (show ¬ (false = true) by decide)] at H; exact H) | rfl
                           clear H
                           have H := H1
                           clear H1
                           exact absurd (Option.some.inj H) (by decide)
                         ·
                          replace c153 := Bool.eq_false_iff.mpr c153
                          subst c153
                          have H1 : (some false) = some true := by first | (rw [if_neg (show ¬ (false = true) by decide)] at H; exact H) | rfl
                          clear H
                          have H := H1
                          clear H1
                          exact absurd (Option.some.inj H) (by decide)
                  ·
                   rw [if_neg c89] at H
                   have c89b0 : (t510 == (t502.length : Int)) = false := beq_eq_false_iff_ne.mpr c89
                   have c89b1 : (t510 != (t502.length : Int)) = true := bne_iff_ne.mpr c89
                   exact absurd (Option.some.inj H) (by decide)
                 ·
                  replace c88 := Bool.eq_false_iff.mpr c88
                  subst c88
                  have H1 : (some true) = some true := by first | (rw [if_neg (show ¬ (false = true) by decide)] at H; exact H) | rfl
                  clear H
                  have H := H1
                  clear H1 H
                  go_wp2
                  go_ret
                  exact ⟨by first | rfl | (simp [errW_none, errW_some] <;> rfl) | (simp [*, errW_none, errW_some] <;> rfl), by repeat with_reducible first | exact HB.out | apply pw_below_drewN | apply below_drew1⟩

/-- The pure statement of laws_FnAlikeLengths. -/
def laws_FnAlikeLengths.Pure : Prop := ∀ (l0 : List Int) (l1 : List Int), l0.length ≤ maxLen → (∀ x ∈ l0, (Lit.int .u8 x).wf = true) → l1.length ≤ maxLen → (∀ x ∈ l1, (Lit.int .u8 x).wf = true) → ∃ k, laws_FnAlikeLengths.f k l0 l1 = some true

end Go.Proofs.Ytfgfgkpmkfjeiaa.PFnAlikeLengths
