-- Printed for this claim by wip/pp.py over the kit's printer; Lean checks it.
import Derived.Test.YtfgfgkpmkfjeiaaPFnOrderedBoardsx0
import Derived.Test.YtfgfgkpmkfjeiaaPFnOrderedBoardsx1
import Derived.Test.YtfgfgkpmkfjeiaaPFnOrderedBoardsx2
import Derived.Test.YtfgfgkpmkfjeiaaPFnOrderedBoardsx3
import Derived.Test.YtfgfgkpmkfjeiaaPFnOrderedBoardsx8
import Derived.Test.YtfgfgkpmkfjeiaaPFnOrderedBoardsx9
import Derived.Test.YtfgfgkpmkfjeiaaPFnOrderedBoardsx10
import Derived.Test.YtfgfgkpmkfjeiaaPFnOrderedBoardsx11
import Derived.Test.YtfgfgkpmkfjeiaaPFnOrderedBoardsx12
namespace Go.Proofs.Ytfgfgkpmkfjeiaa.PFnOrderedBoards
open Go.RowKit Go.Proofs.YtfgfgkpmkfjeiaaW.PrintWords Go.Proofs.YtfgfgkpmkfjeiaaW.PrintLast Go.Proofs.YtfgfgkpmkfjeiaaW.PrintMore
attribute [local go_sem] max2_int min2_int max_two min_two max_three min_three max_four min_four   -- for this text's walks alone
set_option linter.unusedVariables false
set_option linter.unusedSimpArgs false

/-! ### laws_FnOrderedBoards: function 9 -/
mutual
def laws_FnOrderedBoards.j0 : Nat → List Int → List Int → Bool → Bool → Int → Int → List Int → Option (Bool)
 | 0, _, _, _, _, _, _, _ => none
 | k + 1, x1, x6, x9, x79, x490000, x490001, x490002 => if x79 = true then (some false) else ((spec_DrawOrderOf.f k x1).bind fun bt503 => ((impl_OrderOf.f k bt503.1 bt503.2.1 bt503.2.2).bind fun bt509 => ((spec_OrderOf.f k bt503.1 bt503.2.1 bt503.2.2).bind fun bt513 => (if (bt509.2 != bt513.2) = true then (laws_FnOrderedBoards.j1 k x6 x9 bt509.1 bt509.2 true x490000 x490001 x490002 bt503.1 bt503.2.1 bt503.2.2) else ((laws_rSame.f k bt509.1 bt513.1).bind fun t517 => (laws_FnOrderedBoards.j1 k x6 x9 bt509.1 bt509.2 (!t517) x490000 x490001 x490002 bt503.1 bt503.2.1 bt503.2.2))))))
def laws_FnOrderedBoards.j1 : Nat → List Int → Bool → List Int → Bool → Bool → Int → Int → List Int → Int → Int → List Int → Option (Bool)
 | 0, _, _, _, _, _, _, _, _, _, _, _ => none
 | k + 1, x6, x9, x15, x16, x100, x490000, x490001, x490002, x509000, x509001, x509002 => if x100 = true then (some false) else (if x16 = true then ((impl_OrderRows.f k x509000 x509001 x509002 x15).bind fun bt518 => ((impl_IsOrdered.f k bt518.1 bt518.2.1 bt518.2.2.1).bind fun bt525 => ((impl_AreAlike.f k x509000 x509001 x509002 bt518.1 bt518.2.1 bt518.2.2.1).bind fun bt527 => (if bt518.2.2.2 = true then (if bt525.2 = true then (if bt525.1 = true then (if bt527.2 = true then (if bt527.1 = true then (laws_FnOrderedBoards.j2 k x6 x9 x490000 x490001 x490002) else (some false)) else (some false)) else (some false)) else (some false)) else (some false))))) else (laws_FnOrderedBoards.j2 k x6 x9 x490000 x490001 x490002))
def laws_FnOrderedBoards.j2 : Nat → List Int → Bool → Int → Int → List Int → Option (Bool)
 | 0, _, _, _, _, _ => none
 | k + 1, x6, x9, x490000, x490001, x490002 => if x9 = true then ((impl_BoardOfLengths.f k x6).bind fun bt529 => ((impl_OrderOf.f k x490000 x490001 x490002).bind fun bt536 => (laws_FnOrderedBoards.l0 k bt529.2.2.2 bt536.2 bt536.1 (bt536.1.length : Int) 0 x490000 x490001 x490002 bt529.1 bt529.2.1 bt529.2.2.1))) else (some true)
def laws_FnOrderedBoards.l0 : Nat → Bool → Bool → List Int → Int → Int → Int → Int → List Int → Int → Int → List Int → Option (Bool)
 | 0, _, _, _, _, _, _, _, _, _, _, _ => none
 | k + 1, x26, x28, x149, x150, x151, x490000, x490001, x490002, x536000, x536001, x536002 => if x151 < x150 then (if 0 ≤ x151 then (if x151 < (x149.length : Int) then (if x151 = (rd x149 x151) then (laws_FnOrderedBoards.l0 k x26 x28 x149 x150 (wrap64 (x151 + 1)) x490000 x490001 x490002 x536000 x536001 x536002) else (some false)) else (none)) else (none)) else (if x26 = true then (if x28 = true then ((laws_rSameBoard.f k x536000 x536001 x536002 x490000 x490001 x490002).bind fun t541 => (some t541)) else (some false)) else (some false))
end
def laws_FnOrderedBoards.f (k : Nat) (l0 : List Int) (l1 : List Int) : Option (Bool) := (laws_big.f l0 l1).bind fun t483 => (if t483 = true then (some true) else ((spec_DrawLengthsOf.f k l0).bind fun bt484 => ((impl_LengthsOf.f k bt484.1 bt484.2.1 bt484.2.2).bind fun bt490 => ((spec_LengthsOf.f k bt484.1 bt484.2.1 bt484.2.2).bind fun bt494 => ((impl_IsOrdered.f k bt484.1 bt484.2.1 bt484.2.2).bind fun bt498 => ((spec_IsOrdered.f k bt484.1 bt484.2.1 bt484.2.2).bind fun bt500 => (if (bt490.2 != bt494.2) = true then (laws_FnOrderedBoards.j0 k l1 bt490.1 bt494.2 true bt484.1 bt484.2.1 bt484.2.2) else ((laws_rSame.f k bt490.1 bt494.1).bind fun t502 => (if t502 = true then (if (bt498.2 != bt500.2) = true then (laws_FnOrderedBoards.j0 k l1 bt490.1 bt494.2 true bt484.1 bt484.2.1 bt484.2.2) else (if (bt498.1 != bt500.1) = true then (laws_FnOrderedBoards.j0 k l1 bt490.1 bt494.2 true bt484.1 bt484.2.1 bt484.2.2) else (laws_FnOrderedBoards.j0 k l1 bt490.1 bt494.2 (bt490.2 != bt498.1) bt484.1 bt484.2.1 bt484.2.2))) else (laws_FnOrderedBoards.j0 k l1 bt490.1 bt494.2 true bt484.1 bt484.2.1 bt484.2.2))))))))))
theorem laws_FnOrderedBoards.mono_l : ∀ k, (∀ y0 y1 y2 y3 y4 y5 y6, LeO (laws_FnOrderedBoards.j0 k y0 y1 y2 y3 y4 y5 y6) (laws_FnOrderedBoards.j0 (k + 1) y0 y1 y2 y3 y4 y5 y6)) ∧ (∀ y0 y1 y2 y3 y4 y5 y6 y7 y8 y9 y10, LeO (laws_FnOrderedBoards.j1 k y0 y1 y2 y3 y4 y5 y6 y7 y8 y9 y10) (laws_FnOrderedBoards.j1 (k + 1) y0 y1 y2 y3 y4 y5 y6 y7 y8 y9 y10)) ∧ (∀ y0 y1 y2 y3 y4, LeO (laws_FnOrderedBoards.j2 k y0 y1 y2 y3 y4) (laws_FnOrderedBoards.j2 (k + 1) y0 y1 y2 y3 y4)) ∧ (∀ y0 y1 y2 y3 y4 y5 y6 y7 y8 y9 y10, LeO (laws_FnOrderedBoards.l0 k y0 y1 y2 y3 y4 y5 y6 y7 y8 y9 y10) (laws_FnOrderedBoards.l0 (k + 1) y0 y1 y2 y3 y4 y5 y6 y7 y8 y9 y10))
 | 0 => ⟨fun _ _ _ _ _ _ _ r h => by simp [laws_FnOrderedBoards.j0] at h, fun _ _ _ _ _ _ _ _ _ _ _ r h => by simp [laws_FnOrderedBoards.j1] at h, fun _ _ _ _ _ r h => by simp [laws_FnOrderedBoards.j2] at h, fun _ _ _ _ _ _ _ _ _ _ _ r h => by simp [laws_FnOrderedBoards.l0] at h⟩
 | k + 1 => by
  obtain ⟨ih0, ih1, ih2, ih3⟩ := laws_FnOrderedBoards.mono_l k
  refine ⟨?_, ?_, ?_, ?_⟩
  ·
   intro y0 y1 y2 y3 y4 y5 y6
   unfold laws_FnOrderedBoards.j0
   repeat' first
   | (with_reducible exact ih0 _ _ _ _ _ _ _)
   | (with_reducible exact ih1 _ _ _ _ _ _ _ _ _ _ _)
   | (with_reducible exact ih2 _ _ _ _ _)
   | (with_reducible exact ih3 _ _ _ _ _ _ _ _ _ _ _)
   | (with_reducible exact impl_AreAlike.mono _ _ _ _ _ _ _)
   | (with_reducible exact impl_BoardOfLengths.mono _ _)
   | (with_reducible exact impl_IsOrdered.mono _ _ _ _)
   | (with_reducible exact impl_LengthsOf.mono _ _ _ _)
   | (with_reducible exact impl_OrderOf.mono _ _ _ _)
   | (with_reducible exact impl_OrderRows.mono _ _ _ _ _)
   | (with_reducible exact laws_rSame.mono _ _ _)
   | (with_reducible exact laws_rSameBoard.mono _ _ _ _ _ _ _)
   | (with_reducible exact spec_DrawLengthsOf.mono _ _)
   | (with_reducible exact spec_DrawOrderOf.mono _ _)
   | (with_reducible exact spec_IsOrdered.mono _ _ _ _)
   | (with_reducible exact spec_LengthsOf.mono _ _ _ _)
   | (with_reducible exact spec_OrderOf.mono _ _ _ _)
   | (with_reducible exact LeO.refl _)
   | (with_reducible exact LeO.none _)
   | (with_reducible refine LeO.ite ?_ ?_)
   | (with_reducible refine LeO.bind ?_ (fun _ => ?_))
   | exact ih0 _ _ _ _ _ _ _
   | exact ih1 _ _ _ _ _ _ _ _ _ _ _
   | exact ih2 _ _ _ _ _
   | exact ih3 _ _ _ _ _ _ _ _ _ _ _
   | exact impl_AreAlike.mono _ _ _ _ _ _ _
   | exact impl_BoardOfLengths.mono _ _
   | exact impl_IsOrdered.mono _ _ _ _
   | exact impl_LengthsOf.mono _ _ _ _
   | exact impl_OrderOf.mono _ _ _ _
   | exact impl_OrderRows.mono _ _ _ _ _
   | exact laws_rSame.mono _ _ _
   | exact laws_rSameBoard.mono _ _ _ _ _ _ _
   | exact spec_DrawLengthsOf.mono _ _
   | exact spec_DrawOrderOf.mono _ _
   | exact spec_IsOrdered.mono _ _ _ _
   | exact spec_LengthsOf.mono _ _ _ _
   | exact spec_OrderOf.mono _ _ _ _
   | exact LeO.none _
   | refine LeO.ite ?_ ?_
   | refine LeO.bind ?_ (fun _ => ?_)
  ·
   intro y0 y1 y2 y3 y4 y5 y6 y7 y8 y9 y10
   unfold laws_FnOrderedBoards.j1
   repeat' first
   | (with_reducible exact ih0 _ _ _ _ _ _ _)
   | (with_reducible exact ih1 _ _ _ _ _ _ _ _ _ _ _)
   | (with_reducible exact ih2 _ _ _ _ _)
   | (with_reducible exact ih3 _ _ _ _ _ _ _ _ _ _ _)
   | (with_reducible exact impl_AreAlike.mono _ _ _ _ _ _ _)
   | (with_reducible exact impl_BoardOfLengths.mono _ _)
   | (with_reducible exact impl_IsOrdered.mono _ _ _ _)
   | (with_reducible exact impl_LengthsOf.mono _ _ _ _)
   | (with_reducible exact impl_OrderOf.mono _ _ _ _)
   | (with_reducible exact impl_OrderRows.mono _ _ _ _ _)
   | (with_reducible exact laws_rSame.mono _ _ _)
   | (with_reducible exact laws_rSameBoard.mono _ _ _ _ _ _ _)
   | (with_reducible exact spec_DrawLengthsOf.mono _ _)
   | (with_reducible exact spec_DrawOrderOf.mono _ _)
   | (with_reducible exact spec_IsOrdered.mono _ _ _ _)
   | (with_reducible exact spec_LengthsOf.mono _ _ _ _)
   | (with_reducible exact spec_OrderOf.mono _ _ _ _)
   | (with_reducible exact LeO.refl _)
   | (with_reducible exact LeO.none _)
   | (with_reducible refine LeO.ite ?_ ?_)
   | (with_reducible refine LeO.bind ?_ (fun _ => ?_))
   | exact ih0 _ _ _ _ _ _ _
   | exact ih1 _ _ _ _ _ _ _ _ _ _ _
   | exact ih2 _ _ _ _ _
   | exact ih3 _ _ _ _ _ _ _ _ _ _ _
   | exact impl_AreAlike.mono _ _ _ _ _ _ _
   | exact impl_BoardOfLengths.mono _ _
   | exact impl_IsOrdered.mono _ _ _ _
   | exact impl_LengthsOf.mono _ _ _ _
   | exact impl_OrderOf.mono _ _ _ _
   | exact impl_OrderRows.mono _ _ _ _ _
   | exact laws_rSame.mono _ _ _
   | exact laws_rSameBoard.mono _ _ _ _ _ _ _
   | exact spec_DrawLengthsOf.mono _ _
   | exact spec_DrawOrderOf.mono _ _
   | exact spec_IsOrdered.mono _ _ _ _
   | exact spec_LengthsOf.mono _ _ _ _
   | exact spec_OrderOf.mono _ _ _ _
   | exact LeO.none _
   | refine LeO.ite ?_ ?_
   | refine LeO.bind ?_ (fun _ => ?_)
  ·
   intro y0 y1 y2 y3 y4
   unfold laws_FnOrderedBoards.j2
   repeat' first
   | (with_reducible exact ih0 _ _ _ _ _ _ _)
   | (with_reducible exact ih1 _ _ _ _ _ _ _ _ _ _ _)
   | (with_reducible exact ih2 _ _ _ _ _)
   | (with_reducible exact ih3 _ _ _ _ _ _ _ _ _ _ _)
   | (with_reducible exact impl_AreAlike.mono _ _ _ _ _ _ _)
   | (with_reducible exact impl_BoardOfLengths.mono _ _)
   | (with_reducible exact impl_IsOrdered.mono _ _ _ _)
   | (with_reducible exact impl_LengthsOf.mono _ _ _ _)
   | (with_reducible exact impl_OrderOf.mono _ _ _ _)
   | (with_reducible exact impl_OrderRows.mono _ _ _ _ _)
   | (with_reducible exact laws_rSame.mono _ _ _)
   | (with_reducible exact laws_rSameBoard.mono _ _ _ _ _ _ _)
   | (with_reducible exact spec_DrawLengthsOf.mono _ _)
   | (with_reducible exact spec_DrawOrderOf.mono _ _)
   | (with_reducible exact spec_IsOrdered.mono _ _ _ _)
   | (with_reducible exact spec_LengthsOf.mono _ _ _ _)
   | (with_reducible exact spec_OrderOf.mono _ _ _ _)
   | (with_reducible exact LeO.refl _)
   | (with_reducible exact LeO.none _)
   | (with_reducible refine LeO.ite ?_ ?_)
   | (with_reducible refine LeO.bind ?_ (fun _ => ?_))
   | exact ih0 _ _ _ _ _ _ _
   | exact ih1 _ _ _ _ _ _ _ _ _ _ _
   | exact ih2 _ _ _ _ _
   | exact ih3 _ _ _ _ _ _ _ _ _ _ _
   | exact impl_AreAlike.mono _ _ _ _ _ _ _
   | exact impl_BoardOfLengths.mono _ _
   | exact impl_IsOrdered.mono _ _ _ _
   | exact impl_LengthsOf.mono _ _ _ _
   | exact impl_OrderOf.mono _ _ _ _
   | exact impl_OrderRows.mono _ _ _ _ _
   | exact laws_rSame.mono _ _ _
   | exact laws_rSameBoard.mono _ _ _ _ _ _ _
   | exact spec_DrawLengthsOf.mono _ _
   | exact spec_DrawOrderOf.mono _ _
   | exact spec_IsOrdered.mono _ _ _ _
   | exact spec_LengthsOf.mono _ _ _ _
   | exact spec_OrderOf.mono _ _ _ _
   | exact LeO.none _
   | refine LeO.ite ?_ ?_
   | refine LeO.bind ?_ (fun _ => ?_)
  ·
   intro y0 y1 y2 y3 y4 y5 y6 y7 y8 y9 y10
   unfold laws_FnOrderedBoards.l0
   repeat' first
   | (with_reducible exact ih0 _ _ _ _ _ _ _)
   | (with_reducible exact ih1 _ _ _ _ _ _ _ _ _ _ _)
   | (with_reducible exact ih2 _ _ _ _ _)
   | (with_reducible exact ih3 _ _ _ _ _ _ _ _ _ _ _)
   | (with_reducible exact impl_AreAlike.mono _ _ _ _ _ _ _)
   | (with_reducible exact impl_BoardOfLengths.mono _ _)
   | (with_reducible exact impl_IsOrdered.mono _ _ _ _)
   | (with_reducible exact impl_LengthsOf.mono _ _ _ _)
   | (with_reducible exact impl_OrderOf.mono _ _ _ _)
   | (with_reducible exact impl_OrderRows.mono _ _ _ _ _)
   | (with_reducible exact laws_rSame.mono _ _ _)
   | (with_reducible exact laws_rSameBoard.mono _ _ _ _ _ _ _)
   | (with_reducible exact spec_DrawLengthsOf.mono _ _)
   | (with_reducible exact spec_DrawOrderOf.mono _ _)
   | (with_reducible exact spec_IsOrdered.mono _ _ _ _)
   | (with_reducible exact spec_LengthsOf.mono _ _ _ _)
   | (with_reducible exact spec_OrderOf.mono _ _ _ _)
   | (with_reducible exact LeO.refl _)
   | (with_reducible exact LeO.none _)
   | (with_reducible refine LeO.ite ?_ ?_)
   | (with_reducible refine LeO.bind ?_ (fun _ => ?_))
   | exact ih0 _ _ _ _ _ _ _
   | exact ih1 _ _ _ _ _ _ _ _ _ _ _
   | exact ih2 _ _ _ _ _
   | exact ih3 _ _ _ _ _ _ _ _ _ _ _
   | exact impl_AreAlike.mono _ _ _ _ _ _ _
   | exact impl_BoardOfLengths.mono _ _
   | exact impl_IsOrdered.mono _ _ _ _
   | exact impl_LengthsOf.mono _ _ _ _
   | exact impl_OrderOf.mono _ _ _ _
   | exact impl_OrderRows.mono _ _ _ _ _
   | exact laws_rSame.mono _ _ _
   | exact laws_rSameBoard.mono _ _ _ _ _ _ _
   | exact spec_DrawLengthsOf.mono _ _
   | exact spec_DrawOrderOf.mono _ _
   | exact spec_IsOrdered.mono _ _ _ _
   | exact spec_LengthsOf.mono _ _ _ _
   | exact spec_OrderOf.mono _ _ _ _
   | exact LeO.none _
   | refine LeO.ite ?_ ?_
   | refine LeO.bind ?_ (fun _ => ?_)
theorem laws_FnOrderedBoards.mono : ∀ a0 a1 k, LeO (laws_FnOrderedBoards.f k a0 a1) (laws_FnOrderedBoards.f (k + 1) a0 a1) := by
 intro a0 a1 k
 obtain ⟨ih0, ih1, ih2, ih3⟩ := laws_FnOrderedBoards.mono_l k
 unfold laws_FnOrderedBoards.f
 repeat' first
   | (with_reducible exact ih0 _ _ _ _ _ _ _)
   | (with_reducible exact ih1 _ _ _ _ _ _ _ _ _ _ _)
   | (with_reducible exact ih2 _ _ _ _ _)
   | (with_reducible exact ih3 _ _ _ _ _ _ _ _ _ _ _)
   | (with_reducible exact impl_AreAlike.mono _ _ _ _ _ _ _)
   | (with_reducible exact impl_BoardOfLengths.mono _ _)
   | (with_reducible exact impl_IsOrdered.mono _ _ _ _)
   | (with_reducible exact impl_LengthsOf.mono _ _ _ _)
   | (with_reducible exact impl_OrderOf.mono _ _ _ _)
   | (with_reducible exact impl_OrderRows.mono _ _ _ _ _)
   | (with_reducible exact laws_rSame.mono _ _ _)
   | (with_reducible exact laws_rSameBoard.mono _ _ _ _ _ _ _)
   | (with_reducible exact spec_DrawLengthsOf.mono _ _)
   | (with_reducible exact spec_DrawOrderOf.mono _ _)
   | (with_reducible exact spec_IsOrdered.mono _ _ _ _)
   | (with_reducible exact spec_LengthsOf.mono _ _ _ _)
   | (with_reducible exact spec_OrderOf.mono _ _ _ _)
   | (with_reducible exact LeO.refl _)
   | (with_reducible exact LeO.none _)
   | (with_reducible refine LeO.ite ?_ ?_)
   | (with_reducible refine LeO.bind ?_ (fun _ => ?_))
   | exact ih0 _ _ _ _ _ _ _
   | exact ih1 _ _ _ _ _ _ _ _ _ _ _
   | exact ih2 _ _ _ _ _
   | exact ih3 _ _ _ _ _ _ _ _ _ _ _
   | exact impl_AreAlike.mono _ _ _ _ _ _ _
   | exact impl_BoardOfLengths.mono _ _
   | exact impl_IsOrdered.mono _ _ _ _
   | exact impl_LengthsOf.mono _ _ _ _
   | exact impl_OrderOf.mono _ _ _ _
   | exact impl_OrderRows.mono _ _ _ _ _
   | exact laws_rSame.mono _ _ _
   | exact laws_rSameBoard.mono _ _ _ _ _ _ _
   | exact spec_DrawLengthsOf.mono _ _
   | exact spec_DrawOrderOf.mono _ _
   | exact spec_IsOrdered.mono _ _ _ _
   | exact spec_LengthsOf.mono _ _ _ _
   | exact spec_OrderOf.mono _ _ _ _
   | exact LeO.none _
   | refine LeO.ite ?_ ?_
   | refine LeO.bind ?_ (fun _ => ?_)
theorem laws_FnOrderedBoards.j0_no (k : Nat) (x1 : List Int) (x6 : List Int) (x9 : Bool) (x490000 : Int) (x490001 : Int) (x490002 : List Int) : ¬ (laws_FnOrderedBoards.j0 k x1 x6 x9 true x490000 x490001 x490002 = some true) := by
 cases k <;> simp [laws_FnOrderedBoards.j0]
theorem laws_FnOrderedBoards.j1_no (k : Nat) (x6 : List Int) (x9 : Bool) (x15 : List Int) (x16 : Bool) (x490000 : Int) (x490001 : Int) (x490002 : List Int) (x509000 : Int) (x509001 : Int) (x509002 : List Int) : ¬ (laws_FnOrderedBoards.j1 k x6 x9 x15 x16 true x490000 x490001 x490002 x509000 x509001 x509002 = some true) := by
 cases k <;> simp [laws_FnOrderedBoards.j1]
set_option maxHeartbeats 8000000 in
set_option maxRecDepth 100000 in
theorem laws_FnOrderedBoards.calls (k : Nat) (A0 : Option Addr) (c0 : Nat) (l0 : List Int) (A1 : Option Addr) (c1 : Nat) (l1 : List Int) (w : World) (hr0 : Kd.C (Kd.int .u8) w A0 l0.length l0) (hc0 : l0.length ≤ c0) (hr1 : Kd.C (Kd.int .u8) w A1 l1.length l1) (hc1 : l1.length ≤ c1) (h : laws_FnOrderedBoards.f k l0 l1 = some true) :
  Calls Try.prog 9 #[.slice A0 l0.length c0, .slice A1 l1.length c1] w fun e w' => e = .returned (.bool true) ∧ Below w.heap.size w w' := by
 have hu34 := Try.underlying34
 have HR0 := Aside0.mk hr0
 have HC0 := Aside0.mk hc0
 clear hr0 hc0
 have HR1 := Aside0.mk hr1
 have HC1 := Aside0.mk hc1
 clear hr1 hc1
 have HB := am (Below.refl w.heap.size w)
 have H : ((laws_big.f l0 l1).bind fun t483 => (if t483 = true then (some true) else ((spec_DrawLengthsOf.f k l0).bind fun bt484 => ((impl_LengthsOf.f k bt484.1 bt484.2.1 bt484.2.2).bind fun bt490 => ((spec_LengthsOf.f k bt484.1 bt484.2.1 bt484.2.2).bind fun bt494 => ((impl_IsOrdered.f k bt484.1 bt484.2.1 bt484.2.2).bind fun bt498 => ((spec_IsOrdered.f k bt484.1 bt484.2.1 bt484.2.2).bind fun bt500 => (if (bt490.2 != bt494.2) = true then (laws_FnOrderedBoards.j0 k l1 bt490.1 bt494.2 true bt484.1 bt484.2.1 bt484.2.2) else ((laws_rSame.f k bt490.1 bt494.1).bind fun t502 => (if t502 = true then (if (bt498.2 != bt500.2) = true then (laws_FnOrderedBoards.j0 k l1 bt490.1 bt494.2 true bt484.1 bt484.2.1 bt484.2.2) else (if (bt498.1 != bt500.1) = true then (laws_FnOrderedBoards.j0 k l1 bt490.1 bt494.2 true bt484.1 bt484.2.1 bt484.2.2) else (laws_FnOrderedBoards.j0 k l1 bt490.1 bt494.2 (bt490.2 != bt498.1) bt484.1 bt484.2.1 bt484.2.2))) else (laws_FnOrderedBoards.j0 k l1 bt490.1 bt494.2 true bt484.1 bt484.2.1 bt484.2.2))))))))))) = some true := h
 clear h
 replace H := Option.bind_eq_some_iff.mp H
 obtain ⟨t483, A30, H⟩ := H
 replace H : (if t483 = true then (some true) else ((spec_DrawLengthsOf.f k l0).bind fun bt484 => ((impl_LengthsOf.f k bt484.1 bt484.2.1 bt484.2.2).bind fun bt490 => ((spec_LengthsOf.f k bt484.1 bt484.2.1 bt484.2.2).bind fun bt494 => ((impl_IsOrdered.f k bt484.1 bt484.2.1 bt484.2.2).bind fun bt498 => ((spec_IsOrdered.f k bt484.1 bt484.2.1 bt484.2.2).bind fun bt500 => (if (bt490.2 != bt494.2) = true then (laws_FnOrderedBoards.j0 k l1 bt490.1 bt494.2 true bt484.1 bt484.2.1 bt484.2.2) else ((laws_rSame.f k bt490.1 bt494.1).bind fun t502 => (if t502 = true then (if (bt498.2 != bt500.2) = true then (laws_FnOrderedBoards.j0 k l1 bt490.1 bt494.2 true bt484.1 bt484.2.1 bt484.2.2) else (if (bt498.1 != bt500.1) = true then (laws_FnOrderedBoards.j0 k l1 bt490.1 bt494.2 true bt484.1 bt484.2.1 bt484.2.2) else (laws_FnOrderedBoards.j0 k l1 bt490.1 bt494.2 (bt490.2 != bt498.1) bt484.1 bt484.2.1 bt484.2.2))) else (laws_FnOrderedBoards.j0 k l1 bt490.1 bt494.2 true bt484.1 bt484.2.1 bt484.2.2)))))))))) = some true := H
 have A3 := Aside0.mk A30
 clear A30
 by_cases c4 : t483 = true
 ·
  subst c4
  have H1 : (some true) = some true := by first | (rw [if_pos rfl] at H; exact H) | rfl
  clear H
  have H := H1
  clear H1 H
  go_enter Try.func9, Try.ntmps9
  go_wp2_with (first | ((with_reducible refine gate_callee (f := 10) rfl ?_); refine goesL_ (some 33) rfl rfl Try.func10 (by kernel_rfl) rfl #[.slice A0 l0.length c0, .slice A1 l1.length c1] rfl (by (try simp only [List.map_toArray, List.map_cons, List.map_nil]); try rfl) ?_; (with_reducible refine (laws_big.calls _ _ l0 _ _ l1 true _ ?side1 ?side2 ?side3 ?side4 A3.out).mono ?_); (case side1 => repeat (first | exact HR0.out | (with_reducible first | refine Kd.C_alloc ?_ _ | refine Kd.C_drewN ?_ _ | refine Kd.C_drew ?_))); (case side2 => exact HC0.out); (case side3 => repeat (first | exact HR1.out | (with_reducible first | refine Kd.C_alloc ?_ _ | refine Kd.C_drewN ?_ _ | refine Kd.C_drew ?_))); (case side4 => exact HC1.out); rintro e w' ⟨rfl, ⟨nd, rfl⟩⟩; refine ⟨_, rfl, ?_⟩))
  go_ret
  exact ⟨by first | rfl | (simp [errW_none, errW_some] <;> rfl) | (simp [*, errW_none, errW_some] <;> rfl), by repeat with_reducible first | exact HB.out | apply pw_below_drewN | apply below_drew1⟩
 ·
  replace c4 := Bool.eq_false_iff.mpr c4
  subst c4
  have H1 : ((spec_DrawLengthsOf.f k l0).bind fun bt484 => ((impl_LengthsOf.f k bt484.1 bt484.2.1 bt484.2.2).bind fun bt490 => ((spec_LengthsOf.f k bt484.1 bt484.2.1 bt484.2.2).bind fun bt494 => ((impl_IsOrdered.f k bt484.1 bt484.2.1 bt484.2.2).bind fun bt498 => ((spec_IsOrdered.f k bt484.1 bt484.2.1 bt484.2.2).bind fun bt500 => (if (bt490.2 != bt494.2) = true then (laws_FnOrderedBoards.j0 k l1 bt490.1 bt494.2 true bt484.1 bt484.2.1 bt484.2.2) else ((laws_rSame.f k bt490.1 bt494.1).bind fun t502 => (if t502 = true then (if (bt498.2 != bt500.2) = true then (laws_FnOrderedBoards.j0 k l1 bt490.1 bt494.2 true bt484.1 bt484.2.1 bt484.2.2) else (if (bt498.1 != bt500.1) = true then (laws_FnOrderedBoards.j0 k l1 bt490.1 bt494.2 true bt484.1 bt484.2.1 bt484.2.2) else (laws_FnOrderedBoards.j0 k l1 bt490.1 bt494.2 (bt490.2 != bt498.1) bt484.1 bt484.2.1 bt484.2.2))) else (laws_FnOrderedBoards.j0 k l1 bt490.1 bt494.2 true bt484.1 bt484.2.1 bt484.2.2))))))))) = some true := by first | (rw [if_neg (show ¬ (false = true) by decide)] at H; exact H) | rfl
  clear H
  have H := H1
  clear H1
  replace H := Option.bind_eq_some_iff.mp H
  obtain ⟨⟨t484, t485, t486⟩, A50, H⟩ := H
  replace H : ((impl_LengthsOf.f k t484 t485 t486).bind fun bt490 => ((spec_LengthsOf.f k t484 t485 t486).bind fun bt494 => ((impl_IsOrdered.f k t484 t485 t486).bind fun bt498 => ((spec_IsOrdered.f k t484 t485 t486).bind fun bt500 => (if (bt490.2 != bt494.2) = true then (laws_FnOrderedBoards.j0 k l1 bt490.1 bt494.2 true t484 t485 t486) else ((laws_rSame.f k bt490.1 bt494.1).bind fun t502 => (if t502 = true then (if (bt498.2 != bt500.2) = true then (laws_FnOrderedBoards.j0 k l1 bt490.1 bt494.2 true t484 t485 t486) else (if (bt498.1 != bt500.1) = true then (laws_FnOrderedBoards.j0 k l1 bt490.1 bt494.2 true t484 t485 t486) else (laws_FnOrderedBoards.j0 k l1 bt490.1 bt494.2 (bt490.2 != bt498.1) t484 t485 t486))) else (laws_FnOrderedBoards.j0 k l1 bt490.1 bt494.2 true t484 t485 t486)))))))) = some true := H
  have A5 := Aside0.mk A50
  clear A50
  replace H := Option.bind_eq_some_iff.mp H
  obtain ⟨⟨t490, t493⟩, A60, H⟩ := H
  replace H : ((spec_LengthsOf.f k t484 t485 t486).bind fun bt494 => ((impl_IsOrdered.f k t484 t485 t486).bind fun bt498 => ((spec_IsOrdered.f k t484 t485 t486).bind fun bt500 => (if (t493 != bt494.2) = true then (laws_FnOrderedBoards.j0 k l1 t490 bt494.2 true t484 t485 t486) else ((laws_rSame.f k t490 bt494.1).bind fun t502 => (if t502 = true then (if (bt498.2 != bt500.2) = true then (laws_FnOrderedBoards.j0 k l1 t490 bt494.2 true t484 t485 t486) else (if (bt498.1 != bt500.1) = true then (laws_FnOrderedBoards.j0 k l1 t490 bt494.2 true t484 t485 t486) else (laws_FnOrderedBoards.j0 k l1 t490 bt494.2 (t493 != bt498.1) t484 t485 t486))) else (laws_FnOrderedBoards.j0 k l1 t490 bt494.2 true t484 t485 t486))))))) = some true := H
  have A6 := Aside0.mk A60
  clear A60
  replace H := Option.bind_eq_some_iff.mp H
  obtain ⟨⟨t494, t497⟩, A70, H⟩ := H
  replace H : ((impl_IsOrdered.f k t484 t485 t486).bind fun bt498 => ((spec_IsOrdered.f k t484 t485 t486).bind fun bt500 => (if (t493 != t497) = true then (laws_FnOrderedBoards.j0 k l1 t490 t497 true t484 t485 t486) else ((laws_rSame.f k t490 t494).bind fun t502 => (if t502 = true then (if (bt498.2 != bt500.2) = true then (laws_FnOrderedBoards.j0 k l1 t490 t497 true t484 t485 t486) else (if (bt498.1 != bt500.1) = true then (laws_FnOrderedBoards.j0 k l1 t490 t497 true t484 t485 t486) else (laws_FnOrderedBoards.j0 k l1 t490 t497 (t493 != bt498.1) t484 t485 t486))) else (laws_FnOrderedBoards.j0 k l1 t490 t497 true t484 t485 t486)))))) = some true := H
  have A7 := Aside0.mk A70
  clear A70
  replace H := Option.bind_eq_some_iff.mp H
  obtain ⟨⟨t498, t499⟩, A80, H⟩ := H
  replace H : ((spec_IsOrdered.f k t484 t485 t486).bind fun bt500 => (if (t493 != t497) = true then (laws_FnOrderedBoards.j0 k l1 t490 t497 true t484 t485 t486) else ((laws_rSame.f k t490 t494).bind fun t502 => (if t502 = true then (if (t499 != bt500.2) = true then (laws_FnOrderedBoards.j0 k l1 t490 t497 true t484 t485 t486) else (if (t498 != bt500.1) = true then (laws_FnOrderedBoards.j0 k l1 t490 t497 true t484 t485 t486) else (laws_FnOrderedBoards.j0 k l1 t490 t497 (t493 != t498) t484 t485 t486))) else (laws_FnOrderedBoards.j0 k l1 t490 t497 true t484 t485 t486))))) = some true := H
  have A8 := Aside0.mk A80
  clear A80
  replace H := Option.bind_eq_some_iff.mp H
  obtain ⟨⟨t500, t501⟩, A90, H⟩ := H
  replace H : (if (t493 != t497) = true then (laws_FnOrderedBoards.j0 k l1 t490 t497 true t484 t485 t486) else ((laws_rSame.f k t490 t494).bind fun t502 => (if t502 = true then (if (t499 != t501) = true then (laws_FnOrderedBoards.j0 k l1 t490 t497 true t484 t485 t486) else (if (t498 != t500) = true then (laws_FnOrderedBoards.j0 k l1 t490 t497 true t484 t485 t486) else (laws_FnOrderedBoards.j0 k l1 t490 t497 (t493 != t498) t484 t485 t486))) else (laws_FnOrderedBoards.j0 k l1 t490 t497 true t484 t485 t486)))) = some true := H
  have A9 := Aside0.mk A90
  clear A90
  have HC10 := Aside0.mk H
  clear H
  go_enter Try.func9, Try.ntmps9
  go_upto_region 8 with (first | ((with_reducible refine gate_callee (f := 10) rfl ?_); refine goesL_ (some 33) rfl rfl Try.func10 (by kernel_rfl) rfl #[.slice A0 l0.length c0, .slice A1 l1.length c1] rfl (by (try simp only [List.map_toArray, List.map_cons, List.map_nil]); try rfl) ?_; (with_reducible refine (laws_big.calls _ _ l0 _ _ l1 false _ ?side1 ?side2 ?side3 ?side4 A3.out).mono ?_); (case side1 => repeat (first | exact HR0.out | (with_reducible first | refine Kd.C_alloc ?_ _ | refine Kd.C_drewN ?_ _ | refine Kd.C_drew ?_))); (case side2 => exact HC0.out); (case side3 => repeat (first | exact HR1.out | (with_reducible first | refine Kd.C_alloc ?_ _ | refine Kd.C_drewN ?_ _ | refine Kd.C_drew ?_))); (case side4 => exact HC1.out); rintro e w' ⟨rfl, ⟨nd, rfl⟩⟩; refine ⟨_, rfl, ?_⟩) | ((with_reducible refine gate_callee (f := 96) rfl ?_); refine goesL_ (some 35) rfl rfl Try.func96 (by kernel_rfl) rfl #[.slice A0 l0.length c0] rfl (by (try simp only [List.map_toArray, List.map_cons, List.map_nil]); try rfl) ?_; (with_reducible refine (spec_DrawLengthsOf.calls k _ _ l0 t484 t485 t486 _ ?side1 ?side2 A5.out).mono ?_); (case side1 => repeat (first | exact HR0.out | (with_reducible first | refine Kd.C_alloc ?_ _ | refine Kd.C_drewN ?_ _ | refine Kd.C_drew ?_))); (case side2 => exact HC0.out); rintro e w11 ⟨v487, rfl, ho0, hb⟩; refine ⟨_, rfl, ?_⟩; have n0_ := am (Kd.R_lower ho0 (below_size (by repeat with_reducible first | exact HB.out | apply pw_below_drewN | apply below_drew1))); have n1_ := am (below_step (by repeat with_reducible first | exact HB.out | apply pw_below_drewN | apply below_drew1) hb); clear HB; have Oq0 := n0_; have HB := n1_; clear n0_ n1_; (try clear hb); (try clear hb2); (try clear hk); (try clear hi); (try clear ho0)) | ((with_reducible refine gate_dst (N := 5) rfl ?_); refine box_event ?hg (N := 5) ?hd (cs := #[.int .i64 0, .int .i64 0, .slice none 0 0]) (t := 34) ?hr ?_; (case hd => rfl); (case hg => rfl); (case hr => first | (go_simp; done) | (go_simp; rfl)); intro gb489 hg w12 hbox hb; have n1_ := am (below_step (by repeat with_reducible first | exact HB.out | apply pw_below_drewN | apply below_drew1) hb); have n2_ := am (hbox); have n3_ := am ((by rw [hg]; exact (below_size (by repeat with_reducible first | exact HB.out | apply pw_below_drewN | apply below_drew1)) : w.heap.size ≤ gb489)); have n4_ := am ((by rw [hg]; exact (below_size (by repeat with_reducible first | exact HB.out | apply pw_below_drewN | apply below_drew1)) : w.heap.size ≤ gb489)); clear HB; replace Oq0 := sqR Oq0 hb; have HB := n1_; have BK489 := n2_; have GW489 := n3_; have GE489 := n4_; clear n1_ n2_ n3_ n4_; clear hb hbox hg; have zq0 : w12.cell? ⟨gb489, 0, none⟩ = some (.int .i64 0) := sqc BK489 0; have zq1 : w12.cell? ⟨gb489, 1, none⟩ = some (.int .i64 0) := sqc BK489 1; have zq2 : w12.cell? ⟨gb489, 2, none⟩ = some (.slice none 0 0) := sqc BK489 2; have fq0 := blk_frozen BK489.out 0; have fq1 := blk_frozen BK489.out 1; have fq2 := blk_frozen BK489.out 2; obtain ⟨Ao14, co14, eo14⟩ := Kd.R_slice Oq0.out; subst eo14) | ((with_reducible refine gate_callee (f := 97) rfl ?_); refine goesL_ (some 38) rfl rfl Try.func97 (by kernel_rfl) rfl #[.agg #[.int .i64 t484, .int .i64 t485, .slice Ao14 t486.length co14]] rfl (by (try simp only [List.map_toArray, List.map_cons, List.map_nil]); try rfl) ?_; (with_reducible refine (impl_LengthsOf.calls k t484 t485 _ _ t486 t490 t493 _ ?side1 ?side2 A6.out).mono ?_); (case side1 => refine (Kd.R_reads' (e := 3) (base := w.heap.size) (ok := fun k_ => True) (n := t486.length) (c := co14) ?_).2.2; exact (by (with_reducible repeat (first | apply Kd.R_alloc | apply Kd.R_drewN | apply Kd.R_drew)); exact (Kd.R_mono (Kd.R_far (p := ⟨gb489, 2, none⟩) (Kd.R_far (p := ⟨gb489, 1, none⟩) (Kd.R_far (p := ⟨gb489, 0, none⟩) (Kd.R_types Oq0.out BK489.out (by decide)) (fun _ hk => hk.2) (.int .i64 t484)) (fun _ hk => hk.2) (.int .i64 t485)) (fun _ hk => hk.2) (.slice Ao14 t486.length co14)) (fun _ h_ => by first | exact h_.1 | (have hx_ := h_.1; and_intros <;> first | trivial | simp only [hx_, ne_eq, not_false_eq_true]))))); (case side2 => exact (Kd.R_reads' Oq0.out).2.1); rintro e w15 ⟨v491, rfl, ho0, hb⟩; refine ⟨_, rfl, ?_⟩; have n0_ := am (Kd.R_elder' (by (with_reducible repeat (first | apply Kd.R_alloc | apply Kd.R_drewN | apply Kd.R_drew)); exact (Kd.R_mono (Kd.R_far (p := ⟨gb489, 2, none⟩) (Kd.R_far (p := ⟨gb489, 1, none⟩) (Kd.R_far (p := ⟨gb489, 0, none⟩) (Kd.R_types Oq0.out BK489.out (by decide)) (fun _ hk => hk.2) (.int .i64 t484)) (fun _ hk => hk.2) (.int .i64 t485)) (fun _ hk => hk.2) (.slice Ao14 t486.length co14)) (fun _ h_ => h_.1))) (Kd.R_base ho0) hb); have n1_ := am (Kd.R_lower (Kd.R_new' ho0 (Kd.R_lt (by (with_reducible repeat (first | apply Kd.R_alloc | apply Kd.R_drewN | apply Kd.R_drew)); exact (Kd.R_mono (Kd.R_far (p := ⟨gb489, 2, none⟩) (Kd.R_far (p := ⟨gb489, 1, none⟩) (Kd.R_far (p := ⟨gb489, 0, none⟩) (Kd.R_types Oq0.out BK489.out (by decide)) (fun _ hk => hk.2) (.int .i64 t484)) (fun _ hk => hk.2) (.int .i64 t485)) (fun _ hk => hk.2) (.slice Ao14 t486.length co14)) (fun _ h_ => h_.1))))) (below_size (by repeat with_reducible first | exact HB.out | apply pw_below_drewN | apply below_drew1 | refine below_set ?_ GE489.out))); have n2_ := am (blk_below (g := gb489) (o := .cells #[.int .i64 t484, .int .i64 t485, .slice Ao14 t486.length co14] 34 (0, 0)) (by (with_reducible repeat (first | refine blk_drewN ?_ _ | refine blk_drew ?_ | refine blk_alloc ?_ _)); refine blk_put (cs := #[.int .i64 t484, .int .i64 t485, .slice none 0 0]) ?_ 2 _ rfl; (with_reducible repeat (first | refine blk_drewN ?_ _ | refine blk_drew ?_ | refine blk_alloc ?_ _)); refine blk_put (cs := #[.int .i64 t484, .int .i64 0, .slice none 0 0]) ?_ 1 _ rfl; (with_reducible repeat (first | refine blk_drewN ?_ _ | refine blk_drew ?_ | refine blk_alloc ?_ _)); refine blk_put (cs := #[.int .i64 0, .int .i64 0, .slice none 0 0]) ?_ 0 _ rfl; (with_reducible repeat (first | refine blk_drewN ?_ _ | refine blk_drew ?_ | refine blk_alloc ?_ _)); exact BK489.out) hb); have n3_ := am (below_step (by repeat with_reducible first | exact HB.out | apply pw_below_drewN | apply below_drew1 | refine below_set ?_ GE489.out) hb); clear Oq0; clear BK489; clear HB; have Oq0 := n0_; have Oq1 := n1_; have BK489 := n2_; have HB := n3_; clear n0_ n1_ n2_ n3_; (try clear hb); (try clear hb2); (try clear hk); (try clear hi); (try clear ho0); have zq3 : w15.cell? ⟨gb489, 0, none⟩ = some (.int .i64 t484) := sqc BK489 0; have zq4 : w15.cell? ⟨gb489, 1, none⟩ = some (.int .i64 t485) := sqc BK489 1; have zq5 : w15.cell? ⟨gb489, 2, none⟩ = some (.slice Ao14 t486.length co14) := sqc BK489 2; have fq3 := blk_frozen BK489.out 0; have fq4 := blk_frozen BK489.out 1; have fq5 := blk_frozen BK489.out 2) | ((with_reducible refine gate_callee (f := 98) rfl ?_); refine goesL_ (some 43) rfl rfl Try.func98 (by kernel_rfl) rfl #[.agg #[.int .i64 t484, .int .i64 t485, .slice Ao14 t486.length co14]] rfl (by (try simp only [List.map_toArray, List.map_cons, List.map_nil]); try rfl) ?_; (with_reducible refine (spec_LengthsOf.calls k t484 t485 _ _ t486 t494 t497 _ ?side1 ?side2 A7.out).mono ?_); (case side1 => repeat (first | exact (Kd.R_reads' Oq0.out).2.2 | (with_reducible first | refine Kd.C_alloc ?_ _ | refine Kd.C_drewN ?_ _ | refine Kd.C_drew ?_))); (case side2 => exact (Kd.R_reads' Oq0.out).2.1); rintro e w17 ⟨v495, rfl, ho0, hb⟩; refine ⟨_, rfl, ?_⟩; have n2_ := am (Kd.R_lower (Kd.R_new' (Kd.R_new' ho0 (sqL Oq0)) (sqL Oq1)) (below_size (by repeat with_reducible first | exact HB.out | apply pw_below_drewN | apply below_drew1 | refine below_set ?_ GE489.out))); have n4_ := am (below_step (by repeat with_reducible first | exact HB.out | apply pw_below_drewN | apply below_drew1 | refine below_set ?_ GE489.out) hb); clear HB; replace Oq0 := sqE Oq0 ho0 hb; replace Oq1 := sqE Oq1 ho0 hb; have Oq2 := n2_; replace BK489 := sqB BK489 hb; have HB := n4_; clear n2_ n4_; (try clear hb); (try clear hb2); (try clear hk); (try clear hi); (try clear ho0); have zq6 : w17.cell? ⟨gb489, 0, none⟩ = some (.int .i64 t484) := sqc BK489 0; have zq7 : w17.cell? ⟨gb489, 1, none⟩ = some (.int .i64 t485) := sqc BK489 1; have zq8 : w17.cell? ⟨gb489, 2, none⟩ = some (.slice Ao14 t486.length co14) := sqc BK489 2; have fq6 := blk_frozen BK489.out 0; have fq7 := blk_frozen BK489.out 1; have fq8 := blk_frozen BK489.out 2) | ((with_reducible refine gate_callee (f := 99) rfl ?_); refine goesL_ (some 48) rfl rfl Try.func99 (by kernel_rfl) rfl #[.agg #[.int .i64 t484, .int .i64 t485, .slice Ao14 t486.length co14]] rfl (by (try simp only [List.map_toArray, List.map_cons, List.map_nil]); try rfl) ?_; (with_reducible refine (impl_IsOrdered.calls k t484 t485 _ _ t486 t498 t499 _ ?side1 ?side2 A8.out).mono ?_); (case side1 => repeat (first | exact (Kd.R_reads' Oq0.out).2.2 | (with_reducible first | refine Kd.C_alloc ?_ _ | refine Kd.C_drewN ?_ _ | refine Kd.C_drew ?_))); (case side2 => exact (Kd.R_reads' Oq0.out).2.1); rintro e w19 ⟨rfl, hb⟩; refine ⟨_, rfl, ?_⟩; have n4_ := am (below_step (by repeat with_reducible first | exact HB.out | apply pw_below_drewN | apply below_drew1 | refine below_set ?_ GE489.out) hb); clear HB; replace Oq0 := sqR Oq0 hb; replace Oq1 := sqR Oq1 hb; replace Oq2 := sqR Oq2 hb; replace BK489 := sqB BK489 hb; have HB := n4_; clear n4_; (try clear hb); (try clear hb2); (try clear hk); (try clear hi); have zq9 : w19.cell? ⟨gb489, 0, none⟩ = some (.int .i64 t484) := sqc BK489 0; have zq10 : w19.cell? ⟨gb489, 1, none⟩ = some (.int .i64 t485) := sqc BK489 1; have zq11 : w19.cell? ⟨gb489, 2, none⟩ = some (.slice Ao14 t486.length co14) := sqc BK489 2; have fq9 := blk_frozen BK489.out 0; have fq10 := blk_frozen BK489.out 1; have fq11 := blk_frozen BK489.out 2) | ((with_reducible refine gate_callee (f := 100) rfl ?_); refine goesL_ (some 53) rfl rfl Try.func100 (by kernel_rfl) rfl #[.agg #[.int .i64 t484, .int .i64 t485, .slice Ao14 t486.length co14]] rfl (by (try simp only [List.map_toArray, List.map_cons, List.map_nil]); try rfl) ?_; (with_reducible refine (spec_IsOrdered.calls k t484 t485 _ _ t486 t500 t501 _ ?side1 ?side2 A9.out).mono ?_); (case side1 => repeat (first | exact (Kd.R_reads' Oq0.out).2.2 | (with_reducible first | refine Kd.C_alloc ?_ _ | refine Kd.C_drewN ?_ _ | refine Kd.C_drew ?_))); (case side2 => exact (Kd.R_reads' Oq0.out).2.1); rintro e w21 ⟨rfl, hb⟩; refine ⟨_, rfl, ?_⟩; have n4_ := am (below_step (by repeat with_reducible first | exact HB.out | apply pw_below_drewN | apply below_drew1 | refine below_set ?_ GE489.out) hb); clear HB; replace Oq0 := sqR Oq0 hb; replace Oq1 := sqR Oq1 hb; replace Oq2 := sqR Oq2 hb; replace BK489 := sqB BK489 hb; have HB := n4_; clear n4_; (try clear hb); (try clear hb2); (try clear hk); (try clear hi)))
  (try simp only [Act.put, List.setIfInBounds_toArray, List.set_cons_zero, List.set_cons_succ])
  go_cut [79] (fun v79 wc => ∃ (kq : Nat) (x79_9 : Bool), v79 = .bool x79_9 ∧ Aside0 (laws_FnOrderedBoards.j0 kq l1 t490 t497 x79_9 t484 t485 t486 = some true) ∧ Aside0 (kq ≤ k) ∧ Aside0 (Kd.R (Kd.int .i64) 3 wc w.heap.size (fun k_ => some k_ ≠ ((.slice Ao14 t486.length co14) : Value).ownBlock) v491 t490) ∧ Aside0 (Kd.R (Kd.int .i64) 3 wc w.heap.size (fun k_ => some k_ ≠ (v491 : Value).ownBlock) (.slice Ao14 t486.length co14) t486) ∧ Aside0 (wc.heap[gb489]? = some (.cells #[.int .i64 t484, .int .i64 t485, (.slice Ao14 t486.length co14)] 34 (0, 0))) ∧ Aside0 (Below w.heap.size w wc))
  case first => as_aux_lemma =>
   have H := HC10.out
   clear HC10
   by_cases c22 : (t493 != t497) = true
   ·
    rw [if_pos c22] at H
    have c22b0 : (t493 != t497) = true := c22
    (try (have c22b1 : decide (t493 = t497) = false := by simpa using c22))
    (try (have c22b2 : (t493 == t497) = false := by simpa using c22))
    (try (have c22b3 : ¬ (t493 = t497) := by simpa using c22))
    clear c22
    (first | rw [c22b0] | (simp only [i64_w, i32_w]; rw [c22b0]) | rw [c22b1] | skip)
    exact absurd H (laws_FnOrderedBoards.j0_no _ _ _ _ _ _ _)
   ·
    rw [if_neg c22] at H
    have c22b0 : (t493 != t497) = false := by simpa using c22
    (try (have c22b1 : decide (t493 = t497) = true := by simpa using c22))
    (try (have c22b2 : (t493 == t497) = true := by simpa using c22))
    clear c22
    (first | rw [c22b0] | (simp only [i64_w, i32_w]; rw [c22b0]) | rw [c22b1] | skip)
    replace H := Option.bind_eq_some_iff.mp H
    obtain ⟨t502, A230, H⟩ := H
    replace H : (if t502 = true then (if (t499 != t501) = true then (laws_FnOrderedBoards.j0 k l1 t490 t497 true t484 t485 t486) else (if (t498 != t500) = true then (laws_FnOrderedBoards.j0 k l1 t490 t497 true t484 t485 t486) else (laws_FnOrderedBoards.j0 k l1 t490 t497 (t493 != t498) t484 t485 t486))) else (laws_FnOrderedBoards.j0 k l1 t490 t497 true t484 t485 t486)) = some true := H
    have A23 := Aside0.mk A230
    clear A230
    by_cases c24 : t502 = true
    ·
     subst c24
     have H1 : (if (t499 != t501) = true then (laws_FnOrderedBoards.j0 k l1 t490 t497 true t484 t485 t486) else (if (t498 != t500) = true then (laws_FnOrderedBoards.j0 k l1 t490 t497 true t484 t485 t486) else (laws_FnOrderedBoards.j0 k l1 t490 t497 (t493 != t498) t484 t485 t486))) = some true := by first | (rw [if_pos rfl] at H; exact H) | rfl
     clear H
     have H := H1
     clear H1
     by_cases c25 : (t499 != t501) = true
     ·
      rw [if_pos c25] at H
      have c25b0 : (t499 != t501) = true := c25
      (try (have c25b1 : decide (t499 = t501) = false := by simpa using c25))
      (try (have c25b2 : (t499 == t501) = false := by simpa using c25))
      (try (have c25b3 : ¬ (t499 = t501) := by simpa using c25))
      clear c25
      exact absurd H (laws_FnOrderedBoards.j0_no _ _ _ _ _ _ _)
     ·
      rw [if_neg c25] at H
      have c25b0 : (t499 != t501) = false := by simpa using c25
      (try (have c25b1 : decide (t499 = t501) = true := by simpa using c25))
      (try (have c25b2 : (t499 == t501) = true := by simpa using c25))
      clear c25
      by_cases c26 : (t498 != t500) = true
      ·
       rw [if_pos c26] at H
       have c26b0 : (t498 != t500) = true := c26
       (try (have c26b1 : decide (t498 = t500) = false := by simpa using c26))
       (try (have c26b2 : (t498 == t500) = false := by simpa using c26))
       (try (have c26b3 : ¬ (t498 = t500) := by simpa using c26))
       clear c26
       exact absurd H (laws_FnOrderedBoards.j0_no _ _ _ _ _ _ _)
      ·
       rw [if_neg c26] at H
       have c26b0 : (t498 != t500) = false := by simpa using c26
       (try (have c26b1 : decide (t498 = t500) = true := by simpa using c26))
       (try (have c26b2 : (t498 == t500) = true := by simpa using c26))
       clear c26
       have H' := Aside0.mk H
       clear H
       obtain ⟨Ao27, co27, eo27⟩ := Kd.R_slice Oq1.out
       subst eo27
       obtain ⟨Ao28, co28, eo28⟩ := Kd.R_slice Oq2.out
       subst eo28
       go_wp2_with (first | (go_at_call 23; (with_reducible refine (laws_rSame.calls k _ _ t490 _ _ t494 true _ ?side1 ?side2 ?side3 ?side4 A23.out).mono ?_); (case side1 => repeat (first | exact (Kd.R_reads' Oq1.out).2.2 | (with_reducible first | refine Kd.C_alloc ?_ _ | refine Kd.C_drewN ?_ _ | refine Kd.C_drew ?_))); (case side2 => exact (Kd.R_reads' Oq1.out).2.1); (case side3 => repeat (first | exact (Kd.R_reads' Oq2.out).2.2 | (with_reducible first | refine Kd.C_alloc ?_ _ | refine Kd.C_drewN ?_ _ | refine Kd.C_drew ?_))); (case side4 => exact (Kd.R_reads' Oq2.out).2.1); rintro e w' ⟨rfl, ⟨nd, rfl⟩⟩))
       go_meet
       case rel => exact ⟨_, ((t493 != t498)), (by first | rfl | (simp; done) | (simp [*]; done)), H', ⟨by first | omega | exact Nat.le_refl _⟩, ⟨by exact sqm Oq1 (fun _ hk => hk.1.2)⟩, ⟨by exact sqm Oq0 (fun _ hk => hk.1.2)⟩, ⟨by (with_reducible repeat (first | refine blk_drewN ?_ _ | refine blk_drew ?_ | refine blk_alloc ?_ _)); exact BK489.out⟩, ⟨by repeat with_reducible first | exact HB.out | apply pw_below_drewN | apply below_drew1 | refine below_set ?_ GE489.out⟩⟩
    ·
     replace c24 := Bool.eq_false_iff.mpr c24
     subst c24
     have H1 : (laws_FnOrderedBoards.j0 k l1 t490 t497 true t484 t485 t486) = some true := by first | (rw [if_neg (show ¬ (false = true) by decide)] at H; exact H) | rfl
     clear H
     have H := H1
     clear H1
     exact absurd H (laws_FnOrderedBoards.j0_no _ _ _ _ _ _ _)
  case rest => as_aux_lemma =>
   clear HC10
   try clear c1; try clear c2; try clear p2; try clear c4; try clear c9; try clear c10; try clear c22; try clear c22b0; try clear c22b1; try clear c22b2; try clear c24; try clear c25; try clear c25b0; try clear c25b1; try clear c25b2; try clear c26; try clear c26b0; try clear c26b1; try clear c26b2; try clear zq0; try clear zq1; try clear zq2; try clear zq3; try clear zq4; try clear zq5; try clear zq6; try clear zq7; try clear zq8; try clear zq9; try clear zq10; try clear zq11; try clear fq0; try clear fq1; try clear fq2; try clear fq3; try clear fq4; try clear fq5; try clear fq6; try clear fq7; try clear fq8; try clear fq9; try clear fq10; try clear fq11
   obtain ⟨kq, x79_9, rfl, HA, HJ9, Oq14, Oq11, BK489, HB⟩ := hcut
   cases kq with
   | zero => exact absurd HA.out (by simp [laws_FnOrderedBoards.j0])
   | succ kj9 =>
    have H := HA.out
    clear HA
    simp only [laws_FnOrderedBoards.j0] at H
    by_cases c29 : x79_9 = true
    ·
     subst c29
     have H1 : (some false) = some true := by first | (rw [if_pos rfl] at H; exact H) | rfl
     clear H
     have H := H1
     clear H1
     exact absurd (Option.some.inj H) (by decide)
    ·
     replace c29 := Bool.eq_false_iff.mpr c29
     subst c29
     have H1 : ((spec_DrawOrderOf.f kj9 l1).bind fun bt503 => ((impl_OrderOf.f kj9 bt503.1 bt503.2.1 bt503.2.2).bind fun bt509 => ((spec_OrderOf.f kj9 bt503.1 bt503.2.1 bt503.2.2).bind fun bt513 => (if (bt509.2 != bt513.2) = true then (laws_FnOrderedBoards.j1 kj9 t490 t497 bt509.1 bt509.2 true t484 t485 t486 bt503.1 bt503.2.1 bt503.2.2) else ((laws_rSame.f kj9 bt509.1 bt513.1).bind fun t517 => (laws_FnOrderedBoards.j1 kj9 t490 t497 bt509.1 bt509.2 (!t517) t484 t485 t486 bt503.1 bt503.2.1 bt503.2.2)))))) = some true := by first | (rw [if_neg (show ¬ (false = true) by decide)] at H; exact H) | rfl
     clear H
     have H := H1
     clear H1
     replace H := Option.bind_eq_some_iff.mp H
     obtain ⟨⟨t503, t504, t505⟩, A300, H⟩ := H
     replace H : ((impl_OrderOf.f kj9 t503 t504 t505).bind fun bt509 => ((spec_OrderOf.f kj9 t503 t504 t505).bind fun bt513 => (if (bt509.2 != bt513.2) = true then (laws_FnOrderedBoards.j1 kj9 t490 t497 bt509.1 bt509.2 true t484 t485 t486 t503 t504 t505) else ((laws_rSame.f kj9 bt509.1 bt513.1).bind fun t517 => (laws_FnOrderedBoards.j1 kj9 t490 t497 bt509.1 bt509.2 (!t517) t484 t485 t486 t503 t504 t505))))) = some true := H
     have A30 := Aside0.mk A300
     clear A300
     replace H := Option.bind_eq_some_iff.mp H
     obtain ⟨⟨t509, t512⟩, A310, H⟩ := H
     replace H : ((spec_OrderOf.f kj9 t503 t504 t505).bind fun bt513 => (if (t512 != bt513.2) = true then (laws_FnOrderedBoards.j1 kj9 t490 t497 t509 t512 true t484 t485 t486 t503 t504 t505) else ((laws_rSame.f kj9 t509 bt513.1).bind fun t517 => (laws_FnOrderedBoards.j1 kj9 t490 t497 t509 t512 (!t517) t484 t485 t486 t503 t504 t505)))) = some true := H
     have A31 := Aside0.mk A310
     clear A310
     replace H := Option.bind_eq_some_iff.mp H
     obtain ⟨⟨t513, t516⟩, A320, H⟩ := H
     replace H : (if (t512 != t516) = true then (laws_FnOrderedBoards.j1 kj9 t490 t497 t509 t512 true t484 t485 t486 t503 t504 t505) else ((laws_rSame.f kj9 t509 t513).bind fun t517 => (laws_FnOrderedBoards.j1 kj9 t490 t497 t509 t512 (!t517) t484 t485 t486 t503 t504 t505))) = some true := H
     have A32 := Aside0.mk A320
     clear A320
     have HC33 := Aside0.mk H
     clear H
     go_upto_region 13 with (first | ((with_reducible refine gate_callee (f := 101) rfl ?_); refine goesL_ (some 81) rfl rfl Try.func101 (by kernel_rfl) rfl #[.slice A1 l1.length c1] rfl (by (try simp only [List.map_toArray, List.map_cons, List.map_nil]); try rfl) ?_; (with_reducible refine (spec_DrawOrderOf.calls kj9 _ _ l1 t503 t504 t505 _ ?side1 ?side2 A30.out).mono ?_); (case side1 => repeat (first | exact (Kd.C_below HR1.out HB.out) | (with_reducible first | refine Kd.C_alloc ?_ _ | refine Kd.C_drewN ?_ _ | refine Kd.C_drew ?_))); (case side2 => exact HC1.out); rintro e w34 ⟨v506, rfl, ho0, hb⟩; refine ⟨_, rfl, ?_⟩; have n2_ := am (Kd.R_lower (Kd.R_new' (Kd.R_new' ho0 (sqL Oq14)) (sqL Oq11)) (below_size (by repeat with_reducible first | exact HB.out | apply pw_below_drewN | apply below_drew1 | refine below_set ?_ GE489.out))); have n4_ := am (below_step (by repeat with_reducible first | exact HB.out | apply pw_below_drewN | apply below_drew1 | refine below_set ?_ GE489.out) hb); clear HB; replace Oq14 := sqE Oq14 ho0 hb; replace Oq11 := sqE Oq11 ho0 hb; have Oq3 := n2_; replace BK489 := sqB BK489 hb; have HB := n4_; clear n2_ n4_; (try clear hb); (try clear hb2); (try clear hk); (try clear hi); (try clear ho0)) | ((with_reducible refine gate_dst (N := 14) rfl ?_); refine box_event ?hg (N := 14) ?hd (cs := #[.int .i64 0, .int .i64 0, .slice none 0 0]) (t := 34) ?hr ?_; (case hd => rfl); (case hg => rfl); (case hr => first | (go_simp; done) | (go_simp; rfl)); intro gb508 hg w35 hbox hb; have n4_ := am (below_step (by repeat with_reducible first | exact HB.out | apply pw_below_drewN | apply below_drew1 | refine below_set ?_ GE489.out) hb); have n5_ := am (hbox); have n6_ := am ((by rw [hg]; exact (below_size (by repeat with_reducible first | exact HB.out | apply pw_below_drewN | apply below_drew1 | refine below_set ?_ GE489.out)) : w.heap.size ≤ gb508)); have n7_ := am ((by rw [hg]; exact (below_size (by repeat with_reducible first | exact HB.out | apply pw_below_drewN | apply below_drew1 | refine below_set ?_ GE489.out)) : w.heap.size ≤ gb508)); have n8_ := am ((by rw [hg]; exact Nat.ne_of_lt (sqT BK489) : gb489 ≠ gb508)); have n9_ := am ((by rw [hg]; exact Nat.ne_of_gt (sqT BK489) : gb508 ≠ gb489)); clear HB; replace Oq14 := sqR Oq14 hb; replace Oq11 := sqR Oq11 hb; replace Oq3 := sqR Oq3 hb; replace BK489 := sqB BK489 hb; have HB := n4_; have BK508 := n5_; have GW508 := n6_; have GE508 := n7_; have Nq0 := n8_; have Nq3 := n9_; clear n4_ n5_ n6_ n7_ n8_ n9_; clear hb hbox hg; have bq0 := Nq3.out; have cq0 := Nq0.out; have zq12 : w35.cell? ⟨gb508, 0, none⟩ = some (.int .i64 0) := sqc BK508 0; have zq13 : w35.cell? ⟨gb508, 1, none⟩ = some (.int .i64 0) := sqc BK508 1; have zq14 : w35.cell? ⟨gb508, 2, none⟩ = some (.slice none 0 0) := sqc BK508 2; have fq12 := blk_frozen BK508.out 0; have fq13 := blk_frozen BK508.out 1; have fq14 := blk_frozen BK508.out 2; obtain ⟨Ao38, co38, eo38⟩ := Kd.R_slice Oq3.out; subst eo38) | ((with_reducible refine gate_callee (f := 102) rfl ?_); refine goesL_ (some 84) rfl rfl Try.func102 (by kernel_rfl) rfl #[.agg #[.int .i64 t503, .int .i64 t504, .slice Ao38 t505.length co38]] rfl (by (try simp only [List.map_toArray, List.map_cons, List.map_nil]); try rfl) ?_; (with_reducible refine (impl_OrderOf.calls kj9 t503 t504 _ _ t505 t509 t512 _ ?side1 ?side2 A31.out).mono ?_); (case side1 => refine (Kd.R_reads' (e := 3) (base := w.heap.size) (ok := fun k_ => ((True ∧ some k_ ≠ (v491 : Value).ownBlock) ∧ some k_ ≠ (.slice Ao14 t486.length co14 : Value).ownBlock)) (n := t505.length) (c := co38) ?_).2.2; exact (by (with_reducible repeat (first | apply Kd.R_alloc | apply Kd.R_drewN | apply Kd.R_drew)); exact (Kd.R_mono (Kd.R_far (p := ⟨gb508, 2, none⟩) (Kd.R_far (p := ⟨gb508, 1, none⟩) (Kd.R_far (p := ⟨gb508, 0, none⟩) (Kd.R_types Oq3.out BK508.out (by decide)) (fun _ hk => hk.2) (.int .i64 t503)) (fun _ hk => hk.2) (.int .i64 t504)) (fun _ hk => hk.2) (.slice Ao38 t505.length co38)) (fun _ h_ => by first | exact h_.1 | (have hx_ := h_.1; and_intros <;> first | trivial | simp only [hx_, ne_eq, not_false_eq_true]))))); (case side2 => exact (Kd.R_reads' Oq3.out).2.1); rintro e w39 ⟨v510, rfl, ho0, hb⟩; refine ⟨_, rfl, ?_⟩; have n0_ := am (Kd.R_elder' (by (with_reducible repeat (first | apply Kd.R_alloc | apply Kd.R_drewN | apply Kd.R_drew)); exact (Kd.R_mono (Kd.R_far (p := ⟨gb508, 2, none⟩) (Kd.R_far (p := ⟨gb508, 1, none⟩) (Kd.R_far (p := ⟨gb508, 0, none⟩) (Kd.R_types Oq14.out BK508.out (by decide)) (fun _ hk => hk.2) (.int .i64 t503)) (fun _ hk => hk.2) (.int .i64 t504)) (fun _ hk => hk.2) (.slice Ao38 t505.length co38)) (fun _ h_ => h_.1))) (Kd.R_base ho0) hb); have n1_ := am (Kd.R_elder' (by (with_reducible repeat (first | apply Kd.R_alloc | apply Kd.R_drewN | apply Kd.R_drew)); exact (Kd.R_mono (Kd.R_far (p := ⟨gb508, 2, none⟩) (Kd.R_far (p := ⟨gb508, 1, none⟩) (Kd.R_far (p := ⟨gb508, 0, none⟩) (Kd.R_types Oq11.out BK508.out (by decide)) (fun _ hk => hk.2) (.int .i64 t503)) (fun _ hk => hk.2) (.int .i64 t504)) (fun _ hk => hk.2) (.slice Ao38 t505.length co38)) (fun _ h_ => h_.1))) (Kd.R_base ho0) hb); have n2_ := am (Kd.R_elder' (by (with_reducible repeat (first | apply Kd.R_alloc | apply Kd.R_drewN | apply Kd.R_drew)); exact (Kd.R_mono (Kd.R_far (p := ⟨gb508, 2, none⟩) (Kd.R_far (p := ⟨gb508, 1, none⟩) (Kd.R_far (p := ⟨gb508, 0, none⟩) (Kd.R_types Oq3.out BK508.out (by decide)) (fun _ hk => hk.2) (.int .i64 t503)) (fun _ hk => hk.2) (.int .i64 t504)) (fun _ hk => hk.2) (.slice Ao38 t505.length co38)) (fun _ h_ => h_.1))) (Kd.R_base ho0) hb); have n3_ := am (Kd.R_lower (Kd.R_new' (Kd.R_new' (Kd.R_new' ho0 (Kd.R_lt (by (with_reducible repeat (first | apply Kd.R_alloc | apply Kd.R_drewN | apply Kd.R_drew)); exact (Kd.R_mono (Kd.R_far (p := ⟨gb508, 2, none⟩) (Kd.R_far (p := ⟨gb508, 1, none⟩) (Kd.R_far (p := ⟨gb508, 0, none⟩) (Kd.R_types Oq14.out BK508.out (by decide)) (fun _ hk => hk.2) (.int .i64 t503)) (fun _ hk => hk.2) (.int .i64 t504)) (fun _ hk => hk.2) (.slice Ao38 t505.length co38)) (fun _ h_ => h_.1))))) (Kd.R_lt (by (with_reducible repeat (first | apply Kd.R_alloc | apply Kd.R_drewN | apply Kd.R_drew)); exact (Kd.R_mono (Kd.R_far (p := ⟨gb508, 2, none⟩) (Kd.R_far (p := ⟨gb508, 1, none⟩) (Kd.R_far (p := ⟨gb508, 0, none⟩) (Kd.R_types Oq11.out BK508.out (by decide)) (fun _ hk => hk.2) (.int .i64 t503)) (fun _ hk => hk.2) (.int .i64 t504)) (fun _ hk => hk.2) (.slice Ao38 t505.length co38)) (fun _ h_ => h_.1))))) (Kd.R_lt (by (with_reducible repeat (first | apply Kd.R_alloc | apply Kd.R_drewN | apply Kd.R_drew)); exact (Kd.R_mono (Kd.R_far (p := ⟨gb508, 2, none⟩) (Kd.R_far (p := ⟨gb508, 1, none⟩) (Kd.R_far (p := ⟨gb508, 0, none⟩) (Kd.R_types Oq3.out BK508.out (by decide)) (fun _ hk => hk.2) (.int .i64 t503)) (fun _ hk => hk.2) (.int .i64 t504)) (fun _ hk => hk.2) (.slice Ao38 t505.length co38)) (fun _ h_ => h_.1))))) (below_size (by repeat with_reducible first | exact HB.out | apply pw_below_drewN | apply below_drew1 | refine below_set ?_ (Aside0.out (by assumption))))); have n4_ := am (blk_below (g := gb489) (o := .cells #[.int .i64 t484, .int .i64 t485, .slice Ao14 t486.length co14] 34 (0, 0)) (by (with_reducible repeat (first | refine blk_drewN ?_ _ | refine blk_drew ?_ | refine blk_alloc ?_ _)); refine blk_far ?_ Nq0.out _; (with_reducible repeat (first | refine blk_drewN ?_ _ | refine blk_drew ?_ | refine blk_alloc ?_ _)); refine blk_far ?_ Nq0.out _; (with_reducible repeat (first | refine blk_drewN ?_ _ | refine blk_drew ?_ | refine blk_alloc ?_ _)); refine blk_far ?_ Nq0.out _; (with_reducible repeat (first | refine blk_drewN ?_ _ | refine blk_drew ?_ | refine blk_alloc ?_ _)); exact BK489.out) hb); have n5_ := am (blk_below (g := gb508) (o := .cells #[.int .i64 t503, .int .i64 t504, .slice Ao38 t505.length co38] 34 (0, 0)) (by (with_reducible repeat (first | refine blk_drewN ?_ _ | refine blk_drew ?_ | refine blk_alloc ?_ _)); refine blk_put (cs := #[.int .i64 t503, .int .i64 t504, .slice none 0 0]) ?_ 2 _ rfl; (with_reducible repeat (first | refine blk_drewN ?_ _ | refine blk_drew ?_ | refine blk_alloc ?_ _)); refine blk_put (cs := #[.int .i64 t503, .int .i64 0, .slice none 0 0]) ?_ 1 _ rfl; (with_reducible repeat (first | refine blk_drewN ?_ _ | refine blk_drew ?_ | refine blk_alloc ?_ _)); refine blk_put (cs := #[.int .i64 0, .int .i64 0, .slice none 0 0]) ?_ 0 _ rfl; (with_reducible repeat (first | refine blk_drewN ?_ _ | refine blk_drew ?_ | refine blk_alloc ?_ _)); exact BK508.out) hb); have n6_ := am (below_step (by repeat with_reducible first | exact HB.out | apply pw_below_drewN | apply below_drew1 | refine below_set ?_ (Aside0.out (by assumption))) hb); clear Oq14; clear Oq11; clear Oq3; clear BK489; clear BK508; clear HB; have Oq14 := n0_; have Oq11 := n1_; have Oq3 := n2_; have Oq4 := n3_; have BK489 := n4_; have BK508 := n5_; have HB := n6_; clear n0_ n1_ n2_ n3_ n4_ n5_ n6_; (try clear hb); (try clear hb2); (try clear hk); (try clear hi); (try clear ho0); have zq15 : w39.cell? ⟨gb508, 0, none⟩ = some (.int .i64 t503) := sqc BK508 0; have zq16 : w39.cell? ⟨gb508, 1, none⟩ = some (.int .i64 t504) := sqc BK508 1; have zq17 : w39.cell? ⟨gb508, 2, none⟩ = some (.slice Ao38 t505.length co38) := sqc BK508 2; have fq15 := blk_frozen BK508.out 0; have fq16 := blk_frozen BK508.out 1; have fq17 := blk_frozen BK508.out 2) | ((with_reducible refine gate_callee (f := 103) rfl ?_); refine goesL_ (some 89) rfl rfl Try.func103 (by kernel_rfl) rfl #[.agg #[.int .i64 t503, .int .i64 t504, .slice Ao38 t505.length co38]] rfl (by (try simp only [List.map_toArray, List.map_cons, List.map_nil]); try rfl) ?_; (with_reducible refine (spec_OrderOf.calls kj9 t503 t504 _ _ t505 t513 t516 _ ?side1 ?side2 A32.out).mono ?_); (case side1 => repeat (first | exact (Kd.R_reads' Oq3.out).2.2 | (with_reducible first | refine Kd.C_alloc ?_ _ | refine Kd.C_drewN ?_ _ | refine Kd.C_drew ?_))); (case side2 => exact (Kd.R_reads' Oq3.out).2.1); rintro e w41 ⟨v514, rfl, ho0, hb⟩; refine ⟨_, rfl, ?_⟩; have n4_ := am (Kd.R_lower (Kd.R_new' (Kd.R_new' (Kd.R_new' (Kd.R_new' ho0 (sqL Oq14)) (sqL Oq11)) (sqL Oq3)) (sqL Oq4)) (below_size (by repeat with_reducible first | exact HB.out | apply pw_below_drewN | apply below_drew1 | refine below_set ?_ (Aside0.out (by assumption))))); have n7_ := am (below_step (by repeat with_reducible first | exact HB.out | apply pw_below_drewN | apply below_drew1 | refine below_set ?_ (Aside0.out (by assumption))) hb); clear HB; replace Oq14 := sqE Oq14 ho0 hb; replace Oq11 := sqE Oq11 ho0 hb; replace Oq3 := sqE Oq3 ho0 hb; replace Oq4 := sqE Oq4 ho0 hb; have Oq5 := n4_; replace BK489 := sqB BK489 hb; replace BK508 := sqB BK508 hb; have HB := n7_; clear n4_ n7_; (try clear hb); (try clear hb2); (try clear hk); (try clear hi); (try clear ho0)))
     (try simp only [Act.put, List.setIfInBounds_toArray, List.set_cons_zero, List.set_cons_succ])
     go_cut [100] (fun v100 wc => ∃ (kq : Nat) (x100_32 : Bool), v100 = .bool x100_32 ∧ Aside0 (laws_FnOrderedBoards.j1 kq t490 t497 t509 t512 x100_32 t484 t485 t486 t503 t504 t505 = some true) ∧ Aside0 (kq ≤ kj9) ∧ Aside0 (Kd.R (Kd.int .i64) 3 wc w.heap.size (fun k_ => some k_ ≠ (v510 : Value).ownBlock ∧ some k_ ≠ ((.slice Ao14 t486.length co14) : Value).ownBlock ∧ some k_ ≠ ((.slice Ao38 t505.length co38) : Value).ownBlock) v491 t490) ∧ Aside0 (Kd.R (Kd.int .i64) 3 wc w.heap.size (fun k_ => some k_ ≠ (v491 : Value).ownBlock ∧ some k_ ≠ ((.slice Ao14 t486.length co14) : Value).ownBlock ∧ some k_ ≠ ((.slice Ao38 t505.length co38) : Value).ownBlock) v510 t509) ∧ Aside0 (Kd.R (Kd.int .i64) 3 wc w.heap.size (fun k_ => some k_ ≠ (v491 : Value).ownBlock ∧ some k_ ≠ (v510 : Value).ownBlock ∧ some k_ ≠ ((.slice Ao38 t505.length co38) : Value).ownBlock) (.slice Ao14 t486.length co14) t486) ∧ Aside0 (Kd.R (Kd.int .i64) 3 wc w.heap.size (fun k_ => some k_ ≠ (v491 : Value).ownBlock ∧ some k_ ≠ (v510 : Value).ownBlock ∧ some k_ ≠ ((.slice Ao14 t486.length co14) : Value).ownBlock) (.slice Ao38 t505.length co38) t505) ∧ Aside0 (wc.heap[gb489]? = some (.cells #[.int .i64 t484, .int .i64 t485, (.slice Ao14 t486.length co14)] 34 (0, 0))) ∧ Aside0 (wc.heap[gb508]? = some (.cells #[.int .i64 t503, .int .i64 t504, (.slice Ao38 t505.length co38)] 34 (0, 0))) ∧ Aside0 (Below w.heap.size w wc))
     case first => as_aux_lemma =>
      have H := HC33.out
      clear HC33
      by_cases c42 : (t512 != t516) = true
      ·
       rw [if_pos c42] at H
       have c42b0 : (t512 != t516) = true := c42
       (try (have c42b1 : decide (t512 = t516) = false := by simpa using c42))
       (try (have c42b2 : (t512 == t516) = false := by simpa using c42))
       (try (have c42b3 : ¬ (t512 = t516) := by simpa using c42))
       clear c42
       (first | rw [c42b0] | (simp only [i64_w, i32_w]; rw [c42b0]) | rw [c42b1] | skip)
       exact absurd H (laws_FnOrderedBoards.j1_no _ _ _ _ _ _ _ _ _ _ _)
      ·
       rw [if_neg c42] at H
       have c42b0 : (t512 != t516) = false := by simpa using c42
       (try (have c42b1 : decide (t512 = t516) = true := by simpa using c42))
       (try (have c42b2 : (t512 == t516) = true := by simpa using c42))
       clear c42
       (first | rw [c42b0] | (simp only [i64_w, i32_w]; rw [c42b0]) | rw [c42b1] | skip)
       replace H := Option.bind_eq_some_iff.mp H
       obtain ⟨t517, A430, H⟩ := H
       replace H : (laws_FnOrderedBoards.j1 kj9 t490 t497 t509 t512 (!t517) t484 t485 t486 t503 t504 t505) = some true := H
       have A43 := Aside0.mk A430
       clear A430
       have H' := Aside0.mk H
       clear H
       obtain ⟨Ao44, co44, eo44⟩ := Kd.R_slice Oq4.out
       subst eo44
       obtain ⟨Ao45, co45, eo45⟩ := Kd.R_slice Oq5.out
       subst eo45
       go_wp2_with (first | (go_at_call 23; (with_reducible refine (laws_rSame.calls kj9 _ _ t509 _ _ t513 t517 _ ?side1 ?side2 ?side3 ?side4 A43.out).mono ?_); (case side1 => repeat (first | exact (Kd.R_reads' Oq4.out).2.2 | (with_reducible first | refine Kd.C_alloc ?_ _ | refine Kd.C_drewN ?_ _ | refine Kd.C_drew ?_))); (case side2 => exact (Kd.R_reads' Oq4.out).2.1); (case side3 => repeat (first | exact (Kd.R_reads' Oq5.out).2.2 | (with_reducible first | refine Kd.C_alloc ?_ _ | refine Kd.C_drewN ?_ _ | refine Kd.C_drew ?_))); (case side4 => exact (Kd.R_reads' Oq5.out).2.1); rintro e w' ⟨rfl, ⟨nd, rfl⟩⟩))
       go_meet
       case rel => exact ⟨_, (!t517), (by first | rfl | (simp; done) | (simp [*]; done)), H', ⟨by have := HJ9.out; first | omega | exact Nat.le_refl _⟩, ⟨by exact sqm Oq14 (fun _ hk => by first | exact ⟨hk.1.2, ⟨hk.1.1.1, hk.1.1.2⟩⟩ | (and_intros <;> first | trivial | simp only [hk, ne_eq, not_false_eq_true]))⟩, ⟨by exact sqm Oq4 (fun _ hk => by first | exact ⟨hk.1.1.1.2, ⟨hk.1.1.2, hk.1.2⟩⟩ | (and_intros <;> first | trivial | simp only [hk, ne_eq, not_false_eq_true]))⟩, ⟨by exact sqm Oq11 (fun _ hk => by first | exact ⟨hk.1.1.1, ⟨hk.1.2, hk.1.1.2⟩⟩ | (and_intros <;> first | trivial | simp only [hk, ne_eq, not_false_eq_true]))⟩, ⟨by exact sqm Oq3 (fun _ hk => by first | exact ⟨hk.1.1.1.2, ⟨hk.1.2, hk.1.1.2⟩⟩ | (and_intros <;> first | trivial | simp only [hk, ne_eq, not_false_eq_true]))⟩, ⟨by (with_reducible repeat (first | refine blk_drewN ?_ _ | refine blk_drew ?_ | refine blk_alloc ?_ _)); exact BK489.out⟩, ⟨by (with_reducible repeat (first | refine blk_drewN ?_ _ | refine blk_drew ?_ | refine blk_alloc ?_ _)); exact BK508.out⟩, ⟨by repeat with_reducible first | exact HB.out | apply pw_below_drewN | apply below_drew1 | refine below_set ?_ (Aside0.out (by assumption))⟩⟩
     case rest => as_aux_lemma =>
      clear HC33
      try clear c1; try clear c2; try clear p2; try clear c3; try clear c4; try clear c9; try clear c10; try clear c22; try clear c22b0; try clear c22b1; try clear c22b2; try clear c24; try clear c25; try clear c25b0; try clear c25b1; try clear c25b2; try clear c26; try clear c26b0; try clear c26b1; try clear c26b2; try clear c29; try clear c36; try clear c42; try clear c42b0; try clear c42b1; try clear c42b2; try clear zq0; try clear zq1; try clear zq2; try clear zq3; try clear zq4; try clear zq5; try clear zq6; try clear zq7; try clear zq8; try clear zq9; try clear zq10; try clear zq11; try clear zq12; try clear zq13; try clear zq14; try clear zq15; try clear zq16; try clear zq17; try clear fq0; try clear fq1; try clear fq2; try clear fq3; try clear fq4; try clear fq5; try clear fq6; try clear fq7; try clear fq8; try clear fq9; try clear fq10; try clear fq11; try clear fq12; try clear fq13; try clear fq14; try clear fq15; try clear fq16; try clear fq17; try clear p2
      obtain ⟨kq, x100_32, rfl, HA, HJ32, Oq14, Oq10, Oq11, Oq12, BK489, BK508, HB⟩ := hcut
      cases kq with
      | zero => exact absurd HA.out (by simp [laws_FnOrderedBoards.j1])
      | succ kj32 =>
       have H := HA.out
       clear HA
       simp only [laws_FnOrderedBoards.j1] at H
       by_cases c46 : x100_32 = true
       ·
        subst c46
        have H1 : (some false) = some true := by first | (rw [if_pos rfl] at H; exact H) | rfl
        clear H
        have H := H1
        clear H1
        exact absurd (Option.some.inj H) (by decide)
       ·
        replace c46 := Bool.eq_false_iff.mpr c46
        subst c46
        have H1 : (if t512 = true then ((impl_OrderRows.f kj32 t503 t504 t505 t509).bind fun bt518 => ((impl_IsOrdered.f kj32 bt518.1 bt518.2.1 bt518.2.2.1).bind fun bt525 => ((impl_AreAlike.f kj32 t503 t504 t505 bt518.1 bt518.2.1 bt518.2.2.1).bind fun bt527 => (if bt518.2.2.2 = true then (if bt525.2 = true then (if bt525.1 = true then (if bt527.2 = true then (if bt527.1 = true then (laws_FnOrderedBoards.j2 kj32 t490 t497 t484 t485 t486) else (some false)) else (some false)) else (some false)) else (some false)) else (some false))))) else (laws_FnOrderedBoards.j2 kj32 t490 t497 t484 t485 t486)) = some true := by first | (rw [if_neg (show ¬ (false = true) by decide)] at H; exact H) | rfl
        clear H
        have H := H1
        clear H1
        have HC47 := Aside0.mk H
        clear H
        go_upto_if 101 with (fail)
        go_cut [] (fun wc => ∃ (kq : Nat), Aside0 (laws_FnOrderedBoards.j2 kq t490 t497 t484 t485 t486 = some true) ∧ Aside0 (kq ≤ kj32) ∧ Aside0 (Kd.R (Kd.int .i64) 3 wc w.heap.size (fun k_ => some k_ ≠ ((.slice Ao14 t486.length co14) : Value).ownBlock ∧ some k_ ≠ ((.slice Ao38 t505.length co38) : Value).ownBlock) v491 t490) ∧ Aside0 (Kd.R (Kd.int .i64) 3 wc w.heap.size (fun k_ => some k_ ≠ (v491 : Value).ownBlock ∧ some k_ ≠ ((.slice Ao38 t505.length co38) : Value).ownBlock) (.slice Ao14 t486.length co14) t486) ∧ Aside0 (Kd.R (Kd.int .i64) 3 wc w.heap.size (fun k_ => some k_ ≠ (v491 : Value).ownBlock ∧ some k_ ≠ ((.slice Ao14 t486.length co14) : Value).ownBlock) (.slice Ao38 t505.length co38) t505) ∧ Aside0 (wc.heap[gb489]? = some (.cells #[.int .i64 t484, .int .i64 t485, (.slice Ao14 t486.length co14)] 34 (0, 0))) ∧ Aside0 (wc.heap[gb508]? = some (.cells #[.int .i64 t503, .int .i64 t504, (.slice Ao38 t505.length co38)] 34 (0, 0))) ∧ Aside0 (Below w.heap.size w wc))
        case first => as_aux_lemma =>
         have H := HC47.out
         clear HC47
         by_cases c48 : t512 = true
         ·
          subst c48
          have H1 : ((impl_OrderRows.f kj32 t503 t504 t505 t509).bind fun bt518 => ((impl_IsOrdered.f kj32 bt518.1 bt518.2.1 bt518.2.2.1).bind fun bt525 => ((impl_AreAlike.f kj32 t503 t504 t505 bt518.1 bt518.2.1 bt518.2.2.1).bind fun bt527 => (if bt518.2.2.2 = true then (if bt525.2 = true then (if bt525.1 = true then (if bt527.2 = true then (if bt527.1 = true then (laws_FnOrderedBoards.j2 kj32 t490 t497 t484 t485 t486) else (some false)) else (some false)) else (some false)) else (some false)) else (some false))))) = some true := by first | (rw [if_pos rfl] at H; exact H) | rfl
          clear H
          have H := H1
          clear H1
          replace H := Option.bind_eq_some_iff.mp H
          obtain ⟨⟨t518, t519, t520, t523⟩, A490, H⟩ := H
          replace H : ((impl_IsOrdered.f kj32 t518 t519 t520).bind fun bt525 => ((impl_AreAlike.f kj32 t503 t504 t505 t518 t519 t520).bind fun bt527 => (if t523 = true then (if bt525.2 = true then (if bt525.1 = true then (if bt527.2 = true then (if bt527.1 = true then (laws_FnOrderedBoards.j2 kj32 t490 t497 t484 t485 t486) else (some false)) else (some false)) else (some false)) else (some false)) else (some false)))) = some true := H
          have A49 := Aside0.mk A490
          clear A490
          replace H := Option.bind_eq_some_iff.mp H
          obtain ⟨⟨t525, t526⟩, A500, H⟩ := H
          replace H : ((impl_AreAlike.f kj32 t503 t504 t505 t518 t519 t520).bind fun bt527 => (if t523 = true then (if t526 = true then (if t525 = true then (if bt527.2 = true then (if bt527.1 = true then (laws_FnOrderedBoards.j2 kj32 t490 t497 t484 t485 t486) else (some false)) else (some false)) else (some false)) else (some false)) else (some false))) = some true := H
          have A50 := Aside0.mk A500
          clear A500
          replace H := Option.bind_eq_some_iff.mp H
          obtain ⟨⟨t527, t528⟩, A510, H⟩ := H
          replace H : (if t523 = true then (if t526 = true then (if t525 = true then (if t528 = true then (if t527 = true then (laws_FnOrderedBoards.j2 kj32 t490 t497 t484 t485 t486) else (some false)) else (some false)) else (some false)) else (some false)) else (some false)) = some true := H
          have A51 := Aside0.mk A510
          clear A510
          by_cases c52 : t523 = true
          ·
           subst c52
           have H1 : (if t526 = true then (if t525 = true then (if t528 = true then (if t527 = true then (laws_FnOrderedBoards.j2 kj32 t490 t497 t484 t485 t486) else (some false)) else (some false)) else (some false)) else (some false)) = some true := by first | (rw [if_pos rfl] at H; exact H) | rfl
           clear H
           have H := H1
           clear H1
           by_cases c53 : t526 = true
           ·
            subst c53
            have H1 : (if t525 = true then (if t528 = true then (if t527 = true then (laws_FnOrderedBoards.j2 kj32 t490 t497 t484 t485 t486) else (some false)) else (some false)) else (some false)) = some true := by first | (rw [if_pos rfl] at H; exact H) | rfl
            clear H
            have H := H1
            clear H1
            by_cases c54 : t525 = true
            ·
             subst c54
             have H1 : (if t528 = true then (if t527 = true then (laws_FnOrderedBoards.j2 kj32 t490 t497 t484 t485 t486) else (some false)) else (some false)) = some true := by first | (rw [if_pos rfl] at H; exact H) | rfl
             clear H
             have H := H1
             clear H1
             by_cases c55 : t528 = true
             ·
              subst c55
              have H1 : (if t527 = true then (laws_FnOrderedBoards.j2 kj32 t490 t497 t484 t485 t486) else (some false)) = some true := by first | (rw [if_pos rfl] at H; exact H) | rfl
              clear H
              have H := H1
              clear H1
              by_cases c56 : t527 = true
              ·
               subst c56
               have H1 : (laws_FnOrderedBoards.j2 kj32 t490 t497 t484 t485 t486) = some true := by first | (rw [if_pos rfl] at H; exact H) | rfl
               clear H
               have H := H1
               clear H1
               have H' := Aside0.mk H
               clear H
               have bq1 := Nq3.out
               have cq1 := Nq0.out
               have zq18 : wc.cell? ⟨gb508, 0, none⟩ = some (.int .i64 t503) := sqc BK508 0
               have zq19 : wc.cell? ⟨gb508, 1, none⟩ = some (.int .i64 t504) := sqc BK508 1
               have zq20 : wc.cell? ⟨gb508, 2, none⟩ = some (.slice Ao38 t505.length co38) := sqc BK508 2
               have fq18 := blk_frozen BK508.out 0
               have fq19 := blk_frozen BK508.out 1
               have fq20 := blk_frozen BK508.out 2
               obtain ⟨Ao59, co59, eo59⟩ := Kd.R_slice Oq10.out
               subst eo59
               go_wp2_with (first | ((with_reducible refine gate_callee (f := 104) rfl ?_); refine goesL_ (some 105) rfl rfl Try.func104 (by kernel_rfl) rfl #[.agg #[.int .i64 t503, .int .i64 t504, .slice Ao38 t505.length co38], .slice Ao59 t509.length co59] rfl (by (try simp only [List.map_toArray, List.map_cons, List.map_nil]); try rfl) ?_; (with_reducible refine (impl_OrderRows.calls kj32 t503 t504 _ _ t505 _ _ t509 t518 t519 t520 true _ ?side1 ?side2 ?side3 ?side4 A49.out).mono ?_); (case side1 => repeat (first | exact (Kd.R_reads' Oq12.out).2.2 | (with_reducible first | refine Kd.C_alloc ?_ _ | refine Kd.C_drewN ?_ _ | refine Kd.C_drew ?_))); (case side2 => exact (Kd.R_reads' Oq12.out).2.1); (case side3 => repeat (first | exact (Kd.R_reads' Oq10.out).2.2 | (with_reducible first | refine Kd.C_alloc ?_ _ | refine Kd.C_drewN ?_ _ | refine Kd.C_drew ?_))); (case side4 => exact (Kd.R_reads' Oq10.out).2.1); rintro e w60 ⟨v521, rfl, ho0, hb⟩; refine ⟨_, rfl, ?_⟩; have n4_ := am (Kd.R_lower (Kd.R_new' (Kd.R_new' (Kd.R_new' (Kd.R_new' ho0 (sqL Oq14)) (sqL Oq10)) (sqL Oq11)) (sqL Oq12)) (below_size (by repeat with_reducible first | exact HB.out | apply pw_below_drewN | apply below_drew1 | refine below_set ?_ (Aside0.out (by assumption))))); have n7_ := am (below_step (by repeat with_reducible first | exact HB.out | apply pw_below_drewN | apply below_drew1 | refine below_set ?_ (Aside0.out (by assumption))) hb); clear HB; replace Oq14 := sqE Oq14 ho0 hb; replace Oq10 := sqE Oq10 ho0 hb; replace Oq11 := sqE Oq11 ho0 hb; replace Oq12 := sqE Oq12 ho0 hb; have Oq6 := n4_; replace BK489 := sqB BK489 hb; replace BK508 := sqB BK508 hb; have HB := n7_; clear n4_ n7_; (try clear hb); (try clear hb2); (try clear hk); (try clear hi); (try clear ho0)) | ((with_reducible refine gate_dst (N := 19) rfl ?_); refine box_event ?hg (N := 19) ?hd (cs := #[.int .i64 0, .int .i64 0, .slice none 0 0]) (t := 34) ?hr ?_; (case hd => rfl); (case hg => rfl); (case hr => first | (go_simp; done) | (go_simp; rfl)); intro gb524 hg w61 hbox hb; have n7_ := am (below_step (by repeat with_reducible first | exact HB.out | apply pw_below_drewN | apply below_drew1 | refine below_set ?_ (Aside0.out (by assumption))) hb); have n8_ := am (hbox); have n9_ := am ((by rw [hg]; exact (below_size (by repeat with_reducible first | exact HB.out | apply pw_below_drewN | apply below_drew1 | refine below_set ?_ (Aside0.out (by assumption)))) : w.heap.size ≤ gb524)); have n10_ := am ((by rw [hg]; exact (below_size (by repeat with_reducible first | exact HB.out | apply pw_below_drewN | apply below_drew1 | refine below_set ?_ (Aside0.out (by assumption)))) : w.heap.size ≤ gb524)); have n11_ := am ((by rw [hg]; exact Nat.ne_of_lt (sqT BK489) : gb489 ≠ gb524)); have n12_ := am ((by rw [hg]; exact Nat.ne_of_gt (sqT BK489) : gb524 ≠ gb489)); have n13_ := am ((by rw [hg]; exact Nat.ne_of_lt (sqT BK508) : gb508 ≠ gb524)); have n14_ := am ((by rw [hg]; exact Nat.ne_of_gt (sqT BK508) : gb524 ≠ gb508)); clear HB; replace Oq14 := sqR Oq14 hb; replace Oq10 := sqR Oq10 hb; replace Oq11 := sqR Oq11 hb; replace Oq12 := sqR Oq12 hb; replace Oq6 := sqR Oq6 hb; replace BK489 := sqB BK489 hb; replace BK508 := sqB BK508 hb; have HB := n7_; have BK524 := n8_; have GW524 := n9_; have GE524 := n10_; have Nq1 := n11_; have Nq6 := n12_; have Nq4 := n13_; have Nq7 := n14_; clear n7_ n8_ n9_ n10_ n11_ n12_ n13_ n14_; clear hb hbox hg; have bq2 := Nq6.out; have cq2 := Nq1.out; have bq3 := Nq7.out; have cq3 := Nq4.out; have zq21 : w61.cell? ⟨gb524, 0, none⟩ = some (.int .i64 0) := sqc BK524 0; have zq22 : w61.cell? ⟨gb524, 1, none⟩ = some (.int .i64 0) := sqc BK524 1; have zq23 : w61.cell? ⟨gb524, 2, none⟩ = some (.slice none 0 0) := sqc BK524 2; have fq21 := blk_frozen BK524.out 0; have fq22 := blk_frozen BK524.out 1; have fq23 := blk_frozen BK524.out 2; obtain ⟨Ao65, co65, eo65⟩ := Kd.R_slice Oq6.out; subst eo65) | ((with_reducible refine gate_callee (f := 99) rfl ?_); refine goesL_ (some 110) rfl rfl Try.func99 (by kernel_rfl) rfl #[.agg #[.int .i64 t518, .int .i64 t519, .slice Ao65 t520.length co65]] rfl (by (try simp only [List.map_toArray, List.map_cons, List.map_nil]); try rfl) ?_; (with_reducible refine (impl_IsOrdered.calls kj32 t518 t519 _ _ t520 true true _ ?side1 ?side2 A50.out).mono ?_); (case side1 => refine (Kd.R_reads' (e := 3) (base := w.heap.size) (ok := fun k_ => ((((True ∧ some k_ ≠ (v491 : Value).ownBlock) ∧ some k_ ≠ (.slice Ao59 t509.length co59 : Value).ownBlock) ∧ some k_ ≠ (.slice Ao14 t486.length co14 : Value).ownBlock) ∧ some k_ ≠ (.slice Ao38 t505.length co38 : Value).ownBlock)) (n := t520.length) (c := co65) ?_).2.2; exact (by (with_reducible repeat (first | apply Kd.R_alloc | apply Kd.R_drewN | apply Kd.R_drew)); exact (Kd.R_mono (Kd.R_far (p := ⟨gb524, 2, none⟩) (Kd.R_far (p := ⟨gb524, 1, none⟩) (Kd.R_far (p := ⟨gb524, 0, none⟩) (Kd.R_types Oq6.out BK524.out (by decide)) (fun _ hk => hk.2) (.int .i64 t518)) (fun _ hk => hk.2) (.int .i64 t519)) (fun _ hk => hk.2) (.slice Ao65 t520.length co65)) (fun _ h_ => by first | exact h_.1 | (have hx_ := h_.1; and_intros <;> first | trivial | simp only [hx_, ne_eq, not_false_eq_true]))))); (case side2 => exact (Kd.R_reads' Oq6.out).2.1); rintro e w66 ⟨rfl, hb⟩; refine ⟨_, rfl, ?_⟩; have n0_ := am (Kd.R_below (by (with_reducible repeat (first | apply Kd.R_alloc | apply Kd.R_drewN | apply Kd.R_drew)); exact (Kd.R_mono (Kd.R_far (p := ⟨gb524, 2, none⟩) (Kd.R_far (p := ⟨gb524, 1, none⟩) (Kd.R_far (p := ⟨gb524, 0, none⟩) (Kd.R_types Oq14.out BK524.out (by decide)) (fun _ hk => hk.2) (.int .i64 t518)) (fun _ hk => hk.2) (.int .i64 t519)) (fun _ hk => hk.2) (.slice Ao65 t520.length co65)) (fun _ h_ => h_.1))) hb); have n1_ := am (Kd.R_below (by (with_reducible repeat (first | apply Kd.R_alloc | apply Kd.R_drewN | apply Kd.R_drew)); exact (Kd.R_mono (Kd.R_far (p := ⟨gb524, 2, none⟩) (Kd.R_far (p := ⟨gb524, 1, none⟩) (Kd.R_far (p := ⟨gb524, 0, none⟩) (Kd.R_types Oq10.out BK524.out (by decide)) (fun _ hk => hk.2) (.int .i64 t518)) (fun _ hk => hk.2) (.int .i64 t519)) (fun _ hk => hk.2) (.slice Ao65 t520.length co65)) (fun _ h_ => h_.1))) hb); have n2_ := am (Kd.R_below (by (with_reducible repeat (first | apply Kd.R_alloc | apply Kd.R_drewN | apply Kd.R_drew)); exact (Kd.R_mono (Kd.R_far (p := ⟨gb524, 2, none⟩) (Kd.R_far (p := ⟨gb524, 1, none⟩) (Kd.R_far (p := ⟨gb524, 0, none⟩) (Kd.R_types Oq11.out BK524.out (by decide)) (fun _ hk => hk.2) (.int .i64 t518)) (fun _ hk => hk.2) (.int .i64 t519)) (fun _ hk => hk.2) (.slice Ao65 t520.length co65)) (fun _ h_ => h_.1))) hb); have n3_ := am (Kd.R_below (by (with_reducible repeat (first | apply Kd.R_alloc | apply Kd.R_drewN | apply Kd.R_drew)); exact (Kd.R_mono (Kd.R_far (p := ⟨gb524, 2, none⟩) (Kd.R_far (p := ⟨gb524, 1, none⟩) (Kd.R_far (p := ⟨gb524, 0, none⟩) (Kd.R_types Oq12.out BK524.out (by decide)) (fun _ hk => hk.2) (.int .i64 t518)) (fun _ hk => hk.2) (.int .i64 t519)) (fun _ hk => hk.2) (.slice Ao65 t520.length co65)) (fun _ h_ => h_.1))) hb); have n4_ := am (Kd.R_below (by (with_reducible repeat (first | apply Kd.R_alloc | apply Kd.R_drewN | apply Kd.R_drew)); exact (Kd.R_mono (Kd.R_far (p := ⟨gb524, 2, none⟩) (Kd.R_far (p := ⟨gb524, 1, none⟩) (Kd.R_far (p := ⟨gb524, 0, none⟩) (Kd.R_types Oq6.out BK524.out (by decide)) (fun _ hk => hk.2) (.int .i64 t518)) (fun _ hk => hk.2) (.int .i64 t519)) (fun _ hk => hk.2) (.slice Ao65 t520.length co65)) (fun _ h_ => h_.1))) hb); have n5_ := am (blk_below (g := gb489) (o := .cells #[.int .i64 t484, .int .i64 t485, .slice Ao14 t486.length co14] 34 (0, 0)) (by (with_reducible repeat (first | refine blk_drewN ?_ _ | refine blk_drew ?_ | refine blk_alloc ?_ _)); refine blk_far ?_ Nq1.out _; (with_reducible repeat (first | refine blk_drewN ?_ _ | refine blk_drew ?_ | refine blk_alloc ?_ _)); refine blk_far ?_ Nq1.out _; (with_reducible repeat (first | refine blk_drewN ?_ _ | refine blk_drew ?_ | refine blk_alloc ?_ _)); refine blk_far ?_ Nq1.out _; (with_reducible repeat (first | refine blk_drewN ?_ _ | refine blk_drew ?_ | refine blk_alloc ?_ _)); exact BK489.out) hb); have n6_ := am (blk_below (g := gb508) (o := .cells #[.int .i64 t503, .int .i64 t504, .slice Ao38 t505.length co38] 34 (0, 0)) (by (with_reducible repeat (first | refine blk_drewN ?_ _ | refine blk_drew ?_ | refine blk_alloc ?_ _)); refine blk_far ?_ Nq4.out _; (with_reducible repeat (first | refine blk_drewN ?_ _ | refine blk_drew ?_ | refine blk_alloc ?_ _)); refine blk_far ?_ Nq4.out _; (with_reducible repeat (first | refine blk_drewN ?_ _ | refine blk_drew ?_ | refine blk_alloc ?_ _)); refine blk_far ?_ Nq4.out _; (with_reducible repeat (first | refine blk_drewN ?_ _ | refine blk_drew ?_ | refine blk_alloc ?_ _)); exact BK508.out) hb); have n7_ := am (blk_below (g := gb524) (o := .cells #[.int .i64 t518, .int .i64 t519, .slice Ao65 t520.length co65] 34 (0, 0)) (by (with_reducible repeat (first | refine blk_drewN ?_ _ | refine blk_drew ?_ | refine blk_alloc ?_ _)); refine blk_put (cs := #[.int .i64 t518, .int .i64 t519, .slice none 0 0]) ?_ 2 _ rfl; (with_reducible repeat (first | refine blk_drewN ?_ _ | refine blk_drew ?_ | refine blk_alloc ?_ _)); refine blk_put (cs := #[.int .i64 t518, .int .i64 0, .slice none 0 0]) ?_ 1 _ rfl; (with_reducible repeat (first | refine blk_drewN ?_ _ | refine blk_drew ?_ | refine blk_alloc ?_ _)); refine blk_put (cs := #[.int .i64 0, .int .i64 0, .slice none 0 0]) ?_ 0 _ rfl; (with_reducible repeat (first | refine blk_drewN ?_ _ | refine blk_drew ?_ | refine blk_alloc ?_ _)); exact BK524.out) hb); have n8_ := am (below_step (by repeat with_reducible first | exact HB.out | apply pw_below_drewN | apply below_drew1 | refine below_set ?_ (Aside0.out (by assumption))) hb); clear Oq14; clear Oq10; clear Oq11; clear Oq12; clear Oq6; clear BK489; clear BK508; clear BK524; clear HB; have Oq14 := n0_; have Oq10 := n1_; have Oq11 := n2_; have Oq12 := n3_; have Oq6 := n4_; have BK489 := n5_; have BK508 := n6_; have BK524 := n7_; have HB := n8_; clear n0_ n1_ n2_ n3_ n4_ n5_ n6_ n7_ n8_; (try clear hb); (try clear hb2); (try clear hk); (try clear hi); have zq24 : w66.cell? ⟨gb508, 0, none⟩ = some (.int .i64 t503) := sqc BK508 0; have zq25 : w66.cell? ⟨gb508, 1, none⟩ = some (.int .i64 t504) := sqc BK508 1; have zq26 : w66.cell? ⟨gb508, 2, none⟩ = some (.slice Ao38 t505.length co38) := sqc BK508 2; have fq24 := blk_frozen BK508.out 0; have fq25 := blk_frozen BK508.out 1; have fq26 := blk_frozen BK508.out 2; have zq27 : w66.cell? ⟨gb524, 0, none⟩ = some (.int .i64 t518) := sqc BK524 0; have zq28 : w66.cell? ⟨gb524, 1, none⟩ = some (.int .i64 t519) := sqc BK524 1; have zq29 : w66.cell? ⟨gb524, 2, none⟩ = some (.slice Ao65 t520.length co65) := sqc BK524 2; have fq27 := blk_frozen BK524.out 0; have fq28 := blk_frozen BK524.out 1; have fq29 := blk_frozen BK524.out 2) | ((with_reducible refine gate_callee (f := 79) rfl ?_); refine goesL_ (some 116) rfl rfl Try.func79 (by kernel_rfl) rfl #[.agg #[.int .i64 t503, .int .i64 t504, .slice Ao38 t505.length co38], .agg #[.int .i64 t518, .int .i64 t519, .slice Ao65 t520.length co65]] rfl (by (try simp only [List.map_toArray, List.map_cons, List.map_nil]); try rfl) ?_; (with_reducible refine (impl_AreAlike.calls kj32 t503 t504 _ _ t505 t518 t519 _ _ t520 true true _ ?side1 ?side2 ?side3 ?side4 A51.out).mono ?_); (case side1 => repeat (first | exact (Kd.R_reads' Oq12.out).2.2 | (with_reducible first | refine Kd.C_alloc ?_ _ | refine Kd.C_drewN ?_ _ | refine Kd.C_drew ?_))); (case side2 => exact (Kd.R_reads' Oq12.out).2.1); (case side3 => repeat (first | exact (Kd.R_reads' Oq6.out).2.2 | (with_reducible first | refine Kd.C_alloc ?_ _ | refine Kd.C_drewN ?_ _ | refine Kd.C_drew ?_))); (case side4 => exact (Kd.R_reads' Oq6.out).2.1); rintro e w69 ⟨rfl, hb⟩; refine ⟨_, rfl, ?_⟩; have n8_ := am (below_step (by repeat with_reducible first | exact HB.out | apply pw_below_drewN | apply below_drew1 | refine below_set ?_ (Aside0.out (by assumption))) hb); clear HB; replace Oq14 := sqR Oq14 hb; replace Oq10 := sqR Oq10 hb; replace Oq11 := sqR Oq11 hb; replace Oq12 := sqR Oq12 hb; replace Oq6 := sqR Oq6 hb; replace BK489 := sqB BK489 hb; replace BK508 := sqB BK508 hb; replace BK524 := sqB BK524 hb; have HB := n8_; clear n8_; (try clear hb); (try clear hb2); (try clear hk); (try clear hi)))
               go_meet
               case rel => exact ⟨_, H', ⟨by have := HJ9.out; have := HJ32.out; first | omega | exact Nat.le_refl _⟩, ⟨by exact sqm Oq14 (fun _ hk => by first | exact ⟨hk.1.2.1, hk.1.2.2⟩ | (and_intros <;> first | trivial | simp only [hk, ne_eq, not_false_eq_true]))⟩, ⟨by exact sqm Oq11 (fun _ hk => by first | exact ⟨hk.1.1, hk.1.2.2⟩ | (and_intros <;> first | trivial | simp only [hk, ne_eq, not_false_eq_true]))⟩, ⟨by exact sqm Oq12 (fun _ hk => by first | exact ⟨hk.1.1, hk.1.2.2⟩ | (and_intros <;> first | trivial | simp only [hk, ne_eq, not_false_eq_true]))⟩, ⟨by (with_reducible repeat (first | refine blk_drewN ?_ _ | refine blk_drew ?_ | refine blk_alloc ?_ _)); exact BK489.out⟩, ⟨by (with_reducible repeat (first | refine blk_drewN ?_ _ | refine blk_drew ?_ | refine blk_alloc ?_ _)); exact BK508.out⟩, ⟨by repeat with_reducible first | exact HB.out | apply pw_below_drewN | apply below_drew1 | refine below_set ?_ (Aside0.out (by assumption))⟩⟩
              ·
               replace c56 := Bool.eq_false_iff.mpr c56
               subst c56
               have H1 : (some false) = some true := by first | (rw [if_neg (show ¬ (false = true) by decide)] at H; exact H) | rfl
               clear H
               have H := H1
               clear H1
               exact absurd (Option.some.inj H) (by decide)
             ·
              replace c55 := Bool.eq_false_iff.mpr c55
              subst c55
              have H1 : (some false) = some true := by first | (rw [if_neg (show ¬ (false = true) by decide)] at H; exact H) | rfl
              clear H
              have H := H1
              clear H1
              exact absurd (Option.some.inj H) (by decide)
            ·
             replace c54 := Bool.eq_false_iff.mpr c54
             subst c54
             have H1 : (some false) = some true := by first | (rw [if_neg (show ¬ (false = true) by decide)] at H; exact H) | rfl
             clear H
             have H := H1
             clear H1
             exact absurd (Option.some.inj H) (by decide)
           ·
            replace c53 := Bool.eq_false_iff.mpr c53
            subst c53
            have H1 : (some false) = some true := by first | (rw [if_neg (show ¬ (false = true) by decide)] at H; exact H) | rfl
            clear H
            have H := H1
            clear H1
            exact absurd (Option.some.inj H) (by decide)
          ·
           replace c52 := Bool.eq_false_iff.mpr c52
           subst c52
           have H1 : (some false) = some true := by first | (rw [if_neg (show ¬ (false = true) by decide)] at H; exact H) | rfl
           clear H
           have H := H1
           clear H1
           exact absurd (Option.some.inj H) (by decide)
         ·
          replace c48 := Bool.eq_false_iff.mpr c48
          subst c48
          have H1 : (laws_FnOrderedBoards.j2 kj32 t490 t497 t484 t485 t486) = some true := by first | (rw [if_neg (show ¬ (false = true) by decide)] at H; exact H) | rfl
          clear H
          have H := H1
          clear H1
          have H' := Aside0.mk H
          clear H
          go_wp2
          go_meet
          case rel => exact ⟨_, H', ⟨by have := HJ9.out; have := HJ32.out; first | omega | exact Nat.le_refl _⟩, ⟨by exact sqm Oq14 (fun _ hk => by first | exact ⟨hk.2.1, hk.2.2⟩ | (and_intros <;> first | trivial | simp only [hk, ne_eq, not_false_eq_true]))⟩, ⟨by exact sqm Oq11 (fun _ hk => by first | exact ⟨hk.1, hk.2.2⟩ | (and_intros <;> first | trivial | simp only [hk, ne_eq, not_false_eq_true]))⟩, ⟨by exact sqm Oq12 (fun _ hk => by first | exact ⟨hk.1, hk.2.2⟩ | (and_intros <;> first | trivial | simp only [hk, ne_eq, not_false_eq_true]))⟩, ⟨by (with_reducible repeat (first | refine blk_drewN ?_ _ | refine blk_drew ?_ | refine blk_alloc ?_ _)); exact BK489.out⟩, ⟨by (with_reducible repeat (first | refine blk_drewN ?_ _ | refine blk_drew ?_ | refine blk_alloc ?_ _)); exact BK508.out⟩, ⟨by repeat with_reducible first | exact HB.out | apply pw_below_drewN | apply below_drew1 | refine below_set ?_ (Aside0.out (by assumption))⟩⟩
        case rest => as_aux_lemma =>
         clear HC47
         try clear c1; try clear c2; try clear p2; try clear c3; try clear c4; try clear c5; try clear c6; try clear c7; try clear c9; try clear c10; try clear c22; try clear c22b0; try clear c22b1; try clear c22b2; try clear c24; try clear c25; try clear c25b0; try clear c25b1; try clear c25b2; try clear c26; try clear c26b0; try clear c26b1; try clear c26b2; try clear c29; try clear c36; try clear c42; try clear c42b0; try clear c42b1; try clear c42b2; try clear c46; try clear c48; try clear c52; try clear c53; try clear c54; try clear c55; try clear c56; try clear c57; try clear c62; try clear c63; try clear zq0; try clear zq1; try clear zq2; try clear zq3; try clear zq4; try clear zq5; try clear zq6; try clear zq7; try clear zq8; try clear zq9; try clear zq10; try clear zq11; try clear zq12; try clear zq13; try clear zq14; try clear zq15; try clear zq16; try clear zq17; try clear zq18; try clear zq19; try clear zq20; try clear zq21; try clear zq22; try clear zq23; try clear zq24; try clear zq25; try clear zq26; try clear zq27; try clear zq28; try clear zq29; try clear fq0; try clear fq1; try clear fq2; try clear fq3; try clear fq4; try clear fq5; try clear fq6; try clear fq7; try clear fq8; try clear fq9; try clear fq10; try clear fq11; try clear fq12; try clear fq13; try clear fq14; try clear fq15; try clear fq16; try clear fq17; try clear fq18; try clear fq19; try clear fq20; try clear fq21; try clear fq22; try clear fq23; try clear fq24; try clear fq25; try clear fq26; try clear fq27; try clear fq28; try clear fq29; try clear p2
         obtain ⟨kq, HA, HJ46, Oq14, Oq11, Oq12, BK489, BK508, HB⟩ := hcut
         cases kq with
         | zero => exact absurd HA.out (by simp [laws_FnOrderedBoards.j2])
         | succ kj46 =>
          have H := HA.out
          clear HA
          simp only [laws_FnOrderedBoards.j2] at H
          by_cases c70 : t497 = true
          ·
           subst c70
           have H1 : ((impl_BoardOfLengths.f kj46 t490).bind fun bt529 => ((impl_OrderOf.f kj46 t484 t485 t486).bind fun bt536 => (laws_FnOrderedBoards.l0 kj46 bt529.2.2.2 bt536.2 bt536.1 (bt536.1.length : Int) 0 t484 t485 t486 bt529.1 bt529.2.1 bt529.2.2.1))) = some true := by first | (rw [if_pos rfl] at H; exact H) | rfl
           clear H
           have H := H1
           clear H1
           replace H := Option.bind_eq_some_iff.mp H
           obtain ⟨⟨t529, t530, t531, t534⟩, A710, H⟩ := H
           replace H : ((impl_OrderOf.f kj46 t484 t485 t486).bind fun bt536 => (laws_FnOrderedBoards.l0 kj46 t534 bt536.2 bt536.1 (bt536.1.length : Int) 0 t484 t485 t486 t529 t530 t531)) = some true := H
           have A71 := Aside0.mk A710
           clear A710
           replace H := Option.bind_eq_some_iff.mp H
           obtain ⟨⟨t536, t539⟩, A720, H⟩ := H
           replace H : (laws_FnOrderedBoards.l0 kj46 t534 t539 t536 (t536.length : Int) 0 t484 t485 t486 t529 t530 t531) = some true := H
           have A72 := Aside0.mk A720
           clear A720
           have H' := Aside0.mk H
           clear H
           obtain ⟨Ao73, co73, eo73⟩ := Kd.R_slice Oq14.out
           subst eo73
           go_wp2_with (first | ((with_reducible refine gate_callee (f := 21) rfl ?_); refine goesL_ (some 141) rfl rfl Try.func21 (by kernel_rfl) rfl #[.slice Ao73 t490.length co73] rfl (by (try simp only [List.map_toArray, List.map_cons, List.map_nil]); try rfl) ?_; (with_reducible refine (impl_BoardOfLengths.calls kj46 _ _ t490 t529 t530 t531 t534 _ ?side1 ?side2 A71.out).mono ?_); (case side1 => repeat (first | exact (Kd.R_reads' Oq14.out).2.2 | (with_reducible first | refine Kd.C_alloc ?_ _ | refine Kd.C_drewN ?_ _ | refine Kd.C_drew ?_))); (case side2 => exact (Kd.R_reads' Oq14.out).2.1); rintro e w74 ⟨v532, rfl, ho0, hb⟩; refine ⟨_, rfl, ?_⟩; have n3_ := am (Kd.R_lower (Kd.R_new' (Kd.R_new' (Kd.R_new' ho0 (sqL Oq14)) (sqL Oq11)) (sqL Oq12)) (below_size (by repeat with_reducible first | exact HB.out | apply pw_below_drewN | apply below_drew1 | refine below_set ?_ (Aside0.out (by assumption))))); have n6_ := am (below_step (by repeat with_reducible first | exact HB.out | apply pw_below_drewN | apply below_drew1 | refine below_set ?_ (Aside0.out (by assumption))) hb); clear HB; replace Oq14 := sqE Oq14 ho0 hb; replace Oq11 := sqE Oq11 ho0 hb; replace Oq12 := sqE Oq12 ho0 hb; have Oq7 := n3_; replace BK489 := sqB BK489 hb; replace BK508 := sqB BK508 hb; have HB := n6_; clear n3_ n6_; (try clear hb); (try clear hb2); (try clear hk); (try clear hi); (try clear ho0)) | ((with_reducible refine gate_dst (N := 25) rfl ?_); refine box_event ?hg (N := 25) ?hd (cs := #[.int .i64 0, .int .i64 0, .slice none 0 0]) (t := 34) ?hr ?_; (case hd => rfl); (case hg => rfl); (case hr => first | (go_simp; done) | (go_simp; rfl)); intro gb535 hg w75 hbox hb; have n6_ := am (below_step (by repeat with_reducible first | exact HB.out | apply pw_below_drewN | apply below_drew1 | refine below_set ?_ (Aside0.out (by assumption))) hb); have n7_ := am (hbox); have n8_ := am ((by rw [hg]; exact (below_size (by repeat with_reducible first | exact HB.out | apply pw_below_drewN | apply below_drew1 | refine below_set ?_ (Aside0.out (by assumption)))) : w.heap.size ≤ gb535)); have n9_ := am ((by rw [hg]; exact (below_size (by repeat with_reducible first | exact HB.out | apply pw_below_drewN | apply below_drew1 | refine below_set ?_ (Aside0.out (by assumption)))) : w.heap.size ≤ gb535)); have n10_ := am ((by rw [hg]; exact Nat.ne_of_lt (sqT BK489) : gb489 ≠ gb535)); have n11_ := am ((by rw [hg]; exact Nat.ne_of_gt (sqT BK489) : gb535 ≠ gb489)); have n12_ := am ((by rw [hg]; exact Nat.ne_of_lt (sqT BK508) : gb508 ≠ gb535)); have n13_ := am ((by rw [hg]; exact Nat.ne_of_gt (sqT BK508) : gb535 ≠ gb508)); clear HB; replace Oq14 := sqR Oq14 hb; replace Oq11 := sqR Oq11 hb; replace Oq12 := sqR Oq12 hb; replace Oq7 := sqR Oq7 hb; replace BK489 := sqB BK489 hb; replace BK508 := sqB BK508 hb; have HB := n6_; have BK535 := n7_; have GW535 := n8_; have GE535 := n9_; have Nq2 := n10_; have Nq8 := n11_; have Nq5 := n12_; have Nq9 := n13_; clear n6_ n7_ n8_ n9_ n10_ n11_ n12_ n13_; clear hb hbox hg; have bq4 := Nq8.out; have cq4 := Nq2.out; have bq5 := Nq9.out; have cq5 := Nq5.out; have zq30 : w75.cell? ⟨gb535, 0, none⟩ = some (.int .i64 0) := sqc BK535 0; have zq31 : w75.cell? ⟨gb535, 1, none⟩ = some (.int .i64 0) := sqc BK535 1; have zq32 : w75.cell? ⟨gb535, 2, none⟩ = some (.slice none 0 0) := sqc BK535 2; have fq30 := blk_frozen BK535.out 0; have fq31 := blk_frozen BK535.out 1; have fq32 := blk_frozen BK535.out 2; obtain ⟨Ao79, co79, eo79⟩ := Kd.R_slice Oq7.out; subst eo79; have bq6 := Nq0.out; have cq6 := Nq3.out; have zq33 : w75.cell? ⟨gb489, 0, none⟩ = some (.int .i64 t484) := sqc BK489 0; have zq34 : w75.cell? ⟨gb489, 1, none⟩ = some (.int .i64 t485) := sqc BK489 1; have zq35 : w75.cell? ⟨gb489, 2, none⟩ = some (.slice Ao14 t486.length co14) := sqc BK489 2; have fq33 := blk_frozen BK489.out 0; have fq34 := blk_frozen BK489.out 1; have fq35 := blk_frozen BK489.out 2) | ((with_reducible refine gate_callee (f := 102) rfl ?_); refine goesL_ (some 146) rfl rfl Try.func102 (by kernel_rfl) rfl #[.agg #[.int .i64 t484, .int .i64 t485, .slice Ao14 t486.length co14]] rfl (by (try simp only [List.map_toArray, List.map_cons, List.map_nil]); try rfl) ?_; (with_reducible refine (impl_OrderOf.calls kj46 t484 t485 _ _ t486 t536 t539 _ ?side1 ?side2 A72.out).mono ?_); (case side1 => refine (Kd.R_reads' (e := 3) (base := w.heap.size) (ok := fun k_ => ((some k_ ≠ (.slice Ao73 t490.length co73 : Value).ownBlock ∧ some k_ ≠ (.slice Ao38 t505.length co38 : Value).ownBlock) ∧ some k_ ≠ (.slice Ao79 t531.length co79 : Value).ownBlock)) (n := t486.length) (c := co14) ?_).2.2; exact (by (with_reducible repeat (first | apply Kd.R_alloc | apply Kd.R_drewN | apply Kd.R_drew)); exact (Kd.R_mono (Kd.R_far (p := ⟨gb535, 2, none⟩) (Kd.R_far (p := ⟨gb535, 1, none⟩) (Kd.R_far (p := ⟨gb535, 0, none⟩) (Kd.R_types Oq11.out BK535.out (by decide)) (fun _ hk => hk.2) (.int .i64 t529)) (fun _ hk => hk.2) (.int .i64 t530)) (fun _ hk => hk.2) (.slice Ao79 t531.length co79)) (fun _ h_ => by first | exact h_.1 | (have hx_ := h_.1; and_intros <;> first | trivial | simp only [hx_, ne_eq, not_false_eq_true]))))); (case side2 => exact (Kd.R_reads' Oq11.out).2.1); rintro e w82 ⟨v537, rfl, ho0, hb⟩; refine ⟨_, rfl, ?_⟩; have n0_ := am (Kd.R_elder' (by (with_reducible repeat (first | apply Kd.R_alloc | apply Kd.R_drewN | apply Kd.R_drew)); exact (Kd.R_mono (Kd.R_far (p := ⟨gb535, 2, none⟩) (Kd.R_far (p := ⟨gb535, 1, none⟩) (Kd.R_far (p := ⟨gb535, 0, none⟩) (Kd.R_types Oq14.out BK535.out (by decide)) (fun _ hk => hk.2) (.int .i64 t529)) (fun _ hk => hk.2) (.int .i64 t530)) (fun _ hk => hk.2) (.slice Ao79 t531.length co79)) (fun _ h_ => h_.1))) (Kd.R_base ho0) hb); have n1_ := am (Kd.R_elder' (by (with_reducible repeat (first | apply Kd.R_alloc | apply Kd.R_drewN | apply Kd.R_drew)); exact (Kd.R_mono (Kd.R_far (p := ⟨gb535, 2, none⟩) (Kd.R_far (p := ⟨gb535, 1, none⟩) (Kd.R_far (p := ⟨gb535, 0, none⟩) (Kd.R_types Oq11.out BK535.out (by decide)) (fun _ hk => hk.2) (.int .i64 t529)) (fun _ hk => hk.2) (.int .i64 t530)) (fun _ hk => hk.2) (.slice Ao79 t531.length co79)) (fun _ h_ => h_.1))) (Kd.R_base ho0) hb); have n2_ := am (Kd.R_elder' (by (with_reducible repeat (first | apply Kd.R_alloc | apply Kd.R_drewN | apply Kd.R_drew)); exact (Kd.R_mono (Kd.R_far (p := ⟨gb535, 2, none⟩) (Kd.R_far (p := ⟨gb535, 1, none⟩) (Kd.R_far (p := ⟨gb535, 0, none⟩) (Kd.R_types Oq12.out BK535.out (by decide)) (fun _ hk => hk.2) (.int .i64 t529)) (fun _ hk => hk.2) (.int .i64 t530)) (fun _ hk => hk.2) (.slice Ao79 t531.length co79)) (fun _ h_ => h_.1))) (Kd.R_base ho0) hb); have n3_ := am (Kd.R_elder' (by (with_reducible repeat (first | apply Kd.R_alloc | apply Kd.R_drewN | apply Kd.R_drew)); exact (Kd.R_mono (Kd.R_far (p := ⟨gb535, 2, none⟩) (Kd.R_far (p := ⟨gb535, 1, none⟩) (Kd.R_far (p := ⟨gb535, 0, none⟩) (Kd.R_types Oq7.out BK535.out (by decide)) (fun _ hk => hk.2) (.int .i64 t529)) (fun _ hk => hk.2) (.int .i64 t530)) (fun _ hk => hk.2) (.slice Ao79 t531.length co79)) (fun _ h_ => h_.1))) (Kd.R_base ho0) hb); have n4_ := am (Kd.R_lower (Kd.R_new' (Kd.R_new' (Kd.R_new' (Kd.R_new' ho0 (Kd.R_lt (by (with_reducible repeat (first | apply Kd.R_alloc | apply Kd.R_drewN | apply Kd.R_drew)); exact (Kd.R_mono (Kd.R_far (p := ⟨gb535, 2, none⟩) (Kd.R_far (p := ⟨gb535, 1, none⟩) (Kd.R_far (p := ⟨gb535, 0, none⟩) (Kd.R_types Oq14.out BK535.out (by decide)) (fun _ hk => hk.2) (.int .i64 t529)) (fun _ hk => hk.2) (.int .i64 t530)) (fun _ hk => hk.2) (.slice Ao79 t531.length co79)) (fun _ h_ => h_.1))))) (Kd.R_lt (by (with_reducible repeat (first | apply Kd.R_alloc | apply Kd.R_drewN | apply Kd.R_drew)); exact (Kd.R_mono (Kd.R_far (p := ⟨gb535, 2, none⟩) (Kd.R_far (p := ⟨gb535, 1, none⟩) (Kd.R_far (p := ⟨gb535, 0, none⟩) (Kd.R_types Oq11.out BK535.out (by decide)) (fun _ hk => hk.2) (.int .i64 t529)) (fun _ hk => hk.2) (.int .i64 t530)) (fun _ hk => hk.2) (.slice Ao79 t531.length co79)) (fun _ h_ => h_.1))))) (Kd.R_lt (by (with_reducible repeat (first | apply Kd.R_alloc | apply Kd.R_drewN | apply Kd.R_drew)); exact (Kd.R_mono (Kd.R_far (p := ⟨gb535, 2, none⟩) (Kd.R_far (p := ⟨gb535, 1, none⟩) (Kd.R_far (p := ⟨gb535, 0, none⟩) (Kd.R_types Oq12.out BK535.out (by decide)) (fun _ hk => hk.2) (.int .i64 t529)) (fun _ hk => hk.2) (.int .i64 t530)) (fun _ hk => hk.2) (.slice Ao79 t531.length co79)) (fun _ h_ => h_.1))))) (Kd.R_lt (by (with_reducible repeat (first | apply Kd.R_alloc | apply Kd.R_drewN | apply Kd.R_drew)); exact (Kd.R_mono (Kd.R_far (p := ⟨gb535, 2, none⟩) (Kd.R_far (p := ⟨gb535, 1, none⟩) (Kd.R_far (p := ⟨gb535, 0, none⟩) (Kd.R_types Oq7.out BK535.out (by decide)) (fun _ hk => hk.2) (.int .i64 t529)) (fun _ hk => hk.2) (.int .i64 t530)) (fun _ hk => hk.2) (.slice Ao79 t531.length co79)) (fun _ h_ => h_.1))))) (below_size (by repeat with_reducible first | exact HB.out | apply pw_below_drewN | apply below_drew1 | refine below_set ?_ (Aside0.out (by assumption))))); have n5_ := am (blk_below (g := gb489) (o := .cells #[.int .i64 t484, .int .i64 t485, .slice Ao14 t486.length co14] 34 (0, 0)) (by (with_reducible repeat (first | refine blk_drewN ?_ _ | refine blk_drew ?_ | refine blk_alloc ?_ _)); refine blk_far ?_ Nq2.out _; (with_reducible repeat (first | refine blk_drewN ?_ _ | refine blk_drew ?_ | refine blk_alloc ?_ _)); refine blk_far ?_ Nq2.out _; (with_reducible repeat (first | refine blk_drewN ?_ _ | refine blk_drew ?_ | refine blk_alloc ?_ _)); refine blk_far ?_ Nq2.out _; (with_reducible repeat (first | refine blk_drewN ?_ _ | refine blk_drew ?_ | refine blk_alloc ?_ _)); exact BK489.out) hb); have n6_ := am (blk_below (g := gb508) (o := .cells #[.int .i64 t503, .int .i64 t504, .slice Ao38 t505.length co38] 34 (0, 0)) (by (with_reducible repeat (first | refine blk_drewN ?_ _ | refine blk_drew ?_ | refine blk_alloc ?_ _)); refine blk_far ?_ Nq5.out _; (with_reducible repeat (first | refine blk_drewN ?_ _ | refine blk_drew ?_ | refine blk_alloc ?_ _)); refine blk_far ?_ Nq5.out _; (with_reducible repeat (first | refine blk_drewN ?_ _ | refine blk_drew ?_ | refine blk_alloc ?_ _)); refine blk_far ?_ Nq5.out _; (with_reducible repeat (first | refine blk_drewN ?_ _ | refine blk_drew ?_ | refine blk_alloc ?_ _)); exact BK508.out) hb); have n7_ := am (blk_below (g := gb535) (o := .cells #[.int .i64 t529, .int .i64 t530, .slice Ao79 t531.length co79] 34 (0, 0)) (by (with_reducible repeat (first | refine blk_drewN ?_ _ | refine blk_drew ?_ | refine blk_alloc ?_ _)); refine blk_put (cs := #[.int .i64 t529, .int .i64 t530, .slice none 0 0]) ?_ 2 _ rfl; (with_reducible repeat (first | refine blk_drewN ?_ _ | refine blk_drew ?_ | refine blk_alloc ?_ _)); refine blk_put (cs := #[.int .i64 t529, .int .i64 0, .slice none 0 0]) ?_ 1 _ rfl; (with_reducible repeat (first | refine blk_drewN ?_ _ | refine blk_drew ?_ | refine blk_alloc ?_ _)); refine blk_put (cs := #[.int .i64 0, .int .i64 0, .slice none 0 0]) ?_ 0 _ rfl; (with_reducible repeat (first | refine blk_drewN ?_ _ | refine blk_drew ?_ | refine blk_alloc ?_ _)); exact BK535.out) hb); have n8_ := am (below_step (by repeat with_reducible first | exact HB.out | apply pw_below_drewN | apply below_drew1 | refine below_set ?_ (Aside0.out (by assumption))) hb); clear Oq14; clear Oq11; clear Oq12; clear Oq7; clear BK489; clear BK508; clear BK535; clear HB; have Oq14 := n0_; have Oq11 := n1_; have Oq12 := n2_; have Oq7 := n3_; have Oq8 := n4_; have BK489 := n5_; have BK508 := n6_; have BK535 := n7_; have HB := n8_; clear n0_ n1_ n2_ n3_ n4_ n5_ n6_ n7_ n8_; (try clear hb); (try clear hb2); (try clear hk); (try clear hi); (try clear ho0); obtain ⟨Ao83, co83, eo83⟩ := Kd.R_slice Oq8.out; subst eo83))
           go_loopg [151] kj46 (fun kq v151 w' => ∃ (x151_4 : Int), v151 = .int .i64 x151_4 ∧ Aside0 (laws_FnOrderedBoards.l0 kq t534 t539 t536 (t536.length : Int) x151_4 t484 t485 t486 t529 t530 t531 = some true) ∧ Aside0 (kq ≤ kj46) ∧ Aside0 (Kd.R (Kd.int .i64) 3 w' w.heap.size (fun k_ => some k_ ≠ ((.slice Ao14 t486.length co14) : Value).ownBlock ∧ some k_ ≠ ((.slice Ao38 t505.length co38) : Value).ownBlock ∧ some k_ ≠ ((.slice Ao79 t531.length co79) : Value).ownBlock) (.slice Ao83 t536.length co83) t536) ∧ Aside0 (Kd.R (Kd.int .i64) 3 w' w.heap.size (fun k_ => some k_ ≠ ((.slice Ao83 t536.length co83) : Value).ownBlock ∧ some k_ ≠ ((.slice Ao38 t505.length co38) : Value).ownBlock ∧ some k_ ≠ ((.slice Ao79 t531.length co79) : Value).ownBlock) (.slice Ao14 t486.length co14) t486) ∧ Aside0 (Kd.R (Kd.int .i64) 3 w' w.heap.size (fun k_ => some k_ ≠ ((.slice Ao83 t536.length co83) : Value).ownBlock ∧ some k_ ≠ ((.slice Ao14 t486.length co14) : Value).ownBlock ∧ some k_ ≠ ((.slice Ao79 t531.length co79) : Value).ownBlock) (.slice Ao38 t505.length co38) t505) ∧ Aside0 (Kd.R (Kd.int .i64) 3 w' w.heap.size (fun k_ => some k_ ≠ ((.slice Ao83 t536.length co83) : Value).ownBlock ∧ some k_ ≠ ((.slice Ao14 t486.length co14) : Value).ownBlock ∧ some k_ ≠ ((.slice Ao38 t505.length co38) : Value).ownBlock) (.slice Ao79 t531.length co79) t531) ∧ Aside0 (w'.heap[gb489]? = some (.cells #[.int .i64 t484, .int .i64 t485, (.slice Ao14 t486.length co14)] 34 (0, 0))) ∧ Aside0 (w'.heap[gb508]? = some (.cells #[.int .i64 t503, .int .i64 t504, (.slice Ao38 t505.length co38)] 34 (0, 0))) ∧ Aside0 (w'.heap[gb535]? = some (.cells #[.int .i64 t529, .int .i64 t530, (.slice Ao79 t531.length co79)] 34 (0, 0))) ∧ Aside0 (Below w.heap.size w w'))
           case atStart => exact ⟨(0), (by first | rfl | (simp; done) | (simp [*]; done)), H', ⟨Nat.le_refl _⟩, ⟨by exact sqm Oq8 (fun _ hk => by first | exact ⟨hk.1.1.2, ⟨hk.1.2, hk.2⟩⟩ | (and_intros <;> first | trivial | simp only [hk, ne_eq, not_false_eq_true]))⟩, ⟨by exact sqm Oq11 (fun _ hk => by first | exact ⟨hk.2, ⟨hk.1.1.2, hk.1.2⟩⟩ | (and_intros <;> first | trivial | simp only [hk, ne_eq, not_false_eq_true]))⟩, ⟨by exact sqm Oq12 (fun _ hk => by first | exact ⟨hk.2, ⟨hk.1.1.2, hk.1.2⟩⟩ | (and_intros <;> first | trivial | simp only [hk, ne_eq, not_false_eq_true]))⟩, ⟨by exact sqm Oq7 (fun _ hk => by first | exact ⟨hk.2, ⟨hk.1.1.2, hk.1.2⟩⟩ | (and_intros <;> first | trivial | simp only [hk, ne_eq, not_false_eq_true]))⟩, ⟨by (with_reducible repeat (first | refine blk_drewN ?_ _ | refine blk_drew ?_ | refine blk_alloc ?_ _)); exact BK489.out⟩, ⟨by (with_reducible repeat (first | refine blk_drewN ?_ _ | refine blk_drew ?_ | refine blk_alloc ?_ _)); exact BK508.out⟩, ⟨by (with_reducible repeat (first | refine blk_drewN ?_ _ | refine blk_drew ?_ | refine blk_alloc ?_ _)); exact BK535.out⟩, ⟨by repeat with_reducible first | exact HB.out | apply pw_below_drewN | apply below_drew1 | refine below_set ?_ (Aside0.out (by assumption))⟩⟩
           case round =>
            clear H'
            try clear c1; try clear c2; try clear p2; try clear c3; try clear c4; try clear c5; try clear c6; try clear c7; try clear c8; try clear c9; try clear c10; try clear c21; try clear c22; try clear c22b0; try clear c22b1; try clear c22b2; try clear c24; try clear c25; try clear c25b0; try clear c25b1; try clear c25b2; try clear c26; try clear c26b0; try clear c26b1; try clear c26b2; try clear c29; try clear c36; try clear c42; try clear c42b0; try clear c42b1; try clear c42b2; try clear c46; try clear c48; try clear c52; try clear c53; try clear c54; try clear c55; try clear c56; try clear c57; try clear c62; try clear c63; try clear c70; try clear c76; try clear c77; try clear c79; try clear c80; try clear zq0; try clear zq1; try clear zq2; try clear zq3; try clear zq4; try clear zq5; try clear zq6; try clear zq7; try clear zq8; try clear zq9; try clear zq10; try clear zq11; try clear zq12; try clear zq13; try clear zq14; try clear zq15; try clear zq16; try clear zq17; try clear zq18; try clear zq19; try clear zq20; try clear zq21; try clear zq22; try clear zq23; try clear zq24; try clear zq25; try clear zq26; try clear zq27; try clear zq28; try clear zq29; try clear zq30; try clear zq31; try clear zq32; try clear zq33; try clear zq34; try clear zq35; try clear fq0; try clear fq1; try clear fq2; try clear fq3; try clear fq4; try clear fq5; try clear fq6; try clear fq7; try clear fq8; try clear fq9; try clear fq10; try clear fq11; try clear fq12; try clear fq13; try clear fq14; try clear fq15; try clear fq16; try clear fq17; try clear fq18; try clear fq19; try clear fq20; try clear fq21; try clear fq22; try clear fq23; try clear fq24; try clear fq25; try clear fq26; try clear fq27; try clear fq28; try clear fq29; try clear fq30; try clear fq31; try clear fq32; try clear fq33; try clear fq34; try clear fq35; try clear p2
            obtain ⟨x151_4, rfl, HA, HK4, Oq9, Oq11, Oq12, Oq13, BK489, BK508, BK535, HB⟩ := hrel
            cases gk with
            | zero => exact absurd HA.out (by simp [laws_FnOrderedBoards.l0])
            | succ k4 =>
             have H := HA.out
             clear HA
             simp only [laws_FnOrderedBoards.l0] at H
             by_cases c84 : x151_4 < (t536.length : Int)
             ·
              rw [if_pos c84] at H
              have c84b0 : decide (x151_4 < (t536.length : Int)) = true := decide_eq_true c84
              clear c84
              by_cases c85 : 0 ≤ x151_4
              ·
               rw [if_pos c85] at H
               have c85b0 : decide (0 ≤ x151_4) = true := decide_eq_true c85
               clear c85
               by_cases c86 : x151_4 < (t536.length : Int)
               ·
                rw [if_pos c86] at H
                have c86b0 : decide (x151_4 < (t536.length : Int)) = true := decide_eq_true c86
                clear c86
                by_cases c87 : x151_4 = (rd t536 x151_4)
                ·
                 rw [if_pos c87] at H
                 have c87b0 : (x151_4 == (rd t536 x151_4)) = true := beq_iff_eq.mpr c87
                 have c87b1 : (x151_4 != (rd t536 x151_4)) = false := bne_eq_false_iff_eq.mpr c87
                 clear c87
                 have H' := Aside0.mk H
                 clear H
                 have p540 : 0 ≤ (x151_4 : Int) := of_decide_eq_true (by first | (with_reducible assumption) | assumption)
                 have q540 : x151_4 < (t536.length : Int) := of_decide_eq_true (by first | (with_reducible assumption) | assumption)
                 obtain ⟨ad540, e540, hx540_0⟩ := Kd.at_int (Kd.R_reads' Oq9.out).2.2 x151_4 p540 q540
                 cases e540
                 replace p540 := eq_true p540
                 replace q540 := eq_true q540
                 go_wp2
                 go_roundg k4
                 case measure => have := HJ9.out; have := HJ32.out; have := HJ46.out; have := HK4.out; omega
                 case rel => exact ⟨(wrap64 (x151_4 + 1)), (by first | rfl | (simp; done) | (simp [*]; done)), H', ⟨by have := HJ9.out; have := HJ32.out; have := HJ46.out; have := HK4.out; omega⟩, ⟨by (with_reducible repeat (first | apply Kd.R_alloc | apply Kd.R_drewN | apply Kd.R_drew)); exact Oq9.out⟩, ⟨by (with_reducible repeat (first | apply Kd.R_alloc | apply Kd.R_drewN | apply Kd.R_drew)); exact Oq11.out⟩, ⟨by (with_reducible repeat (first | apply Kd.R_alloc | apply Kd.R_drewN | apply Kd.R_drew)); exact Oq12.out⟩, ⟨by (with_reducible repeat (first | apply Kd.R_alloc | apply Kd.R_drewN | apply Kd.R_drew)); exact Oq13.out⟩, ⟨by (with_reducible repeat (first | refine blk_drewN ?_ _ | refine blk_drew ?_ | refine blk_alloc ?_ _)); exact BK489.out⟩, ⟨by (with_reducible repeat (first | refine blk_drewN ?_ _ | refine blk_drew ?_ | refine blk_alloc ?_ _)); exact BK508.out⟩, ⟨by (with_reducible repeat (first | refine blk_drewN ?_ _ | refine blk_drew ?_ | refine blk_alloc ?_ _)); exact BK535.out⟩, ⟨by repeat with_reducible first | exact HB.out | apply pw_below_drewN | apply below_drew1 | refine below_set ?_ (Aside0.out (by assumption))⟩⟩
                ·
                 rw [if_neg c87] at H
                 have c87b0 : (x151_4 == (rd t536 x151_4)) = false := beq_eq_false_iff_ne.mpr c87
                 have c87b1 : (x151_4 != (rd t536 x151_4)) = true := bne_iff_ne.mpr c87
                 exact absurd (Option.some.inj H) (by decide)
               ·
                rw [if_neg c86] at H
                exact absurd H (by simp)
              ·
               rw [if_neg c85] at H
               exact absurd H (by simp)
             ·
              rw [if_neg c84] at H
              have c84b0 : decide (x151_4 < (t536.length : Int)) = false := decide_eq_false c84
              clear c84
              by_cases c88 : t534 = true
              ·
               subst c88
               have H1 : (if t539 = true then ((laws_rSameBoard.f k4 t529 t530 t531 t484 t485 t486).bind fun t541 => (some t541)) else (some false)) = some true := by first | (rw [if_pos rfl] at H; exact H) | rfl
               clear H
               have H := H1
               clear H1
               by_cases c89 : t539 = true
               ·
                subst c89
                have H1 : ((laws_rSameBoard.f k4 t529 t530 t531 t484 t485 t486).bind fun t541 => (some t541)) = some true := by first | (rw [if_pos rfl] at H; exact H) | rfl
                clear H
                have H := H1
                clear H1
                replace H := Option.bind_eq_some_iff.mp H
                obtain ⟨t541, A900, H⟩ := H
                replace H : (some t541) = some true := H
                have A90 := Aside0.mk A900
                clear A900
                have hb_ := Option.some.inj H
                have bq7 := Nq8.out
                have cq7 := Nq2.out
                have bq8 := Nq9.out
                have cq8 := Nq5.out
                have zq36 : wr.cell? ⟨gb535, 0, none⟩ = some (.int .i64 t529) := sqc BK535 0
                have zq37 : wr.cell? ⟨gb535, 1, none⟩ = some (.int .i64 t530) := sqc BK535 1
                have zq38 : wr.cell? ⟨gb535, 2, none⟩ = some (.slice Ao79 t531.length co79) := sqc BK535 2
                have fq36 := blk_frozen BK535.out 0
                have fq37 := blk_frozen BK535.out 1
                have fq38 := blk_frozen BK535.out 2
                have bq9 := Nq0.out
                have cq9 := Nq3.out
                have zq39 : wr.cell? ⟨gb489, 0, none⟩ = some (.int .i64 t484) := sqc BK489 0
                have zq40 : wr.cell? ⟨gb489, 1, none⟩ = some (.int .i64 t485) := sqc BK489 1
                have zq41 : wr.cell? ⟨gb489, 2, none⟩ = some (.slice Ao14 t486.length co14) := sqc BK489 2
                have fq39 := blk_frozen BK489.out 0
                have fq40 := blk_frozen BK489.out 1
                have fq41 := blk_frozen BK489.out 2
                go_wp2_with (first | (go_at_call 24; (with_reducible refine (laws_rSameBoard.calls k4 t529 t530 _ _ t531 t484 t485 _ _ t486 t541 _ ?side1 ?side2 ?side3 ?side4 A90.out).mono ?_); (case side1 => repeat (first | exact (Kd.R_reads' Oq13.out).2.2 | (with_reducible first | refine Kd.C_alloc ?_ _ | refine Kd.C_drewN ?_ _ | refine Kd.C_drew ?_))); (case side2 => exact (Kd.R_reads' Oq13.out).2.1); (case side3 => repeat (first | exact (Kd.R_reads' Oq11.out).2.2 | (with_reducible first | refine Kd.C_alloc ?_ _ | refine Kd.C_drewN ?_ _ | refine Kd.C_drew ?_))); (case side4 => exact (Kd.R_reads' Oq11.out).2.1); rintro e w96 ⟨rfl, hb⟩; have n7_ := am (below_step (by repeat with_reducible first | exact HB.out | apply pw_below_drewN | apply below_drew1 | refine below_set ?_ (Aside0.out (by assumption))) hb); clear HB; replace Oq9 := sqR Oq9 hb; replace Oq11 := sqR Oq11 hb; replace Oq12 := sqR Oq12 hb; replace Oq13 := sqR Oq13 hb; replace BK489 := sqB BK489 hb; replace BK508 := sqB BK508 hb; replace BK535 := sqB BK535 hb; have HB := n7_; clear n7_; (try clear hb); (try clear hb2); (try clear hk); (try clear hi)))
                go_ret
                exact ⟨by first | rfl | (rw [hb_]) | (simp [errW_none, errW_some] <;> rfl) | (simp [*, errW_none, errW_some] <;> rfl), by repeat with_reducible first | exact HB.out | apply pw_below_drewN | apply below_drew1 | refine below_set ?_ (Aside0.out (by assumption))⟩
               ·
                replace c89 := Bool.eq_false_iff.mpr c89
                subst c89
                have H1 : (some false) = some true := by first | (rw [if_neg (show ¬ (false = true) by decide)] at H; exact H) | rfl
                clear H
                have H := H1
                clear H1
                exact absurd (Option.some.inj H) (by decide)
              ·
               replace c88 := Bool.eq_false_iff.mpr c88
               subst c88
               have H1 : (some false) = some true := by first | (rw [if_neg (show ¬ (false = true) by decide)] at H; exact H) | rfl
               clear H
               have H := H1
               clear H1
               exact absurd (Option.some.inj H) (by decide)
          ·
           replace c70 := Bool.eq_false_iff.mpr c70
           subst c70
           have H1 : (some true) = some true := by first | (rw [if_neg (show ¬ (false = true) by decide)] at H; exact H) | rfl
           clear H
           have H := H1
           clear H1 H
           go_wp2
           go_ret
           exact ⟨by first | rfl | (simp [errW_none, errW_some] <;> rfl) | (simp [*, errW_none, errW_some] <;> rfl), by repeat with_reducible first | exact HB.out | apply pw_below_drewN | apply below_drew1 | refine below_set ?_ (Aside0.out (by assumption))⟩

/-- The pure statement of laws_FnOrderedBoards. -/
def laws_FnOrderedBoards.Pure : Prop := ∀ (l0 : List Int) (l1 : List Int), l0.length ≤ maxLen → (∀ x ∈ l0, (Lit.int .u8 x).wf = true) → l1.length ≤ maxLen → (∀ x ∈ l1, (Lit.int .u8 x).wf = true) → ∃ k, laws_FnOrderedBoards.f k l0 l1 = some true

end Go.Proofs.Ytfgfgkpmkfjeiaa.PFnOrderedBoards
