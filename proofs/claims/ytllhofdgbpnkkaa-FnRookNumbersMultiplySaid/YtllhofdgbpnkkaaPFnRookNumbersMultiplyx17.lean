-- Printed for this claim by wip/pp.py over the kit's printer; Lean checks it.
import Derived.Test.YtllhofdgbpnkkaaPFnRookNumbersMultiplyx0
import Derived.Test.YtllhofdgbpnkkaaPFnRookNumbersMultiplyx1
import Derived.Test.YtllhofdgbpnkkaaPFnRookNumbersMultiplyx3
import Derived.Test.YtllhofdgbpnkkaaPFnRookNumbersMultiplyx5
import Derived.Test.YtllhofdgbpnkkaaPFnRookNumbersMultiplyx6
import Derived.Test.YtllhofdgbpnkkaaPFnRookNumbersMultiplyx7
import Derived.Test.YtllhofdgbpnkkaaPFnRookNumbersMultiplyx9
import Derived.Test.YtllhofdgbpnkkaaPFnRookNumbersMultiplyx10
import Derived.Test.YtllhofdgbpnkkaaPFnRookNumbersMultiplyx11
import Derived.Test.YtllhofdgbpnkkaaPFnRookNumbersMultiplyx14
import Derived.Test.YtllhofdgbpnkkaaPFnRookNumbersMultiplyx15
import Derived.Test.YtllhofdgbpnkkaaPFnRookNumbersMultiplyx16
namespace Go.Proofs.Ytllhofdgbpnkkaa.PFnRookNumbersMultiply
open Go.RowKit Go.Proofs.YtllhofdgbpnkkaaW.PrintWords Go.Proofs.YtllhofdgbpnkkaaW.PrintLast Go.Proofs.YtllhofdgbpnkkaaW.PrintMore
attribute [local go_sem] max2_int min2_int max_two min_two max_three min_three max_four min_four   -- for this text's walks alone
set_option linter.unusedVariables false
set_option linter.unusedSimpArgs false

/-! ### laws_FnRookNumbersMultiply: function 4 -/
mutual
def laws_FnRookNumbersMultiply.j0 : Nat → List Int → List Int → Option (Bool)
 | 0, _, _ => none
 | k + 1, x0, x1 => (spec_DrawMultiplyNumbers.f k x1).bind fun bt618 => ((impl_MultiplyNumbers.f k bt618.1 bt618.2).bind fun bt624 => ((spec_MultiplyNumbers.f k bt618.1 bt618.2).bind fun bt628 => (if (bt624.2 != bt628.2) = true then (laws_FnRookNumbersMultiply.j1 k x0 x1 true) else ((laws_rSame.f k bt624.1 bt628.1).bind fun t632 => (laws_FnRookNumbersMultiply.j1 k x0 x1 (!t632))))))
def laws_FnRookNumbersMultiply.j1 : Nat → List Int → List Int → Bool → Option (Bool)
 | 0, _, _, _ => none
 | k + 1, x0, x1, x125 => if x125 = true then (some false) else ((spec_DrawNumbersOfComplement.f k x1).bind fun bt633 => ((impl_NumbersOfComplement.f k bt633.1 bt633.2.1 bt633.2.2).bind fun bt639 => ((spec_NumbersOfComplement.f k bt633.1 bt633.2.1 bt633.2.2).bind fun bt643 => (if (bt639.2 != bt643.2) = true then (laws_FnRookNumbersMultiply.j2 k x0 bt639.1 bt639.2 true bt633.1 bt633.2.1 bt633.2.2) else ((laws_rSame.f k bt639.1 bt643.1).bind fun t647 => (laws_FnRookNumbersMultiply.j2 k x0 bt639.1 bt639.2 (!t647) bt633.1 bt633.2.1 bt633.2.2))))))
def laws_FnRookNumbersMultiply.j2 : Nat → List Int → List Int → Bool → Bool → Int → Int → List Int → Option (Bool)
 | 0, _, _, _, _, _, _, _ => none
 | k + 1, x0, x24, x25, x146, x639000, x639001, x639002 => if x146 = true then (some false) else (if x25 = true then ((impl_ComplementOf.f x639000 x639001 x639002).bind fun bt648 => ((impl_RookNumbers.f bt648.1 bt648.2.1 bt648.2.2.1).bind fun bt655 => (if bt648.2.2.2 = true then (if bt655.2 = true then ((laws_rSame.f k bt655.1 x24).bind fun t659 => (if t659 = true then (laws_FnRookNumbersMultiply.j3 k x0) else (some false))) else (some false)) else (some false)))) else (laws_FnRookNumbersMultiply.j3 k x0))
def laws_FnRookNumbersMultiply.j3 : Nat → List Int → Option (Bool)
 | 0, _ => none
 | k + 1, x0 => (spec_DrawAreAlike.f k x0).bind fun bt660 => ((impl_AreAlike.f k bt660.1 bt660.2.1 bt660.2.2.1 bt660.2.2.2.1 bt660.2.2.2.2.1 bt660.2.2.2.2.2).bind fun bt672 => ((spec_AreAlike.f k bt660.1 bt660.2.1 bt660.2.2.1 bt660.2.2.2.1 bt660.2.2.2.2.1 bt660.2.2.2.2.2).bind fun bt674 => (if (bt672.2 != bt674.2) = true then (laws_FnRookNumbersMultiply.j4 k bt672.1 bt672.2 true bt660.1 bt660.2.1 bt660.2.2.1 bt660.2.2.2.1 bt660.2.2.2.2.1 bt660.2.2.2.2.2) else (laws_FnRookNumbersMultiply.j4 k bt672.1 bt672.2 (bt672.1 != bt674.1) bt660.1 bt660.2.1 bt660.2.2.1 bt660.2.2.2.1 bt660.2.2.2.2.1 bt660.2.2.2.2.2))))
def laws_FnRookNumbersMultiply.j4 : Nat → Bool → Bool → Bool → Int → Int → List Int → Int → Int → List Int → Option (Bool)
 | 0, _, _, _, _, _, _, _, _, _ => none
 | k + 1, x34, x35, x194, x671000, x671001, x671002, x672000, x672001, x672002 => if x194 = true then (some false) else (if x35 = true then ((impl_RookNumbers.f x671000 x671001 x671002).bind fun bt676 => ((impl_RookNumbers.f x672000 x672001 x672002).bind fun bt680 => (if bt676.2 = true then (if bt680.2 = true then ((laws_rShort.f k bt676.1).bind fun t684 => ((laws_rShort.f k bt680.1).bind fun t687 => ((laws_rSame.f k t684 t687).bind fun t690 => (some (x34 == t690))))) else (some false)) else (some false)))) else (some true))
end
def laws_FnRookNumbersMultiply.f (k : Nat) (l0 : List Int) (l1 : List Int) : Option (Bool) := (laws_big.f l0 l1).bind fun t575 => (if t575 = true then (some true) else ((spec_DrawStackBoards.f k l0).bind fun bt576 => ((impl_StackBoards.f k bt576.1 bt576.2.1 bt576.2.2.1 bt576.2.2.2.1 bt576.2.2.2.2.1 bt576.2.2.2.2.2).bind fun bt588 => (if bt588.2.2.2 = true then ((impl_RookNumbers.f bt576.1 bt576.2.1 bt576.2.2.1).bind fun bt595 => ((impl_RookNumbers.f bt576.2.2.2.1 bt576.2.2.2.2.1 bt576.2.2.2.2.2).bind fun bt599 => ((impl_RookNumbers.f bt588.1 bt588.2.1 bt588.2.2.1).bind fun bt603 => ((impl_MultiplyNumbers.f k bt595.1 bt599.1).bind fun bt607 => (if bt595.2 = true then (if bt599.2 = true then (if bt603.2 = true then (if bt607.2 = true then ((laws_rShort.f k bt607.1).bind fun t611 => ((laws_rShort.f k bt603.1).bind fun t614 => ((laws_rSame.f k t611 t614).bind fun t617 => (if t617 = true then (laws_FnRookNumbersMultiply.j0 k l0 l1) else (some false))))) else (some false)) else (some false)) else (some false)) else (some false)))))) else (laws_FnRookNumbersMultiply.j0 k l0 l1)))))
theorem laws_FnRookNumbersMultiply.j1_no (k : Nat) (x0 : List Int) (x1 : List Int) : ¬ (laws_FnRookNumbersMultiply.j1 k x0 x1 true = some true) := by
 cases k <;> simp [laws_FnRookNumbersMultiply.j1]
theorem laws_FnRookNumbersMultiply.j2_no (k : Nat) (x0 : List Int) (x24 : List Int) (x25 : Bool) (x639000 : Int) (x639001 : Int) (x639002 : List Int) : ¬ (laws_FnRookNumbersMultiply.j2 k x0 x24 x25 true x639000 x639001 x639002 = some true) := by
 cases k <;> simp [laws_FnRookNumbersMultiply.j2]
theorem laws_FnRookNumbersMultiply.j4_no (k : Nat) (x34 : Bool) (x35 : Bool) (x671000 : Int) (x671001 : Int) (x671002 : List Int) (x672000 : Int) (x672001 : Int) (x672002 : List Int) : ¬ (laws_FnRookNumbersMultiply.j4 k x34 x35 true x671000 x671001 x671002 x672000 x672001 x672002 = some true) := by
 cases k <;> simp [laws_FnRookNumbersMultiply.j4]
set_option maxHeartbeats 200000000 in
set_option maxRecDepth 100000 in
theorem laws_FnRookNumbersMultiply.calls (k : Nat) (A0 : Option Addr) (c0 : Nat) (l0 : List Int) (A1 : Option Addr) (c1 : Nat) (l1 : List Int) (w : World) (hr0 : Kd.C (Kd.int .u8) w A0 l0.length l0) (hc0 : l0.length ≤ c0) (hr1 : Kd.C (Kd.int .u8) w A1 l1.length l1) (hc1 : l1.length ≤ c1) (h : laws_FnRookNumbersMultiply.f k l0 l1 = some true) :
  Calls Try.prog 4 #[.slice A0 l0.length c0, .slice A1 l1.length c1] w fun e w' => e = .returned (.bool true) ∧ Below w.heap.size w w' := by
 have hu26 := Try.underlying26
 have HR0 := Aside0.mk hr0
 have HC0 := Aside0.mk hc0
 clear hr0 hc0
 have HR1 := Aside0.mk hr1
 have HC1 := Aside0.mk hc1
 clear hr1 hc1
 have HB := am (Below.refl w.heap.size w)
 have H : ((laws_big.f l0 l1).bind fun t575 => (if t575 = true then (some true) else ((spec_DrawStackBoards.f k l0).bind fun bt576 => ((impl_StackBoards.f k bt576.1 bt576.2.1 bt576.2.2.1 bt576.2.2.2.1 bt576.2.2.2.2.1 bt576.2.2.2.2.2).bind fun bt588 => (if bt588.2.2.2 = true then ((impl_RookNumbers.f bt576.1 bt576.2.1 bt576.2.2.1).bind fun bt595 => ((impl_RookNumbers.f bt576.2.2.2.1 bt576.2.2.2.2.1 bt576.2.2.2.2.2).bind fun bt599 => ((impl_RookNumbers.f bt588.1 bt588.2.1 bt588.2.2.1).bind fun bt603 => ((impl_MultiplyNumbers.f k bt595.1 bt599.1).bind fun bt607 => (if bt595.2 = true then (if bt599.2 = true then (if bt603.2 = true then (if bt607.2 = true then ((laws_rShort.f k bt607.1).bind fun t611 => ((laws_rShort.f k bt603.1).bind fun t614 => ((laws_rSame.f k t611 t614).bind fun t617 => (if t617 = true then (laws_FnRookNumbersMultiply.j0 k l0 l1) else (some false))))) else (some false)) else (some false)) else (some false)) else (some false)))))) else (laws_FnRookNumbersMultiply.j0 k l0 l1)))))) = some true := h
 clear h
 replace H := qE H
 obtain ⟨t575, A3, H⟩ := H
 replace H : (if t575 = true then (some true) else ((spec_DrawStackBoards.f k l0).bind fun bt576 => ((impl_StackBoards.f k bt576.1 bt576.2.1 bt576.2.2.1 bt576.2.2.2.1 bt576.2.2.2.2.1 bt576.2.2.2.2.2).bind fun bt588 => (if bt588.2.2.2 = true then ((impl_RookNumbers.f bt576.1 bt576.2.1 bt576.2.2.1).bind fun bt595 => ((impl_RookNumbers.f bt576.2.2.2.1 bt576.2.2.2.2.1 bt576.2.2.2.2.2).bind fun bt599 => ((impl_RookNumbers.f bt588.1 bt588.2.1 bt588.2.2.1).bind fun bt603 => ((impl_MultiplyNumbers.f k bt595.1 bt599.1).bind fun bt607 => (if bt595.2 = true then (if bt599.2 = true then (if bt603.2 = true then (if bt607.2 = true then ((laws_rShort.f k bt607.1).bind fun t611 => ((laws_rShort.f k bt603.1).bind fun t614 => ((laws_rSame.f k t611 t614).bind fun t617 => (if t617 = true then (laws_FnRookNumbersMultiply.j0 k l0 l1) else (some false))))) else (some false)) else (some false)) else (some false)) else (some false)))))) else (laws_FnRookNumbersMultiply.j0 k l0 l1))))) = some true := H
 by_cases c4 : t575 = true
 ·
  subst c4
  have H1 : (some true) = some true := by first | (rw [if_pos rfl] at H; exact H) | rfl
  clear H
  have H := H1
  clear H1 H
  go_enter Try.func4, Try.ntmps4
  go_wp2_with (first | ((with_reducible refine gate_callee (f := 6) rfl ?_); refine qg (some 44) Try.func6 #[.slice A0 l0.length c0, .slice A1 l1.length c1] ?_; (with_reducible refine (laws_big.calls _ _ l0 _ _ l1 true _ ?side1 HC0.out ?side3 HC1.out A3.out).mono ?_); (case side1 => exact Q21); (case side3 => exact Q32); rintro e w' ⟨rfl, ⟨nd, rfl⟩⟩; refine ⟨_, rfl, ?_⟩))
  go_ret
  exact ⟨Q2, qb⟩
 ·
  replace c4 := Bool.eq_false_iff.mpr c4
  subst c4
  have H1 : ((spec_DrawStackBoards.f k l0).bind fun bt576 => ((impl_StackBoards.f k bt576.1 bt576.2.1 bt576.2.2.1 bt576.2.2.2.1 bt576.2.2.2.2.1 bt576.2.2.2.2.2).bind fun bt588 => (if bt588.2.2.2 = true then ((impl_RookNumbers.f bt576.1 bt576.2.1 bt576.2.2.1).bind fun bt595 => ((impl_RookNumbers.f bt576.2.2.2.1 bt576.2.2.2.2.1 bt576.2.2.2.2.2).bind fun bt599 => ((impl_RookNumbers.f bt588.1 bt588.2.1 bt588.2.2.1).bind fun bt603 => ((impl_MultiplyNumbers.f k bt595.1 bt599.1).bind fun bt607 => (if bt595.2 = true then (if bt599.2 = true then (if bt603.2 = true then (if bt607.2 = true then ((laws_rShort.f k bt607.1).bind fun t611 => ((laws_rShort.f k bt603.1).bind fun t614 => ((laws_rSame.f k t611 t614).bind fun t617 => (if t617 = true then (laws_FnRookNumbersMultiply.j0 k l0 l1) else (some false))))) else (some false)) else (some false)) else (some false)) else (some false)))))) else (laws_FnRookNumbersMultiply.j0 k l0 l1)))) = some true := by first | (rw [if_neg (show ¬ (false = true) by decide)] at H; exact H) | rfl
  clear H
  have H := H1
  clear H1
  replace H := qE H
  obtain ⟨⟨t576, t577, t578, t581, t582, t583⟩, A5, H⟩ := H
  replace H : ((impl_StackBoards.f k t576 t577 t578 t581 t582 t583).bind fun bt588 => (if bt588.2.2.2 = true then ((impl_RookNumbers.f t576 t577 t578).bind fun bt595 => ((impl_RookNumbers.f t581 t582 t583).bind fun bt599 => ((impl_RookNumbers.f bt588.1 bt588.2.1 bt588.2.2.1).bind fun bt603 => ((impl_MultiplyNumbers.f k bt595.1 bt599.1).bind fun bt607 => (if bt595.2 = true then (if bt599.2 = true then (if bt603.2 = true then (if bt607.2 = true then ((laws_rShort.f k bt607.1).bind fun t611 => ((laws_rShort.f k bt603.1).bind fun t614 => ((laws_rSame.f k t611 t614).bind fun t617 => (if t617 = true then (laws_FnRookNumbersMultiply.j0 k l0 l1) else (some false))))) else (some false)) else (some false)) else (some false)) else (some false)))))) else (laws_FnRookNumbersMultiply.j0 k l0 l1))) = some true := H
  replace H := qE H
  obtain ⟨⟨t588, t589, t590, t593⟩, A6, H⟩ := H
  replace H : (if t593 = true then ((impl_RookNumbers.f t576 t577 t578).bind fun bt595 => ((impl_RookNumbers.f t581 t582 t583).bind fun bt599 => ((impl_RookNumbers.f t588 t589 t590).bind fun bt603 => ((impl_MultiplyNumbers.f k bt595.1 bt599.1).bind fun bt607 => (if bt595.2 = true then (if bt599.2 = true then (if bt603.2 = true then (if bt607.2 = true then ((laws_rShort.f k bt607.1).bind fun t611 => ((laws_rShort.f k bt603.1).bind fun t614 => ((laws_rSame.f k t611 t614).bind fun t617 => (if t617 = true then (laws_FnRookNumbersMultiply.j0 k l0 l1) else (some false))))) else (some false)) else (some false)) else (some false)) else (some false)))))) else (laws_FnRookNumbersMultiply.j0 k l0 l1)) = some true := H
  have HC7 := Aside0.mk H
  clear H
  go_enter Try.func4, Try.ntmps4
  go_upto_if 56 with (first | ((with_reducible refine gate_callee (f := 6) rfl ?_); refine qg (some 44) Try.func6 #[.slice A0 l0.length c0, .slice A1 l1.length c1] ?_; (with_reducible refine (laws_big.calls _ _ l0 _ _ l1 false _ ?side1 HC0.out ?side3 HC1.out A3.out).mono ?_); (case side1 => exact Q21); (case side3 => exact Q32); rintro e w' ⟨rfl, ⟨nd, rfl⟩⟩; refine ⟨_, rfl, ?_⟩) | ((with_reducible refine gate_callee (f := 20) rfl ?_); refine qg (some 47) Try.func20 #[.slice A0 l0.length c0] ?_; (with_reducible refine (spec_DrawStackBoards.calls k _ _ l0 t576 t577 t578 t581 t582 t583 _ ?side1 HC0.out A5.out).mono ?_); (case side1 => exact Q21); rintro e w8 ⟨v579, v584, rfl, ho0, ho1, hb⟩; refine ⟨_, rfl, ?_⟩; have n0_ := ql ho0; have n1_ := ql ho1; have n2_ := qs hb; clear HB; have Oq0 := n0_; have Oq1 := n1_; have HB := n2_; clear n0_ n1_ n2_; (try clear hb); (try clear hb2); (try clear hk); (try clear hi); (try clear ho0); (try clear ho1)) | ((with_reducible refine gate_dst (N := 5) rfl ?_); refine qv 5 #[.int .i64 0, .int .i64 0, .slice none 0 0] 26 ?_; intro gb586 hg w9 hbox hb; have n2_ := qs hb; have n3_ := am hbox; have n4_ := qw hg; have n5_ := qw hg; clear HB; replace Oq0 := sqR Oq0 hb; replace Oq1 := sqR Oq1 hb; have HB := n2_; have BK586 := n3_; have GW586 := n4_; have GE586 := n5_; clear n2_ n3_ n4_ n5_; clear hb hbox hg) | ((with_reducible refine gate_dst (N := 6) rfl ?_); refine qv 6 #[.int .i64 0, .int .i64 0, .slice none 0 0] 26 ?_; intro gb587 hg w10 hbox hb; have n3_ := qs hb; have n4_ := am hbox; have n5_ := qw hg; have n6_ := qw hg; have n7_ := qn hg BK586; have n8_ := qN hg BK586; clear HB; replace Oq0 := sqR Oq0 hb; replace Oq1 := sqR Oq1 hb; replace BK586 := sqB BK586 hb; have HB := n3_; have BK587 := n4_; have GW587 := n5_; have GE587 := n6_; have Nq0 := n7_; have Nq2 := n8_; clear n3_ n4_ n5_ n6_ n7_ n8_; clear hb hbox hg; have bq1 := Nq0.out; have cq1 := Nq2.out; have zq18 : w10.cell? ⟨gb586, 0, none⟩ = some (.int .i64 0) := sqc BK586 0; have zq19 : w10.cell? ⟨gb586, 1, none⟩ = some (.int .i64 0) := sqc BK586 1; have zq20 : w10.cell? ⟨gb586, 2, none⟩ = some (.slice none 0 0) := sqc BK586 2; have fq18 := blk_frozen BK586.out 0; have fq19 := blk_frozen BK586.out 1; have fq20 := blk_frozen BK586.out 2; obtain ⟨Ao13, co13, eo13⟩ := Kd.R_slice Oq0.out; subst eo13; have zq21 : w10.cell? ⟨gb587, 0, none⟩ = some (.int .i64 0) := sqc BK587 0; have zq22 : w10.cell? ⟨gb587, 1, none⟩ = some (.int .i64 0) := sqc BK587 1; have zq23 : w10.cell? ⟨gb587, 2, none⟩ = some (.slice none 0 0) := sqc BK587 2; have fq21 := blk_frozen BK587.out 0; have fq22 := blk_frozen BK587.out 1; have fq23 := blk_frozen BK587.out 2; obtain ⟨Ao15, co15, eo15⟩ := Kd.R_slice Oq1.out; subst eo15) | ((with_reducible refine gate_callee (f := 21) rfl ?_); refine qg (some 53) Try.func21 #[.agg #[.int .i64 t576, .int .i64 t577, .slice Ao13 t578.length co13], .agg #[.int .i64 t581, .int .i64 t582, .slice Ao15 t583.length co15]] ?_; (with_reducible refine (impl_StackBoards.calls k t576 t577 _ _ t578 t581 t582 _ _ t583 t588 t589 t590 t593 _ ?side1 ?side2 ?side3 ?side4 A6.out).mono ?_); (case side1 => refine (Kd.R_reads' (e := 3) (base := w.heap.size) (ok := fun k_ => some k_ ≠ (.slice Ao15 t583.length co15 : Value).ownBlock) (n := t578.length) (c := co13) ?_).2.2; exact (sqw (Kd.R_mono (sqo2 Oq0 BK586 BK587) qh))); (case side2 => exact (Kd.R_reads' Oq0.out).2.1); (case side3 => refine (Kd.R_reads' (e := 3) (base := w.heap.size) (ok := fun k_ => some k_ ≠ (.slice Ao13 t578.length co13 : Value).ownBlock) (n := t583.length) (c := co15) ?_).2.2; exact (sqw (Kd.R_mono (sqo2 Oq1 BK586 BK587) qh))); (case side4 => exact Q44); rintro e w16 ⟨v591, rfl, ho0, hb⟩; refine ⟨_, rfl, ?_⟩; have n0_ := qe (sqw (sqo2 Oq0 BK586 BK587)) ho0 hb; have n1_ := qe (sqw (sqo2 Oq1 BK586 BK587)) ho0 hb; have n2_ := am (Kd.R_lower (Kd.R_new' (Kd.R_new' ho0 (sqv (sqo2 Oq0 BK586 BK587))) (sqv (sqo2 Oq1 BK586 BK587))) (below_size qb)); have n3_ := qPF (.int .i64 t576) (.int .i64 t577) (.slice Ao13 t578.length co13) BK586 Nq0 hb; have n4_ := qFP (.int .i64 t581) (.int .i64 t582) (.slice Ao15 t583.length co15) BK587 Nq2 hb; have n5_ := qs hb; clear Oq0; clear Oq1; clear BK586; clear BK587; clear HB; have Oq0 := n0_; have Oq1 := n1_; have Oq2 := n2_; have BK586 := n3_; have BK587 := n4_; have HB := n5_; clear n0_ n1_ n2_ n3_ n4_ n5_; (try clear hb); (try clear hb2); (try clear hk); (try clear hi); (try clear ho0)) | ((with_reducible refine gate_dst (N := 7) rfl ?_); refine qv 7 #[.int .i64 0, .int .i64 0, .slice none 0 0] 26 ?_; intro gb594 hg w17 hbox hb; have n5_ := qs hb; have n6_ := am hbox; have n7_ := qw hg; have n8_ := qw hg; have n9_ := qn hg BK586; have n10_ := qN hg BK586; have n11_ := qn hg BK587; have n12_ := qN hg BK587; clear HB; replace Oq0 := sqR Oq0 hb; replace Oq1 := sqR Oq1 hb; replace Oq2 := sqR Oq2 hb; replace BK586 := sqB BK586 hb; replace BK587 := sqB BK587 hb; have HB := n5_; have BK594 := n6_; have GW594 := n7_; have GE594 := n8_; have Nq1 := n9_; have Nq4 := n10_; have Nq3 := n11_; have Nq5 := n12_; clear n5_ n6_ n7_ n8_ n9_ n10_ n11_ n12_; clear hb hbox hg; have bq3 := Nq4.out; have cq3 := Nq1.out; have bq4 := Nq5.out; have cq4 := Nq3.out; have zq24 : w17.cell? ⟨gb594, 0, none⟩ = some (.int .i64 0) := sqc BK594 0; have zq25 : w17.cell? ⟨gb594, 1, none⟩ = some (.int .i64 0) := sqc BK594 1; have zq26 : w17.cell? ⟨gb594, 2, none⟩ = some (.slice none 0 0) := sqc BK594 2; have fq24 := blk_frozen BK594.out 0; have fq25 := blk_frozen BK594.out 1; have fq26 := blk_frozen BK594.out 2; obtain ⟨Ao21, co21, eo21⟩ := Kd.R_slice Oq2.out; subst eo21))
  (try simp only [Act.put, List.setIfInBounds_toArray, List.set_cons_zero, List.set_cons_succ])
  go_cut [] (fun wc => ∃ (kq : Nat), Aside0 (laws_FnRookNumbersMultiply.j0 kq l0 l1 = some true) ∧ Aside0 (kq ≤ k) ∧ Aside0 (Below w.heap.size w wc))
  case first => as_aux_lemma =>
   have H := HC7.out
   clear HC7
   by_cases c22 : t593 = true
   ·
    subst c22
    have H1 : ((impl_RookNumbers.f t576 t577 t578).bind fun bt595 => ((impl_RookNumbers.f t581 t582 t583).bind fun bt599 => ((impl_RookNumbers.f t588 t589 t590).bind fun bt603 => ((impl_MultiplyNumbers.f k bt595.1 bt599.1).bind fun bt607 => (if bt595.2 = true then (if bt599.2 = true then (if bt603.2 = true then (if bt607.2 = true then ((laws_rShort.f k bt607.1).bind fun t611 => ((laws_rShort.f k bt603.1).bind fun t614 => ((laws_rSame.f k t611 t614).bind fun t617 => (if t617 = true then (laws_FnRookNumbersMultiply.j0 k l0 l1) else (some false))))) else (some false)) else (some false)) else (some false)) else (some false)))))) = some true := by first | (rw [if_pos rfl] at H; exact H) | rfl
    clear H
    have H := H1
    clear H1
    replace H := qE H
    obtain ⟨⟨t595, t598⟩, A23, H⟩ := H
    replace H : ((impl_RookNumbers.f t581 t582 t583).bind fun bt599 => ((impl_RookNumbers.f t588 t589 t590).bind fun bt603 => ((impl_MultiplyNumbers.f k t595 bt599.1).bind fun bt607 => (if t598 = true then (if bt599.2 = true then (if bt603.2 = true then (if bt607.2 = true then ((laws_rShort.f k bt607.1).bind fun t611 => ((laws_rShort.f k bt603.1).bind fun t614 => ((laws_rSame.f k t611 t614).bind fun t617 => (if t617 = true then (laws_FnRookNumbersMultiply.j0 k l0 l1) else (some false))))) else (some false)) else (some false)) else (some false)) else (some false))))) = some true := H
    replace H := qE H
    obtain ⟨⟨t599, t602⟩, A24, H⟩ := H
    replace H : ((impl_RookNumbers.f t588 t589 t590).bind fun bt603 => ((impl_MultiplyNumbers.f k t595 t599).bind fun bt607 => (if t598 = true then (if t602 = true then (if bt603.2 = true then (if bt607.2 = true then ((laws_rShort.f k bt607.1).bind fun t611 => ((laws_rShort.f k bt603.1).bind fun t614 => ((laws_rSame.f k t611 t614).bind fun t617 => (if t617 = true then (laws_FnRookNumbersMultiply.j0 k l0 l1) else (some false))))) else (some false)) else (some false)) else (some false)) else (some false)))) = some true := H
    replace H := qE H
    obtain ⟨⟨t603, t606⟩, A25, H⟩ := H
    replace H : ((impl_MultiplyNumbers.f k t595 t599).bind fun bt607 => (if t598 = true then (if t602 = true then (if t606 = true then (if bt607.2 = true then ((laws_rShort.f k bt607.1).bind fun t611 => ((laws_rShort.f k t603).bind fun t614 => ((laws_rSame.f k t611 t614).bind fun t617 => (if t617 = true then (laws_FnRookNumbersMultiply.j0 k l0 l1) else (some false))))) else (some false)) else (some false)) else (some false)) else (some false))) = some true := H
    replace H := qE H
    obtain ⟨⟨t607, t608⟩, A26, H⟩ := H
    replace H : (if t598 = true then (if t602 = true then (if t606 = true then (if t608 = true then ((laws_rShort.f k t607).bind fun t611 => ((laws_rShort.f k t603).bind fun t614 => ((laws_rSame.f k t611 t614).bind fun t617 => (if t617 = true then (laws_FnRookNumbersMultiply.j0 k l0 l1) else (some false))))) else (some false)) else (some false)) else (some false)) else (some false)) = some true := H
    by_cases c27 : t598 = true
    ·
     subst c27
     have H1 : (if t602 = true then (if t606 = true then (if t608 = true then ((laws_rShort.f k t607).bind fun t611 => ((laws_rShort.f k t603).bind fun t614 => ((laws_rSame.f k t611 t614).bind fun t617 => (if t617 = true then (laws_FnRookNumbersMultiply.j0 k l0 l1) else (some false))))) else (some false)) else (some false)) else (some false)) = some true := by first | (rw [if_pos rfl] at H; exact H) | rfl
     clear H
     have H := H1
     clear H1
     by_cases c28 : t602 = true
     ·
      subst c28
      have H1 : (if t606 = true then (if t608 = true then ((laws_rShort.f k t607).bind fun t611 => ((laws_rShort.f k t603).bind fun t614 => ((laws_rSame.f k t611 t614).bind fun t617 => (if t617 = true then (laws_FnRookNumbersMultiply.j0 k l0 l1) else (some false))))) else (some false)) else (some false)) = some true := by first | (rw [if_pos rfl] at H; exact H) | rfl
      clear H
      have H := H1
      clear H1
      by_cases c29 : t606 = true
      ·
       subst c29
       have H1 : (if t608 = true then ((laws_rShort.f k t607).bind fun t611 => ((laws_rShort.f k t603).bind fun t614 => ((laws_rSame.f k t611 t614).bind fun t617 => (if t617 = true then (laws_FnRookNumbersMultiply.j0 k l0 l1) else (some false))))) else (some false)) = some true := by first | (rw [if_pos rfl] at H; exact H) | rfl
       clear H
       have H := H1
       clear H1
       by_cases c30 : t608 = true
       ·
        subst c30
        have H1 : ((laws_rShort.f k t607).bind fun t611 => ((laws_rShort.f k t603).bind fun t614 => ((laws_rSame.f k t611 t614).bind fun t617 => (if t617 = true then (laws_FnRookNumbersMultiply.j0 k l0 l1) else (some false))))) = some true := by first | (rw [if_pos rfl] at H; exact H) | rfl
        clear H
        have H := H1
        clear H1
        replace H := qE H
        obtain ⟨t611, A31, H⟩ := H
        replace H : ((laws_rShort.f k t603).bind fun t614 => ((laws_rSame.f k t611 t614).bind fun t617 => (if t617 = true then (laws_FnRookNumbersMultiply.j0 k l0 l1) else (some false)))) = some true := H
        replace H := qE H
        obtain ⟨t614, A32, H⟩ := H
        replace H : ((laws_rSame.f k t611 t614).bind fun t617 => (if t617 = true then (laws_FnRookNumbersMultiply.j0 k l0 l1) else (some false))) = some true := H
        replace H := qE H
        obtain ⟨t617, A33, H⟩ := H
        replace H : (if t617 = true then (laws_FnRookNumbersMultiply.j0 k l0 l1) else (some false)) = some true := H
        by_cases c34 : t617 = true
        ·
         subst c34
         have H1 : (laws_FnRookNumbersMultiply.j0 k l0 l1) = some true := by first | (rw [if_pos rfl] at H; exact H) | rfl
         clear H
         have H := H1
         clear H1
         have H' := Aside0.mk H
         clear H
         have bq5 := Nq0.out
         have cq5 := Nq2.out
         have bq6 := Nq1.out
         have cq6 := Nq4.out
         obtain ⟨zq27, zq28, zq29, fq27, fq28, fq29⟩ := qd BK586
         go_wp2_with (first | ((with_reducible refine gate_callee (f := 23) rfl ?_); refine qg (some 59) Try.func23 #[.agg #[.int .i64 t576, .int .i64 t577, .slice Ao13 t578.length co13]] ?_; (with_reducible refine (impl_RookNumbers.calls t576 t577 _ _ t578 t595 true _ ?side1 ?side2 A23.out).mono ?_); (case side1 => refine (Kd.R_reads' (e := 3) (base := w.heap.size) (ok := fun k_ => (some k_ ≠ (.slice Ao15 t583.length co15 : Value).ownBlock ∧ some k_ ≠ (.slice Ao21 t590.length co21 : Value).ownBlock)) (n := t578.length) (c := co13) ?_).2.2; exact (sqw (Kd.R_mono (sqo Oq0 BK594) qh))); (case side2 => exact (Kd.R_reads' Oq0.out).2.1); rintro e w38 ⟨v596, rfl, ho0, hb⟩; refine ⟨_, rfl, ?_⟩; have Oq3 := am (Kd.R_lower (Kd.R_new' (Kd.R_new' (Kd.R_new' ho0 (sqv (sqo Oq0 BK594))) (sqv (sqo Oq1 BK594))) (sqv (sqo Oq2 BK594))) (below_size qb)); replace Oq0 := qe (sqw (sqo Oq0 BK594)) ho0 hb; replace Oq1 := qe (sqw (sqo Oq1 BK594)) ho0 hb; replace Oq2 := qe (sqw (sqo Oq2 BK594)) ho0 hb; replace BK586 := sqBf BK586 Nq1 (.int .i64 t588) (.int .i64 t589) (.slice Ao21 t590.length co21) hb; replace BK587 := sqBf BK587 Nq3 (.int .i64 t588) (.int .i64 t589) (.slice Ao21 t590.length co21) hb; replace BK594 := sqBp BK594 (.int .i64 t588) (.int .i64 t589) (.slice Ao21 t590.length co21) hb; replace HB := qs hb; (try clear hb ho0); have bq7 := Nq3.out; have cq7 := Nq5.out; obtain ⟨zq30, zq31, zq32, fq30, fq31, fq32⟩ := qd BK587) | ((with_reducible refine gate_callee (f := 23) rfl ?_); refine qg (some 64) Try.func23 #[.agg #[.int .i64 t581, .int .i64 t582, .slice Ao15 t583.length co15]] ?_; (with_reducible refine (impl_RookNumbers.calls t581 t582 _ _ t583 t599 true _ ?side1 ?side2 A24.out).mono ?_); (case side1 => exact Q16); (case side2 => exact Q44); rintro e w41 ⟨v600, rfl, ho0, hb⟩; refine ⟨_, rfl, ?_⟩; have Oq4 := am (Kd.R_lower (Kd.R_new' (Kd.R_new' (Kd.R_new' (Kd.R_new' ho0 (sqL Oq0)) (sqL Oq1)) (sqL Oq2)) (sqL Oq3)) (below_size qb)); replace Oq0 := sqE Oq0 ho0 hb; replace Oq1 := sqE Oq1 ho0 hb; replace Oq2 := sqE Oq2 ho0 hb; replace Oq3 := sqE Oq3 ho0 hb; replace BK586 := sqB BK586 hb; replace BK587 := sqB BK587 hb; replace BK594 := sqB BK594 hb; replace HB := qs hb; (try clear hb ho0); obtain ⟨zq33, zq34, zq35, fq33, fq34, fq35⟩ := qd BK594) | ((with_reducible refine gate_callee (f := 23) rfl ?_); refine qg (some 69) Try.func23 #[.agg #[.int .i64 t588, .int .i64 t589, .slice Ao21 t590.length co21]] ?_; (with_reducible refine (impl_RookNumbers.calls t588 t589 _ _ t590 t603 true _ ?side1 ?side2 A25.out).mono ?_); (case side1 => repeat (first | exact (Kd.R_reads' Oq2.out).2.2 | (with_reducible first | refine Kd.C_alloc ?_ _ | refine Kd.C_drewN ?_ _ | refine Kd.C_drew ?_))); (case side2 => exact (Kd.R_reads' Oq2.out).2.1); rintro e w43 ⟨v604, rfl, ho0, hb⟩; refine ⟨_, rfl, ?_⟩; have Oq5 := am (Kd.R_lower (Kd.R_new' (Kd.R_new' (Kd.R_new' (Kd.R_new' (Kd.R_new' ho0 (sqL Oq0)) (sqL Oq1)) (sqL Oq2)) (sqL Oq3)) (sqL Oq4)) (below_size qb)); replace Oq0 := sqE Oq0 ho0 hb; replace Oq1 := sqE Oq1 ho0 hb; replace Oq2 := sqE Oq2 ho0 hb; replace Oq3 := sqE Oq3 ho0 hb; replace Oq4 := sqE Oq4 ho0 hb; replace BK586 := sqB BK586 hb; replace BK587 := sqB BK587 hb; replace BK594 := sqB BK594 hb; replace HB := qs hb; (try clear hb ho0); obtain ⟨Ao44, co44, eo44⟩ := Kd.R_slice Oq3.out; subst eo44; obtain ⟨Ao45, co45, eo45⟩ := Kd.R_slice Oq4.out; subst eo45) | ((with_reducible refine gate_callee (f := 24) rfl ?_); refine qg (some 75) Try.func24 #[.slice Ao44 t595.length co44, .slice Ao45 t599.length co45] ?_; (with_reducible refine (impl_MultiplyNumbers.calls k _ _ t595 _ _ t599 t607 true _ ?side1 ?side2 ?side3 ?side4 A26.out).mono ?_); (case side1 => exact Q24); (case side2 => exact Q60); (case side3 => repeat (first | exact (Kd.R_reads' Oq4.out).2.2 | (with_reducible first | refine Kd.C_alloc ?_ _ | refine Kd.C_drewN ?_ _ | refine Kd.C_drew ?_))); (case side4 => exact (Kd.R_reads' Oq4.out).2.1); rintro e w46 ⟨v609, rfl, ho0, hb⟩; refine ⟨_, rfl, ?_⟩; have Oq6 := am (Kd.R_lower (Kd.R_new' (Kd.R_new' (Kd.R_new' (Kd.R_new' (Kd.R_new' (Kd.R_new' ho0 (sqL Oq0)) (sqL Oq1)) (sqL Oq2)) (sqL Oq3)) (sqL Oq4)) (sqL Oq5)) (below_size qb)); replace Oq0 := sqE Oq0 ho0 hb; replace Oq1 := sqE Oq1 ho0 hb; replace Oq2 := sqE Oq2 ho0 hb; replace Oq3 := sqE Oq3 ho0 hb; replace Oq4 := sqE Oq4 ho0 hb; replace Oq5 := sqE Oq5 ho0 hb; replace BK586 := sqB BK586 hb; replace BK587 := sqB BK587 hb; replace BK594 := sqB BK594 hb; replace HB := qs hb; (try clear hb ho0); obtain ⟨Ao47, co47, eo47⟩ := Kd.R_slice Oq6.out; subst eo47) | (go_at_call 26; (with_reducible refine (laws_rShort.calls k (fun k_ => some k_ = (.slice Ao47 t607.length co47 : Value).ownBlock) (.slice Ao47 t607.length co47) t607 t611 w _ ?side1 ?side2 A31.out).mono ?_); (case side1 => exact qb); (case side2 => exact Kd.R_tight rfl Oq6.out); rintro e w48 ⟨v612, rfl, ho0, hb, hkp⟩; have Oq7 := am (Kd.R_mono (ok' := fun k_ => some k_ ≠ (.slice Ao13 t578.length co13 : Value).ownBlock ∧ some k_ ≠ (.slice Ao15 t583.length co15 : Value).ownBlock ∧ some k_ ≠ (.slice Ao21 t590.length co21 : Value).ownBlock ∧ some k_ ≠ (.slice Ao44 t595.length co44 : Value).ownBlock ∧ some k_ ≠ (.slice Ao45 t599.length co45 : Value).ownBlock ∧ some k_ ≠ (v604 : Value).ownBlock) ho0 (fun k_ hk_ => ⟨Or.elim hk_ (fun hs_ => fun e_ => (((Oq0.out).1 k_ e_.symm).2) hs_) (fun hn_ => (Kd.fresh' (sqL Oq0) k_ hn_)), Or.elim hk_ (fun hs_ => fun e_ => (((Oq1.out).1 k_ e_.symm).2) hs_) (fun hn_ => (Kd.fresh' (sqL Oq1) k_ hn_)), Or.elim hk_ (fun hs_ => fun e_ => (((Oq2.out).1 k_ e_.symm).2) hs_) (fun hn_ => (Kd.fresh' (sqL Oq2) k_ hn_)), Or.elim hk_ (fun hs_ => fun e_ => (((Oq3.out).1 k_ e_.symm).2) hs_) (fun hn_ => (Kd.fresh' (sqL Oq3) k_ hn_)), Or.elim hk_ (fun hs_ => fun e_ => (((Oq4.out).1 k_ e_.symm).2) hs_) (fun hn_ => (Kd.fresh' (sqL Oq4) k_ hn_)), Or.elim hk_ (fun hs_ => fun e_ => (((Oq5.out).1 k_ e_.symm).2) hs_) (fun hn_ => (Kd.fresh' (sqL Oq5) k_ hn_))⟩)); replace Oq0 := am (Kd.R_mono (ok' := fun k_ => some k_ ≠ (.slice Ao15 t583.length co15 : Value).ownBlock ∧ some k_ ≠ (.slice Ao21 t590.length co21 : Value).ownBlock ∧ some k_ ≠ (.slice Ao44 t595.length co44 : Value).ownBlock ∧ some k_ ≠ (.slice Ao45 t599.length co45 : Value).ownBlock ∧ some k_ ≠ (v604 : Value).ownBlock ∧ some k_ ≠ (v612 : Value).ownBlock) (Kd.R_keptB (Oq0.out) hkp (fun k_ hk_ hs_ => (hk_.2) hs_)) (fun k_ hk_ => ⟨hk_.1.1.1.1.1.1, hk_.1.1.1.1.1.2, hk_.1.1.1.1.2, hk_.1.1.1.2, hk_.1.1.2, fun e_ => Or.elim (ho0.1 k_ e_.symm) (fun hs_ => hk_.2.1 hs_) (fun hn_ => Nat.not_le.2 hk_.2.2 hn_)⟩)); replace Oq1 := am (Kd.R_mono (ok' := fun k_ => some k_ ≠ (.slice Ao13 t578.length co13 : Value).ownBlock ∧ some k_ ≠ (.slice Ao21 t590.length co21 : Value).ownBlock ∧ some k_ ≠ (.slice Ao44 t595.length co44 : Value).ownBlock ∧ some k_ ≠ (.slice Ao45 t599.length co45 : Value).ownBlock ∧ some k_ ≠ (v604 : Value).ownBlock ∧ some k_ ≠ (v612 : Value).ownBlock) (Kd.R_keptB (Oq1.out) hkp (fun k_ hk_ hs_ => (hk_.2) hs_)) (fun k_ hk_ => ⟨hk_.1.1.1.1.1.1, hk_.1.1.1.1.1.2, hk_.1.1.1.1.2, hk_.1.1.1.2, hk_.1.1.2, fun e_ => Or.elim (ho0.1 k_ e_.symm) (fun hs_ => hk_.2.1 hs_) (fun hn_ => Nat.not_le.2 hk_.2.2 hn_)⟩)); replace BK586 := am (blk_kept (sqb BK586) hkp (fun hs_ => (fun e_ => (Kd.R_ne Oq6.out BK586.out (by decide)) e_) hs_)); replace BK587 := am (blk_kept (sqb BK587) hkp (fun hs_ => (fun e_ => (Kd.R_ne Oq6.out BK587.out (by decide)) e_) hs_)); replace Oq2 := am (Kd.R_mono (ok' := fun k_ => some k_ ≠ (.slice Ao13 t578.length co13 : Value).ownBlock ∧ some k_ ≠ (.slice Ao15 t583.length co15 : Value).ownBlock ∧ some k_ ≠ (.slice Ao44 t595.length co44 : Value).ownBlock ∧ some k_ ≠ (.slice Ao45 t599.length co45 : Value).ownBlock ∧ some k_ ≠ (v604 : Value).ownBlock ∧ some k_ ≠ (v612 : Value).ownBlock) (Kd.R_keptB (Oq2.out) hkp (fun k_ hk_ hs_ => (hk_.2) hs_)) (fun k_ hk_ => ⟨hk_.1.1.1.1.1.1.2, hk_.1.1.1.1.1.2, hk_.1.1.1.1.2, hk_.1.1.1.2, hk_.1.1.2, fun e_ => Or.elim (ho0.1 k_ e_.symm) (fun hs_ => hk_.2.1 hs_) (fun hn_ => Nat.not_le.2 hk_.2.2 hn_)⟩)); replace BK594 := am (blk_kept (sqb BK594) hkp (fun hs_ => (fun e_ => (Kd.R_ne Oq6.out BK594.out (by decide)) e_) hs_)); replace Oq3 := am (Kd.R_mono (ok' := fun k_ => some k_ ≠ (.slice Ao13 t578.length co13 : Value).ownBlock ∧ some k_ ≠ (.slice Ao15 t583.length co15 : Value).ownBlock ∧ some k_ ≠ (.slice Ao21 t590.length co21 : Value).ownBlock ∧ some k_ ≠ (.slice Ao45 t599.length co45 : Value).ownBlock ∧ some k_ ≠ (v604 : Value).ownBlock ∧ some k_ ≠ (v612 : Value).ownBlock) (Kd.R_keptB (Oq3.out) hkp (fun k_ hk_ hs_ => (hk_.2) hs_)) (fun k_ hk_ => ⟨hk_.1.1.1.1.1.1.2, hk_.1.1.1.1.1.2, hk_.1.1.1.1.2, hk_.1.1.1.2, hk_.1.1.2, fun e_ => Or.elim (ho0.1 k_ e_.symm) (fun hs_ => hk_.2.1 hs_) (fun hn_ => Nat.not_le.2 hk_.2.2 hn_)⟩)); replace Oq4 := am (Kd.R_mono (ok' := fun k_ => some k_ ≠ (.slice Ao13 t578.length co13 : Value).ownBlock ∧ some k_ ≠ (.slice Ao15 t583.length co15 : Value).ownBlock ∧ some k_ ≠ (.slice Ao21 t590.length co21 : Value).ownBlock ∧ some k_ ≠ (.slice Ao44 t595.length co44 : Value).ownBlock ∧ some k_ ≠ (v604 : Value).ownBlock ∧ some k_ ≠ (v612 : Value).ownBlock) (Kd.R_keptB (Oq4.out) hkp (fun k_ hk_ hs_ => (hk_.2) hs_)) (fun k_ hk_ => ⟨hk_.1.1.1.1.1.1.2, hk_.1.1.1.1.1.2, hk_.1.1.1.1.2, hk_.1.1.1.2, hk_.1.1.2, fun e_ => Or.elim (ho0.1 k_ e_.symm) (fun hs_ => hk_.2.1 hs_) (fun hn_ => Nat.not_le.2 hk_.2.2 hn_)⟩)); replace Oq5 := am (Kd.R_mono (ok' := fun k_ => some k_ ≠ (.slice Ao13 t578.length co13 : Value).ownBlock ∧ some k_ ≠ (.slice Ao15 t583.length co15 : Value).ownBlock ∧ some k_ ≠ (.slice Ao21 t590.length co21 : Value).ownBlock ∧ some k_ ≠ (.slice Ao44 t595.length co44 : Value).ownBlock ∧ some k_ ≠ (.slice Ao45 t599.length co45 : Value).ownBlock ∧ some k_ ≠ (v612 : Value).ownBlock) (Kd.R_keptB (Oq5.out) hkp (fun k_ hk_ hs_ => (hk_.2) hs_)) (fun k_ hk_ => ⟨hk_.1.1.1.1.1.1.2, hk_.1.1.1.1.1.2, hk_.1.1.1.1.2, hk_.1.1.1.2, hk_.1.1.2, fun e_ => Or.elim (ho0.1 k_ e_.symm) (fun hs_ => hk_.2.1 hs_) (fun hn_ => Nat.not_le.2 hk_.2.2 hn_)⟩)); replace HB := am hb; clear Oq6; (try clear hb ho0); obtain ⟨Ao49, co49, eo49⟩ := Kd.R_slice Oq5.out; subst eo49) | (go_at_call 26; (with_reducible refine (laws_rShort.calls k (fun k_ => some k_ = (.slice Ao49 t603.length co49 : Value).ownBlock) (.slice Ao49 t603.length co49) t603 t614 w _ ?side1 ?side2 A32.out).mono ?_); (case side1 => exact qb); (case side2 => exact Kd.R_tight rfl Oq5.out); rintro e w50 ⟨v615, rfl, ho0, hb, hkp⟩; have Oq8 := am (Kd.R_mono (ok' := fun k_ => some k_ ≠ (.slice Ao13 t578.length co13 : Value).ownBlock ∧ some k_ ≠ (.slice Ao15 t583.length co15 : Value).ownBlock ∧ some k_ ≠ (.slice Ao21 t590.length co21 : Value).ownBlock ∧ some k_ ≠ (.slice Ao44 t595.length co44 : Value).ownBlock ∧ some k_ ≠ (.slice Ao45 t599.length co45 : Value).ownBlock ∧ some k_ ≠ (v612 : Value).ownBlock) ho0 (fun k_ hk_ => ⟨Or.elim hk_ (fun hs_ => fun e_ => (((Oq0.out).1 k_ e_.symm).2.2.2.2.1) hs_) (fun hn_ => (Kd.fresh' (sqL Oq0) k_ hn_)), Or.elim hk_ (fun hs_ => fun e_ => (((Oq1.out).1 k_ e_.symm).2.2.2.2.1) hs_) (fun hn_ => (Kd.fresh' (sqL Oq1) k_ hn_)), Or.elim hk_ (fun hs_ => fun e_ => (((Oq2.out).1 k_ e_.symm).2.2.2.2.1) hs_) (fun hn_ => (Kd.fresh' (sqL Oq2) k_ hn_)), Or.elim hk_ (fun hs_ => fun e_ => (((Oq3.out).1 k_ e_.symm).2.2.2.2.1) hs_) (fun hn_ => (Kd.fresh' (sqL Oq3) k_ hn_)), Or.elim hk_ (fun hs_ => fun e_ => (((Oq4.out).1 k_ e_.symm).2.2.2.2.1) hs_) (fun hn_ => (Kd.fresh' (sqL Oq4) k_ hn_)), Or.elim hk_ (fun hs_ => fun e_ => (((Oq7.out).1 k_ e_.symm).2.2.2.2.2) hs_) (fun hn_ => (Kd.fresh' (sqL Oq7) k_ hn_))⟩)); replace Oq0 := am (Kd.R_mono (ok' := fun k_ => some k_ ≠ (.slice Ao15 t583.length co15 : Value).ownBlock ∧ some k_ ≠ (.slice Ao21 t590.length co21 : Value).ownBlock ∧ some k_ ≠ (.slice Ao44 t595.length co44 : Value).ownBlock ∧ some k_ ≠ (.slice Ao45 t599.length co45 : Value).ownBlock ∧ some k_ ≠ (v612 : Value).ownBlock ∧ some k_ ≠ (v615 : Value).ownBlock) (Kd.R_keptB (Oq0.out) hkp (fun k_ hk_ hs_ => (hk_.2.2.2.2.1) hs_)) (fun k_ hk_ => ⟨hk_.1.1, hk_.1.2.1, hk_.1.2.2.1, hk_.1.2.2.2.1, hk_.1.2.2.2.2.2, fun e_ => Or.elim (ho0.1 k_ e_.symm) (fun hs_ => hk_.2.1 hs_) (fun hn_ => Nat.not_le.2 hk_.2.2 hn_)⟩)); replace Oq1 := am (Kd.R_mono (ok' := fun k_ => some k_ ≠ (.slice Ao13 t578.length co13 : Value).ownBlock ∧ some k_ ≠ (.slice Ao21 t590.length co21 : Value).ownBlock ∧ some k_ ≠ (.slice Ao44 t595.length co44 : Value).ownBlock ∧ some k_ ≠ (.slice Ao45 t599.length co45 : Value).ownBlock ∧ some k_ ≠ (v612 : Value).ownBlock ∧ some k_ ≠ (v615 : Value).ownBlock) (Kd.R_keptB (Oq1.out) hkp (fun k_ hk_ hs_ => (hk_.2.2.2.2.1) hs_)) (fun k_ hk_ => ⟨hk_.1.1, hk_.1.2.1, hk_.1.2.2.1, hk_.1.2.2.2.1, hk_.1.2.2.2.2.2, fun e_ => Or.elim (ho0.1 k_ e_.symm) (fun hs_ => hk_.2.1 hs_) (fun hn_ => Nat.not_le.2 hk_.2.2 hn_)⟩)); replace BK586 := am (blk_kept (sqb BK586) hkp (fun hs_ => (fun e_ => (Kd.R_ne Oq5.out BK586.out (by decide)) e_) hs_)); replace BK587 := am (blk_kept (sqb BK587) hkp (fun hs_ => (fun e_ => (Kd.R_ne Oq5.out BK587.out (by decide)) e_) hs_)); replace Oq2 := am (Kd.R_mono (ok' := fun k_ => some k_ ≠ (.slice Ao13 t578.length co13 : Value).ownBlock ∧ some k_ ≠ (.slice Ao15 t583.length co15 : Value).ownBlock ∧ some k_ ≠ (.slice Ao44 t595.length co44 : Value).ownBlock ∧ some k_ ≠ (.slice Ao45 t599.length co45 : Value).ownBlock ∧ some k_ ≠ (v612 : Value).ownBlock ∧ some k_ ≠ (v615 : Value).ownBlock) (Kd.R_keptB (Oq2.out) hkp (fun k_ hk_ hs_ => (hk_.2.2.2.2.1) hs_)) (fun k_ hk_ => ⟨hk_.1.1, hk_.1.2.1, hk_.1.2.2.1, hk_.1.2.2.2.1, hk_.1.2.2.2.2.2, fun e_ => Or.elim (ho0.1 k_ e_.symm) (fun hs_ => hk_.2.1 hs_) (fun hn_ => Nat.not_le.2 hk_.2.2 hn_)⟩)); replace BK594 := am (blk_kept (sqb BK594) hkp (fun hs_ => (fun e_ => (Kd.R_ne Oq5.out BK594.out (by decide)) e_) hs_)); replace Oq3 := am (Kd.R_mono (ok' := fun k_ => some k_ ≠ (.slice Ao13 t578.length co13 : Value).ownBlock ∧ some k_ ≠ (.slice Ao15 t583.length co15 : Value).ownBlock ∧ some k_ ≠ (.slice Ao21 t590.length co21 : Value).ownBlock ∧ some k_ ≠ (.slice Ao45 t599.length co45 : Value).ownBlock ∧ some k_ ≠ (v612 : Value).ownBlock ∧ some k_ ≠ (v615 : Value).ownBlock) (Kd.R_keptB (Oq3.out) hkp (fun k_ hk_ hs_ => (hk_.2.2.2.2.1) hs_)) (fun k_ hk_ => ⟨hk_.1.1, hk_.1.2.1, hk_.1.2.2.1, hk_.1.2.2.2.1, hk_.1.2.2.2.2.2, fun e_ => Or.elim (ho0.1 k_ e_.symm) (fun hs_ => hk_.2.1 hs_) (fun hn_ => Nat.not_le.2 hk_.2.2 hn_)⟩)); replace Oq4 := am (Kd.R_mono (ok' := fun k_ => some k_ ≠ (.slice Ao13 t578.length co13 : Value).ownBlock ∧ some k_ ≠ (.slice Ao15 t583.length co15 : Value).ownBlock ∧ some k_ ≠ (.slice Ao21 t590.length co21 : Value).ownBlock ∧ some k_ ≠ (.slice Ao44 t595.length co44 : Value).ownBlock ∧ some k_ ≠ (v612 : Value).ownBlock ∧ some k_ ≠ (v615 : Value).ownBlock) (Kd.R_keptB (Oq4.out) hkp (fun k_ hk_ hs_ => (hk_.2.2.2.2.1) hs_)) (fun k_ hk_ => ⟨hk_.1.1, hk_.1.2.1, hk_.1.2.2.1, hk_.1.2.2.2.1, hk_.1.2.2.2.2.2, fun e_ => Or.elim (ho0.1 k_ e_.symm) (fun hs_ => hk_.2.1 hs_) (fun hn_ => Nat.not_le.2 hk_.2.2 hn_)⟩)); replace Oq7 := am (Kd.R_mono (ok' := fun k_ => some k_ ≠ (.slice Ao13 t578.length co13 : Value).ownBlock ∧ some k_ ≠ (.slice Ao15 t583.length co15 : Value).ownBlock ∧ some k_ ≠ (.slice Ao21 t590.length co21 : Value).ownBlock ∧ some k_ ≠ (.slice Ao44 t595.length co44 : Value).ownBlock ∧ some k_ ≠ (.slice Ao45 t599.length co45 : Value).ownBlock ∧ some k_ ≠ (v615 : Value).ownBlock) (Kd.R_keptB (Oq7.out) hkp (fun k_ hk_ hs_ => (hk_.2.2.2.2.2) hs_)) (fun k_ hk_ => ⟨hk_.1.1, hk_.1.2.1, hk_.1.2.2.1, hk_.1.2.2.2.1, hk_.1.2.2.2.2.1, fun e_ => Or.elim (ho0.1 k_ e_.symm) (fun hs_ => hk_.2.1 hs_) (fun hn_ => Nat.not_le.2 hk_.2.2 hn_)⟩)); replace HB := am hb; clear Oq5; (try clear hb ho0); obtain ⟨Ao51, co51, eo51⟩ := Kd.R_slice Oq7.out; subst eo51; obtain ⟨Ao52, co52, eo52⟩ := Kd.R_slice Oq8.out; subst eo52) | (go_at_call 25; (with_reducible refine (laws_rSame.calls k _ _ t611 _ _ t614 true _ ?side1 ?side2 ?side3 ?side4 A33.out).mono ?_); (case side1 => repeat (first | exact (Kd.R_reads' Oq7.out).2.2 | (with_reducible first | refine Kd.C_alloc ?_ _ | refine Kd.C_drewN ?_ _ | refine Kd.C_drew ?_))); (case side2 => exact (Kd.R_reads' Oq7.out).2.1); (case side3 => repeat (first | exact (Kd.R_reads' Oq8.out).2.2 | (with_reducible first | refine Kd.C_alloc ?_ _ | refine Kd.C_drewN ?_ _ | refine Kd.C_drew ?_))); (case side4 => exact (Kd.R_reads' Oq8.out).2.1); rintro e w' ⟨rfl, ⟨nd, rfl⟩⟩))
         go_meet
         case rel => exact ⟨_, H', ⟨Q41⟩, ⟨qb⟩⟩
        ·
         replace c34 := Bool.eq_false_iff.mpr c34
         subst c34
         have H1 : (some false) = some true := by first | (rw [if_neg (show ¬ (false = true) by decide)] at H; exact H) | rfl
         clear H
         have H := H1
         clear H1
         exact absurd (Option.some.inj H) (by decide)
       ·
        replace c30 := Bool.eq_false_iff.mpr c30
        subst c30
        have H1 : (some false) = some true := by first | (rw [if_neg (show ¬ (false = true) by decide)] at H; exact H) | rfl
        clear H
        have H := H1
        clear H1
        exact absurd (Option.some.inj H) (by decide)
      ·
       replace c29 := Bool.eq_false_iff.mpr c29
       subst c29
       have H1 : (some false) = some true := by first | (rw [if_neg (show ¬ (false = true) by decide)] at H; exact H) | rfl
       clear H
       have H := H1
       clear H1
       exact absurd (Option.some.inj H) (by decide)
     ·
      replace c28 := Bool.eq_false_iff.mpr c28
      subst c28
      have H1 : (some false) = some true := by first | (rw [if_neg (show ¬ (false = true) by decide)] at H; exact H) | rfl
      clear H
      have H := H1
      clear H1
      exact absurd (Option.some.inj H) (by decide)
    ·
     replace c27 := Bool.eq_false_iff.mpr c27
     subst c27
     have H1 : (some false) = some true := by first | (rw [if_neg (show ¬ (false = true) by decide)] at H; exact H) | rfl
     clear H
     have H := H1
     clear H1
     exact absurd (Option.some.inj H) (by decide)
   ·
    replace c22 := Bool.eq_false_iff.mpr c22
    subst c22
    have H1 : (laws_FnRookNumbersMultiply.j0 k l0 l1) = some true := by first | (rw [if_neg (show ¬ (false = true) by decide)] at H; exact H) | rfl
    clear H
    have H := H1
    clear H1
    have H' := Aside0.mk H
    clear H
    go_wp2
    go_meet
    case rel => exact ⟨_, H', ⟨Q41⟩, ⟨qb⟩⟩
  case rest =>
   clear HC7
   try clear c4; try clear c22; try clear c27; try clear c28; try clear c29; try clear c30; try clear c34; try clear zq18; try clear zq19; try clear zq20; try clear zq21; try clear zq22; try clear zq23; try clear zq24; try clear zq25; try clear zq26; try clear zq27; try clear zq28; try clear zq29; try clear zq30; try clear zq31; try clear zq32; try clear zq33; try clear zq34; try clear zq35; try clear fq18; try clear fq19; try clear fq20; try clear fq21; try clear fq22; try clear fq23; try clear fq24; try clear fq25; try clear fq26; try clear fq27; try clear fq28; try clear fq29; try clear fq30; try clear fq31; try clear fq32; try clear fq33; try clear fq34; try clear fq35
   obtain ⟨kq, HA, HJ6, HB⟩ := hcut
   cases kq with
   | zero => exact absurd HA.out (by simp [laws_FnRookNumbersMultiply.j0])
   | succ kj6 =>
    have H := HA.out
    clear HA
    simp only [laws_FnRookNumbersMultiply.j0] at H
    replace H := qE H
    obtain ⟨⟨t618, t619⟩, A53, H⟩ := H
    replace H : ((impl_MultiplyNumbers.f kj6 t618 t619).bind fun bt624 => ((spec_MultiplyNumbers.f kj6 t618 t619).bind fun bt628 => (if (bt624.2 != bt628.2) = true then (laws_FnRookNumbersMultiply.j1 kj6 l0 l1 true) else ((laws_rSame.f kj6 bt624.1 bt628.1).bind fun t632 => (laws_FnRookNumbersMultiply.j1 kj6 l0 l1 (!t632)))))) = some true := H
    replace H := qE H
    obtain ⟨⟨t624, t625⟩, A54, H⟩ := H
    replace H : ((spec_MultiplyNumbers.f kj6 t618 t619).bind fun bt628 => (if (t625 != bt628.2) = true then (laws_FnRookNumbersMultiply.j1 kj6 l0 l1 true) else ((laws_rSame.f kj6 t624 bt628.1).bind fun t632 => (laws_FnRookNumbersMultiply.j1 kj6 l0 l1 (!t632))))) = some true := H
    replace H := qE H
    obtain ⟨⟨t628, t629⟩, A55, H⟩ := H
    replace H : (if (t625 != t629) = true then (laws_FnRookNumbersMultiply.j1 kj6 l0 l1 true) else ((laws_rSame.f kj6 t624 t628).bind fun t632 => (laws_FnRookNumbersMultiply.j1 kj6 l0 l1 (!t632)))) = some true := H
    have HC56 := Aside0.mk H
    clear H
    go_upto_region 15 with (first | ((with_reducible refine gate_callee (f := 27) rfl ?_); refine qg (some 102) Try.func27 #[.slice A1 l1.length c1] ?_; (with_reducible refine (spec_DrawMultiplyNumbers.calls kj6 _ _ l1 t618 t619 _ ?side1 HC1.out A53.out).mono ?_); (case side1 => repeat (first | exact (Kd.C_below HR1.out HB.out) | (with_reducible first | refine Kd.C_alloc ?_ _ | refine Kd.C_drewN ?_ _ | refine Kd.C_drew ?_))); rintro e w57 ⟨v620, v622, rfl, ho0, ho1, hb⟩; refine ⟨_, rfl, ?_⟩; have Oq9 := ql ho0; have Oq10 := ql ho1; replace HB := qs hb; (try clear hb ho0 ho1); obtain ⟨Ao58, co58, eo58⟩ := Kd.R_slice Oq9.out; subst eo58; obtain ⟨Ao59, co59, eo59⟩ := Kd.R_slice Oq10.out; subst eo59) | ((with_reducible refine gate_callee (f := 24) rfl ?_); refine qg (some 108) Try.func24 #[.slice Ao58 t618.length co58, .slice Ao59 t619.length co59] ?_; (with_reducible refine (impl_MultiplyNumbers.calls kj6 _ _ t618 _ _ t619 t624 t625 _ ?side1 ?side2 ?side3 ?side4 A54.out).mono ?_); (case side1 => repeat (first | exact (Kd.R_reads' Oq9.out).2.2 | (with_reducible first | refine Kd.C_alloc ?_ _ | refine Kd.C_drewN ?_ _ | refine Kd.C_drew ?_))); (case side2 => exact (Kd.R_reads' Oq9.out).2.1); (case side3 => repeat (first | exact (Kd.R_reads' Oq10.out).2.2 | (with_reducible first | refine Kd.C_alloc ?_ _ | refine Kd.C_drewN ?_ _ | refine Kd.C_drew ?_))); (case side4 => exact (Kd.R_reads' Oq10.out).2.1); rintro e w60 ⟨v626, rfl, ho0, hb⟩; refine ⟨_, rfl, ?_⟩; have Oq11 := am (Kd.R_lower (Kd.R_new' (Kd.R_new' ho0 (sqL Oq9)) (sqL Oq10)) (below_size qb)); replace Oq9 := sqE Oq9 ho0 hb; replace Oq10 := sqE Oq10 ho0 hb; replace HB := qs hb; (try clear hb ho0)) | ((with_reducible refine gate_callee (f := 28) rfl ?_); refine qg (some 114) Try.func28 #[.slice Ao58 t618.length co58, .slice Ao59 t619.length co59] ?_; (with_reducible refine (spec_MultiplyNumbers.calls kj6 _ _ t618 _ _ t619 t628 t629 _ ?side1 ?side2 ?side3 ?side4 A55.out).mono ?_); (case side1 => repeat (first | exact (Kd.R_reads' Oq9.out).2.2 | (with_reducible first | refine Kd.C_alloc ?_ _ | refine Kd.C_drewN ?_ _ | refine Kd.C_drew ?_))); (case side2 => exact (Kd.R_reads' Oq9.out).2.1); (case side3 => repeat (first | exact (Kd.R_reads' Oq10.out).2.2 | (with_reducible first | refine Kd.C_alloc ?_ _ | refine Kd.C_drewN ?_ _ | refine Kd.C_drew ?_))); (case side4 => exact (Kd.R_reads' Oq10.out).2.1); rintro e w61 ⟨v630, rfl, ho0, hb⟩; refine ⟨_, rfl, ?_⟩; have Oq12 := am (Kd.R_lower (Kd.R_new' (Kd.R_new' (Kd.R_new' ho0 (sqL Oq9)) (sqL Oq10)) (sqL Oq11)) (below_size qb)); replace Oq9 := sqE Oq9 ho0 hb; replace Oq10 := sqE Oq10 ho0 hb; replace Oq11 := sqE Oq11 ho0 hb; replace HB := qs hb; (try clear hb ho0)))
    (try simp only [Act.put, List.setIfInBounds_toArray, List.set_cons_zero, List.set_cons_succ])
    go_cut [125] (fun v125 wc => ∃ (kq : Nat) (x125_55 : Bool), v125 = .bool x125_55 ∧ Aside0 (laws_FnRookNumbersMultiply.j1 kq l0 l1 x125_55 = some true) ∧ Aside0 (kq ≤ kj6) ∧ Aside0 (Below w.heap.size w wc))
    case first => as_aux_lemma =>
     have H := HC56.out
     clear HC56
     by_cases c62 : (t625 != t629) = true
     ·
      rw [if_pos c62] at H
      have c62b0 : (t625 != t629) = true := c62
      (try (have c62b1 : decide (t625 = t629) = false := by simpa using c62))
      (try (have c62b2 : (t625 == t629) = false := by simpa using c62))
      (try (have c62b3 : ¬ (t625 = t629) := by simpa using c62))
      clear c62
      (first | rw [c62b0] | (simp only [i64_w, i32_w]; rw [c62b0]) | rw [c62b1] | skip)
      exact absurd H (laws_FnRookNumbersMultiply.j1_no _ _ _)
     ·
      rw [if_neg c62] at H
      have c62b0 : (t625 != t629) = false := by simpa using c62
      (try (have c62b1 : decide (t625 = t629) = true := by simpa using c62))
      (try (have c62b2 : (t625 == t629) = true := by simpa using c62))
      clear c62
      (first | rw [c62b0] | (simp only [i64_w, i32_w]; rw [c62b0]) | rw [c62b1] | skip)
      replace H := qE H
      obtain ⟨t632, A63, H⟩ := H
      replace H : (laws_FnRookNumbersMultiply.j1 kj6 l0 l1 (!t632)) = some true := H
      have H' := Aside0.mk H
      clear H
      obtain ⟨Ao64, co64, eo64⟩ := Kd.R_slice Oq11.out
      subst eo64
      obtain ⟨Ao65, co65, eo65⟩ := Kd.R_slice Oq12.out
      subst eo65
      go_wp2_with (first | (go_at_call 25; (with_reducible refine (laws_rSame.calls kj6 _ _ t624 _ _ t628 t632 _ ?side1 ?side2 ?side3 ?side4 A63.out).mono ?_); (case side1 => repeat (first | exact (Kd.R_reads' Oq11.out).2.2 | (with_reducible first | refine Kd.C_alloc ?_ _ | refine Kd.C_drewN ?_ _ | refine Kd.C_drew ?_))); (case side2 => exact (Kd.R_reads' Oq11.out).2.1); (case side3 => repeat (first | exact (Kd.R_reads' Oq12.out).2.2 | (with_reducible first | refine Kd.C_alloc ?_ _ | refine Kd.C_drewN ?_ _ | refine Kd.C_drew ?_))); (case side4 => exact (Kd.R_reads' Oq12.out).2.1); rintro e w' ⟨rfl, ⟨nd, rfl⟩⟩))
      go_meet
      case rel => exact ⟨_, (!t632), Q3, H', ⟨by have := HJ6.out; first | omega | exact Nat.le_refl _⟩, ⟨qb⟩⟩
    case rest =>
     clear HC56
     try clear c4; try clear c22; try clear c27; try clear c28; try clear c29; try clear c30; try clear c34; try clear c62; try clear c62b0; try clear c62b1; try clear c62b2; try clear zq18; try clear zq19; try clear zq20; try clear zq21; try clear zq22; try clear zq23; try clear zq24; try clear zq25; try clear zq26; try clear zq27; try clear zq28; try clear zq29; try clear zq30; try clear zq31; try clear zq32; try clear zq33; try clear zq34; try clear zq35; try clear fq18; try clear fq19; try clear fq20; try clear fq21; try clear fq22; try clear fq23; try clear fq24; try clear fq25; try clear fq26; try clear fq27; try clear fq28; try clear fq29; try clear fq30; try clear fq31; try clear fq32; try clear fq33; try clear fq34; try clear fq35
     obtain ⟨kq, x125_55, rfl, HA, HJ55, HB⟩ := hcut
     cases kq with
     | zero => exact absurd HA.out (by simp [laws_FnRookNumbersMultiply.j1])
     | succ kj55 =>
      have H := HA.out
      clear HA
      simp only [laws_FnRookNumbersMultiply.j1] at H
      by_cases c66 : x125_55 = true
      ·
       subst c66
       have H1 : (some false) = some true := by first | (rw [if_pos rfl] at H; exact H) | rfl
       clear H
       have H := H1
       clear H1
       exact absurd (Option.some.inj H) (by decide)
      ·
       replace c66 := Bool.eq_false_iff.mpr c66
       subst c66
       have H1 : ((spec_DrawNumbersOfComplement.f kj55 l1).bind fun bt633 => ((impl_NumbersOfComplement.f kj55 bt633.1 bt633.2.1 bt633.2.2).bind fun bt639 => ((spec_NumbersOfComplement.f kj55 bt633.1 bt633.2.1 bt633.2.2).bind fun bt643 => (if (bt639.2 != bt643.2) = true then (laws_FnRookNumbersMultiply.j2 kj55 l0 bt639.1 bt639.2 true bt633.1 bt633.2.1 bt633.2.2) else ((laws_rSame.f kj55 bt639.1 bt643.1).bind fun t647 => (laws_FnRookNumbersMultiply.j2 kj55 l0 bt639.1 bt639.2 (!t647) bt633.1 bt633.2.1 bt633.2.2)))))) = some true := by first | (rw [if_neg (show ¬ (false = true) by decide)] at H; exact H) | rfl
       clear H
       have H := H1
       clear H1
       replace H := qE H
       obtain ⟨⟨t633, t634, t635⟩, A67, H⟩ := H
       replace H : ((impl_NumbersOfComplement.f kj55 t633 t634 t635).bind fun bt639 => ((spec_NumbersOfComplement.f kj55 t633 t634 t635).bind fun bt643 => (if (bt639.2 != bt643.2) = true then (laws_FnRookNumbersMultiply.j2 kj55 l0 bt639.1 bt639.2 true t633 t634 t635) else ((laws_rSame.f kj55 bt639.1 bt643.1).bind fun t647 => (laws_FnRookNumbersMultiply.j2 kj55 l0 bt639.1 bt639.2 (!t647) t633 t634 t635))))) = some true := H
       replace H := qE H
       obtain ⟨⟨t639, t642⟩, A68, H⟩ := H
       replace H : ((spec_NumbersOfComplement.f kj55 t633 t634 t635).bind fun bt643 => (if (t642 != bt643.2) = true then (laws_FnRookNumbersMultiply.j2 kj55 l0 t639 t642 true t633 t634 t635) else ((laws_rSame.f kj55 t639 bt643.1).bind fun t647 => (laws_FnRookNumbersMultiply.j2 kj55 l0 t639 t642 (!t647) t633 t634 t635)))) = some true := H
       replace H := qE H
       obtain ⟨⟨t643, t646⟩, A69, H⟩ := H
       replace H : (if (t642 != t646) = true then (laws_FnRookNumbersMultiply.j2 kj55 l0 t639 t642 true t633 t634 t635) else ((laws_rSame.f kj55 t639 t643).bind fun t647 => (laws_FnRookNumbersMultiply.j2 kj55 l0 t639 t642 (!t647) t633 t634 t635))) = some true := H
       have HC70 := Aside0.mk H
       clear H
       go_upto_region 20 with (first | ((with_reducible refine gate_callee (f := 29) rfl ?_); refine qg (some 127) Try.func29 #[.slice A1 l1.length c1] ?_; (with_reducible refine (spec_DrawNumbersOfComplement.calls kj55 _ _ l1 t633 t634 t635 _ ?side1 HC1.out A67.out).mono ?_); (case side1 => repeat (first | exact (Kd.C_below HR1.out HB.out) | (with_reducible first | refine Kd.C_alloc ?_ _ | refine Kd.C_drewN ?_ _ | refine Kd.C_drew ?_))); rintro e w71 ⟨v636, rfl, ho0, hb⟩; refine ⟨_, rfl, ?_⟩; have Oq13 := ql ho0; replace HB := qs hb; (try clear hb ho0)) | ((with_reducible refine gate_dst (N := 23) rfl ?_); refine qv 23 #[.int .i64 0, .int .i64 0, .slice none 0 0] 26 ?_; intro gb638 hg w72 hbox hb; have BK638 := am hbox; have GW638 := qw hg; have GE638 := qw hg; replace Oq13 := sqR Oq13 hb; replace HB := qs hb; clear hb hbox hg; obtain ⟨zq36, zq37, zq38, fq36, fq37, fq38⟩ := qd BK638; obtain ⟨Ao74, co74, eo74⟩ := Kd.R_slice Oq13.out; subst eo74) | ((with_reducible refine gate_callee (f := 30) rfl ?_); refine qg (some 130) Try.func30 #[.agg #[.int .i64 t633, .int .i64 t634, .slice Ao74 t635.length co74]] ?_; (with_reducible refine (impl_NumbersOfComplement.calls kj55 t633 t634 _ _ t635 t639 t642 _ ?side1 ?side2 A68.out).mono ?_); (case side1 => refine (Kd.R_reads' (e := 3) (base := w.heap.size) (ok := fun k_ => True) (n := t635.length) (c := co74) ?_).2.2; exact (sqw (Kd.R_mono (sqo Oq13 BK638) qh))); (case side2 => exact (Kd.R_reads' Oq13.out).2.1); rintro e w75 ⟨v640, rfl, ho0, hb⟩; refine ⟨_, rfl, ?_⟩; have Oq14 := am (Kd.R_lower (Kd.R_new' ho0 (sqv (sqo Oq13 BK638))) (below_size qb)); replace Oq13 := qe (sqw (sqo Oq13 BK638)) ho0 hb; replace BK638 := sqBp BK638 (.int .i64 t633) (.int .i64 t634) (.slice Ao74 t635.length co74) hb; replace HB := qs hb; (try clear hb ho0); obtain ⟨zq39, zq40, zq41, fq39, fq40, fq41⟩ := qd BK638) | ((with_reducible refine gate_callee (f := 31) rfl ?_); refine qg (some 135) Try.func31 #[.agg #[.int .i64 t633, .int .i64 t634, .slice Ao74 t635.length co74]] ?_; (with_reducible refine (spec_NumbersOfComplement.calls kj55 t633 t634 _ _ t635 t643 t646 _ ?side1 ?side2 A69.out).mono ?_); (case side1 => repeat (first | exact (Kd.R_reads' Oq13.out).2.2 | (with_reducible first | refine Kd.C_alloc ?_ _ | refine Kd.C_drewN ?_ _ | refine Kd.C_drew ?_))); (case side2 => exact (Kd.R_reads' Oq13.out).2.1); rintro e w77 ⟨v644, rfl, ho0, hb⟩; refine ⟨_, rfl, ?_⟩; have Oq15 := am (Kd.R_lower (Kd.R_new' (Kd.R_new' ho0 (sqL Oq13)) (sqL Oq14)) (below_size qb)); replace Oq13 := sqE Oq13 ho0 hb; replace Oq14 := sqE Oq14 ho0 hb; replace BK638 := sqB BK638 hb; replace HB := qs hb; (try clear hb ho0)))
       (try simp only [Act.put, List.setIfInBounds_toArray, List.set_cons_zero, List.set_cons_succ])
       go_cut [146] (fun v146 wc => ∃ (kq : Nat) (x146_69 : Bool), v146 = .bool x146_69 ∧ Aside0 (laws_FnRookNumbersMultiply.j2 kq l0 t639 t642 x146_69 t633 t634 t635 = some true) ∧ Aside0 (kq ≤ kj55) ∧ Aside0 (Kd.R (Kd.int .i64) 3 wc w.heap.size (fun k_ => some k_ ≠ ((.slice Ao74 t635.length co74) : Value).ownBlock) v640 t639) ∧ Aside0 (Kd.R (Kd.int .i64) 3 wc w.heap.size (fun k_ => some k_ ≠ (v640 : Value).ownBlock) (.slice Ao74 t635.length co74) t635) ∧ Aside0 (wc.heap[gb638]? = some (.cells #[.int .i64 t633, .int .i64 t634, (.slice Ao74 t635.length co74)] 26 (0, 0))) ∧ Aside0 (Below w.heap.size w wc))
       case first => as_aux_lemma =>
        have H := HC70.out
        clear HC70
        by_cases c78 : (t642 != t646) = true
        ·
         rw [if_pos c78] at H
         have c78b0 : (t642 != t646) = true := c78
         (try (have c78b1 : decide (t642 = t646) = false := by simpa using c78))
         (try (have c78b2 : (t642 == t646) = false := by simpa using c78))
         (try (have c78b3 : ¬ (t642 = t646) := by simpa using c78))
         clear c78
         (first | rw [c78b0] | (simp only [i64_w, i32_w]; rw [c78b0]) | rw [c78b1] | skip)
         exact absurd H (laws_FnRookNumbersMultiply.j2_no _ _ _ _ _ _ _)
        ·
         rw [if_neg c78] at H
         have c78b0 : (t642 != t646) = false := by simpa using c78
         (try (have c78b1 : decide (t642 = t646) = true := by simpa using c78))
         (try (have c78b2 : (t642 == t646) = true := by simpa using c78))
         clear c78
         (first | rw [c78b0] | (simp only [i64_w, i32_w]; rw [c78b0]) | rw [c78b1] | skip)
         replace H := qE H
         obtain ⟨t647, A79, H⟩ := H
         replace H : (laws_FnRookNumbersMultiply.j2 kj55 l0 t639 t642 (!t647) t633 t634 t635) = some true := H
         have H' := Aside0.mk H
         clear H
         obtain ⟨Ao80, co80, eo80⟩ := Kd.R_slice Oq14.out
         subst eo80
         obtain ⟨Ao81, co81, eo81⟩ := Kd.R_slice Oq15.out
         subst eo81
         go_wp2_with (first | (go_at_call 25; (with_reducible refine (laws_rSame.calls kj55 _ _ t639 _ _ t643 t647 _ ?side1 ?side2 ?side3 ?side4 A79.out).mono ?_); (case side1 => repeat (first | exact (Kd.R_reads' Oq14.out).2.2 | (with_reducible first | refine Kd.C_alloc ?_ _ | refine Kd.C_drewN ?_ _ | refine Kd.C_drew ?_))); (case side2 => exact (Kd.R_reads' Oq14.out).2.1); (case side3 => repeat (first | exact (Kd.R_reads' Oq15.out).2.2 | (with_reducible first | refine Kd.C_alloc ?_ _ | refine Kd.C_drewN ?_ _ | refine Kd.C_drew ?_))); (case side4 => exact (Kd.R_reads' Oq15.out).2.1); rintro e w' ⟨rfl, ⟨nd, rfl⟩⟩))
         go_meet
         case rel => exact ⟨_, (!t647), Q3, H', ⟨by have := HJ6.out; have := HJ55.out; first | omega | exact Nat.le_refl _⟩, ⟨by exact sqm Oq14 (fun _ hk => hk.1.2)⟩, ⟨by exact sqm Oq13 (fun _ hk => hk.1.2)⟩, ⟨by (with_reducible repeat (first | refine blk_drewN ?_ _ | refine blk_drew ?_ | refine blk_alloc ?_ _)); exact BK638.out⟩, ⟨qb⟩⟩
       case rest =>
        clear HC70
        try clear c4; try clear c22; try clear c27; try clear c28; try clear c29; try clear c30; try clear c34; try clear c62; try clear c62b0; try clear c62b1; try clear c62b2; try clear c66; try clear c78; try clear c78b0; try clear c78b1; try clear c78b2; try clear zq18; try clear zq19; try clear zq20; try clear zq21; try clear zq22; try clear zq23; try clear zq24; try clear zq25; try clear zq26; try clear zq27; try clear zq28; try clear zq29; try clear zq30; try clear zq31; try clear zq32; try clear zq33; try clear zq34; try clear zq35; try clear zq36; try clear zq37; try clear zq38; try clear zq39; try clear zq40; try clear zq41; try clear fq18; try clear fq19; try clear fq20; try clear fq21; try clear fq22; try clear fq23; try clear fq24; try clear fq25; try clear fq26; try clear fq27; try clear fq28; try clear fq29; try clear fq30; try clear fq31; try clear fq32; try clear fq33; try clear fq34; try clear fq35; try clear fq36; try clear fq37; try clear fq38; try clear fq39; try clear fq40; try clear fq41
        obtain ⟨kq, x146_69, rfl, HA, HJ69, Oq24, Oq25, BK638, HB⟩ := hcut
        cases kq with
        | zero => exact absurd HA.out (by simp [laws_FnRookNumbersMultiply.j2])
        | succ kj69 =>
         have H := HA.out
         clear HA
         simp only [laws_FnRookNumbersMultiply.j2] at H
         by_cases c82 : x146_69 = true
         ·
          subst c82
          have H1 : (some false) = some true := by first | (rw [if_pos rfl] at H; exact H) | rfl
          clear H
          have H := H1
          clear H1
          exact absurd (Option.some.inj H) (by decide)
         ·
          replace c82 := Bool.eq_false_iff.mpr c82
          subst c82
          have H1 : (if t642 = true then ((impl_ComplementOf.f t633 t634 t635).bind fun bt648 => ((impl_RookNumbers.f bt648.1 bt648.2.1 bt648.2.2.1).bind fun bt655 => (if bt648.2.2.2 = true then (if bt655.2 = true then ((laws_rSame.f kj69 bt655.1 t639).bind fun t659 => (if t659 = true then (laws_FnRookNumbersMultiply.j3 kj69 l0) else (some false))) else (some false)) else (some false)))) else (laws_FnRookNumbersMultiply.j3 kj69 l0)) = some true := by first | (rw [if_neg (show ¬ (false = true) by decide)] at H; exact H) | rfl
          clear H
          have H := H1
          clear H1
          have HC83 := Aside0.mk H
          clear H
          go_upto_if 147 with (fail)
          go_cut [] (fun wc => ∃ (kq : Nat), Aside0 (laws_FnRookNumbersMultiply.j3 kq l0 = some true) ∧ Aside0 (kq ≤ kj69) ∧ Aside0 (Below w.heap.size w wc))
          case first => as_aux_lemma =>
           have H := HC83.out
           clear HC83
           by_cases c84 : t642 = true
           ·
            subst c84
            have H1 : ((impl_ComplementOf.f t633 t634 t635).bind fun bt648 => ((impl_RookNumbers.f bt648.1 bt648.2.1 bt648.2.2.1).bind fun bt655 => (if bt648.2.2.2 = true then (if bt655.2 = true then ((laws_rSame.f kj69 bt655.1 t639).bind fun t659 => (if t659 = true then (laws_FnRookNumbersMultiply.j3 kj69 l0) else (some false))) else (some false)) else (some false)))) = some true := by first | (rw [if_pos rfl] at H; exact H) | rfl
            clear H
            have H := H1
            clear H1
            replace H := qE H
            obtain ⟨⟨t648, t649, t650, t653⟩, A85, H⟩ := H
            replace H : ((impl_RookNumbers.f t648 t649 t650).bind fun bt655 => (if t653 = true then (if bt655.2 = true then ((laws_rSame.f kj69 bt655.1 t639).bind fun t659 => (if t659 = true then (laws_FnRookNumbersMultiply.j3 kj69 l0) else (some false))) else (some false)) else (some false))) = some true := H
            replace H := qE H
            obtain ⟨⟨t655, t658⟩, A86, H⟩ := H
            replace H : (if t653 = true then (if t658 = true then ((laws_rSame.f kj69 t655 t639).bind fun t659 => (if t659 = true then (laws_FnRookNumbersMultiply.j3 kj69 l0) else (some false))) else (some false)) else (some false)) = some true := H
            by_cases c87 : t653 = true
            ·
             subst c87
             have H1 : (if t658 = true then ((laws_rSame.f kj69 t655 t639).bind fun t659 => (if t659 = true then (laws_FnRookNumbersMultiply.j3 kj69 l0) else (some false))) else (some false)) = some true := by first | (rw [if_pos rfl] at H; exact H) | rfl
             clear H
             have H := H1
             clear H1
             by_cases c88 : t658 = true
             ·
              subst c88
              have H1 : ((laws_rSame.f kj69 t655 t639).bind fun t659 => (if t659 = true then (laws_FnRookNumbersMultiply.j3 kj69 l0) else (some false))) = some true := by first | (rw [if_pos rfl] at H; exact H) | rfl
              clear H
              have H := H1
              clear H1
              replace H := qE H
              obtain ⟨t659, A89, H⟩ := H
              replace H : (if t659 = true then (laws_FnRookNumbersMultiply.j3 kj69 l0) else (some false)) = some true := H
              by_cases c90 : t659 = true
              ·
               subst c90
               have H1 : (laws_FnRookNumbersMultiply.j3 kj69 l0) = some true := by first | (rw [if_pos rfl] at H; exact H) | rfl
               clear H
               have H := H1
               clear H1
               have H' := Aside0.mk H
               clear H
               obtain ⟨zq42, zq43, zq44, fq42, fq43, fq44⟩ := qd BK638
               go_wp2_with (first | ((with_reducible refine gate_callee (f := 32) rfl ?_); refine qg (some 150) Try.func32 #[.agg #[.int .i64 t633, .int .i64 t634, .slice Ao74 t635.length co74]] ?_; (with_reducible refine (impl_ComplementOf.calls t633 t634 _ _ t635 t648 t649 t650 true _ ?side1 ?side2 A85.out).mono ?_); (case side1 => repeat (first | exact (Kd.R_reads' Oq25.out).2.2 | (with_reducible first | refine Kd.C_alloc ?_ _ | refine Kd.C_drewN ?_ _ | refine Kd.C_drew ?_))); (case side2 => exact (Kd.R_reads' Oq25.out).2.1); rintro e w92 ⟨v651, rfl, ho0, hb⟩; refine ⟨_, rfl, ?_⟩; have Oq16 := am (Kd.R_lower (Kd.R_new' (Kd.R_new' ho0 (sqL Oq24)) (sqL Oq25)) (below_size qb)); replace Oq24 := sqE Oq24 ho0 hb; replace Oq25 := sqE Oq25 ho0 hb; replace BK638 := sqB BK638 hb; replace HB := qs hb; (try clear hb ho0)) | ((with_reducible refine gate_dst (N := 28) rfl ?_); refine qv 28 #[.int .i64 0, .int .i64 0, .slice none 0 0] 26 ?_; intro gb654 hg w93 hbox hb; have BK654 := am hbox; have GW654 := qw hg; have GE654 := qw hg; have Nq6 := qn hg BK638; have Nq7 := qN hg BK638; replace Oq24 := sqR Oq24 hb; replace Oq25 := sqR Oq25 hb; replace Oq16 := sqR Oq16 hb; replace BK638 := sqB BK638 hb; replace HB := qs hb; clear hb hbox hg; have bq8 := Nq7.out; have cq8 := Nq6.out; obtain ⟨zq45, zq46, zq47, fq45, fq46, fq47⟩ := qd BK654; obtain ⟨Ao96, co96, eo96⟩ := Kd.R_slice Oq16.out; subst eo96) | ((with_reducible refine gate_callee (f := 23) rfl ?_); refine qg (some 155) Try.func23 #[.agg #[.int .i64 t648, .int .i64 t649, .slice Ao96 t650.length co96]] ?_; (with_reducible refine (impl_RookNumbers.calls t648 t649 _ _ t650 t655 true _ ?side1 ?side2 A86.out).mono ?_); (case side1 => refine (Kd.R_reads' (e := 3) (base := w.heap.size) (ok := fun k_ => ((True ∧ some k_ ≠ (v640 : Value).ownBlock) ∧ some k_ ≠ (.slice Ao74 t635.length co74 : Value).ownBlock)) (n := t650.length) (c := co96) ?_).2.2; exact (sqw (Kd.R_mono (sqo Oq16 BK654) qh))); (case side2 => exact (Kd.R_reads' Oq16.out).2.1); rintro e w97 ⟨v656, rfl, ho0, hb⟩; refine ⟨_, rfl, ?_⟩; have Oq17 := am (Kd.R_lower (Kd.R_new' (Kd.R_new' (Kd.R_new' ho0 (sqv (sqo Oq24 BK654))) (sqv (sqo Oq25 BK654))) (sqv (sqo Oq16 BK654))) (below_size qb)); replace Oq24 := qe (sqw (sqo Oq24 BK654)) ho0 hb; replace Oq25 := qe (sqw (sqo Oq25 BK654)) ho0 hb; replace Oq16 := qe (sqw (sqo Oq16 BK654)) ho0 hb; replace BK638 := sqBf BK638 Nq6 (.int .i64 t648) (.int .i64 t649) (.slice Ao96 t650.length co96) hb; replace BK654 := sqBp BK654 (.int .i64 t648) (.int .i64 t649) (.slice Ao96 t650.length co96) hb; replace HB := qs hb; (try clear hb ho0); obtain ⟨Ao98, co98, eo98⟩ := Kd.R_slice Oq17.out; subst eo98; obtain ⟨Ao99, co99, eo99⟩ := Kd.R_slice Oq24.out; subst eo99) | (go_at_call 25; (with_reducible refine (laws_rSame.calls kj69 _ _ t655 _ _ t639 true _ ?side1 ?side2 ?side3 ?side4 A89.out).mono ?_); (case side1 => repeat (first | exact (Kd.R_reads' Oq17.out).2.2 | (with_reducible first | refine Kd.C_alloc ?_ _ | refine Kd.C_drewN ?_ _ | refine Kd.C_drew ?_))); (case side2 => exact (Kd.R_reads' Oq17.out).2.1); (case side3 => repeat (first | exact (Kd.R_reads' Oq24.out).2.2 | (with_reducible first | refine Kd.C_alloc ?_ _ | refine Kd.C_drewN ?_ _ | refine Kd.C_drew ?_))); (case side4 => exact (Kd.R_reads' Oq24.out).2.1); rintro e w' ⟨rfl, ⟨nd, rfl⟩⟩))
               go_meet
               case rel => exact ⟨_, H', ⟨by have := HJ6.out; have := HJ55.out; have := HJ69.out; first | omega | exact Nat.le_refl _⟩, ⟨qb⟩⟩
              ·
               replace c90 := Bool.eq_false_iff.mpr c90
               subst c90
               have H1 : (some false) = some true := by first | (rw [if_neg (show ¬ (false = true) by decide)] at H; exact H) | rfl
               clear H
               have H := H1
               clear H1
               exact absurd (Option.some.inj H) (by decide)
             ·
              replace c88 := Bool.eq_false_iff.mpr c88
              subst c88
              have H1 : (some false) = some true := by first | (rw [if_neg (show ¬ (false = true) by decide)] at H; exact H) | rfl
              clear H
              have H := H1
              clear H1
              exact absurd (Option.some.inj H) (by decide)
            ·
             replace c87 := Bool.eq_false_iff.mpr c87
             subst c87
             have H1 : (some false) = some true := by first | (rw [if_neg (show ¬ (false = true) by decide)] at H; exact H) | rfl
             clear H
             have H := H1
             clear H1
             exact absurd (Option.some.inj H) (by decide)
           ·
            replace c84 := Bool.eq_false_iff.mpr c84
            subst c84
            have H1 : (laws_FnRookNumbersMultiply.j3 kj69 l0) = some true := by first | (rw [if_neg (show ¬ (false = true) by decide)] at H; exact H) | rfl
            clear H
            have H := H1
            clear H1
            have H' := Aside0.mk H
            clear H
            go_wp2
            go_meet
            case rel => exact ⟨_, H', ⟨by have := HJ6.out; have := HJ55.out; have := HJ69.out; first | omega | exact Nat.le_refl _⟩, ⟨qb⟩⟩
          case rest =>
           clear HC83
           try clear c4; try clear c22; try clear c27; try clear c28; try clear c29; try clear c30; try clear c34; try clear c62; try clear c62b0; try clear c62b1; try clear c62b2; try clear c66; try clear c78; try clear c78b0; try clear c78b1; try clear c78b2; try clear c82; try clear c84; try clear c87; try clear c88; try clear c90; try clear zq18; try clear zq19; try clear zq20; try clear zq21; try clear zq22; try clear zq23; try clear zq24; try clear zq25; try clear zq26; try clear zq27; try clear zq28; try clear zq29; try clear zq30; try clear zq31; try clear zq32; try clear zq33; try clear zq34; try clear zq35; try clear zq36; try clear zq37; try clear zq38; try clear zq39; try clear zq40; try clear zq41; try clear zq42; try clear zq43; try clear zq44; try clear zq45; try clear zq46; try clear zq47; try clear fq18; try clear fq19; try clear fq20; try clear fq21; try clear fq22; try clear fq23; try clear fq24; try clear fq25; try clear fq26; try clear fq27; try clear fq28; try clear fq29; try clear fq30; try clear fq31; try clear fq32; try clear fq33; try clear fq34; try clear fq35; try clear fq36; try clear fq37; try clear fq38; try clear fq39; try clear fq40; try clear fq41; try clear fq42; try clear fq43; try clear fq44; try clear fq45; try clear fq46; try clear fq47
           obtain ⟨kq, HA, HJ82, HB⟩ := hcut
           cases kq with
           | zero => exact absurd HA.out (by simp [laws_FnRookNumbersMultiply.j3])
           | succ kj82 =>
            have H := HA.out
            clear HA
            simp only [laws_FnRookNumbersMultiply.j3] at H
            replace H := qE H
            obtain ⟨⟨t660, t661, t662, t665, t666, t667⟩, A100, H⟩ := H
            replace H : ((impl_AreAlike.f kj82 t660 t661 t662 t665 t666 t667).bind fun bt672 => ((spec_AreAlike.f kj82 t660 t661 t662 t665 t666 t667).bind fun bt674 => (if (bt672.2 != bt674.2) = true then (laws_FnRookNumbersMultiply.j4 kj82 bt672.1 bt672.2 true t660 t661 t662 t665 t666 t667) else (laws_FnRookNumbersMultiply.j4 kj82 bt672.1 bt672.2 (bt672.1 != bt674.1) t660 t661 t662 t665 t666 t667)))) = some true := H
            replace H := qE H
            obtain ⟨⟨t672, t673⟩, A101, H⟩ := H
            replace H : ((spec_AreAlike.f kj82 t660 t661 t662 t665 t666 t667).bind fun bt674 => (if (t673 != bt674.2) = true then (laws_FnRookNumbersMultiply.j4 kj82 t672 t673 true t660 t661 t662 t665 t666 t667) else (laws_FnRookNumbersMultiply.j4 kj82 t672 t673 (t672 != bt674.1) t660 t661 t662 t665 t666 t667))) = some true := H
            replace H := qE H
            obtain ⟨⟨t674, t675⟩, A102, H⟩ := H
            replace H : (if (t673 != t675) = true then (laws_FnRookNumbersMultiply.j4 kj82 t672 t673 true t660 t661 t662 t665 t666 t667) else (laws_FnRookNumbersMultiply.j4 kj82 t672 t673 (t672 != t674) t660 t661 t662 t665 t666 t667)) = some true := H
            have HC103 := Aside0.mk H
            clear H
            go_upto_region 30 with (first | ((with_reducible refine gate_callee (f := 33) rfl ?_); refine qg (some 172) Try.func33 #[.slice A0 l0.length c0] ?_; (with_reducible refine (spec_DrawAreAlike.calls kj82 _ _ l0 t660 t661 t662 t665 t666 t667 _ ?side1 HC0.out A100.out).mono ?_); (case side1 => repeat (first | exact (Kd.C_below HR0.out HB.out) | (with_reducible first | refine Kd.C_alloc ?_ _ | refine Kd.C_drewN ?_ _ | refine Kd.C_drew ?_))); rintro e w104 ⟨v663, v668, rfl, ho0, ho1, hb⟩; refine ⟨_, rfl, ?_⟩; have Oq18 := ql ho0; have Oq19 := ql ho1; replace HB := qs hb; (try clear hb ho0 ho1)) | ((with_reducible refine gate_dst (N := 32) rfl ?_); refine qv 32 #[.int .i64 0, .int .i64 0, .slice none 0 0] 26 ?_; intro gb670 hg w105 hbox hb; have BK670 := am hbox; have GW670 := qw hg; have GE670 := qw hg; replace Oq18 := sqR Oq18 hb; replace Oq19 := sqR Oq19 hb; replace HB := qs hb; clear hb hbox hg) | ((with_reducible refine gate_dst (N := 33) rfl ?_); refine qv 33 #[.int .i64 0, .int .i64 0, .slice none 0 0] 26 ?_; intro gb671 hg w106 hbox hb; have BK671 := am hbox; have GW671 := qw hg; have GE671 := qw hg; have Nq8 := qn hg BK670; have Nq9 := qN hg BK670; replace Oq18 := sqR Oq18 hb; replace Oq19 := sqR Oq19 hb; replace BK670 := sqB BK670 hb; replace HB := qs hb; clear hb hbox hg; have bq0 := Nq8.out; have cq0 := Nq9.out; obtain ⟨zq0, zq1, zq2, fq0, fq1, fq2⟩ := qd BK670; obtain ⟨Ao109, co109, eo109⟩ := Kd.R_slice Oq18.out; subst eo109; obtain ⟨zq3, zq4, zq5, fq3, fq4, fq5⟩ := qd BK671; obtain ⟨Ao111, co111, eo111⟩ := Kd.R_slice Oq19.out; subst eo111) | ((with_reducible refine gate_callee (f := 34) rfl ?_); refine qg (some 178) Try.func34 #[.agg #[.int .i64 t660, .int .i64 t661, .slice Ao109 t662.length co109], .agg #[.int .i64 t665, .int .i64 t666, .slice Ao111 t667.length co111]] ?_; (with_reducible refine (impl_AreAlike.calls kj82 t660 t661 _ _ t662 t665 t666 _ _ t667 t672 t673 _ ?side1 ?side2 ?side3 ?side4 A101.out).mono ?_); (case side1 => refine (Kd.R_reads' (e := 3) (base := w.heap.size) (ok := fun k_ => some k_ ≠ (.slice Ao111 t667.length co111 : Value).ownBlock) (n := t662.length) (c := co109) ?_).2.2; exact (sqw (Kd.R_mono (sqo2 Oq18 BK670 BK671) qh))); (case side2 => exact (Kd.R_reads' Oq18.out).2.1); (case side3 => refine (Kd.R_reads' (e := 3) (base := w.heap.size) (ok := fun k_ => some k_ ≠ (.slice Ao109 t662.length co109 : Value).ownBlock) (n := t667.length) (c := co111) ?_).2.2; exact (sqw (Kd.R_mono (sqo2 Oq19 BK670 BK671) qh))); (case side4 => exact (Kd.R_reads' Oq19.out).2.1); rintro e w112 ⟨rfl, hb⟩; refine ⟨_, rfl, ?_⟩; replace Oq18 := am (Kd.R_below (sqw (sqo2 Oq18 BK670 BK671)) hb); replace Oq19 := am (Kd.R_below (sqw (sqo2 Oq19 BK670 BK671)) hb); replace BK670 := qPF (.int .i64 t660) (.int .i64 t661) (.slice Ao109 t662.length co109) BK670 Nq8 hb; replace BK671 := qFP (.int .i64 t665) (.int .i64 t666) (.slice Ao111 t667.length co111) BK671 Nq9 hb; replace HB := qs hb; (try clear hb); obtain ⟨zq6, zq7, zq8, fq6, fq7, fq8⟩ := qd BK670; obtain ⟨zq9, zq10, zq11, fq9, fq10, fq11⟩ := qd BK671) | ((with_reducible refine gate_callee (f := 35) rfl ?_); refine qg (some 184) Try.func35 #[.agg #[.int .i64 t660, .int .i64 t661, .slice Ao109 t662.length co109], .agg #[.int .i64 t665, .int .i64 t666, .slice Ao111 t667.length co111]] ?_; (with_reducible refine (spec_AreAlike.calls kj82 t660 t661 _ _ t662 t665 t666 _ _ t667 t674 t675 _ ?side1 ?side2 ?side3 ?side4 A102.out).mono ?_); (case side1 => repeat (first | exact (Kd.R_reads' Oq18.out).2.2 | (with_reducible first | refine Kd.C_alloc ?_ _ | refine Kd.C_drewN ?_ _ | refine Kd.C_drew ?_))); (case side2 => exact (Kd.R_reads' Oq18.out).2.1); (case side3 => repeat (first | exact (Kd.R_reads' Oq19.out).2.2 | (with_reducible first | refine Kd.C_alloc ?_ _ | refine Kd.C_drewN ?_ _ | refine Kd.C_drew ?_))); (case side4 => exact (Kd.R_reads' Oq19.out).2.1); rintro e w115 ⟨rfl, hb⟩; refine ⟨_, rfl, ?_⟩; replace Oq18 := sqR Oq18 hb; replace Oq19 := sqR Oq19 hb; replace BK670 := sqB BK670 hb; replace BK671 := sqB BK671 hb; replace HB := qs hb; (try clear hb)))
            (try simp only [Act.put, List.setIfInBounds_toArray, List.set_cons_zero, List.set_cons_succ])
            go_cut [194] (fun v194 wc => ∃ (kq : Nat) (x194_102 : Bool), v194 = .bool x194_102 ∧ Aside0 (laws_FnRookNumbersMultiply.j4 kq t672 t673 x194_102 t660 t661 t662 t665 t666 t667 = some true) ∧ Aside0 (kq ≤ kj82) ∧ Aside0 (Kd.R (Kd.int .i64) 3 wc w.heap.size (fun k_ => some k_ ≠ ((.slice Ao111 t667.length co111) : Value).ownBlock) (.slice Ao109 t662.length co109) t662) ∧ Aside0 (Kd.R (Kd.int .i64) 3 wc w.heap.size (fun k_ => some k_ ≠ ((.slice Ao109 t662.length co109) : Value).ownBlock) (.slice Ao111 t667.length co111) t667) ∧ Aside0 (wc.heap[gb670]? = some (.cells #[.int .i64 t660, .int .i64 t661, (.slice Ao109 t662.length co109)] 26 (0, 0))) ∧ Aside0 (wc.heap[gb671]? = some (.cells #[.int .i64 t665, .int .i64 t666, (.slice Ao111 t667.length co111)] 26 (0, 0))) ∧ Aside0 (Below w.heap.size w wc))
            case first => as_aux_lemma =>
             have H := HC103.out
             clear HC103
             by_cases c116 : (t673 != t675) = true
             ·
              rw [if_pos c116] at H
              have c116b0 : (t673 != t675) = true := c116
              (try (have c116b1 : decide (t673 = t675) = false := by simpa using c116))
              (try (have c116b2 : (t673 == t675) = false := by simpa using c116))
              (try (have c116b3 : ¬ (t673 = t675) := by simpa using c116))
              clear c116
              (first | rw [c116b0] | (simp only [i64_w, i32_w]; rw [c116b0]) | rw [c116b1] | skip)
              exact absurd H (laws_FnRookNumbersMultiply.j4_no _ _ _ _ _ _ _ _ _)
             ·
              rw [if_neg c116] at H
              have c116b0 : (t673 != t675) = false := by simpa using c116
              (try (have c116b1 : decide (t673 = t675) = true := by simpa using c116))
              (try (have c116b2 : (t673 == t675) = true := by simpa using c116))
              clear c116
              (first | rw [c116b0] | (simp only [i64_w, i32_w]; rw [c116b0]) | rw [c116b1] | skip)
              have H' := Aside0.mk H
              clear H
              go_wp2
              go_meet
              case rel => exact ⟨_, ((t672 != t674)), Q3, H', ⟨by have := HJ6.out; have := HJ55.out; have := HJ69.out; have := HJ82.out; first | omega | exact Nat.le_refl _⟩, ⟨by (with_reducible repeat (first | apply Kd.R_alloc | apply Kd.R_drewN | apply Kd.R_drew)); exact Oq18.out⟩, ⟨by (with_reducible repeat (first | apply Kd.R_alloc | apply Kd.R_drewN | apply Kd.R_drew)); exact Oq19.out⟩, ⟨by (with_reducible repeat (first | refine blk_drewN ?_ _ | refine blk_drew ?_ | refine blk_alloc ?_ _)); exact BK670.out⟩, ⟨by (with_reducible repeat (first | refine blk_drewN ?_ _ | refine blk_drew ?_ | refine blk_alloc ?_ _)); exact BK671.out⟩, ⟨qb⟩⟩
            case rest =>
             clear HC103
             try clear c4; try clear c22; try clear c27; try clear c28; try clear c29; try clear c30; try clear c34; try clear c62; try clear c62b0; try clear c62b1; try clear c62b2; try clear c66; try clear c78; try clear c78b0; try clear c78b1; try clear c78b2; try clear c82; try clear c84; try clear c87; try clear c88; try clear c90; try clear c116; try clear c116b0; try clear c116b1; try clear c116b2; try clear zq0; try clear zq1; try clear zq2; try clear zq3; try clear zq4; try clear zq5; try clear zq6; try clear zq7; try clear zq8; try clear zq9; try clear zq10; try clear zq11; try clear zq18; try clear zq19; try clear zq20; try clear zq21; try clear zq22; try clear zq23; try clear zq24; try clear zq25; try clear zq26; try clear zq27; try clear zq28; try clear zq29; try clear zq30; try clear zq31; try clear zq32; try clear zq33; try clear zq34; try clear zq35; try clear zq36; try clear zq37; try clear zq38; try clear zq39; try clear zq40; try clear zq41; try clear zq42; try clear zq43; try clear zq44; try clear zq45; try clear zq46; try clear zq47; try clear fq0; try clear fq1; try clear fq2; try clear fq3; try clear fq4; try clear fq5; try clear fq6; try clear fq7; try clear fq8; try clear fq9; try clear fq10; try clear fq11; try clear fq18; try clear fq19; try clear fq20; try clear fq21; try clear fq22; try clear fq23; try clear fq24; try clear fq25; try clear fq26; try clear fq27; try clear fq28; try clear fq29; try clear fq30; try clear fq31; try clear fq32; try clear fq33; try clear fq34; try clear fq35; try clear fq36; try clear fq37; try clear fq38; try clear fq39; try clear fq40; try clear fq41; try clear fq42; try clear fq43; try clear fq44; try clear fq45; try clear fq46; try clear fq47
             obtain ⟨kq, x194_102, rfl, HA, HJ102, Oq26, Oq27, BK670, BK671, HB⟩ := hcut
             cases kq with
             | zero => exact absurd HA.out (by simp [laws_FnRookNumbersMultiply.j4])
             | succ kj102 =>
              have H := HA.out
              clear HA
              simp only [laws_FnRookNumbersMultiply.j4] at H
              by_cases c117 : x194_102 = true
              ·
               subst c117
               have H1 : (some false) = some true := by first | (rw [if_pos rfl] at H; exact H) | rfl
               clear H
               have H := H1
               clear H1
               exact absurd (Option.some.inj H) (by decide)
              ·
               replace c117 := Bool.eq_false_iff.mpr c117
               subst c117
               have H1 : (if t673 = true then ((impl_RookNumbers.f t660 t661 t662).bind fun bt676 => ((impl_RookNumbers.f t665 t666 t667).bind fun bt680 => (if bt676.2 = true then (if bt680.2 = true then ((laws_rShort.f kj102 bt676.1).bind fun t684 => ((laws_rShort.f kj102 bt680.1).bind fun t687 => ((laws_rSame.f kj102 t684 t687).bind fun t690 => (some (t672 == t690))))) else (some false)) else (some false)))) else (some true)) = some true := by first | (rw [if_neg (show ¬ (false = true) by decide)] at H; exact H) | rfl
               clear H
               have H := H1
               clear H1
               by_cases c118 : t673 = true
               ·
                subst c118
                have H1 : ((impl_RookNumbers.f t660 t661 t662).bind fun bt676 => ((impl_RookNumbers.f t665 t666 t667).bind fun bt680 => (if bt676.2 = true then (if bt680.2 = true then ((laws_rShort.f kj102 bt676.1).bind fun t684 => ((laws_rShort.f kj102 bt680.1).bind fun t687 => ((laws_rSame.f kj102 t684 t687).bind fun t690 => (some (t672 == t690))))) else (some false)) else (some false)))) = some true := by first | (rw [if_pos rfl] at H; exact H) | rfl
                clear H
                have H := H1
                clear H1
                replace H := qE H
                obtain ⟨⟨t676, t679⟩, A119, H⟩ := H
                replace H : ((impl_RookNumbers.f t665 t666 t667).bind fun bt680 => (if t679 = true then (if bt680.2 = true then ((laws_rShort.f kj102 t676).bind fun t684 => ((laws_rShort.f kj102 bt680.1).bind fun t687 => ((laws_rSame.f kj102 t684 t687).bind fun t690 => (some (t672 == t690))))) else (some false)) else (some false))) = some true := H
                replace H := qE H
                obtain ⟨⟨t680, t683⟩, A120, H⟩ := H
                replace H : (if t679 = true then (if t683 = true then ((laws_rShort.f kj102 t676).bind fun t684 => ((laws_rShort.f kj102 t680).bind fun t687 => ((laws_rSame.f kj102 t684 t687).bind fun t690 => (some (t672 == t690))))) else (some false)) else (some false)) = some true := H
                by_cases c121 : t679 = true
                ·
                 subst c121
                 have H1 : (if t683 = true then ((laws_rShort.f kj102 t676).bind fun t684 => ((laws_rShort.f kj102 t680).bind fun t687 => ((laws_rSame.f kj102 t684 t687).bind fun t690 => (some (t672 == t690))))) else (some false)) = some true := by first | (rw [if_pos rfl] at H; exact H) | rfl
                 clear H
                 have H := H1
                 clear H1
                 by_cases c122 : t683 = true
                 ·
                  subst c122
                  have H1 : ((laws_rShort.f kj102 t676).bind fun t684 => ((laws_rShort.f kj102 t680).bind fun t687 => ((laws_rSame.f kj102 t684 t687).bind fun t690 => (some (t672 == t690))))) = some true := by first | (rw [if_pos rfl] at H; exact H) | rfl
                  clear H
                  have H := H1
                  clear H1
                  replace H := qE H
                  obtain ⟨t684, A123, H⟩ := H
                  replace H : ((laws_rShort.f kj102 t680).bind fun t687 => ((laws_rSame.f kj102 t684 t687).bind fun t690 => (some (t672 == t690)))) = some true := H
                  replace H := qE H
                  obtain ⟨t687, A124, H⟩ := H
                  replace H : ((laws_rSame.f kj102 t684 t687).bind fun t690 => (some (t672 == t690))) = some true := H
                  replace H := qE H
                  obtain ⟨t690, A125, H⟩ := H
                  replace H : (some (t672 == t690)) = some true := H
                  have hb_ := Option.some.inj H
                  have bq2 := Nq8.out
                  have cq2 := Nq9.out
                  obtain ⟨zq12, zq13, zq14, fq12, fq13, fq14⟩ := qd BK670
                  go_wp2_with (first | ((with_reducible refine gate_callee (f := 23) rfl ?_); refine qg (some 199) Try.func23 #[.agg #[.int .i64 t660, .int .i64 t661, .slice Ao109 t662.length co109]] ?_; (with_reducible refine (impl_RookNumbers.calls t660 t661 _ _ t662 t676 true _ ?side1 ?side2 A119.out).mono ?_); (case side1 => repeat (first | exact (Kd.R_reads' Oq26.out).2.2 | (with_reducible first | refine Kd.C_alloc ?_ _ | refine Kd.C_drewN ?_ _ | refine Kd.C_drew ?_))); (case side2 => exact (Kd.R_reads' Oq26.out).2.1); rintro e w128 ⟨v677, rfl, ho0, hb⟩; refine ⟨_, rfl, ?_⟩; have Oq20 := am (Kd.R_lower (Kd.R_new' (Kd.R_new' ho0 (sqL Oq26)) (sqL Oq27)) (below_size qb)); replace Oq26 := sqE Oq26 ho0 hb; replace Oq27 := sqE Oq27 ho0 hb; replace BK670 := sqB BK670 hb; replace BK671 := sqB BK671 hb; replace HB := qs hb; (try clear hb ho0); obtain ⟨zq15, zq16, zq17, fq15, fq16, fq17⟩ := qd BK671) | ((with_reducible refine gate_callee (f := 23) rfl ?_); refine qg (some 204) Try.func23 #[.agg #[.int .i64 t665, .int .i64 t666, .slice Ao111 t667.length co111]] ?_; (with_reducible refine (impl_RookNumbers.calls t665 t666 _ _ t667 t680 true _ ?side1 ?side2 A120.out).mono ?_); (case side1 => repeat (first | exact (Kd.R_reads' Oq27.out).2.2 | (with_reducible first | refine Kd.C_alloc ?_ _ | refine Kd.C_drewN ?_ _ | refine Kd.C_drew ?_))); (case side2 => exact (Kd.R_reads' Oq27.out).2.1); rintro e w130 ⟨v681, rfl, ho0, hb⟩; refine ⟨_, rfl, ?_⟩; have Oq21 := am (Kd.R_lower (Kd.R_new' (Kd.R_new' (Kd.R_new' ho0 (sqL Oq26)) (sqL Oq27)) (sqL Oq20)) (below_size qb)); replace Oq26 := sqE Oq26 ho0 hb; replace Oq27 := sqE Oq27 ho0 hb; replace Oq20 := sqE Oq20 ho0 hb; replace BK670 := sqB BK670 hb; replace BK671 := sqB BK671 hb; replace HB := qs hb; (try clear hb ho0); obtain ⟨Ao131, co131, eo131⟩ := Kd.R_slice Oq20.out; subst eo131) | (go_at_call 26; (with_reducible refine (laws_rShort.calls kj102 (fun k_ => some k_ = (.slice Ao131 t676.length co131 : Value).ownBlock) (.slice Ao131 t676.length co131) t676 t684 w _ ?side1 ?side2 A123.out).mono ?_); (case side1 => exact qb); (case side2 => exact Kd.R_tight rfl Oq20.out); rintro e w132 ⟨v685, rfl, ho0, hb, hkp⟩; have Oq22 := am (Kd.R_mono (ok' := fun k_ => some k_ ≠ (.slice Ao109 t662.length co109 : Value).ownBlock ∧ some k_ ≠ (.slice Ao111 t667.length co111 : Value).ownBlock ∧ some k_ ≠ (v681 : Value).ownBlock) ho0 (fun k_ hk_ => ⟨Or.elim hk_ (fun hs_ => fun e_ => (((Oq26.out).1 k_ e_.symm).1.2) hs_) (fun hn_ => (Kd.fresh' (sqL Oq26) k_ hn_)), Or.elim hk_ (fun hs_ => fun e_ => (((Oq27.out).1 k_ e_.symm).1.2) hs_) (fun hn_ => (Kd.fresh' (sqL Oq27) k_ hn_)), Or.elim hk_ (fun hs_ => fun e_ => (((Oq21.out).1 k_ e_.symm).2) hs_) (fun hn_ => (Kd.fresh' (sqL Oq21) k_ hn_))⟩)); replace Oq26 := am (Kd.R_mono (ok' := fun k_ => some k_ ≠ (.slice Ao111 t667.length co111 : Value).ownBlock ∧ some k_ ≠ (v681 : Value).ownBlock ∧ some k_ ≠ (v685 : Value).ownBlock) (Kd.R_keptB (Oq26.out) hkp (fun k_ hk_ hs_ => (hk_.1.2) hs_)) (fun k_ hk_ => ⟨hk_.1.1.1, hk_.1.2, fun e_ => Or.elim (ho0.1 k_ e_.symm) (fun hs_ => hk_.2.1 hs_) (fun hn_ => Nat.not_le.2 hk_.2.2 hn_)⟩)); replace Oq27 := am (Kd.R_mono (ok' := fun k_ => some k_ ≠ (.slice Ao109 t662.length co109 : Value).ownBlock ∧ some k_ ≠ (v681 : Value).ownBlock ∧ some k_ ≠ (v685 : Value).ownBlock) (Kd.R_keptB (Oq27.out) hkp (fun k_ hk_ hs_ => (hk_.1.2) hs_)) (fun k_ hk_ => ⟨hk_.1.1.1, hk_.1.2, fun e_ => Or.elim (ho0.1 k_ e_.symm) (fun hs_ => hk_.2.1 hs_) (fun hn_ => Nat.not_le.2 hk_.2.2 hn_)⟩)); replace BK670 := am (blk_kept (sqb BK670) hkp (fun hs_ => (fun e_ => (Kd.R_ne Oq20.out BK670.out (by decide)) e_) hs_)); replace BK671 := am (blk_kept (sqb BK671) hkp (fun hs_ => (fun e_ => (Kd.R_ne Oq20.out BK671.out (by decide)) e_) hs_)); replace Oq21 := am (Kd.R_mono (ok' := fun k_ => some k_ ≠ (.slice Ao109 t662.length co109 : Value).ownBlock ∧ some k_ ≠ (.slice Ao111 t667.length co111 : Value).ownBlock ∧ some k_ ≠ (v685 : Value).ownBlock) (Kd.R_keptB (Oq21.out) hkp (fun k_ hk_ hs_ => (hk_.2) hs_)) (fun k_ hk_ => ⟨hk_.1.1.1.2, hk_.1.1.2, fun e_ => Or.elim (ho0.1 k_ e_.symm) (fun hs_ => hk_.2.1 hs_) (fun hn_ => Nat.not_le.2 hk_.2.2 hn_)⟩)); replace HB := am hb; clear Oq20; (try clear hb ho0); obtain ⟨Ao133, co133, eo133⟩ := Kd.R_slice Oq21.out; subst eo133) | (go_at_call 26; (with_reducible refine (laws_rShort.calls kj102 (fun k_ => some k_ = (.slice Ao133 t680.length co133 : Value).ownBlock) (.slice Ao133 t680.length co133) t680 t687 w _ ?side1 ?side2 A124.out).mono ?_); (case side1 => exact qb); (case side2 => exact Kd.R_tight rfl Oq21.out); rintro e w134 ⟨v688, rfl, ho0, hb, hkp⟩; have Oq23 := am (Kd.R_mono (ok' := fun k_ => some k_ ≠ (.slice Ao109 t662.length co109 : Value).ownBlock ∧ some k_ ≠ (.slice Ao111 t667.length co111 : Value).ownBlock ∧ some k_ ≠ (v685 : Value).ownBlock) ho0 (fun k_ hk_ => ⟨Or.elim hk_ (fun hs_ => fun e_ => (((Oq26.out).1 k_ e_.symm).2.1) hs_) (fun hn_ => (Kd.fresh' (sqL Oq26) k_ hn_)), Or.elim hk_ (fun hs_ => fun e_ => (((Oq27.out).1 k_ e_.symm).2.1) hs_) (fun hn_ => (Kd.fresh' (sqL Oq27) k_ hn_)), Or.elim hk_ (fun hs_ => fun e_ => (((Oq22.out).1 k_ e_.symm).2.2) hs_) (fun hn_ => (Kd.fresh' (sqL Oq22) k_ hn_))⟩)); replace Oq26 := am (Kd.R_mono (ok' := fun k_ => some k_ ≠ (.slice Ao111 t667.length co111 : Value).ownBlock ∧ some k_ ≠ (v685 : Value).ownBlock ∧ some k_ ≠ (v688 : Value).ownBlock) (Kd.R_keptB (Oq26.out) hkp (fun k_ hk_ hs_ => (hk_.2.1) hs_)) (fun k_ hk_ => ⟨hk_.1.1, hk_.1.2.2, fun e_ => Or.elim (ho0.1 k_ e_.symm) (fun hs_ => hk_.2.1 hs_) (fun hn_ => Nat.not_le.2 hk_.2.2 hn_)⟩)); replace Oq27 := am (Kd.R_mono (ok' := fun k_ => some k_ ≠ (.slice Ao109 t662.length co109 : Value).ownBlock ∧ some k_ ≠ (v685 : Value).ownBlock ∧ some k_ ≠ (v688 : Value).ownBlock) (Kd.R_keptB (Oq27.out) hkp (fun k_ hk_ hs_ => (hk_.2.1) hs_)) (fun k_ hk_ => ⟨hk_.1.1, hk_.1.2.2, fun e_ => Or.elim (ho0.1 k_ e_.symm) (fun hs_ => hk_.2.1 hs_) (fun hn_ => Nat.not_le.2 hk_.2.2 hn_)⟩)); replace BK670 := am (blk_kept (sqb BK670) hkp (fun hs_ => (fun e_ => (Kd.R_ne Oq21.out BK670.out (by decide)) e_) hs_)); replace BK671 := am (blk_kept (sqb BK671) hkp (fun hs_ => (fun e_ => (Kd.R_ne Oq21.out BK671.out (by decide)) e_) hs_)); replace Oq22 := am (Kd.R_mono (ok' := fun k_ => some k_ ≠ (.slice Ao109 t662.length co109 : Value).ownBlock ∧ some k_ ≠ (.slice Ao111 t667.length co111 : Value).ownBlock ∧ some k_ ≠ (v688 : Value).ownBlock) (Kd.R_keptB (Oq22.out) hkp (fun k_ hk_ hs_ => (hk_.2.2) hs_)) (fun k_ hk_ => ⟨hk_.1.1, hk_.1.2.1, fun e_ => Or.elim (ho0.1 k_ e_.symm) (fun hs_ => hk_.2.1 hs_) (fun hn_ => Nat.not_le.2 hk_.2.2 hn_)⟩)); replace HB := am hb; clear Oq21; (try clear hb ho0); obtain ⟨Ao135, co135, eo135⟩ := Kd.R_slice Oq22.out; subst eo135; obtain ⟨Ao136, co136, eo136⟩ := Kd.R_slice Oq23.out; subst eo136) | (go_at_call 25; (with_reducible refine (laws_rSame.calls kj102 _ _ t684 _ _ t687 t690 _ ?side1 ?side2 ?side3 ?side4 A125.out).mono ?_); (case side1 => repeat (first | exact (Kd.R_reads' Oq22.out).2.2 | (with_reducible first | refine Kd.C_alloc ?_ _ | refine Kd.C_drewN ?_ _ | refine Kd.C_drew ?_))); (case side2 => exact (Kd.R_reads' Oq22.out).2.1); (case side3 => repeat (first | exact (Kd.R_reads' Oq23.out).2.2 | (with_reducible first | refine Kd.C_alloc ?_ _ | refine Kd.C_drewN ?_ _ | refine Kd.C_drew ?_))); (case side4 => exact (Kd.R_reads' Oq23.out).2.1); rintro e w' ⟨rfl, ⟨nd, rfl⟩⟩))
                  go_ret
                  exact ⟨by first | rfl | (rw [hb_]) | (simp [errW_none, errW_some] <;> rfl) | (simp [*, errW_none, errW_some] <;> rfl), qb⟩
                 ·
                  replace c122 := Bool.eq_false_iff.mpr c122
                  subst c122
                  have H1 : (some false) = some true := by first | (rw [if_neg (show ¬ (false = true) by decide)] at H; exact H) | rfl
                  clear H
                  have H := H1
                  clear H1
                  exact absurd (Option.some.inj H) (by decide)
                ·
                 replace c121 := Bool.eq_false_iff.mpr c121
                 subst c121
                 have H1 : (some false) = some true := by first | (rw [if_neg (show ¬ (false = true) by decide)] at H; exact H) | rfl
                 clear H
                 have H := H1
                 clear H1
                 exact absurd (Option.some.inj H) (by decide)
               ·
                replace c118 := Bool.eq_false_iff.mpr c118
                subst c118
                have H1 : (some true) = some true := by first | (rw [if_neg (show ¬ (false = true) by decide)] at H; exact H) | rfl
                clear H
                have H := H1
                clear H1 H
                go_wp2
                go_ret
                exact ⟨Q2, qb⟩

/-- The pure statement of laws_FnRookNumbersMultiply. -/
def laws_FnRookNumbersMultiply.Pure : Prop := ∀ (l0 : List Int) (l1 : List Int), l0.length ≤ maxLen → (∀ x ∈ l0, (Lit.int .u8 x).wf = true) → l1.length ≤ maxLen → (∀ x ∈ l1, (Lit.int .u8 x).wf = true) → ∃ k, laws_FnRookNumbersMultiply.f k l0 l1 = some true

end Go.Proofs.Ytllhofdgbpnkkaa.PFnRookNumbersMultiply
