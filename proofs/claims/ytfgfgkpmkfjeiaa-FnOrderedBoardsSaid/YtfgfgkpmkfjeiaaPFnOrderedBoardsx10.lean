-- Printed for this claim by wip/pp.py over the kit's printer; Lean checks it.
import Derived.Test.YtfgfgkpmkfjeiaaPFnOrderedBoardsx0
import Derived.Test.YtfgfgkpmkfjeiaaPFnOrderedBoardsx4
import Derived.Test.YtfgfgkpmkfjeiaaPFnOrderedBoardsx5
import Derived.Test.YtfgfgkpmkfjeiaaPFnOrderedBoardsx6
import Derived.Test.YtfgfgkpmkfjeiaaPFnOrderedBoardsx8
import Derived.Test.YtfgfgkpmkfjeiaaPFnOrderedBoardsx9
namespace Go.Proofs.Ytfgfgkpmkfjeiaa.PFnOrderedBoards
open Go.RowKit Go.Proofs.YtfgfgkpmkfjeiaaW.PrintWords Go.Proofs.YtfgfgkpmkfjeiaaW.PrintLast Go.Proofs.YtfgfgkpmkfjeiaaW.PrintMore
attribute [local go_sem] max2_int min2_int max_two min_two max_three min_three max_four min_four   -- for this text's walks alone
set_option linter.unusedVariables false
set_option linter.unusedSimpArgs false

/-! ### spec_IsOrdered: function 100 -/
def spec_IsOrdered.f (k : Nat) (a0_0 : Int) (a0_1 : Int) (l0_2 : List Int) : Option (Bool × Bool) := (spec_boGood.f k a0_0 a0_1 l0_2).bind fun t425 => (if t425 = true then ((spec_LengthsOf.f k a0_0 a0_1 l0_2).bind fun bt426 => (some (bt426.2, true))) else (some (false, false)))
theorem spec_IsOrdered.mono : ∀ a0 a1 a2 k, LeO (spec_IsOrdered.f k a0 a1 a2) (spec_IsOrdered.f (k + 1) a0 a1 a2) := by
 intro a0 a1 a2 k
 unfold spec_IsOrdered.f
 repeat' first
   | (with_reducible exact spec_LengthsOf.mono _ _ _ _)
   | (with_reducible exact spec_boGood.mono _ _ _ _)
   | (with_reducible exact LeO.refl _)
   | (with_reducible exact LeO.none _)
   | (with_reducible refine LeO.ite ?_ ?_)
   | (with_reducible refine LeO.bind ?_ (fun _ => ?_))
   | exact spec_LengthsOf.mono _ _ _ _
   | exact spec_boGood.mono _ _ _ _
   | exact LeO.none _
   | refine LeO.ite ?_ ?_
   | refine LeO.bind ?_ (fun _ => ?_)
set_option maxHeartbeats 8000000 in
set_option maxRecDepth 100000 in
theorem spec_IsOrdered.calls (k : Nat) (a0_0 : Int) (a0_1 : Int) (A0_2 : Option Addr) (c0_2 : Nat) (l0_2 : List Int) (r1 : Bool) (r2 : Bool) (w : World) (hr0_2 : Kd.C (Kd.int .i64) w A0_2 l0_2.length l0_2) (hc0_2 : l0_2.length ≤ c0_2) (h : spec_IsOrdered.f k a0_0 a0_1 l0_2 = some (r1, r2)) :
  Calls Try.prog 100 #[.agg #[.int .i64 a0_0, .int .i64 a0_1, .slice A0_2 l0_2.length c0_2]] w fun e w' => e = .returned (.tuple #[.bool r1, .bool r2]) ∧ Below w.heap.size w w' := by
 have hu34 := Try.underlying34
 have HR0_2 := Aside0.mk hr0_2
 have HC0_2 := Aside0.mk hc0_2
 clear hr0_2 hc0_2
 have HB := am (Below.refl w.heap.size w)
 have H : ((spec_boGood.f k a0_0 a0_1 l0_2).bind fun t425 => (if t425 = true then ((spec_LengthsOf.f k a0_0 a0_1 l0_2).bind fun bt426 => (some (bt426.2, true))) else (some (false, false)))) = some (r1, r2) := h
 clear h
 replace H := Option.bind_eq_some_iff.mp H
 obtain ⟨t425, A20, H⟩ := H
 replace H : (if t425 = true then ((spec_LengthsOf.f k a0_0 a0_1 l0_2).bind fun bt426 => (some (bt426.2, true))) else (some (false, false))) = some (r1, r2) := H
 have A2 := Aside0.mk A20
 clear A20
 by_cases c3 : t425 = true
 ·
  subst c3
  have H1 : ((spec_LengthsOf.f k a0_0 a0_1 l0_2).bind fun bt426 => (some (bt426.2, true))) = some (r1, r2) := by first | (rw [if_pos rfl] at H; exact H) | rfl
  clear H
  have H := H1
  clear H1
  replace H := Option.bind_eq_some_iff.mp H
  obtain ⟨⟨t426, t429⟩, A40, H⟩ := H
  replace H : (some (t429, true)) = some (r1, r2) := H
  have A4 := Aside0.mk A40
  clear A40
  simp only [Option.some.injEq, Prod.mk.injEq] at H
  obtain ⟨rfl, rfl⟩ := H
  go_enter Try.func100, Try.ntmps100
  go_wp2_with (first | ((with_reducible refine gate_dst (N := 1) rfl ?_); refine box_event ?hg (N := 1) ?hd (cs := #[.int .i64 a0_0, .int .i64 a0_1, .slice A0_2 l0_2.length c0_2]) (t := 34) ?hr ?_; (case hd => rfl); (case hg => rfl); (case hr => first | (go_simp; done) | (go_simp; rfl)); intro gb424 hg w5 hbox hb; have n0_ := am (below_step (by repeat with_reducible first | exact HB.out | apply pw_below_drewN | apply below_drew1) hb); have n1_ := am (hbox); have n2_ := am ((by rw [hg]; exact (below_size (by repeat with_reducible first | exact HB.out | apply pw_below_drewN | apply below_drew1)) : w.heap.size ≤ gb424)); have n3_ := am ((by rw [hg]; exact (below_size (by repeat with_reducible first | exact HB.out | apply pw_below_drewN | apply below_drew1)) : w.heap.size ≤ gb424)); clear HB; have HB := n0_; have BK424 := n1_; have GW424 := n2_; have GE424 := n3_; clear n0_ n1_ n2_ n3_; clear hb hbox hg; have zq21 : w5.cell? ⟨gb424, 0, none⟩ = some (.int .i64 a0_0) := sqc BK424 0; have zq22 : w5.cell? ⟨gb424, 1, none⟩ = some (.int .i64 a0_1) := sqc BK424 1; have zq23 : w5.cell? ⟨gb424, 2, none⟩ = some (.slice A0_2 l0_2.length c0_2) := sqc BK424 2; have fq21 := blk_frozen BK424.out 0; have fq22 := blk_frozen BK424.out 1; have fq23 := blk_frozen BK424.out 2) | ((with_reducible refine gate_callee (f := 140) rfl ?_); refine goesL_ (some 7) rfl rfl Try.func140 (by kernel_rfl) rfl #[.agg #[.int .i64 a0_0, .int .i64 a0_1, .slice A0_2 l0_2.length c0_2]] rfl (by (try simp only [List.map_toArray, List.map_cons, List.map_nil]); try rfl) ?_; (with_reducible refine (spec_boGood.calls k a0_0 a0_1 _ _ l0_2 true _ ?side1 ?side2 A2.out).mono ?_); (case side1 => repeat (first | exact (Kd.C_below HR0_2.out HB.out) | (with_reducible first | refine Kd.C_alloc ?_ _ | refine Kd.C_drewN ?_ _ | refine Kd.C_drew ?_))); (case side2 => exact HC0_2.out); rintro e w7 ⟨rfl, hb⟩; refine ⟨_, rfl, ?_⟩; have n1_ := am (below_step (by repeat with_reducible first | exact HB.out | apply pw_below_drewN | apply below_drew1 | refine below_set ?_ GE424.out) hb); clear HB; replace BK424 := sqB BK424 hb; have HB := n1_; clear n1_; (try clear hb); (try clear hb2); (try clear hk); (try clear hi); have zq24 : w7.cell? ⟨gb424, 0, none⟩ = some (.int .i64 a0_0) := sqc BK424 0; have zq25 : w7.cell? ⟨gb424, 1, none⟩ = some (.int .i64 a0_1) := sqc BK424 1; have zq26 : w7.cell? ⟨gb424, 2, none⟩ = some (.slice A0_2 l0_2.length c0_2) := sqc BK424 2; have fq24 := blk_frozen BK424.out 0; have fq25 := blk_frozen BK424.out 1; have fq26 := blk_frozen BK424.out 2) | ((with_reducible refine gate_callee (f := 98) rfl ?_); refine goesL_ (some 11) rfl rfl Try.func98 (by kernel_rfl) rfl #[.agg #[.int .i64 a0_0, .int .i64 a0_1, .slice A0_2 l0_2.length c0_2]] rfl (by (try simp only [List.map_toArray, List.map_cons, List.map_nil]); try rfl) ?_; (with_reducible refine (spec_LengthsOf.calls k a0_0 a0_1 _ _ l0_2 t426 t429 _ ?side1 ?side2 A4.out).mono ?_); (case side1 => repeat (first | exact (Kd.C_below HR0_2.out HB.out) | (with_reducible first | refine Kd.C_alloc ?_ _ | refine Kd.C_drewN ?_ _ | refine Kd.C_drew ?_))); (case side2 => exact HC0_2.out); rintro e w9 ⟨v427, rfl, ho0, hb⟩; refine ⟨_, rfl, ?_⟩; have n0_ := am (Kd.R_lower ho0 (below_size (by repeat with_reducible first | exact HB.out | apply pw_below_drewN | apply below_drew1 | refine below_set ?_ GE424.out))); have n2_ := am (below_step (by repeat with_reducible first | exact HB.out | apply pw_below_drewN | apply below_drew1 | refine below_set ?_ GE424.out) hb); clear HB; have Oq0 := n0_; replace BK424 := sqB BK424 hb; have HB := n2_; clear n0_ n2_; (try clear hb); (try clear hb2); (try clear hk); (try clear hi); (try clear ho0)))
  go_ret2
  exact ⟨by first | rfl | (simp [errW_none, errW_some] <;> rfl) | (simp [*, errW_none, errW_some] <;> rfl), by repeat with_reducible first | exact HB.out | apply pw_below_drewN | apply below_drew1 | refine below_set ?_ GE424.out⟩
 ·
  replace c3 := Bool.eq_false_iff.mpr c3
  subst c3
  have H1 : (some (false, false)) = some (r1, r2) := by first | (rw [if_neg (show ¬ (false = true) by decide)] at H; exact H) | rfl
  clear H
  have H := H1
  clear H1
  simp only [Option.some.injEq, Prod.mk.injEq] at H
  obtain ⟨rfl, rfl⟩ := H
  go_enter Try.func100, Try.ntmps100
  go_wp2_with (first | ((with_reducible refine gate_dst (N := 1) rfl ?_); refine box_event ?hg (N := 1) ?hd (cs := #[.int .i64 a0_0, .int .i64 a0_1, .slice A0_2 l0_2.length c0_2]) (t := 34) ?hr ?_; (case hd => rfl); (case hg => rfl); (case hr => first | (go_simp; done) | (go_simp; rfl)); intro gb424 hg w10 hbox hb; have n0_ := am (below_step (by repeat with_reducible first | exact HB.out | apply pw_below_drewN | apply below_drew1) hb); have n1_ := am (hbox); have n2_ := am ((by rw [hg]; exact (below_size (by repeat with_reducible first | exact HB.out | apply pw_below_drewN | apply below_drew1)) : w.heap.size ≤ gb424)); have n3_ := am ((by rw [hg]; exact (below_size (by repeat with_reducible first | exact HB.out | apply pw_below_drewN | apply below_drew1)) : w.heap.size ≤ gb424)); clear HB; have HB := n0_; have BK424 := n1_; have GW424 := n2_; have GE424 := n3_; clear n0_ n1_ n2_ n3_; clear hb hbox hg; have zq0 : w10.cell? ⟨gb424, 0, none⟩ = some (.int .i64 a0_0) := sqc BK424 0; have zq1 : w10.cell? ⟨gb424, 1, none⟩ = some (.int .i64 a0_1) := sqc BK424 1; have zq2 : w10.cell? ⟨gb424, 2, none⟩ = some (.slice A0_2 l0_2.length c0_2) := sqc BK424 2; have fq0 := blk_frozen BK424.out 0; have fq1 := blk_frozen BK424.out 1; have fq2 := blk_frozen BK424.out 2) | ((with_reducible refine gate_callee (f := 140) rfl ?_); refine goesL_ (some 7) rfl rfl Try.func140 (by kernel_rfl) rfl #[.agg #[.int .i64 a0_0, .int .i64 a0_1, .slice A0_2 l0_2.length c0_2]] rfl (by (try simp only [List.map_toArray, List.map_cons, List.map_nil]); try rfl) ?_; (with_reducible refine (spec_boGood.calls k a0_0 a0_1 _ _ l0_2 false _ ?side1 ?side2 A2.out).mono ?_); (case side1 => repeat (first | exact (Kd.C_below HR0_2.out HB.out) | (with_reducible first | refine Kd.C_alloc ?_ _ | refine Kd.C_drewN ?_ _ | refine Kd.C_drew ?_))); (case side2 => exact HC0_2.out); rintro e w12 ⟨rfl, hb⟩; refine ⟨_, rfl, ?_⟩; have n1_ := am (below_step (by repeat with_reducible first | exact HB.out | apply pw_below_drewN | apply below_drew1 | refine below_set ?_ GE424.out) hb); clear HB; replace BK424 := sqB BK424 hb; have HB := n1_; clear n1_; (try clear hb); (try clear hb2); (try clear hk); (try clear hi)))
  go_ret2
  exact ⟨by first | rfl | (simp [errW_none, errW_some] <;> rfl) | (simp [*, errW_none, errW_some] <;> rfl), by repeat with_reducible first | exact HB.out | apply pw_below_drewN | apply below_drew1 | refine below_set ?_ GE424.out⟩

/-! ### spec_DrawOrderOf: function 101 -/
mutual
def spec_DrawOrderOf.j0 : Nat → List Int → Bool → List Int → Int → Int → Option (Int × Int × List Int)
 | 0, _, _, _, _, _ => none
 | k + 1, x4, x22, x432000, x432001, x432002 => if x22 = true then ((spec_l1Cur_square.f k x432000 x432001 x432002).bind fun bt441 => (some (bt441.1, bt441.2.1, bt441.2.2.1))) else ((spec_feBoard.f k x4).bind fun bt448 => ((spec_l1Cur_pick.f x432000 x432001 x432002 5).bind fun bt454 => (spec_DrawOrderOf.l0 k bt454.1 x432000 bt454.2.1 bt454.2.2 bt448.1 bt448.2.1 bt448.2.2)))
def spec_DrawOrderOf.l0 : Nat → Int → List Int → Int → Int → Int → Int → List Int → Option (Int × Int × List Int)
 | 0, _, _, _, _, _, _, _ => none
 | k + 1, x6, x432000, x432001, x432002, x454000, x454001, x454002 => if x6 > 0 then ((spec_l1Cur_pick.f x432000 x432001 x432002 x454000).bind fun bt457 => ((spec_l1Cur_pick.f x432000 bt457.2.1 bt457.2.2 x454000).bind fun bt460 => (if 0 ≤ bt457.1 then (if bt457.1 < (x454002.length : Int) then (if 0 ≤ bt460.1 then (if bt460.1 < (x454002.length : Int) then (spec_DrawOrderOf.l0 k (wrap64 (x6 - 1)) x432000 bt460.2.1 bt460.2.2 x454000 x454001 ((x454002.set (bt457.1 : Int).toNat (rd x454002 bt460.1)).set (bt460.1 : Int).toNat (rd x454002 bt457.1))) else (none)) else (none)) else (none)) else (none)))) else (some (x454000, x454001, x454002))
end
def spec_DrawOrderOf.f (k : Nat) (l0 : List Int) : Option (Int × Int × List Int) := (spec_l1Cur_lengths.f k l0 0 0).bind fun bt432 => ((spec_feGood.f k bt432.1).bind fun t437 => (if t437 = true then ((spec_l1Cur_one.f l0 bt432.2.1 bt432.2.2 4).bind fun bt438 => (spec_DrawOrderOf.j0 k bt432.1 bt438.1 l0 bt438.2.1 bt438.2.2)) else (spec_DrawOrderOf.j0 k bt432.1 true l0 bt432.2.1 bt432.2.2)))
theorem spec_DrawOrderOf.mono_l : ∀ k, (∀ y0 y1 y2 y3 y4, LeO (spec_DrawOrderOf.j0 k y0 y1 y2 y3 y4) (spec_DrawOrderOf.j0 (k + 1) y0 y1 y2 y3 y4)) ∧ (∀ y0 y1 y2 y3 y4 y5 y6, LeO (spec_DrawOrderOf.l0 k y0 y1 y2 y3 y4 y5 y6) (spec_DrawOrderOf.l0 (k + 1) y0 y1 y2 y3 y4 y5 y6))
 | 0 => ⟨fun _ _ _ _ _ r h => by simp [spec_DrawOrderOf.j0] at h, fun _ _ _ _ _ _ _ r h => by simp [spec_DrawOrderOf.l0] at h⟩
 | k + 1 => by
  obtain ⟨ih0, ih1⟩ := spec_DrawOrderOf.mono_l k
  refine ⟨?_, ?_⟩
  ·
   intro y0 y1 y2 y3 y4
   unfold spec_DrawOrderOf.j0
   repeat' first
   | (with_reducible exact ih0 _ _ _ _ _)
   | (with_reducible exact ih1 _ _ _ _ _ _ _)
   | (with_reducible exact spec_feBoard.mono _ _)
   | (with_reducible exact spec_feGood.mono _ _)
   | (with_reducible exact spec_l1Cur_lengths.mono _ _ _ _)
   | (with_reducible exact spec_l1Cur_square.mono _ _ _ _)
   | (with_reducible exact LeO.refl _)
   | (with_reducible exact LeO.none _)
   | (with_reducible refine LeO.ite ?_ ?_)
   | (with_reducible refine LeO.bind ?_ (fun _ => ?_))
   | exact ih0 _ _ _ _ _
   | exact ih1 _ _ _ _ _ _ _
   | exact spec_feBoard.mono _ _
   | exact spec_feGood.mono _ _
   | exact spec_l1Cur_lengths.mono _ _ _ _
   | exact spec_l1Cur_square.mono _ _ _ _
   | exact LeO.none _
   | refine LeO.ite ?_ ?_
   | refine LeO.bind ?_ (fun _ => ?_)
  ·
   intro y0 y1 y2 y3 y4 y5 y6
   unfold spec_DrawOrderOf.l0
   repeat' first
   | (with_reducible exact ih0 _ _ _ _ _)
   | (with_reducible exact ih1 _ _ _ _ _ _ _)
   | (with_reducible exact spec_feBoard.mono _ _)
   | (with_reducible exact spec_feGood.mono _ _)
   | (with_reducible exact spec_l1Cur_lengths.mono _ _ _ _)
   | (with_reducible exact spec_l1Cur_square.mono _ _ _ _)
   | (with_reducible exact LeO.refl _)
   | (with_reducible exact LeO.none _)
   | (with_reducible refine LeO.ite ?_ ?_)
   | (with_reducible refine LeO.bind ?_ (fun _ => ?_))
   | exact ih0 _ _ _ _ _
   | exact ih1 _ _ _ _ _ _ _
   | exact spec_feBoard.mono _ _
   | exact spec_feGood.mono _ _
   | exact spec_l1Cur_lengths.mono _ _ _ _
   | exact spec_l1Cur_square.mono _ _ _ _
   | exact LeO.none _
   | refine LeO.ite ?_ ?_
   | refine LeO.bind ?_ (fun _ => ?_)
theorem spec_DrawOrderOf.mono : ∀ a0 k, LeO (spec_DrawOrderOf.f k a0) (spec_DrawOrderOf.f (k + 1) a0) := by
 intro a0 k
 obtain ⟨ih0, ih1⟩ := spec_DrawOrderOf.mono_l k
 unfold spec_DrawOrderOf.f
 repeat' first
   | (with_reducible exact ih0 _ _ _ _ _)
   | (with_reducible exact ih1 _ _ _ _ _ _ _)
   | (with_reducible exact spec_feBoard.mono _ _)
   | (with_reducible exact spec_feGood.mono _ _)
   | (with_reducible exact spec_l1Cur_lengths.mono _ _ _ _)
   | (with_reducible exact spec_l1Cur_square.mono _ _ _ _)
   | (with_reducible exact LeO.refl _)
   | (with_reducible exact LeO.none _)
   | (with_reducible refine LeO.ite ?_ ?_)
   | (with_reducible refine LeO.bind ?_ (fun _ => ?_))
   | exact ih0 _ _ _ _ _
   | exact ih1 _ _ _ _ _ _ _
   | exact spec_feBoard.mono _ _
   | exact spec_feGood.mono _ _
   | exact spec_l1Cur_lengths.mono _ _ _ _
   | exact spec_l1Cur_square.mono _ _ _ _
   | exact LeO.none _
   | refine LeO.ite ?_ ?_
   | refine LeO.bind ?_ (fun _ => ?_)
def spec_DrawOrderOf.T9 : Bool × List (List Nat × List Nat) := (true, [([], []), ([], []), ([1], [1]), ([0, 2], [0, 2]), ([], []), ([], []), ([5], [5]), ([4, 6, 3], [4, 6]), ([3, 7, 0, 1, 2, 3], [3]), ([7, 8, 0, 1, 2, 3, 4, 5, 6, 7, 8], [7])])
def spec_DrawOrderOf.B9 : List Nat := [0, 0, 2, 7, 0, 0, 32, 127, 255, 511]
theorem spec_DrawOrderOf.tab9 : rtab .any (opsOf Try.f101 9) = spec_DrawOrderOf.T9 := by kernel_rfl
theorem spec_DrawOrderOf.bits9 : waitsOk spec_DrawOrderOf.T9.2 spec_DrawOrderOf.B9 = true := by kernel_rfl
def spec_DrawOrderOf.T10 : Bool × List (List Nat × List Nat) := (true, [([], []), ([0], [0]), ([], []), ([1, 2], [1, 2]), ([3], [3]), ([], []), ([5], [5]), ([], []), ([6, 7], [6, 7]), ([8], [8]), ([4, 0, 1, 2, 3, 4], [4]), ([9, 10, 0, 1, 2, 3, 4, 5, 6, 7, 8, 9, 10], [9])])
def spec_DrawOrderOf.B10 : List Nat := [0, 1, 0, 7, 15, 0, 32, 0, 224, 480, 31, 2047]
theorem spec_DrawOrderOf.tab10 : rtab .any (opsOf Try.f101 10) = spec_DrawOrderOf.T10 := by kernel_rfl
theorem spec_DrawOrderOf.bits10 : waitsOk spec_DrawOrderOf.T10.2 spec_DrawOrderOf.B10 = true := by kernel_rfl
set_option maxHeartbeats 8000000 in
set_option maxRecDepth 100000 in
theorem spec_DrawOrderOf.calls (k : Nat) (A0 : Option Addr) (c0 : Nat) (l0 : List Int) (r1 : Int) (r2 : Int) (r3 : List Int) (w : World) (hr0 : Kd.C (Kd.int .u8) w A0 l0.length l0) (hc0 : l0.length ≤ c0) (h : spec_DrawOrderOf.f k l0 = some (r1, r2, r3)) :
  Calls Try.prog 101 #[.slice A0 l0.length c0] w fun e w' => ∃ v2_ : Value, e = .returned (.agg #[.int .i64 r1, .int .i64 r2, v2_]) ∧ Kd.R (Kd.int .i64) 3 w' w.heap.size (fun _ => True) v2_ r3 ∧ Below w.heap.size w w' := by
 have hu34 := Try.underlying34
 have hu79 := Try.underlying79
 have HR0 := Aside0.mk hr0
 have HC0 := Aside0.mk hc0
 clear hr0 hc0
 have HB := am (Below.refl w.heap.size w)
 have H : ((spec_l1Cur_lengths.f k l0 0 0).bind fun bt432 => ((spec_feGood.f k bt432.1).bind fun t437 => (if t437 = true then ((spec_l1Cur_one.f l0 bt432.2.1 bt432.2.2 4).bind fun bt438 => (spec_DrawOrderOf.j0 k bt432.1 bt438.1 l0 bt438.2.1 bt438.2.2)) else (spec_DrawOrderOf.j0 k bt432.1 true l0 bt432.2.1 bt432.2.2)))) = some (r1, r2, r3) := h
 clear h
 replace H := Option.bind_eq_some_iff.mp H
 obtain ⟨⟨t432, t435, t436⟩, A20, H⟩ := H
 replace H : ((spec_feGood.f k t432).bind fun t437 => (if t437 = true then ((spec_l1Cur_one.f l0 t435 t436 4).bind fun bt438 => (spec_DrawOrderOf.j0 k t432 bt438.1 l0 bt438.2.1 bt438.2.2)) else (spec_DrawOrderOf.j0 k t432 true l0 t435 t436))) = some (r1, r2, r3) := H
 have A2 := Aside0.mk A20
 clear A20
 have HC3 := Aside0.mk H
 clear H
 go_enter Try.func101, Try.ntmps101
 go_upto_region 3 with (first | ((with_reducible refine gate_dst (N := 2) rfl ?_); refine box_event ?hg (N := 2) ?hd (cs := #[.int .i64 0, .int .i64 0, .slice none 0 0]) (t := 34) ?hr ?_; (case hd => rfl); (case hg => rfl); (case hr => first | (go_simp; done) | (go_simp; rfl)); intro gb430 hg w4 hbox hb; have n0_ := am (below_step (by repeat with_reducible first | exact HB.out | apply pw_below_drewN | apply below_drew1) hb); have n1_ := am (hbox); have n2_ := am ((by rw [hg]; exact (below_size (by repeat with_reducible first | exact HB.out | apply pw_below_drewN | apply below_drew1)) : w.heap.size ≤ gb430)); have n3_ := am ((by rw [hg]; exact (below_size (by repeat with_reducible first | exact HB.out | apply pw_below_drewN | apply below_drew1)) : w.heap.size ≤ gb430)); clear HB; have HB := n0_; have BK430 := n1_; have GW430 := n2_; have GE430 := n3_; clear n0_ n1_ n2_ n3_; clear hb hbox hg) | ((with_reducible refine gate_dst (N := 13) rfl ?_); refine box_event ?hg (N := 13) ?hd (cs := #[.slice A0 l0.length c0, .int .i64 0, .int .u64 0]) (t := 79) ?hr ?_; (case hd => rfl); (case hg => rfl); (case hr => first | (go_simp; done) | (go_simp; rfl)); intro gb431 hg w5 hbox hb; have n1_ := am (below_step (by repeat with_reducible first | exact HB.out | apply pw_below_drewN | apply below_drew1 | refine below_set ?_ GE430.out) hb); have n2_ := am ((show IsS79 w w5 gb431 l0 0 0 from ⟨_, _, hbox, (by rw [hg]; exact (below_size (by repeat with_reducible first | exact HB.out | apply pw_below_drewN | apply below_drew1 | refine below_set ?_ GE430.out)) : w.heap.size ≤ gb431), HR0.out⟩)); have n3_ := am ((by rw [hg]; exact (below_size (by repeat with_reducible first | exact HB.out | apply pw_below_drewN | apply below_drew1 | refine below_set ?_ GE430.out)) : w.heap.size ≤ gb431)); have n4_ := am ((by rw [hg]; exact (below_size (by repeat with_reducible first | exact HB.out | apply pw_below_drewN | apply below_drew1 | refine below_set ?_ GE430.out)) : w.heap.size ≤ gb431)); have n5_ := am ((by rw [hg]; exact Nat.ne_of_lt (sqT BK430) : gb430 ≠ gb431)); have n6_ := am ((by rw [hg]; exact Nat.ne_of_gt (sqT BK430) : gb431 ≠ gb430)); clear HB; replace BK430 := sqB BK430 hb; have HB := n1_; have HI431 := n2_; have GW431 := n3_; have GE431 := n4_; have Nq0 := n5_; have Nq2 := n6_; clear n1_ n2_ n3_ n4_ n5_ n6_; clear hb hbox hg) | ((with_reducible refine gate_callee (f := 105) rfl ?_); refine goesL_ (some 15) rfl rfl Try.func105 (by kernel_rfl) rfl #[.pointer (some ⟨gb431, 0, none⟩)] rfl (by (try simp only [List.map_toArray, List.map_cons, List.map_nil]); try rfl) ?_; (with_reducible refine (spec_l1Cur_lengths.calls k gb431 l0 0 0 t432 t435 t436 w _ ?side1 ?side2 A2.out).mono ?_); (case side1 => repeat (first | (with_reducible first | exact HI431.out | apply IsS79.alloc | apply IsS79.drewN | apply IsS79.drew | apply IsS79.set_1 | apply IsS79.set_2 | refine IsS79.far ?_ Nq2.out _) | exact HI431.out)); (case side2 => repeat (first | (with_reducible first | exact HB.out | apply below_alloc | apply pw_below_drewN | apply below_drew1 | refine below_set ?_ (IsS79.ge HI431.out) | refine below_set ?_ GE430.out) | exact HB.out)); rintro e w6 ⟨v433, rfl, ho0, hi, hb, hk⟩; refine ⟨_, rfl, ?_⟩; have n0_ := am (KeepBut.blk hk (g' := gb430) (o := .cells #[.int .i64 0, .int .i64 0, .slice none 0 0] 34 (0, 0)) (sqb BK430) Nq0.out (by simp)); have n1_ := am (Kd.R_lower ho0 (below_size (by repeat (first | (with_reducible first | exact HB.out | apply below_alloc | apply pw_below_drewN | apply below_drew1 | refine below_set ?_ (IsS79.ge HI431.out) | refine below_set ?_ GE430.out) | exact HB.out)))); have n2_ := am (hb); have n3_ := am (hi); clear BK430; clear HB; clear HI431; have BK430 := n0_; have Oq1 := n1_; have HB := n2_; have HI431 := n3_; clear n0_ n1_ n2_ n3_; (try clear hb); (try clear hb2); (try clear hk); (try clear hi); (try clear ho0)))
 (try simp only [Act.put, List.setIfInBounds_toArray, List.set_cons_zero, List.set_cons_succ])
 go_cut [22] (fun v22 wc => ∃ (kq : Nat) (x22_2 : Bool) (x432001_2 : Int) (x432002_2 : Int), v22 = .bool x22_2 ∧ Aside0 (spec_DrawOrderOf.j0 kq t432 x22_2 l0 x432001_2 x432002_2 = some (r1, r2, r3)) ∧ Aside0 (kq ≤ k) ∧ Aside0 (Kd.R (Kd.int .i64) 3 wc w.heap.size (fun _ => True) v433 t432) ∧ Aside0 (wc.heap[gb430]? = some (.cells #[.int .i64 0, .int .i64 0, (.slice none 0 0)] 34 (0, 0))) ∧ Aside0 (IsS79 w wc gb431 l0 x432001_2 x432002_2) ∧ Aside0 (Below w.heap.size w wc))
 case first =>
  have H := HC3.out
  clear HC3
  replace H := Option.bind_eq_some_iff.mp H
  obtain ⟨t437, A70, H⟩ := H
  replace H : (if t437 = true then ((spec_l1Cur_one.f l0 t435 t436 4).bind fun bt438 => (spec_DrawOrderOf.j0 k t432 bt438.1 l0 bt438.2.1 bt438.2.2)) else (spec_DrawOrderOf.j0 k t432 true l0 t435 t436)) = some (r1, r2, r3) := H
  have A7 := Aside0.mk A70
  clear A70
  by_cases c8 : t437 = true
  ·
   subst c8
   have H1 : ((spec_l1Cur_one.f l0 t435 t436 4).bind fun bt438 => (spec_DrawOrderOf.j0 k t432 bt438.1 l0 bt438.2.1 bt438.2.2)) = some (r1, r2, r3) := by first | (rw [if_pos rfl] at H; exact H) | rfl
   clear H
   have H := H1
   clear H1
   replace H := Option.bind_eq_some_iff.mp H
   obtain ⟨⟨t438, t439, t440⟩, A90, H⟩ := H
   replace H : (spec_DrawOrderOf.j0 k t432 t438 l0 t439 t440) = some (r1, r2, r3) := H
   have A9 := Aside0.mk A90
   clear A90
   have H' := Aside0.mk H
   clear H
   obtain ⟨Ao10, co10, eo10⟩ := Kd.R_slice Oq1.out
   subst eo10
   go_wp2_with (first | ((with_reducible refine gate_callee (f := 109) rfl ?_); refine goesL_ (some 17) rfl rfl Try.func109 (by kernel_rfl) rfl #[.slice Ao10 t432.length co10] rfl (by (try simp only [List.map_toArray, List.map_cons, List.map_nil]); try rfl) ?_; (with_reducible refine (spec_feGood.calls k _ _ t432 true _ ?side1 ?side2 A7.out).mono ?_); (case side1 => repeat (first | exact (Kd.R_reads' Oq1.out).2.2 | (with_reducible first | refine Kd.C_alloc ?_ _ | refine Kd.C_drewN ?_ _ | refine Kd.C_drew ?_))); (case side2 => exact (Kd.R_reads' Oq1.out).2.1); rintro e w' ⟨rfl, ⟨nd, rfl⟩⟩; refine ⟨_, rfl, ?_⟩) | (go_at_call 156; (with_reducible refine (spec_l1Cur_one.calls gb431 l0 t435 t436 4 t438 t439 t440 w _ ?side1 ?side2 A9.out).mono ?_); (case side1 => repeat (first | (with_reducible first | exact HI431.out | apply IsS79.alloc | apply IsS79.drewN | apply IsS79.drew | apply IsS79.set_1 | apply IsS79.set_2 | refine IsS79.far ?_ Nq2.out _) | exact HI431.out)); (case side2 => repeat (first | (with_reducible first | exact HB.out | apply below_alloc | apply pw_below_drewN | apply below_drew1 | refine below_set ?_ (IsS79.ge HI431.out) | refine below_set ?_ GE430.out) | exact HB.out)); rintro e w11 ⟨rfl, hi, hb, hk⟩; have n0_ := am (KeepBut.blk hk (g' := gb430) (o := .cells #[.int .i64 0, .int .i64 0, .slice none 0 0] 34 (0, 0)) (sqb BK430) Nq0.out (by simp)); have n1_ := am (Kd.R_mono (Kd.R_keep (IsS79.apart (show IsS79 w _ gb431 l0 t435 t436 from by repeat (first | (with_reducible first | exact HI431.out | apply IsS79.alloc | apply IsS79.drewN | apply IsS79.drew | apply IsS79.set_1 | apply IsS79.set_2 | refine IsS79.far ?_ Nq2.out _) | exact HI431.out)) (sqr Oq1) (by decide)) hk (fun _ h => h.2)) (fun _ h => h.1)); have n2_ := am (hb); have n3_ := am (hi); clear BK430; clear Oq1; clear HB; clear HI431; have BK430 := n0_; have Oq1 := n1_; have HB := n2_; have HI431 := n3_; clear n0_ n1_ n2_ n3_; (try clear hb); (try clear hb2); (try clear hk); (try clear hi)))
   go_meet
   case rel => exact ⟨_, (t438), (t439), (t440), (by first | rfl | (simp; done) | (simp [*]; done)), H', ⟨by first | omega | exact Nat.le_refl _⟩, ⟨by (with_reducible repeat (first | apply Kd.R_alloc | apply Kd.R_drewN | apply Kd.R_drew)); exact Oq1.out⟩, ⟨by (with_reducible repeat (first | refine blk_drewN ?_ _ | refine blk_drew ?_ | refine blk_alloc ?_ _)); exact BK430.out⟩, ⟨by repeat (first | (with_reducible first | exact HI431.out | apply IsS79.alloc | apply IsS79.drewN | apply IsS79.drew | apply IsS79.set_1 | apply IsS79.set_2 | refine IsS79.far ?_ Nq2.out _) | exact HI431.out)⟩, ⟨by repeat (first | (with_reducible first | exact HB.out | apply below_alloc | apply pw_below_drewN | apply below_drew1 | refine below_set ?_ (IsS79.ge HI431.out) | refine below_set ?_ GE430.out) | exact HB.out)⟩⟩
  ·
   replace c8 := Bool.eq_false_iff.mpr c8
   subst c8
   have H1 : (spec_DrawOrderOf.j0 k t432 true l0 t435 t436) = some (r1, r2, r3) := by first | (rw [if_neg (show ¬ (false = true) by decide)] at H; exact H) | rfl
   clear H
   have H := H1
   clear H1
   have H' := Aside0.mk H
   clear H
   obtain ⟨Ao12, co12, eo12⟩ := Kd.R_slice Oq1.out
   subst eo12
   go_wp2_with (first | ((with_reducible refine gate_callee (f := 109) rfl ?_); refine goesL_ (some 17) rfl rfl Try.func109 (by kernel_rfl) rfl #[.slice Ao12 t432.length co12] rfl (by (try simp only [List.map_toArray, List.map_cons, List.map_nil]); try rfl) ?_; (with_reducible refine (spec_feGood.calls k _ _ t432 false _ ?side1 ?side2 A7.out).mono ?_); (case side1 => repeat (first | exact (Kd.R_reads' Oq1.out).2.2 | (with_reducible first | refine Kd.C_alloc ?_ _ | refine Kd.C_drewN ?_ _ | refine Kd.C_drew ?_))); (case side2 => exact (Kd.R_reads' Oq1.out).2.1); rintro e w' ⟨rfl, ⟨nd, rfl⟩⟩; refine ⟨_, rfl, ?_⟩))
   go_meet
   case rel => exact ⟨_, (true), (t435), (t436), (by first | rfl | (simp; done) | (simp [*]; done)), H', ⟨by first | omega | exact Nat.le_refl _⟩, ⟨by (with_reducible repeat (first | apply Kd.R_alloc | apply Kd.R_drewN | apply Kd.R_drew)); exact Oq1.out⟩, ⟨by (with_reducible repeat (first | refine blk_drewN ?_ _ | refine blk_drew ?_ | refine blk_alloc ?_ _)); exact BK430.out⟩, ⟨by repeat (first | (with_reducible first | exact HI431.out | apply IsS79.alloc | apply IsS79.drewN | apply IsS79.drew | apply IsS79.set_1 | apply IsS79.set_2 | refine IsS79.far ?_ Nq2.out _) | exact HI431.out)⟩, ⟨by repeat (first | (with_reducible first | exact HB.out | apply below_alloc | apply pw_below_drewN | apply below_drew1 | refine below_set ?_ (IsS79.ge HI431.out) | refine below_set ?_ GE430.out) | exact HB.out)⟩⟩
 case rest =>
  clear HC3
  try clear c1; try clear p2; try clear c8; try clear c10
  obtain ⟨kq, x22_2, x432001_2, x432002_2, rfl, HA, HJ2, Oq4, BK430, HI431, HB⟩ := hcut
  cases kq with
  | zero => exact absurd HA.out (by simp [spec_DrawOrderOf.j0])
  | succ kj2 =>
   have H := HA.out
   clear HA
   simp only [spec_DrawOrderOf.j0] at H
   by_cases c13 : x22_2 = true
   ·
    subst c13
    have H1 : ((spec_l1Cur_square.f kj2 l0 x432001_2 x432002_2).bind fun bt441 => (some (bt441.1, bt441.2.1, bt441.2.2.1))) = some (r1, r2, r3) := by first | (rw [if_pos rfl] at H; exact H) | rfl
    clear H
    have H := H1
    clear H1
    replace H := Option.bind_eq_some_iff.mp H
    obtain ⟨⟨t441, t442, t443, t446, t447⟩, A140, H⟩ := H
    replace H : (some (t441, t442, t443)) = some (r1, r2, r3) := H
    have A14 := Aside0.mk A140
    clear A140
    simp only [Option.some.injEq, Prod.mk.injEq] at H
    obtain ⟨rfl, rfl, rfl⟩ := H
    go_wp2_with (first | ((with_reducible refine gate_callee (f := 135) rfl ?_); refine goesL_ (some 24) rfl rfl Try.func135 (by kernel_rfl) rfl #[.pointer (some ⟨gb431, 0, none⟩)] rfl (by (try simp only [List.map_toArray, List.map_cons, List.map_nil]); try rfl) ?_; (with_reducible refine (spec_l1Cur_square.calls kj2 gb431 l0 x432001_2 x432002_2 t441 t442 t443 t446 t447 w _ ?side1 ?side2 A14.out).mono ?_); (case side1 => repeat (first | (with_reducible first | exact HI431.out | apply IsS79.alloc | apply IsS79.drewN | apply IsS79.drew | apply IsS79.set_1 | apply IsS79.set_2 | refine IsS79.far ?_ Nq2.out _) | exact HI431.out)); (case side2 => repeat (first | (with_reducible first | exact HB.out | apply below_alloc | apply pw_below_drewN | apply below_drew1 | refine below_set ?_ (IsS79.ge HI431.out) | refine below_set ?_ GE430.out) | exact HB.out)); rintro e w15 ⟨v444, rfl, ho0, hi, hb, hk⟩; refine ⟨_, rfl, ?_⟩; have n0_ := am (Kd.R_mono (Kd.R_told (Kd.R_oldK (IsS79.apart (show IsS79 w _ gb431 l0 x432001_2 x432002_2 from by repeat (first | (with_reducible first | exact HI431.out | apply IsS79.alloc | apply IsS79.drewN | apply IsS79.drew | apply IsS79.set_1 | apply IsS79.set_2 | refine IsS79.far ?_ Nq2.out _) | exact HI431.out)) (sqr Oq4) (by decide)) hk) (Kd.R_base ho0)) (fun _ h_ => h_.1)); have n1_ := am (KeepBut.blk hk (g' := gb430) (o := .cells #[.int .i64 0, .int .i64 0, .slice none 0 0] 34 (0, 0)) (sqb BK430) Nq0.out (by simp)); have n2_ := am (Kd.R_lower (Kd.R_new' ho0 (sqL Oq4)) (below_size (by repeat (first | (with_reducible first | exact HB.out | apply below_alloc | apply pw_below_drewN | apply below_drew1 | refine below_set ?_ (IsS79.ge HI431.out) | refine below_set ?_ GE430.out) | exact HB.out)))); have n3_ := am (hb); have n4_ := am (hi); clear Oq4; clear BK430; clear HB; clear HI431; have Oq4 := n0_; have BK430 := n1_; have Oq2 := n2_; have HB := n3_; have HI431 := n4_; clear n0_ n1_ n2_ n3_ n4_; (try clear hb); (try clear hb2); (try clear hk); (try clear hi); (try clear ho0); have bq0 := Nq0.out; have cq0 := Nq2.out; have zq3 : w15.cell? ⟨gb430, 0, none⟩ = some (.int .i64 0) := sqc BK430 0; have zq4 : w15.cell? ⟨gb430, 1, none⟩ = some (.int .i64 0) := sqc BK430 1; have zq5 : w15.cell? ⟨gb430, 2, none⟩ = some (.slice none 0 0) := sqc BK430 2; have fq3 := blk_frozen BK430.out 0; have fq4 := blk_frozen BK430.out 1; have fq5 := blk_frozen BK430.out 2; obtain ⟨Ao18, co18, eo18⟩ := Kd.R_slice Oq2.out; subst eo18))
    refine bodyPost_ret (results_cell_row rfl _ _ gb430 34 #[.int .i64 t441, .int .i64 t442, .slice Ao18 t443.length co18] (0, 0) _ rfl (by (with_reducible repeat (first | refine blk_drewN ?_ _ | refine blk_drew ?_ | refine blk_alloc ?_ _)); refine blk_put (cs := #[.int .i64 t441, .int .i64 t442, .slice none 0 0]) ?_ 2 _ rfl; (with_reducible repeat (first | refine blk_drewN ?_ _ | refine blk_drew ?_ | refine blk_alloc ?_ _)); refine blk_put (cs := #[.int .i64 t441, .int .i64 0, .slice none 0 0]) ?_ 1 _ rfl; (with_reducible repeat (first | refine blk_drewN ?_ _ | refine blk_drew ?_ | refine blk_alloc ?_ _)); refine blk_put (cs := #[.int .i64 0, .int .i64 0, .slice none 0 0]) ?_ 0 _ rfl; (with_reducible repeat (first | refine blk_drewN ?_ _ | refine blk_drew ?_ | refine blk_alloc ?_ _)); exact BK430.out) Try.underlying34 rfl (by kernel_rfl)) rfl ?_
    exact ⟨_, by first | rfl | (simp [errW_none, errW_some] <;> rfl) | (simp [*, errW_none, errW_some] <;> rfl), by (with_reducible repeat (first | apply Kd.R_alloc | apply Kd.R_drewN | apply Kd.R_drew)); exact Kd.R_mono (Kd.R_far (p := ⟨gb430, 2, none⟩) (Kd.R_far (p := ⟨gb430, 1, none⟩) (Kd.R_far (p := ⟨gb430, 0, none⟩) (Kd.R_types Oq2.out BK430.out (by decide)) (fun _ hk => hk.2) (.int .i64 t441)) (fun _ hk => hk.2) (.int .i64 t442)) (fun _ hk => hk.2) (.slice Ao18 t443.length co18)) (fun _ hk => trivial), by repeat (first | (with_reducible first | exact HB.out | apply below_alloc | apply pw_below_drewN | apply below_drew1 | refine below_set ?_ (IsS79.ge HI431.out) | refine below_set ?_ GE430.out) | exact HB.out)⟩
   ·
    replace c13 := Bool.eq_false_iff.mpr c13
    subst c13
    have H1 : ((spec_feBoard.f kj2 t432).bind fun bt448 => ((spec_l1Cur_pick.f l0 x432001_2 x432002_2 5).bind fun bt454 => (spec_DrawOrderOf.l0 kj2 bt454.1 l0 bt454.2.1 bt454.2.2 bt448.1 bt448.2.1 bt448.2.2))) = some (r1, r2, r3) := by first | (rw [if_neg (show ¬ (false = true) by decide)] at H; exact H) | rfl
    clear H
    have H := H1
    clear H1
    replace H := Option.bind_eq_some_iff.mp H
    obtain ⟨⟨t448, t449, t450⟩, A190, H⟩ := H
    replace H : ((spec_l1Cur_pick.f l0 x432001_2 x432002_2 5).bind fun bt454 => (spec_DrawOrderOf.l0 kj2 bt454.1 l0 bt454.2.1 bt454.2.2 t448 t449 t450)) = some (r1, r2, r3) := H
    have A19 := Aside0.mk A190
    clear A190
    replace H := Option.bind_eq_some_iff.mp H
    obtain ⟨⟨t454, t455, t456⟩, A200, H⟩ := H
    replace H : (spec_DrawOrderOf.l0 kj2 t454 l0 t455 t456 t448 t449 t450) = some (r1, r2, r3) := H
    have A20 := Aside0.mk A200
    clear A200
    have H' := Aside0.mk H
    clear H
    obtain ⟨Ao21, co21, eo21⟩ := Kd.R_slice Oq4.out
    subst eo21
    go_wp2_with (first | ((with_reducible refine gate_callee (f := 117) rfl ?_); refine goesL_ (some 26) rfl rfl Try.func117 (by kernel_rfl) rfl #[.slice Ao21 t432.length co21] rfl (by (try simp only [List.map_toArray, List.map_cons, List.map_nil]); try rfl) ?_; (with_reducible refine (spec_feBoard.calls kj2 _ _ t432 t448 t449 t450 _ ?side1 ?side2 A19.out).mono ?_); (case side1 => repeat (first | exact (Kd.R_reads' Oq4.out).2.2 | (with_reducible first | refine Kd.C_alloc ?_ _ | refine Kd.C_drewN ?_ _ | refine Kd.C_drew ?_))); (case side2 => exact (Kd.R_reads' Oq4.out).2.1); rintro e w22 ⟨v451, rfl, ho0, hb⟩; refine ⟨_, rfl, ?_⟩; have n1_ := am (Kd.R_lower (Kd.R_new' ho0 (sqL Oq4)) (below_size (by repeat (first | (with_reducible first | exact HB.out | apply below_alloc | apply pw_below_drewN | apply below_drew1 | refine below_set ?_ (IsS79.ge HI431.out) | refine below_set ?_ GE430.out) | exact HB.out)))); have n3_ := am (IsS79.below (by repeat (first | (with_reducible first | exact HI431.out | apply IsS79.alloc | apply IsS79.drewN | apply IsS79.drew | apply IsS79.set_1 | apply IsS79.set_2 | refine IsS79.far ?_ Nq2.out _) | exact HI431.out)) hb); have n4_ := am (below_step (by repeat (first | (with_reducible first | exact HB.out | apply below_alloc | apply pw_below_drewN | apply below_drew1 | refine below_set ?_ (IsS79.ge HI431.out) | refine below_set ?_ GE430.out) | exact HB.out)) hb); clear HI431; clear HB; replace Oq4 := sqE Oq4 ho0 hb; have Oq3 := n1_; replace BK430 := sqB BK430 hb; have HI431 := n3_; have HB := n4_; clear n1_ n3_ n4_; (try clear hb); (try clear hb2); (try clear hk); (try clear hi); (try clear ho0)) | ((with_reducible refine gate_dst (N := 5) rfl ?_); refine box_event ?hg (N := 5) ?hd (cs := #[.int .i64 0, .int .i64 0, .slice none 0 0]) (t := 34) ?hr ?_; (case hd => rfl); (case hg => rfl); (case hr => first | (go_simp; done) | (go_simp; rfl)); intro gb453 hg w23 hbox hb; have n3_ := am (IsS79.below (by repeat (first | (with_reducible first | exact HI431.out | apply IsS79.alloc | apply IsS79.drewN | apply IsS79.drew | apply IsS79.set_1 | apply IsS79.set_2 | refine IsS79.far ?_ Nq2.out _) | exact HI431.out)) hb); have n4_ := am (below_step (by repeat (first | (with_reducible first | exact HB.out | apply below_alloc | apply pw_below_drewN | apply below_drew1 | refine below_set ?_ (IsS79.ge HI431.out) | refine below_set ?_ GE430.out) | exact HB.out)) hb); have n5_ := am (hbox); have n6_ := am ((by rw [hg]; exact (below_size (by repeat (first | (with_reducible first | exact HB.out | apply below_alloc | apply pw_below_drewN | apply below_drew1 | refine below_set ?_ (IsS79.ge HI431.out) | refine below_set ?_ GE430.out) | exact HB.out))) : w.heap.size ≤ gb453)); have n7_ := am ((by rw [hg]; exact (below_size (by repeat (first | (with_reducible first | exact HB.out | apply below_alloc | apply pw_below_drewN | apply below_drew1 | refine below_set ?_ (IsS79.ge HI431.out) | refine below_set ?_ GE430.out) | exact HB.out))) : w.heap.size ≤ gb453)); have n8_ := am ((by rw [hg]; exact Nat.ne_of_lt (sqT BK430) : gb430 ≠ gb453)); have n9_ := am ((by rw [hg]; exact Nat.ne_of_gt (sqT BK430) : gb453 ≠ gb430)); have n10_ := am ((by rw [hg]; exact Nat.ne_of_lt (IsS79.lt (show IsS79 w _ gb431 l0 x432001_2 x432002_2 from by repeat (first | (with_reducible first | exact HI431.out | apply IsS79.alloc | apply IsS79.drewN | apply IsS79.drew | apply IsS79.set_1 | apply IsS79.set_2 | refine IsS79.far ?_ Nq2.out _) | exact HI431.out))) : gb431 ≠ gb453)); have n11_ := am ((by rw [hg]; exact Nat.ne_of_gt (IsS79.lt (show IsS79 w _ gb431 l0 x432001_2 x432002_2 from by repeat (first | (with_reducible first | exact HI431.out | apply IsS79.alloc | apply IsS79.drewN | apply IsS79.drew | apply IsS79.set_1 | apply IsS79.set_2 | refine IsS79.far ?_ Nq2.out _) | exact HI431.out))) : gb453 ≠ gb431)); clear HI431; clear HB; replace Oq4 := sqR Oq4 hb; replace Oq3 := sqR Oq3 hb; replace BK430 := sqB BK430 hb; have HI431 := n3_; have HB := n4_; have BK453 := n5_; have GW453 := n6_; have GE453 := n7_; have Nq1 := n8_; have Nq4 := n9_; have Nq3 := n10_; have Nq5 := n11_; clear n3_ n4_ n5_ n6_ n7_ n8_ n9_ n10_ n11_; clear hb hbox hg; have bq1 := Nq4.out; have cq1 := Nq1.out; have bq2 := Nq5.out; have cq2 := Nq3.out; have zq6 : w23.cell? ⟨gb453, 0, none⟩ = some (.int .i64 0) := sqc BK453 0; have zq7 : w23.cell? ⟨gb453, 1, none⟩ = some (.int .i64 0) := sqc BK453 1; have zq8 : w23.cell? ⟨gb453, 2, none⟩ = some (.slice none 0 0) := sqc BK453 2; have fq6 := blk_frozen BK453.out 0; have fq7 := blk_frozen BK453.out 1; have fq8 := blk_frozen BK453.out 2; obtain ⟨Ao27, co27, eo27⟩ := Kd.R_slice Oq3.out; subst eo27) | ((with_reducible refine gate_callee (f := 123) rfl ?_); refine goesL_ (some 28) rfl rfl Try.func123 (by kernel_rfl) rfl #[.pointer (some ⟨gb431, 0, none⟩), .int .i64 5] rfl (by (try simp only [List.map_toArray, List.map_cons, List.map_nil]); try rfl) ?_; (with_reducible refine (spec_l1Cur_pick.calls gb431 l0 x432001_2 x432002_2 5 t454 t455 t456 w _ ?side1 ?side2 A20.out).mono ?_); (case side1 => repeat (first | (with_reducible first | exact HI431.out | apply IsS79.alloc | apply IsS79.drewN | apply IsS79.drew | apply IsS79.set_1 | apply IsS79.set_2 | refine IsS79.far ?_ Nq2.out _ | refine IsS79.far ?_ Nq3.out _) | exact HI431.out)); (case side2 => repeat (first | (with_reducible first | exact HB.out | apply below_alloc | apply pw_below_drewN | apply below_drew1 | refine below_set ?_ (IsS79.ge HI431.out) | refine below_set ?_ GE430.out | refine below_set ?_ GE453.out) | exact HB.out)); rintro e w28 ⟨rfl, hi, hb, hk⟩; refine ⟨_, rfl, ?_⟩; have n0_ := am (Kd.R_mono (Kd.R_keep (IsS79.apart (show IsS79 w _ gb431 l0 x432001_2 x432002_2 from by repeat (first | (with_reducible first | exact HI431.out | apply IsS79.alloc | apply IsS79.drewN | apply IsS79.drew | apply IsS79.set_1 | apply IsS79.set_2 | refine IsS79.far ?_ Nq2.out _ | refine IsS79.far ?_ Nq3.out _) | exact HI431.out)) (by (with_reducible repeat (first | apply Kd.R_alloc | apply Kd.R_drewN | apply Kd.R_drew)); exact (Kd.R_mono (Kd.R_far (p := ⟨gb453, 2, none⟩) (Kd.R_far (p := ⟨gb453, 1, none⟩) (Kd.R_far (p := ⟨gb453, 0, none⟩) (Kd.R_types Oq4.out BK453.out (by decide)) (fun _ hk => hk.2) (.int .i64 t448)) (fun _ hk => hk.2) (.int .i64 t449)) (fun _ hk => hk.2) (.slice Ao27 t450.length co27)) (fun _ h_ => h_.1))) (by decide)) hk (fun _ h => h.2)) (fun _ h => h.1)); have n1_ := am (KeepBut.blk hk (g' := gb430) (o := .cells #[.int .i64 0, .int .i64 0, .slice none 0 0] 34 (0, 0)) (by (with_reducible repeat (first | refine blk_drewN ?_ _ | refine blk_drew ?_ | refine blk_alloc ?_ _)); refine blk_far ?_ Nq1.out _; (with_reducible repeat (first | refine blk_drewN ?_ _ | refine blk_drew ?_ | refine blk_alloc ?_ _)); refine blk_far ?_ Nq1.out _; (with_reducible repeat (first | refine blk_drewN ?_ _ | refine blk_drew ?_ | refine blk_alloc ?_ _)); refine blk_far ?_ Nq1.out _; (with_reducible repeat (first | refine blk_drewN ?_ _ | refine blk_drew ?_ | refine blk_alloc ?_ _)); exact BK430.out) Nq0.out (by simp)); have n2_ := am (Kd.R_mono (Kd.R_keep (IsS79.apart (show IsS79 w _ gb431 l0 x432001_2 x432002_2 from by repeat (first | (with_reducible first | exact HI431.out | apply IsS79.alloc | apply IsS79.drewN | apply IsS79.drew | apply IsS79.set_1 | apply IsS79.set_2 | refine IsS79.far ?_ Nq2.out _ | refine IsS79.far ?_ Nq3.out _) | exact HI431.out)) (by (with_reducible repeat (first | apply Kd.R_alloc | apply Kd.R_drewN | apply Kd.R_drew)); exact (Kd.R_mono (Kd.R_far (p := ⟨gb453, 2, none⟩) (Kd.R_far (p := ⟨gb453, 1, none⟩) (Kd.R_far (p := ⟨gb453, 0, none⟩) (Kd.R_types Oq3.out BK453.out (by decide)) (fun _ hk => hk.2) (.int .i64 t448)) (fun _ hk => hk.2) (.int .i64 t449)) (fun _ hk => hk.2) (.slice Ao27 t450.length co27)) (fun _ h_ => h_.1))) (by decide)) hk (fun _ h => h.2)) (fun _ h => h.1)); have n3_ := am (KeepBut.blk hk (g' := gb453) (o := .cells #[.int .i64 t448, .int .i64 t449, .slice Ao27 t450.length co27] 34 (0, 0)) (by (with_reducible repeat (first | refine blk_drewN ?_ _ | refine blk_drew ?_ | refine blk_alloc ?_ _)); refine blk_put (cs := #[.int .i64 t448, .int .i64 t449, .slice none 0 0]) ?_ 2 _ rfl; (with_reducible repeat (first | refine blk_drewN ?_ _ | refine blk_drew ?_ | refine blk_alloc ?_ _)); refine blk_put (cs := #[.int .i64 t448, .int .i64 0, .slice none 0 0]) ?_ 1 _ rfl; (with_reducible repeat (first | refine blk_drewN ?_ _ | refine blk_drew ?_ | refine blk_alloc ?_ _)); refine blk_put (cs := #[.int .i64 0, .int .i64 0, .slice none 0 0]) ?_ 0 _ rfl; (with_reducible repeat (first | refine blk_drewN ?_ _ | refine blk_drew ?_ | refine blk_alloc ?_ _)); exact BK453.out) Nq5.out (by simp)); have n4_ := am (hb); have n5_ := am (hi); clear Oq4; clear BK430; clear Oq3; clear BK453; clear HB; clear HI431; have Oq4 := n0_; have BK430 := n1_; have Oq3 := n2_; have BK453 := n3_; have HB := n4_; have HI431 := n5_; clear n0_ n1_ n2_ n3_ n4_ n5_; (try clear hb); (try clear hb2); (try clear hk); (try clear hi)))
    go_loopg [6] kj2 (fun kq v6 w' => ∃ (x6_2 : Int) (x432001_2 : Int) (x432002_2 : Int) (x454002_2 : List Int) (u454002 : Value), v6 = .int .i64 x6_2 ∧ Aside0 (spec_DrawOrderOf.l0 kq x6_2 l0 x432001_2 x432002_2 t448 t449 x454002_2 = some (r1, r2, r3)) ∧ Aside0 (kq ≤ kj2) ∧ Aside0 (Kd.R (Kd.int .i64) 3 w' w.heap.size (fun _ => True) u454002 x454002_2) ∧ Aside0 (w'.heap[gb430]? = some (.cells #[.int .i64 0, .int .i64 0, (.slice none 0 0)] 34 (0, 0))) ∧ Aside0 (w'.heap[gb453]? = some (.cells #[.int .i64 t448, .int .i64 t449, u454002] 34 (0, 0))) ∧ Aside0 (IsS79 w w' gb431 l0 x432001_2 x432002_2) ∧ Aside0 (Below w.heap.size w w'))
    case atStart => exact ⟨(t454), (t455), (t456), (t450), (.slice Ao27 t450.length co27), (by first | rfl | (simp; done) | (simp [*]; done)), H', ⟨Nat.le_refl _⟩, ⟨by exact sqm Oq3 (fun _ hk => trivial)⟩, ⟨by (with_reducible repeat (first | refine blk_drewN ?_ _ | refine blk_drew ?_ | refine blk_alloc ?_ _)); exact BK430.out⟩, ⟨by (with_reducible repeat (first | refine blk_drewN ?_ _ | refine blk_drew ?_ | refine blk_alloc ?_ _)); exact BK453.out⟩, ⟨by repeat (first | (with_reducible first | exact HI431.out | apply IsS79.alloc | apply IsS79.drewN | apply IsS79.drew | apply IsS79.set_1 | apply IsS79.set_2 | refine IsS79.far ?_ Nq2.out _ | refine IsS79.far ?_ Nq3.out _) | exact HI431.out)⟩, ⟨by repeat (first | (with_reducible first | exact HB.out | apply below_alloc | apply pw_below_drewN | apply below_drew1 | refine below_set ?_ (IsS79.ge HI431.out) | refine below_set ?_ GE430.out | refine below_set ?_ GE453.out) | exact HB.out)⟩⟩
    case round =>
     clear H'
     try clear c1; try clear c2; try clear p2; try clear c8; try clear c10; try clear c11; try clear c12; try clear c13; try clear c16; try clear c24; try clear c25; try clear zq3; try clear zq4; try clear zq5; try clear zq6; try clear zq7; try clear zq8; try clear fq3; try clear fq4; try clear fq5; try clear fq6; try clear fq7; try clear fq8; try clear p2
     obtain ⟨x6_2, x432001_2, x432002_2, x454002_2, u454002, rfl, HA, HK2, Oq5, BK430, BK453, HI431, HB⟩ := hrel
     cases gk with
     | zero => exact absurd HA.out (by simp [spec_DrawOrderOf.l0])
     | succ k2 =>
      have H := HA.out
      clear HA
      simp only [spec_DrawOrderOf.l0] at H
      by_cases c29 : x6_2 > 0
      ·
       rw [if_pos c29] at H
       have c29b0 : decide (0 < x6_2) = true := decide_eq_true c29
       clear c29
       replace H := Option.bind_eq_some_iff.mp H
       obtain ⟨⟨t457, t458, t459⟩, A300, H⟩ := H
       replace H : ((spec_l1Cur_pick.f l0 t458 t459 t448).bind fun bt460 => (if 0 ≤ t457 then (if t457 < (x454002_2.length : Int) then (if 0 ≤ bt460.1 then (if bt460.1 < (x454002_2.length : Int) then (spec_DrawOrderOf.l0 k2 (wrap64 (x6_2 - 1)) l0 bt460.2.1 bt460.2.2 t448 t449 ((x454002_2.set (t457 : Int).toNat (rd x454002_2 bt460.1)).set (bt460.1 : Int).toNat (rd x454002_2 t457))) else (none)) else (none)) else (none)) else (none))) = some (r1, r2, r3) := H
       have A30 := Aside0.mk A300
       clear A300
       replace H := Option.bind_eq_some_iff.mp H
       obtain ⟨⟨t460, t461, t462⟩, A310, H⟩ := H
       replace H : (if 0 ≤ t457 then (if t457 < (x454002_2.length : Int) then (if 0 ≤ t460 then (if t460 < (x454002_2.length : Int) then (spec_DrawOrderOf.l0 k2 (wrap64 (x6_2 - 1)) l0 t461 t462 t448 t449 ((x454002_2.set (t457 : Int).toNat (rd x454002_2 t460)).set (t460 : Int).toNat (rd x454002_2 t457))) else (none)) else (none)) else (none)) else (none)) = some (r1, r2, r3) := H
       have A31 := Aside0.mk A310
       clear A310
       by_cases c32 : 0 ≤ t457
       ·
        rw [if_pos c32] at H
        have c32b0 : decide (0 ≤ t457) = true := decide_eq_true c32
        clear c32
        by_cases c33 : t457 < (x454002_2.length : Int)
        ·
         rw [if_pos c33] at H
         have c33b0 : decide (t457 < (x454002_2.length : Int)) = true := decide_eq_true c33
         clear c33
         by_cases c34 : 0 ≤ t460
         ·
          rw [if_pos c34] at H
          have c34b0 : decide (0 ≤ t460) = true := decide_eq_true c34
          clear c34
          by_cases c35 : t460 < (x454002_2.length : Int)
          ·
           rw [if_pos c35] at H
           have c35b0 : decide (t460 < (x454002_2.length : Int)) = true := decide_eq_true c35
           clear c35
           obtain ⟨y465, hy465⟩ : ∃ y_ : List Int, y_ = (x454002_2.set (t457 : Int).toNat (rd x454002_2 t460)) := ⟨_, rfl⟩
           replace H : (spec_DrawOrderOf.l0 k2 (wrap64 (x6_2 - 1)) l0 t461 t462 t448 t449 (y465.set (t460 : Int).toNat (rd x454002_2 t457))) = some (r1, r2, r3) := by first | (rw [hy465]; with_reducible exact H) | (have H2_ := (Option.bind_some _ _).symm.trans H; rw [hy465]; with_reducible exact H2_) | (have H2_ := (Option.bind_some _ _).symm.trans H; with_reducible exact H2_) | with_reducible exact H | (rw [hy465]; exact H) | exact H
           have Ny465 := Aside0.mk hy465
           clear hy465
           obtain ⟨y466, hy466⟩ : ∃ y_ : List Int, y_ = (y465.set (t460 : Int).toNat (rd x454002_2 t457)) := ⟨_, rfl⟩
           replace H : (spec_DrawOrderOf.l0 k2 (wrap64 (x6_2 - 1)) l0 t461 t462 t448 t449 y466) = some (r1, r2, r3) := by first | (rw [hy466]; with_reducible exact H) | (have H2_ := (Option.bind_some _ _).symm.trans H; rw [hy466]; with_reducible exact H2_) | (have H2_ := (Option.bind_some _ _).symm.trans H; with_reducible exact H2_) | with_reducible exact H | (rw [hy466]; exact H) | exact H
           have Ny466 := Aside0.mk hy466
           clear hy466
           have H' := Aside0.mk H
           clear H
           try go_wp2
           have n0_ := am (Kd.R_drew Oq5.out)
           have n1_ := am (blk_drew BK430.out)
           have n2_ := am (blk_drew BK453.out)
           have n3_ := am (IsS79.drew HI431.out)
           have n4_ := am (below_drew1 HB.out)
           clear Oq5 BK430 BK453 HI431 HB
           have Oq5 := n0_
           have BK430 := n1_
           have BK453 := n2_
           have HI431 := n3_
           have HB := n4_
           clear n0_ n1_ n2_ n3_ n4_
           refine start_ (n := 10) (S := fun w' => w'.cell? ⟨gb453, 0, none⟩ = some (.int .i64 t448) ∧ w'.cell? ⟨gb453, 1, none⟩ = some (.int .i64 t449) ∧ w'.cell? ⟨gb453, 2, none⟩ = some (u454002)) (ds := []) #[false, false, false, false, false, false, false, false, false, false] (by kernel_rfl) rfl rfl ⟨sqc BK453 0, sqc BK453 1, sqc BK453 2⟩ (fun hHeld => ?_); refine with_tabW spec_DrawOrderOf.tab9 spec_DrawOrderOf.bits9 (fun HT_ HW_ => ?_)
           generalize wr.drew = w38 at Oq5 BK430 BK453 HI431 HB hHeld ⊢
           refine pure_ (i := 0) (N := some 33) (v := ?_) (a' := ?_) #[true, false, false, false, false, false, false, false, false, false] rfl rfl (any_of HT_.out (by kernel_rfl)) (fun _ _ _ h => h) (Or.inl ⟨by rfl, ?_⟩) ?_ ?_
           rotate_left
           ·
            intro w'
            go_simp
            with_reducible rfl
           rotate_left
           ·
            simp only [Act.put, List.setIfInBounds_toArray, List.set_cons_zero, List.set_cons_succ, i64_w, i32_w]
            rfl
           refine pure_ (i := 1) (N := some 34) (v := ?_) (a' := ?_) #[true, true, false, false, false, false, false, false, false, false] rfl rfl (any_of HT_.out (by kernel_rfl)) (fun _ _ _ h => h) (Or.inl ⟨by rfl, ?_⟩) ?_ ?_
           rotate_left
           ·
            intro w'
            go_simp
            with_reducible rfl
           rotate_left
           ·
            simp only [Act.put, List.setIfInBounds_toArray, List.set_cons_zero, List.set_cons_succ, i64_w, i32_w]
            rfl
           refine pure_ (i := 4) (N := some 37) (v := ?_) (a' := ?_) #[true, true, false, false, true, false, false, false, false, false] rfl rfl (any_of HT_.out (by kernel_rfl)) (fun _ _ _ h => h) (Or.inl ⟨by rfl, ?_⟩) ?_ ?_
           rotate_left
           ·
            intro w'
            go_simp
            with_reducible rfl
           rotate_left
           ·
            simp only [Act.put, List.setIfInBounds_toArray, List.set_cons_zero, List.set_cons_succ, i64_w, i32_w]
            rfl
           refine pure_ (i := 5) (N := some 38) (v := ?_) (a' := ?_) #[true, true, false, false, true, true, false, false, false, false] rfl rfl (any_of HT_.out (by kernel_rfl)) (fun _ _ _ h => h) (Or.inl ⟨by rfl, ?_⟩) ?_ ?_
           rotate_left
           ·
            intro w'
            go_simp
            with_reducible rfl
           rotate_left
           ·
            simp only [Act.put, List.setIfInBounds_toArray, List.set_cons_zero, List.set_cons_succ, i64_w, i32_w]
            rfl
           refine take_ (i := 2) (N := some 35) (v := ?_) (a' := ?_) #[true, true, true, false, true, true, false, false, false, false] rfl rfl (take_ofW HT_.out HW_.out (by kernel_rfl)) (fun _ _ _ h => h) (Or.inl ⟨by rfl, ?_⟩) hHeld ?_ ?_
           rotate_left
           ·
            rintro w' ⟨s0, s1, s2⟩
            go_simp
            with_reducible rfl
           rotate_left
           ·
            simp only [Act.put, List.setIfInBounds_toArray, List.set_cons_zero, List.set_cons_succ, i64_w, i32_w]
            rfl
           refine take_ (i := 6) (N := some 39) (v := ?_) (a' := ?_) #[true, true, true, false, true, true, true, false, false, false] rfl rfl (take_ofW HT_.out HW_.out (by kernel_rfl)) (fun _ _ _ h => h) (Or.inl ⟨by rfl, ?_⟩) hHeld ?_ ?_
           rotate_left
           ·
            rintro w' ⟨s0, s1, s2⟩
            go_simp
            with_reducible rfl
           rotate_left
           ·
            simp only [Act.put, List.setIfInBounds_toArray, List.set_cons_zero, List.set_cons_succ, i64_w, i32_w]
            rfl
           refine one_ (i := 3) (N := some 36) #[true, true, true, true, true, true, true, false, false, false] rfl rfl (one_of HT_.out (by kernel_rfl)) (by decide) (fun K hK => ?_)
           refine goes_ Try.func123 (by kernel_rfl) rfl #[.pointer (some ⟨gb431, 0, none⟩), .int .i64 t448] (by rfl) rfl rfl (by (try simp only [List.map_toArray, List.map_cons, List.map_nil]); try rfl) ?_
           with_reducible refine (spec_l1Cur_pick.calls gb431 l0 x432001_2 x432002_2 t448 t457 t458 t459 w _ ?side1 ?side2 A30.out).mono ?_
           (case side1 => repeat (first | (with_reducible first | exact HI431.out | apply IsS79.alloc | apply IsS79.drewN | apply IsS79.drew | apply IsS79.set_1 | apply IsS79.set_2 | refine IsS79.far ?_ Nq2.out _ | refine IsS79.far ?_ Nq3.out _) | exact HI431.out))
           (case side2 => repeat (first | (with_reducible first | exact HB.out | apply below_alloc | apply pw_below_drewN | apply below_drew1 | refine below_set ?_ (IsS79.ge HI431.out) | refine below_set ?_ GE430.out | refine below_set ?_ GE453.out) | exact HB.out))
           rintro e w39 ⟨rfl, hi, hb, hk⟩
           refine ⟨_, rfl, ?_⟩
           have n0_ := am (Kd.R_mono (Kd.R_keep (IsS79.apart (show IsS79 w _ gb431 l0 x432001_2 x432002_2 from by repeat (first | (with_reducible first | exact HI431.out | apply IsS79.alloc | apply IsS79.drewN | apply IsS79.drew | apply IsS79.set_1 | apply IsS79.set_2 | refine IsS79.far ?_ Nq2.out _ | refine IsS79.far ?_ Nq3.out _) | exact HI431.out)) (sqr Oq5) (by decide)) hk (fun _ h => h.2)) (fun _ h => h.1))
           have n1_ := am (KeepBut.blk hk (g' := gb430) (o := .cells #[.int .i64 0, .int .i64 0, .slice none 0 0] 34 (0, 0)) (sqb BK430) Nq0.out (by simp))
           have n2_ := am (KeepBut.blk hk (g' := gb453) (o := .cells #[.int .i64 t448, .int .i64 t449, u454002] 34 (0, 0)) (sqb BK453) Nq5.out (by simp))
           have n3_ := am (hb)
           have n4_ := am (hi)
           clear Oq5 BK430 BK453 HB HI431
           have Oq5 := n0_
           have BK430 := n1_
           have BK453 := n2_
           have HB := n3_
           have HI431 := n4_
           clear n0_ n1_ n2_ n3_ n4_
           (try clear hb)
           (try clear hb2)
           (try clear hk)
           (try clear hi)
           refine hK.out _ _ ⟨sqc BK453 0, sqc BK453 1, sqc BK453 2⟩ (fun hHeld => ?_)
           clear hK K
           refine norm_ (a' := ?_) ?_ ?_
           rotate_left
           ·
            show Act.put _ (some 36) _ = _
            simp only [Act.put, List.setIfInBounds_toArray, List.set_cons_zero, List.set_cons_succ, i64_w, i32_w]
            rfl
           refine one_ (i := 7) (N := some 40) #[true, true, true, true, true, true, true, true, false, false] rfl rfl (one_of HT_.out (by kernel_rfl)) (by decide) (fun K hK => ?_)
           refine goes_ Try.func123 (by kernel_rfl) rfl #[.pointer (some ⟨gb431, 0, none⟩), .int .i64 t448] (by rfl) rfl rfl (by (try simp only [List.map_toArray, List.map_cons, List.map_nil]); try rfl) ?_
           with_reducible refine (spec_l1Cur_pick.calls gb431 l0 t458 t459 t448 t460 t461 t462 w _ ?side1 ?side2 A31.out).mono ?_
           (case side1 => repeat (first | (with_reducible first | exact HI431.out | apply IsS79.alloc | apply IsS79.drewN | apply IsS79.drew | apply IsS79.set_1 | apply IsS79.set_2 | refine IsS79.far ?_ Nq2.out _ | refine IsS79.far ?_ Nq3.out _) | exact HI431.out))
           (case side2 => repeat (first | (with_reducible first | exact HB.out | apply below_alloc | apply pw_below_drewN | apply below_drew1 | refine below_set ?_ (IsS79.ge HI431.out) | refine below_set ?_ GE430.out | refine below_set ?_ GE453.out) | exact HB.out))
           rintro e w40 ⟨rfl, hi, hb, hk⟩
           refine ⟨_, rfl, ?_⟩
           have n0_ := am (Kd.R_mono (Kd.R_keep (IsS79.apart (show IsS79 w _ gb431 l0 t458 t459 from by repeat (first | (with_reducible first | exact HI431.out | apply IsS79.alloc | apply IsS79.drewN | apply IsS79.drew | apply IsS79.set_1 | apply IsS79.set_2 | refine IsS79.far ?_ Nq2.out _ | refine IsS79.far ?_ Nq3.out _) | exact HI431.out)) (sqr Oq5) (by decide)) hk (fun _ h => h.2)) (fun _ h => h.1))
           have n1_ := am (KeepBut.blk hk (g' := gb430) (o := .cells #[.int .i64 0, .int .i64 0, .slice none 0 0] 34 (0, 0)) (sqb BK430) Nq0.out (by simp))
           have n2_ := am (KeepBut.blk hk (g' := gb453) (o := .cells #[.int .i64 t448, .int .i64 t449, u454002] 34 (0, 0)) (sqb BK453) Nq5.out (by simp))
           have n3_ := am (hb)
           have n4_ := am (hi)
           clear Oq5 BK430 BK453 HB HI431
           have Oq5 := n0_
           have BK430 := n1_
           have BK453 := n2_
           have HB := n3_
           have HI431 := n4_
           clear n0_ n1_ n2_ n3_ n4_
           (try clear hb)
           (try clear hb2)
           (try clear hk)
           (try clear hi)
           refine hK.out _ _ ⟨sqc BK453 0, sqc BK453 1, sqc BK453 2⟩ (fun hHeld => ?_)
           clear hK K
           refine norm_ (a' := ?_) ?_ ?_
           rotate_left
           ·
            show Act.put _ (some 40) _ = _
            simp only [Act.put, List.setIfInBounds_toArray, List.set_cons_zero, List.set_cons_succ, i64_w, i32_w]
            rfl
           refine pure_ (i := 8) (N := some 7) (v := ?_) (a' := ?_) #[true, true, true, true, true, true, true, true, true, false] rfl rfl (any_of HT_.out (by kernel_rfl)) (fun _ _ _ h => h) (Or.inl ⟨by rfl, ?_⟩) ?_ ?_
           rotate_left
           ·
            intro w'
            go_simp
            with_reducible rfl
           rotate_left
           ·
            simp only [Act.put, List.setIfInBounds_toArray, List.set_cons_zero, List.set_cons_succ, i64_w, i32_w]
            rfl
           refine pure_ (i := 9) (N := some 8) (v := ?_) (a' := ?_) #[true, true, true, true, true, true, true, true, true, true] rfl rfl (any_of HT_.out (by kernel_rfl)) (fun _ _ _ h => h) (Or.inl ⟨by rfl, ?_⟩) ?_ ?_
           rotate_left
           ·
            intro w'
            go_simp
            with_reducible rfl
           rotate_left
           ·
            simp only [Act.put, List.setIfInBounds_toArray, List.set_cons_zero, List.set_cons_succ, i64_w, i32_w]
            rfl
           refine done_ (done_of HT_.out (by kernel_rfl)) ?_
           try go_wp2
           have n0_ := am (Kd.R_drew Oq5.out)
           have n1_ := am (blk_drew BK430.out)
           have n2_ := am (blk_drew BK453.out)
           have n3_ := am (IsS79.drew HI431.out)
           have n4_ := am (below_drew1 HB.out)
           clear Oq5 BK430 BK453 HI431 HB
           have Oq5 := n0_
           have BK430 := n1_
           have BK453 := n2_
           have HI431 := n3_
           have HB := n4_
           clear n0_ n1_ n2_ n3_ n4_
           obtain ⟨Ao42, co42, eo42⟩ := Kd.R_slice Oq5.out
           (first | subst eo42 | (injection eo42 with f1_ f2_ f3_; have f4_ := f1_.symm; have f5_ := f3_.symm; clear f1_ f2_ f3_; subst f4_; subst f5_))
           have p463 : 0 ≤ (t457 : Int) := of_decide_eq_true (by first | (with_reducible assumption) | assumption)
           have q463 : t457 < (x454002_2.length : Int) := of_decide_eq_true (by first | (with_reducible assumption) | assumption)
           obtain ⟨ad463, e463, hx463_0⟩ := Kd.at_int (Kd.R_reads' Oq5.out).2.2 t457 p463 q463
           cases e463
           replace p463 := eq_true p463
           replace q463 := eq_true q463
           have p464 : 0 ≤ (t460 : Int) := of_decide_eq_true (by first | (with_reducible assumption) | assumption)
           have q464 : t460 < (x454002_2.length : Int) := of_decide_eq_true (by first | (with_reducible assumption) | assumption)
           obtain ⟨ad464, e464, hx464_0⟩ := Kd.at_int (Kd.R_reads' Oq5.out).2.2 t460 p464 q464
           obtain rfl : ad463 = ad464 := (by injection e464)
           replace p464 := eq_true p464
           replace q464 := eq_true q464
           refine start_ (n := 12) (S := fun w' => w'.cell? ⟨gb453, 0, none⟩ = some (.int .i64 t448) ∧ w'.cell? ⟨gb453, 1, none⟩ = some (.int .i64 t449) ∧ w'.cell? ⟨gb453, 2, none⟩ = some (.slice (some ad463) x454002_2.length co42) ∧ w'.cell? (ad463.add (t457).toNat) = some (.int .i64 (rd x454002_2 t457)) ∧ w'.cell? (ad463.add (t460).toNat) = some (.int .i64 (rd x454002_2 t460))) (ds := []) #[false, false, false, false, false, false, false, false, false, false, false, false] (by kernel_rfl) rfl rfl ⟨sqc BK453 0, sqc BK453 1, sqc BK453 2, hx463_0, hx464_0⟩ (fun hHeld => ?_); refine with_tabW spec_DrawOrderOf.tab10 spec_DrawOrderOf.bits10 (fun HT_ HW_ => ?_)
           generalize w40.drew = w41 at Oq5 BK430 BK453 HI431 HB hx463_0 hx464_0 hHeld ⊢
           refine pure_ (i := 0) (N := some 41) (v := ?_) (a' := ?_) #[true, false, false, false, false, false, false, false, false, false, false, false] rfl rfl (any_of HT_.out (by kernel_rfl)) (fun _ _ _ h => h) (Or.inl ⟨by rfl, ?_⟩) ?_ ?_
           rotate_left
           ·
            intro w'
            go_simp
            with_reducible rfl
           rotate_left
           ·
            simp only [Act.put, List.setIfInBounds_toArray, List.set_cons_zero, List.set_cons_succ, i64_w, i32_w]
            rfl
           refine pure_ (i := 2) (N := some 43) (v := ?_) (a' := ?_) #[true, false, true, false, false, false, false, false, false, false, false, false] rfl rfl (any_of HT_.out (by kernel_rfl)) (fun _ _ _ h => h) (Or.inl ⟨by rfl, ?_⟩) ?_ ?_
           rotate_left
           ·
            intro w'
            go_simp
            with_reducible rfl
           rotate_left
           ·
            simp only [Act.put, List.setIfInBounds_toArray, List.set_cons_zero, List.set_cons_succ, i64_w, i32_w]
            rfl
           refine pure_ (i := 5) (N := some 46) (v := ?_) (a' := ?_) #[true, false, true, false, false, true, false, false, false, false, false, false] rfl rfl (any_of HT_.out (by kernel_rfl)) (fun _ _ _ h => h) (Or.inl ⟨by rfl, ?_⟩) ?_ ?_
           rotate_left
           ·
            intro w'
            go_simp
            with_reducible rfl
           rotate_left
           ·
            simp only [Act.put, List.setIfInBounds_toArray, List.set_cons_zero, List.set_cons_succ, i64_w, i32_w]
            rfl
           refine pure_ (i := 7) (N := some 48) (v := ?_) (a' := ?_) #[true, false, true, false, false, true, false, true, false, false, false, false] rfl rfl (any_of HT_.out (by kernel_rfl)) (fun _ _ _ h => h) (Or.inl ⟨by rfl, ?_⟩) ?_ ?_
           rotate_left
           ·
            intro w'
            go_simp
            with_reducible rfl
           rotate_left
           ·
            simp only [Act.put, List.setIfInBounds_toArray, List.set_cons_zero, List.set_cons_succ, i64_w, i32_w]
            rfl
           refine take_ (i := 1) (N := some 42) (v := ?_) (a' := ?_) #[true, true, true, false, false, true, false, true, false, false, false, false] rfl rfl (take_ofW HT_.out HW_.out (by kernel_rfl)) (fun _ _ _ h => h) (Or.inl ⟨by rfl, ?_⟩) hHeld ?_ ?_
           rotate_left
           ·
            rintro w' ⟨s0, s1, s2, s3, s4⟩
            go_simp
            with_reducible rfl
           rotate_left
           ·
            simp only [Act.put, List.setIfInBounds_toArray, List.set_cons_zero, List.set_cons_succ, i64_w, i32_w]
            rfl
           refine pure_ (i := 3) (N := some 44) (v := ?_) (a' := ?_) #[true, true, true, true, false, true, false, true, false, false, false, false] rfl rfl (any_of HT_.out (by kernel_rfl)) (fun _ _ _ h => h) (Or.inl ⟨by rfl, ?_⟩) ?_ ?_
           rotate_left
           ·
            intro w'
            go_simp
            with_reducible rfl
           rotate_left
           ·
            simp only [Act.put, List.setIfInBounds_toArray, List.set_cons_zero, List.set_cons_succ, i64_w, i32_w]
            rfl
           refine take_ (i := 4) (N := some 45) (v := ?_) (a' := ?_) #[true, true, true, true, true, true, false, true, false, false, false, false] rfl rfl (take_ofW HT_.out HW_.out (by kernel_rfl)) (fun _ _ _ h => h) (Or.inl ⟨by rfl, ?_⟩) hHeld ?_ ?_
           rotate_left
           ·
            rintro w' ⟨s0, s1, s2, s3, s4⟩
            go_simp
            with_reducible rfl
           rotate_left
           ·
            simp only [Act.put, List.setIfInBounds_toArray, List.set_cons_zero, List.set_cons_succ, i64_w, i32_w]
            rfl
           refine pure_ (i := 10) (N := some 9) (v := ?_) (a' := ?_) #[true, true, true, true, true, true, false, true, false, false, true, false] rfl rfl (any_of HT_.out (by kernel_rfl)) (fun _ _ _ h => h) (Or.inl ⟨by rfl, ?_⟩) ?_ ?_
           rotate_left
           ·
            intro w'
            go_simp
            with_reducible rfl
           rotate_left
           ·
            simp only [Act.put, List.setIfInBounds_toArray, List.set_cons_zero, List.set_cons_succ, i64_w, i32_w]
            rfl
           refine take_ (i := 6) (N := some 47) (v := ?_) (a' := ?_) #[true, true, true, true, true, true, true, true, false, false, true, false] rfl rfl (take_ofW HT_.out HW_.out (by kernel_rfl)) (fun _ _ _ h => h) (Or.inl ⟨by rfl, ?_⟩) hHeld ?_ ?_
           rotate_left
           ·
            rintro w' ⟨s0, s1, s2, s3, s4⟩
            go_simp
            with_reducible rfl
           rotate_left
           ·
            simp only [Act.put, List.setIfInBounds_toArray, List.set_cons_zero, List.set_cons_succ, i64_w, i32_w]
            rfl
           refine pure_ (i := 8) (N := some 49) (v := ?_) (a' := ?_) #[true, true, true, true, true, true, true, true, true, false, true, false] rfl rfl (any_of HT_.out (by kernel_rfl)) (fun _ _ _ h => h) (Or.inl ⟨by rfl, ?_⟩) ?_ ?_
           rotate_left
           ·
            intro w'
            go_simp
            with_reducible rfl
           rotate_left
           ·
            simp only [Act.put, List.setIfInBounds_toArray, List.set_cons_zero, List.set_cons_succ, i64_w, i32_w]
            rfl
           refine take_ (i := 9) (N := some 50) (v := ?_) (a' := ?_) #[true, true, true, true, true, true, true, true, true, true, true, false] rfl rfl (take_ofW HT_.out HW_.out (by kernel_rfl)) (fun _ _ _ h => h) (Or.inl ⟨by rfl, ?_⟩) hHeld ?_ ?_
           rotate_left
           ·
            rintro w' ⟨s0, s1, s2, s3, s4⟩
            go_simp
            with_reducible rfl
           rotate_left
           ·
            simp only [Act.put, List.setIfInBounds_toArray, List.set_cons_zero, List.set_cons_succ, i64_w, i32_w]
            rfl
           refine pure_ (i := 11) (N := some 10) (v := ?_) (a' := ?_) #[true, true, true, true, true, true, true, true, true, true, true, true] rfl rfl (any_of HT_.out (by kernel_rfl)) (fun _ _ _ h => h) (Or.inl ⟨by rfl, ?_⟩) ?_ ?_
           rotate_left
           ·
            intro w'
            go_simp
            with_reducible rfl
           rotate_left
           ·
            simp only [Act.put, List.setIfInBounds_toArray, List.set_cons_zero, List.set_cons_succ, i64_w, i32_w]
            rfl
           refine done_ (done_of HT_.out (by kernel_rfl)) ?_
           have bq3 := Nq4.out
           have cq3 := Nq1.out
           have bq4 := Nq5.out
           have cq4 := Nq3.out
           have zq9 : w41.cell? ⟨gb453, 0, none⟩ = some (.int .i64 t448) := sqc BK453 0
           have zq10 : w41.cell? ⟨gb453, 1, none⟩ = some (.int .i64 t449) := sqc BK453 1
           have zq11 : w41.cell? ⟨gb453, 2, none⟩ = some (.slice (some ad463) x454002_2.length co42) := sqc BK453 2
           have fq9 := blk_frozen BK453.out 0
           have fq10 := blk_frozen BK453.out 1
           have fq11 := blk_frozen BK453.out 2
           have p36 : 0 ≤ (t457 : Int) := of_decide_eq_true (by first | (with_reducible assumption) | assumption)
           have q36 : (t457 : Int) < ((x454002_2.length : Int) : Int) := of_decide_eq_true (by first | (with_reducible assumption) | assumption)
           obtain ⟨go36, co36, eo36, gb36, gl36, cl36, HG36⟩ := Kd.R_form Oq5.out (by omega)
           (first | cases eo36 | (injection eo36 with ea_ en_ ec_; (first | subst ea_ | (injection ea_ with ea_; subst ea_)); subst ec_; clear en_))
           have GB36 := Aside0.mk gb36
           have GG36 := Aside0.mk HG36
           clear gb36 gl36 HG36
           (first | simp only [add_plain] at hx463_0 | skip)
           (first | simp only [add_plain] at hx464_0 | skip)
           obtain ⟨hx36_0, hf36_0⟩ := Kd.R_celln 0 Oq5.out (t457 : Int) p36 q36
           replace p36 := eq_true p36
           replace q36 := eq_true q36
           obtain ⟨hy46_, hz46_⟩ := Kd.R_celln 0 Oq5.out (t457 : Int) (of_decide_eq_true (by first | (with_reducible assumption) | assumption)) (of_decide_eq_true (by first | (with_reducible assumption) | assumption))
           have HP46 := Kd.R_putg Oq5.out (t457 : Int) (rd x454002_2 t460)
           try go_wp2_with (first | ((with_reducible refine gate_store (t := 3) (p := 55) rfl ?_); refine store_event (t := 3) (p := 55) (v := ?vo_w47) (w1 := (w41.setCell ⟨go36, (t457 : Int).toNat, none⟩ (.int .i64 (rd x454002_2 t460)))) ?hg ?ho ?hn ?hr ?_; (case ho => rfl); (case hg => rfl); (case hn => rfl); (case hr => first | (go_simp; done) | (go_simp; rfl)); intro w47 hw; have hg : w41.grownBy w47 (some go36) := (by rw [hw]; exact HP46.2); have hp_ : Kd.R (Kd.int .i64) 3 w47 w.heap.size (fun _ => True) (.slice (some ⟨go36, 0, none⟩) x454002_2.length co42) y465 := (by rw [hw, Ny465.out]; exact HP46.1); clear HP46; have n0_ := am (hp_); have n1_ := am (blk_grown (g := gb430) (o := .cells #[.int .i64 0, .int .i64 0, .slice none 0 0] 34 (0, 0)) (sqb BK430) hg (Kd.R_ne Oq5.out BK430.out (by decide))); have n2_ := am (blk_grown (g := gb453) (o := .cells #[.int .i64 t448, .int .i64 t449, .slice (some ⟨go36, 0, none⟩) x454002_2.length co42] 34 (0, 0)) (sqb BK453) hg (Kd.R_ne Oq5.out BK453.out (by decide))); have n3_ := am (IsS79.grown (by repeat (first | (with_reducible first | exact HI431.out | apply IsS79.alloc | apply IsS79.drewN | apply IsS79.drew | apply IsS79.set_1 | apply IsS79.set_2 | refine IsS79.far ?_ Nq2.out _ | refine IsS79.far ?_ Nq3.out _) | exact HI431.out)) hg (IsS79.own_ne HI431.out Oq5.out (by decide))); have n4_ := am ((by rw [hw]; exact below_set (HB.out) GB36.out : Below w.heap.size w w47)); clear Oq5; clear BK430; clear BK453; clear HI431; clear HB; have Oq5 := n0_; have BK430 := n1_; have BK453 := n2_; have HI431 := n3_; have HB := n4_; clear n0_ n1_ n2_ n3_ n4_; clear hg hw hp_; have zq12 : w47.cell? ⟨gb453, 0, none⟩ = some (.int .i64 t448) := sqc BK453 0; have zq13 : w47.cell? ⟨gb453, 1, none⟩ = some (.int .i64 t449) := sqc BK453 1; have zq14 : w47.cell? ⟨gb453, 2, none⟩ = some (.slice (some ⟨go36, 0, none⟩) x454002_2.length co42) := sqc BK453 2; have fq12 := blk_frozen BK453.out 0; have fq13 := blk_frozen BK453.out 1; have fq14 := blk_frozen BK453.out 2; have p37 : 0 ≤ (t460 : Int) := of_decide_eq_true (by first | (with_reducible assumption) | assumption); have q37 : (t460 : Int) < ((x454002_2.length : Int) : Int) := of_decide_eq_true (by first | (with_reducible assumption) | assumption); obtain ⟨hx37_0, hf37_0⟩ := Kd.R_celln 0 Oq5.out (t460 : Int) p37 q37; replace p37 := eq_true p37; replace q37 := eq_true q37; obtain ⟨hy49_, hz49_⟩ := Kd.R_celln 0 Oq5.out (t460 : Int) (of_decide_eq_true (by first | (with_reducible assumption) | assumption)) (of_decide_eq_true (by first | (with_reducible assumption) | assumption)); have HP49 := Kd.R_putg Oq5.out (t460 : Int) (rd x454002_2 t457)) | ((with_reducible refine gate_store (t := 3) (p := 60) rfl ?_); refine store_event (t := 3) (p := 60) (v := ?vo_w50) (w1 := (w47.setCell ⟨go36, (t460 : Int).toNat, none⟩ (.int .i64 (rd x454002_2 t457)))) ?hg ?ho ?hn ?hr ?_; (case ho => rfl); (case hg => rfl); (case hn => rfl); (case hr => first | (go_simp; done) | (go_simp; rfl)); intro w50 hw; have hg : w47.grownBy w50 (some go36) := (by rw [hw]; exact HP49.2); have hp_ : Kd.R (Kd.int .i64) 3 w50 w.heap.size (fun _ => True) (.slice (some ⟨go36, 0, none⟩) x454002_2.length co42) y466 := (by rw [hw, Ny466.out]; exact HP49.1); clear HP49; have n0_ := am (hp_); have n1_ := am (blk_grown (g := gb430) (o := .cells #[.int .i64 0, .int .i64 0, .slice none 0 0] 34 (0, 0)) (sqb BK430) hg (Kd.R_ne Oq5.out BK430.out (by decide))); have n2_ := am (blk_grown (g := gb453) (o := .cells #[.int .i64 t448, .int .i64 t449, .slice (some ⟨go36, 0, none⟩) x454002_2.length co42] 34 (0, 0)) (sqb BK453) hg (Kd.R_ne Oq5.out BK453.out (by decide))); have n3_ := am (IsS79.grown (by repeat (first | (with_reducible first | exact HI431.out | apply IsS79.alloc | apply IsS79.drewN | apply IsS79.drew | apply IsS79.set_1 | apply IsS79.set_2 | refine IsS79.far ?_ Nq2.out _ | refine IsS79.far ?_ Nq3.out _) | exact HI431.out)) hg (IsS79.own_ne HI431.out Oq5.out (by decide))); have n4_ := am ((by rw [hw]; exact below_set (HB.out) GB36.out : Below w.heap.size w w50)); clear Oq5; clear BK430; clear BK453; clear HI431; clear HB; have Oq5 := n0_; have BK430 := n1_; have BK453 := n2_; have HI431 := n3_; have HB := n4_; clear n0_ n1_ n2_ n3_ n4_; clear hg hw hp_))
           go_roundg k2
           case measure => have := HJ2.out; have := HK2.out; omega
           case rel => exact ⟨(wrap64 (x6_2 - 1)), (t461), (t462), (y466), (.slice (some ⟨go36, 0, none⟩) x454002_2.length co42), (by first | rfl | (simp; done) | (simp [*]; done)), H', ⟨by have := HJ2.out; have := HK2.out; omega⟩, ⟨by (with_reducible repeat (first | apply Kd.R_alloc | apply Kd.R_drewN | apply Kd.R_drew)); exact Oq5.out⟩, ⟨by (with_reducible repeat (first | refine blk_drewN ?_ _ | refine blk_drew ?_ | refine blk_alloc ?_ _)); exact BK430.out⟩, ⟨by (with_reducible repeat (first | refine blk_drewN ?_ _ | refine blk_drew ?_ | refine blk_alloc ?_ _)); exact BK453.out⟩, ⟨by repeat (first | (with_reducible first | exact HI431.out | apply IsS79.alloc | apply IsS79.drewN | apply IsS79.drew | apply IsS79.set_1 | apply IsS79.set_2 | refine IsS79.far ?_ Nq2.out _ | refine IsS79.far ?_ Nq3.out _) | exact HI431.out)⟩, ⟨by repeat (first | (with_reducible first | exact HB.out | apply below_alloc | apply pw_below_drewN | apply below_drew1 | refine below_set ?_ (IsS79.ge HI431.out) | refine below_set ?_ GE430.out | refine below_set ?_ GE453.out) | exact HB.out)⟩⟩
          ·
           rw [if_neg c35] at H
           exact absurd H (by simp)
         ·
          rw [if_neg c34] at H
          exact absurd H (by simp)
        ·
         rw [if_neg c33] at H
         exact absurd H (by simp)
       ·
        rw [if_neg c32] at H
        exact absurd H (by simp)
      ·
       rw [if_neg c29] at H
       have c29b0 : decide (0 < x6_2) = false := decide_eq_false c29
       clear c29
       simp only [Option.some.injEq, Prod.mk.injEq] at H
       obtain ⟨rfl, rfl, rfl⟩ := H
       have bq5 := Nq4.out
       have cq5 := Nq1.out
       have bq6 := Nq5.out
       have cq6 := Nq3.out
       have zq15 : wr.cell? ⟨gb453, 0, none⟩ = some (.int .i64 t448) := sqc BK453 0
       have zq16 : wr.cell? ⟨gb453, 1, none⟩ = some (.int .i64 t449) := sqc BK453 1
       have zq17 : wr.cell? ⟨gb453, 2, none⟩ = some (u454002) := sqc BK453 2
       have fq15 := blk_frozen BK453.out 0
       have fq16 := blk_frozen BK453.out 1
       have fq17 := blk_frozen BK453.out 2
       have bq7 := Nq0.out
       have cq7 := Nq2.out
       have zq18 : wr.cell? ⟨gb430, 0, none⟩ = some (.int .i64 0) := sqc BK430 0
       have zq19 : wr.cell? ⟨gb430, 1, none⟩ = some (.int .i64 0) := sqc BK430 1
       have zq20 : wr.cell? ⟨gb430, 2, none⟩ = some (.slice none 0 0) := sqc BK430 2
       have fq18 := blk_frozen BK430.out 0
       have fq19 := blk_frozen BK430.out 1
       have fq20 := blk_frozen BK430.out 2
       obtain ⟨Ao56, co56, eo56⟩ := Kd.R_slice Oq5.out
       subst eo56
       go_wp2
       refine bodyPost_ret (results_cell_row rfl _ _ gb430 34 #[.int .i64 t448, .int .i64 t449, .slice Ao56 x454002_2.length co56] (0, 0) _ rfl (by (with_reducible repeat (first | refine blk_drewN ?_ _ | refine blk_drew ?_ | refine blk_alloc ?_ _)); refine blk_put (cs := #[.int .i64 t448, .int .i64 t449, .slice none 0 0]) ?_ 2 _ rfl; (with_reducible repeat (first | refine blk_drewN ?_ _ | refine blk_drew ?_ | refine blk_alloc ?_ _)); refine blk_put (cs := #[.int .i64 t448, .int .i64 0, .slice none 0 0]) ?_ 1 _ rfl; (with_reducible repeat (first | refine blk_drewN ?_ _ | refine blk_drew ?_ | refine blk_alloc ?_ _)); refine blk_put (cs := #[.int .i64 0, .int .i64 0, .slice none 0 0]) ?_ 0 _ rfl; (with_reducible repeat (first | refine blk_drewN ?_ _ | refine blk_drew ?_ | refine blk_alloc ?_ _)); exact BK430.out) Try.underlying34 rfl (by kernel_rfl)) rfl ?_
       exact ⟨_, by first | rfl | (simp [errW_none, errW_some] <;> rfl) | (simp [*, errW_none, errW_some] <;> rfl), by (with_reducible repeat (first | apply Kd.R_alloc | apply Kd.R_drewN | apply Kd.R_drew)); exact Kd.R_mono (Kd.R_far (p := ⟨gb430, 2, none⟩) (Kd.R_far (p := ⟨gb430, 1, none⟩) (Kd.R_far (p := ⟨gb430, 0, none⟩) (Kd.R_types Oq5.out BK430.out (by decide)) (fun _ hk => hk.2) (.int .i64 t448)) (fun _ hk => hk.2) (.int .i64 t449)) (fun _ hk => hk.2) (.slice Ao56 x454002_2.length co56)) (fun _ hk => trivial), by repeat (first | (with_reducible first | exact HB.out | apply below_alloc | apply pw_below_drewN | apply below_drew1 | refine below_set ?_ (IsS79.ge HI431.out) | refine below_set ?_ GE430.out | refine below_set ?_ GE453.out) | exact HB.out)⟩

end Go.Proofs.Ytfgfgkpmkfjeiaa.PFnOrderedBoards
