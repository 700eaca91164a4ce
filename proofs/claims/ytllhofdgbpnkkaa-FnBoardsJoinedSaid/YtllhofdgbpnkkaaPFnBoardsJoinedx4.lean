-- Printed for this claim by wip/pp.py over the kit's printer; Lean checks it.
import Derived.Test.YtllhofdgbpnkkaaPFnBoardsJoinedx0
import Derived.Test.YtllhofdgbpnkkaaPFnBoardsJoinedx1
import Derived.Test.YtllhofdgbpnkkaaPFnBoardsJoinedx2
import Derived.Test.YtllhofdgbpnkkaaPFnBoardsJoinedx3
namespace Go.Proofs.Ytllhofdgbpnkkaa.PFnBoardsJoined
open Go.RowKit Go.Proofs.YtllhofdgbpnkkaaW.PrintWords Go.Proofs.YtllhofdgbpnkkaaW.PrintLast Go.Proofs.YtllhofdgbpnkkaaW.PrintMore
attribute [local go_sem] max2_int min2_int max_two min_two max_three min_three max_four min_four   -- for this text's walks alone
set_option linter.unusedVariables false
set_option linter.unusedSimpArgs false

/-! ### spec_l1Cur_fittingBoards: function 53 -/
mutual
def spec_l1Cur_fittingBoards.j0 : Nat → Bool → List Int → Int → Int → Int → Int → List Int → Option (Int × Int × List Int × Int × Int × List Int × Int × Int)
 | 0, _, _, _, _, _, _, _ => none
 | k + 1, x15, x1000, x1001, x1002, x203000, x203001, x203002 => if x15 = true then ((spec_l1Cur_board.f k x1000 x1001 x1002).bind fun bt207 => (some (x203000, x203001, x203002, bt207.1, bt207.2.1, bt207.2.2.1, bt207.2.2.2.1, bt207.2.2.2.2))) else ((spec_l1Cur_boardOf.f k x1000 x1001 x1002 x203000 x203001).bind fun bt214 => ((spec_l1Cur_one.f x1000 bt214.2.2.2.1 bt214.2.2.2.2 3).bind fun bt222 => (if bt222.1 = true then (spec_l1Cur_fittingBoards.l0 k (bt214.2.2.1.length : Int) 0 x1000 bt222.2.1 bt222.2.2 x203000 x203001 x203002 bt214.1 bt214.2.1 bt214.2.2.1) else (some (x203000, x203001, x203002, bt214.1, bt214.2.1, bt214.2.2.1, bt222.2.1, bt222.2.2)))))
def spec_l1Cur_fittingBoards.l0 : Nat → Int → Int → List Int → Int → Int → Int → Int → List Int → Int → Int → List Int → Option (Int × Int × List Int × Int × Int × List Int × Int × Int)
 | 0, _, _, _, _, _, _, _, _, _, _, _ => none
 | k + 1, x29, x30, x1000, x1001, x1002, x203000, x203001, x203002, x222000, x222001, x222002 => if x30 < x29 then (if 0 ≤ x30 then (if x30 < (x222002.length : Int) then (if x30 < (x203002.length : Int) then (spec_l1Cur_fittingBoards.l0 k x29 (wrap64 (x30 + 1)) x1000 x1001 x1002 x203000 x203001 x203002 x222000 x222001 (x222002.set (x30 : Int).toNat (Go.bits .or .i64 (rd x222002 x30) (rd x203002 x30)))) else (none)) else (none)) else (none)) else (some (x203000, x203001, x203002, x222000, x222001, x222002, x1001, x1002))
end
def spec_l1Cur_fittingBoards.f (k : Nat) (s0_0 : List Int) (s0_1 : Int) (s0_2 : Int) : Option (Int × Int × List Int × Int × Int × List Int × Int × Int) := (spec_l1Cur_board.f k s0_0 s0_1 s0_2).bind fun bt195 => ((spec_boGood.f k bt195.1 bt195.2.1 bt195.2.2.1).bind fun t203 => (if t203 = true then ((spec_l1Cur_one.f s0_0 bt195.2.2.2.1 bt195.2.2.2.2 6).bind fun bt204 => (spec_l1Cur_fittingBoards.j0 k bt204.1 s0_0 bt204.2.1 bt204.2.2 bt195.1 bt195.2.1 bt195.2.2.1)) else (spec_l1Cur_fittingBoards.j0 k true s0_0 bt195.2.2.2.1 bt195.2.2.2.2 bt195.1 bt195.2.1 bt195.2.2.1)))
def spec_l1Cur_fittingBoards.T9 : Bool × List (List Nat × List Nat) := (true, [([], []), ([0], [0]), ([], []), ([1, 2], [1, 2]), ([3], [3]), ([], []), ([5], [5]), ([], []), ([6, 7], [6, 7]), ([8], [8]), ([4, 9], [4, 9]), ([1, 2, 0, 1, 2, 3, 4, 5, 6, 7, 8, 9, 10], [1, 2]), ([11, 10, 0, 1, 2, 3, 4, 5, 6, 7, 8, 9, 10], [10, 11])])
def spec_l1Cur_fittingBoards.B9 : List Nat := [0, 1, 0, 7, 15, 0, 32, 0, 224, 480, 1023, 2047, 4095]
theorem spec_l1Cur_fittingBoards.tab9 : rtab .any (opsOf Try.f53 9) = spec_l1Cur_fittingBoards.T9 := by kernel_rfl
theorem spec_l1Cur_fittingBoards.bits9 : waitsOk spec_l1Cur_fittingBoards.T9.2 spec_l1Cur_fittingBoards.B9 = true := by kernel_rfl
set_option maxHeartbeats 8000000 in
set_option maxRecDepth 100000 in
theorem spec_l1Cur_fittingBoards.calls (k : Nat) (g : Nat) (s0_0 : List Int) (s0_1 : Int) (s0_2 : Int) (r1 : Int) (r2 : Int) (r3 : List Int) (r4 : Int) (r5 : Int) (r6 : List Int) (r7 : Int) (r8 : Int) (w0 w : World) (hI : IsS66 w0 w g s0_0 s0_1 s0_2) (hB : Below w0.heap.size w0 w) (h : spec_l1Cur_fittingBoards.f k s0_0 s0_1 s0_2 = some (r1, r2, r3, r4, r5, r6, r7, r8)) :
  Calls Try.prog 53 #[.pointer (some ⟨g, 0, none⟩)] w fun e w' => ∃ v2_ v5_ : Value, e = .returned (.tuple #[.agg #[.int .i64 r1, .int .i64 r2, v2_], .agg #[.int .i64 r4, .int .i64 r5, v5_]]) ∧ Kd.R (Kd.int .i64) 3 w' w.heap.size (fun k_ => some k_ ≠ (v5_ : Value).ownBlock) v2_ r3 ∧ Kd.R (Kd.int .i64) 3 w' w.heap.size (fun k_ => some k_ ≠ (v2_ : Value).ownBlock) v5_ r6 ∧ IsS66 w0 w' g s0_0 r7 r8 ∧ Below w0.heap.size w0 w' ∧ KeepBut w w' g none := by
 have hu26 := Try.underlying26
 have HI0 := Aside0.mk hI
 have HK := am (KeepBut.refl w g none)
 have HL := Aside0.mk hB.size
 clear hI
 have HW0 := Aside0.mk hB.size
 have HB := Aside0.mk hB
 clear hB
 have H : ((spec_l1Cur_board.f k s0_0 s0_1 s0_2).bind fun bt195 => ((spec_boGood.f k bt195.1 bt195.2.1 bt195.2.2.1).bind fun t203 => (if t203 = true then ((spec_l1Cur_one.f s0_0 bt195.2.2.2.1 bt195.2.2.2.2 6).bind fun bt204 => (spec_l1Cur_fittingBoards.j0 k bt204.1 s0_0 bt204.2.1 bt204.2.2 bt195.1 bt195.2.1 bt195.2.2.1)) else (spec_l1Cur_fittingBoards.j0 k true s0_0 bt195.2.2.2.1 bt195.2.2.2.2 bt195.1 bt195.2.1 bt195.2.2.1)))) = some (r1, r2, r3, r4, r5, r6, r7, r8) := h
 clear h
 replace H := qE H
 obtain ⟨⟨t195, t196, t197, t200, t201⟩, A2, H⟩ := H
 replace H : ((spec_boGood.f k t195 t196 t197).bind fun t203 => (if t203 = true then ((spec_l1Cur_one.f s0_0 t200 t201 6).bind fun bt204 => (spec_l1Cur_fittingBoards.j0 k bt204.1 s0_0 bt204.2.1 bt204.2.2 t195 t196 t197)) else (spec_l1Cur_fittingBoards.j0 k true s0_0 t200 t201 t195 t196 t197))) = some (r1, r2, r3, r4, r5, r6, r7, r8) := H
 have HC3 := Aside0.mk H
 clear H
 go_enter Try.func53, Try.ntmps53
 go_upto_region 2 with (first | ((with_reducible refine gate_dst (N := 2) rfl ?_); refine qv 2 #[.int .i64 0, .int .i64 0, .slice none 0 0] 26 ?_; intro gb193 hg w4 hbox hb; have BK193 := am hbox; have GW193 := qx hg; have GE193 := qy HW0 (qx hg); have Nq0 := qo hg g; have Nq4 := qO hg g; replace HK := qU hb; replace HB := qt hb; replace HI0 := qj hb; clear hb hbox hg) | ((with_reducible refine gate_dst (N := 3) rfl ?_); refine qv 3 #[.int .i64 0, .int .i64 0, .slice none 0 0] 26 ?_; intro gb194 hg w5 hbox hb; have BK194 := am hbox; have GW194 := qx hg; have GE194 := qy HW0 (qx hg); have Nq5 := qn hg BK193; have Nq9 := qN hg BK193; have Nq1 := qo hg g; have Nq8 := qO hg g; replace BK193 := sqB BK193 hb; replace HK := qU hb; replace HB := qt hb; replace HI0 := qj hb; clear hb hbox hg) | ((with_reducible refine gate_callee (f := 62) rfl ?_); refine qg (some 8) Try.func62 #[.pointer (some ⟨g, 0, none⟩)] ?_; (with_reducible refine (spec_l1Cur_board.calls k g s0_0 s0_1 s0_2 t195 t196 t197 t200 t201 w0 _ ?side1 ?side2 A2.out).mono ?_); (case side1 => exact qi); (case side2 => exact qc); rintro e w6 ⟨v198, rfl, ho0, hi, hb, hk⟩; refine ⟨_, rfl, ?_⟩; have Oq0 := qm ho0; replace BK193 := qK BK193 hk Nq4; replace BK194 := qK BK194 hk Nq8; replace HK := qT hk; replace HB := am hb; replace HI0 := am hi; (try clear hb hk hi ho0)) | ((with_reducible refine gate_dst (N := 4) rfl ?_); refine qv 4 #[.int .i64 0, .int .i64 0, .slice none 0 0] 26 ?_; intro gb202 hg w7 hbox hb; have BK202 := am hbox; have GW202 := qx hg; have GE202 := qy HW0 (qx hg); have Nq6 := qn hg BK193; have Nq13 := qN hg BK193; have Nq10 := qn hg BK194; have Nq14 := qN hg BK194; have Nq2 := qo hg g; have Nq12 := qO hg g; replace Oq0 := sqR Oq0 hb; replace BK193 := sqB BK193 hb; replace BK194 := sqB BK194 hb; replace HK := qU hb; replace HB := qt hb; replace HI0 := qj hb; clear hb hbox hg; have bq18 := Nq13.out; have cq18 := Nq6.out; have bq22 := Nq14.out; have cq22 := Nq10.out; have bq0 := Nq12.out; have cq0 := Nq2.out; obtain ⟨zq0, zq1, zq2, fq0, fq1, fq2⟩ := qd BK202; obtain ⟨Ao12, co12, eo12⟩ := Kd.R_slice Oq0.out; subst eo12))
 (try simp only [Act.put, List.setIfInBounds_toArray, List.set_cons_zero, List.set_cons_succ])
 go_cut [15] (fun v15 wc => ∃ (kq : Nat) (x15_2 : Bool) (x1001_2 : Int) (x1002_2 : Int), v15 = .bool x15_2 ∧ Aside0 (spec_l1Cur_fittingBoards.j0 kq x15_2 s0_0 x1001_2 x1002_2 t195 t196 t197 = some (r1, r2, r3, r4, r5, r6, r7, r8)) ∧ Aside0 (kq ≤ k) ∧ Aside0 (Kd.R (Kd.int .i64) 3 wc w.heap.size (fun _ => True) (.slice Ao12 t197.length co12) t197) ∧ Aside0 (wc.heap[gb193]? = some (.cells #[.int .i64 0, .int .i64 0, (.slice none 0 0)] 26 (0, 0))) ∧ Aside0 (wc.heap[gb194]? = some (.cells #[.int .i64 0, .int .i64 0, (.slice none 0 0)] 26 (0, 0))) ∧ Aside0 (wc.heap[gb202]? = some (.cells #[.int .i64 t195, .int .i64 t196, (.slice Ao12 t197.length co12)] 26 (0, 0))) ∧ Aside0 (IsS66 w0 wc g s0_0 x1001_2 x1002_2) ∧ Aside0 (KeepBut w wc g none) ∧ Aside0 (Below w0.heap.size w0 wc))
 case first =>
  have H := HC3.out
  clear HC3
  replace H := qE H
  obtain ⟨t203, A13, H⟩ := H
  replace H : (if t203 = true then ((spec_l1Cur_one.f s0_0 t200 t201 6).bind fun bt204 => (spec_l1Cur_fittingBoards.j0 k bt204.1 s0_0 bt204.2.1 bt204.2.2 t195 t196 t197)) else (spec_l1Cur_fittingBoards.j0 k true s0_0 t200 t201 t195 t196 t197)) = some (r1, r2, r3, r4, r5, r6, r7, r8) := H
  by_cases c14 : t203 = true
  ·
   subst c14
   have H1 : ((spec_l1Cur_one.f s0_0 t200 t201 6).bind fun bt204 => (spec_l1Cur_fittingBoards.j0 k bt204.1 s0_0 bt204.2.1 bt204.2.2 t195 t196 t197)) = some (r1, r2, r3, r4, r5, r6, r7, r8) := by first | (rw [if_pos rfl] at H; exact H) | rfl
   clear H
   have H := H1
   clear H1
   replace H := qE H
   obtain ⟨⟨t204, t205, t206⟩, A15, H⟩ := H
   replace H : (spec_l1Cur_fittingBoards.j0 k t204 s0_0 t205 t206 t195 t196 t197) = some (r1, r2, r3, r4, r5, r6, r7, r8) := H
   have H' := Aside0.mk H
   clear H
   have bq1 := Nq13.out
   have cq1 := Nq6.out
   have bq2 := Nq14.out
   have cq2 := Nq10.out
   have bq3 := Nq12.out
   have cq3 := Nq2.out
   obtain ⟨zq3, zq4, zq5, fq3, fq4, fq5⟩ := qd BK202
   go_wp2_with (first | ((with_reducible refine gate_callee (f := 60) rfl ?_); refine qg (some 10) Try.func60 #[.agg #[.int .i64 t195, .int .i64 t196, .slice Ao12 t197.length co12]] ?_; (with_reducible refine (spec_boGood.calls k t195 t196 _ _ t197 true _ ?side1 ?side2 A13.out).mono ?_); (case side1 => refine (Kd.R_reads' (e := 3) (base := w.heap.size) (ok := fun k_ => True) (n := t197.length) (c := co12) ?_).2.2; exact (sqw (sqo Oq0 BK202))); (case side2 => exact Q54); rintro e w20 ⟨rfl, hb⟩; refine ⟨_, rfl, ?_⟩; replace Oq0 := am (Kd.R_below (sqw (sqo Oq0 BK202)) hb); replace BK193 := sqBf BK193 Nq6 (.int .i64 t195) (.int .i64 t196) (.slice Ao12 t197.length co12) hb; replace BK194 := sqBf BK194 Nq10 (.int .i64 t195) (.int .i64 t196) (.slice Ao12 t197.length co12) hb; replace BK202 := sqBp BK202 (.int .i64 t195) (.int .i64 t196) (.slice Ao12 t197.length co12) hb; replace HK := qU hb; replace HB := qt hb; replace HI0 := am (IsS66.below (show IsS66 w0 (((w7.setCell ⟨gb202, 0, none⟩ (.int .i64 t195)).setCell ⟨gb202, 1, none⟩ (.int .i64 t196)).setCell ⟨gb202, 2, none⟩ (.slice Ao12 t197.length co12)) g s0_0 t200 t201 from by repeat (first | (with_reducible first | exact HI0.out | apply IsS66.alloc | apply IsS66.drewN | apply IsS66.drew | apply IsS66.set_1 | apply IsS66.set_2 | refine IsS66.far ?_ Nq0.out _ | refine IsS66.far ?_ Nq1.out _ | refine IsS66.far ?_ Nq2.out _) | exact HI0.out)) hb); (try clear hb)) | (go_at_call 72; (with_reducible refine (spec_l1Cur_one.calls g s0_0 t200 t201 6 t204 t205 t206 w0 _ ?side1 ?side2 A15.out).mono ?_); (case side1 => exact qi); (case side2 => exact qc); rintro e w21 ⟨rfl, hi, hb, hk⟩; replace BK193 := qK BK193 hk Nq4; replace BK194 := qK BK194 hk Nq8; replace Oq0 := qR Oq0 hk; replace BK202 := qK BK202 hk Nq12; replace HK := qT hk; replace HB := am hb; replace HI0 := am hi; (try clear hb hk hi)))
   go_meet
   case rel => exact ⟨_, (t204), (t205), (t206), Q3, H', ⟨Q25⟩, ⟨by (with_reducible repeat (first | apply Kd.R_alloc | apply Kd.R_drewN | apply Kd.R_drew)); exact Oq0.out⟩, ⟨Q43⟩, ⟨Q44⟩, ⟨Q45⟩, ⟨qi⟩, ⟨qk⟩, ⟨qc⟩⟩
  ·
   replace c14 := Bool.eq_false_iff.mpr c14
   subst c14
   have H1 : (spec_l1Cur_fittingBoards.j0 k true s0_0 t200 t201 t195 t196 t197) = some (r1, r2, r3, r4, r5, r6, r7, r8) := by first | (rw [if_neg (show ¬ (false = true) by decide)] at H; exact H) | rfl
   clear H
   have H := H1
   clear H1
   have H' := Aside0.mk H
   clear H
   have bq4 := Nq13.out
   have cq4 := Nq6.out
   have bq5 := Nq14.out
   have cq5 := Nq10.out
   have bq6 := Nq12.out
   have cq6 := Nq2.out
   obtain ⟨zq6, zq7, zq8, fq6, fq7, fq8⟩ := qd BK202
   go_wp2_with (first | ((with_reducible refine gate_callee (f := 60) rfl ?_); refine qg (some 10) Try.func60 #[.agg #[.int .i64 t195, .int .i64 t196, .slice Ao12 t197.length co12]] ?_; (with_reducible refine (spec_boGood.calls k t195 t196 _ _ t197 false _ ?side1 ?side2 A13.out).mono ?_); (case side1 => refine (Kd.R_reads' (e := 3) (base := w.heap.size) (ok := fun k_ => True) (n := t197.length) (c := co12) ?_).2.2; exact (sqw (sqo Oq0 BK202))); (case side2 => exact Q54); rintro e w26 ⟨rfl, hb⟩; refine ⟨_, rfl, ?_⟩; replace Oq0 := am (Kd.R_below (sqw (sqo Oq0 BK202)) hb); replace BK193 := sqBf BK193 Nq6 (.int .i64 t195) (.int .i64 t196) (.slice Ao12 t197.length co12) hb; replace BK194 := sqBf BK194 Nq10 (.int .i64 t195) (.int .i64 t196) (.slice Ao12 t197.length co12) hb; replace BK202 := sqBp BK202 (.int .i64 t195) (.int .i64 t196) (.slice Ao12 t197.length co12) hb; replace HK := qU hb; replace HB := qt hb; replace HI0 := am (IsS66.below (show IsS66 w0 (((w7.setCell ⟨gb202, 0, none⟩ (.int .i64 t195)).setCell ⟨gb202, 1, none⟩ (.int .i64 t196)).setCell ⟨gb202, 2, none⟩ (.slice Ao12 t197.length co12)) g s0_0 t200 t201 from by repeat (first | (with_reducible first | exact HI0.out | apply IsS66.alloc | apply IsS66.drewN | apply IsS66.drew | apply IsS66.set_1 | apply IsS66.set_2 | refine IsS66.far ?_ Nq0.out _ | refine IsS66.far ?_ Nq1.out _ | refine IsS66.far ?_ Nq2.out _) | exact HI0.out)) hb); (try clear hb)))
   go_meet
   case rel => exact ⟨_, (true), (t200), (t201), Q3, H', ⟨Q25⟩, ⟨by (with_reducible repeat (first | apply Kd.R_alloc | apply Kd.R_drewN | apply Kd.R_drew)); exact Oq0.out⟩, ⟨Q43⟩, ⟨Q44⟩, ⟨Q45⟩, ⟨qi⟩, ⟨qk⟩, ⟨qc⟩⟩
 case rest =>
  clear HC3
  try clear c14; try clear zq0; try clear zq1; try clear zq2; try clear zq3; try clear zq4; try clear zq5; try clear zq6; try clear zq7; try clear zq8; try clear fq0; try clear fq1; try clear fq2; try clear fq3; try clear fq4; try clear fq5; try clear fq6; try clear fq7; try clear fq8
  obtain ⟨kq, x15_2, x1001_2, x1002_2, rfl, HA, HJ2, Oq3, BK193, BK194, BK202, HI0, HK, HB⟩ := hcut
  cases kq with
  | zero => exact absurd HA.out (by simp [spec_l1Cur_fittingBoards.j0])
  | succ kj2 =>
   have H := HA.out
   clear HA
   simp only [spec_l1Cur_fittingBoards.j0] at H
   by_cases c27 : x15_2 = true
   ·
    subst c27
    have H1 : ((spec_l1Cur_board.f kj2 s0_0 x1001_2 x1002_2).bind fun bt207 => (some (t195, t196, t197, bt207.1, bt207.2.1, bt207.2.2.1, bt207.2.2.2.1, bt207.2.2.2.2))) = some (r1, r2, r3, r4, r5, r6, r7, r8) := by first | (rw [if_pos rfl] at H; exact H) | rfl
    clear H
    have H := H1
    clear H1
    replace H := qE H
    obtain ⟨⟨t207, t208, t209, t212, t213⟩, A28, H⟩ := H
    replace H : (some (t195, t196, t197, t207, t208, t209, t212, t213)) = some (r1, r2, r3, r4, r5, r6, r7, r8) := H
    simp only [Option.some.injEq, Prod.mk.injEq] at H
    obtain ⟨rfl, rfl, rfl, rfl, rfl, rfl, rfl, rfl⟩ := H
    try go_wp2
    replace Oq3 := am (Kd.R_drew Oq3.out)
    replace BK193 := am (blk_drew BK193.out)
    replace BK194 := am (blk_drew BK194.out)
    replace BK202 := am (blk_drew BK202.out)
    replace HI0 := am (IsS66.drew HI0.out)
    replace HK := am (keep_drew HK.out)
    replace HB := am (below_drew1 HB.out)
    refine start_ (n := 5) (S := fun w' => w'.cell? ⟨gb202, 0, none⟩ = some (.int .i64 t195) ∧ w'.cell? ⟨gb202, 1, none⟩ = some (.int .i64 t196) ∧ w'.cell? ⟨gb202, 2, none⟩ = some (.slice Ao12 t197.length co12)) (ds := []) #[false, false, false, false, false] (by kernel_rfl) rfl rfl ⟨sqc BK202 0, sqc BK202 1, sqc BK202 2⟩ (fun hHeld => ?_)
    generalize wc.drew = w29 at Oq3 BK193 BK194 BK202 HI0 HK HB hHeld ⊢
    refine pure_ (i := 1) (N := some 17) (v := ?_) (a' := ?_) #[false, true, false, false, false] rfl rfl (by kernel_rfl) (fun _ _ _ h => h) (Or.inl ⟨by rfl, ?_⟩) ?_ ?_
    rotate_left
    ·
     intro w'
     go_simp
     with_reducible rfl
    rotate_left
    ·
     simp only [Act.put, List.setIfInBounds_toArray, List.set_cons_zero, List.set_cons_succ, i64_w, i32_w]
     rfl
    refine take_ (i := 0) (N := some 16) (v := ?_) (a' := ?_) #[true, true, false, false, false] rfl rfl (by kernel_rfl) (fun _ _ _ h => h) (Or.inl ⟨by rfl, ?_⟩) hHeld ?_ ?_
    rotate_left
    ·
     rintro w' ⟨s0, s1, s2⟩
     go_simp
     with_reducible rfl
    rotate_left
    ·
     simp only [Act.put, List.setIfInBounds_toArray, List.set_cons_zero, List.set_cons_succ, i64_w, i32_w]
     rfl
    refine one_ (i := 2) (N := some 18) #[true, true, true, false, false] rfl rfl (by kernel_rfl) (by decide) (fun K hK => ?_)
    refine qG Try.func62 #[.pointer (some ⟨g, 0, none⟩)] ?_
    with_reducible refine (spec_l1Cur_board.calls kj2 g s0_0 x1001_2 x1002_2 t207 t208 t209 t212 t213 w0 _ ?side1 ?side2 A28.out).mono ?_
    (case side1 => exact qi)
    (case side2 => exact qc)
    rintro e w30 ⟨v210, rfl, ho0, hi, hb, hk⟩
    refine ⟨_, rfl, ?_⟩
    have Oq1 := am (Kd.R_lower (Kd.R_new' ho0 (sqL Oq3)) (qz w g))
    replace Oq3 := am (Kd.R_mono (Kd.R_told (Kd.R_oldK (IsS66.apart (show IsS66 w0 _ g s0_0 x1001_2 x1002_2 from qi) (sqr Oq3) (by decide)) hk) (Kd.R_base ho0)) (fun _ h_ => h_.1))
    replace BK193 := qK BK193 hk Nq4
    replace BK194 := qK BK194 hk Nq8
    replace BK202 := qK BK202 hk Nq12
    replace HK := qT hk
    replace HB := am hb
    replace HI0 := am hi
    (try clear hb hk hi ho0)
    obtain ⟨Ao36, co36, eo36⟩ := Kd.R_slice Oq1.out
    (first | subst eo36 | (injection eo36 with f1_ f2_ f3_; have f4_ := f1_.symm; have f5_ := f3_.symm; clear f1_ f2_ f3_; subst f4_; subst f5_))
    refine hK.out _ _ ⟨sqc BK202 0, sqc BK202 1, sqc BK202 2⟩ (fun hHeld => ?_)
    clear hK K
    refine qq (some 18) ?_
    refine one_ (i := 3) (N := none) #[true, true, true, true, false] rfl rfl (by kernel_rfl) (by decide) (fun K hK => ?_)
    have hs31 : w30.cell? ⟨gb193, 0, none⟩ = some (.int .i64 0) := sqc BK193 0
    have hfs31 := blk_frozen BK193.out 0
    have hq0 := Nq9.out
    have hq1 := Nq13.out
    have hms31_1 := Nq5.out
    have hms31_2 := Nq6.out
    have hs32 : w30.cell? ⟨gb193, 1, none⟩ = some (.int .i64 0) := sqc BK193 1
    have hfs32 := blk_frozen BK193.out 1
    have hq2 := Nq9.out
    have hq3 := Nq13.out
    have hms32_1 := Nq5.out
    have hms32_2 := Nq6.out
    have hs33 : w30.cell? ⟨gb193, 2, none⟩ = some (.slice none 0 0) := sqc BK193 2
    have hfs33 := blk_frozen BK193.out 2
    have hq4 := Nq9.out
    have hq5 := Nq13.out
    have hms33_1 := Nq5.out
    have hms33_2 := Nq6.out
    refine skip_ (w1 := ?_) (by rfl) rfl ?_ ?_
    rotate_left
    ·
     go_simp
     rfl
    refine hK.out _ _ ⟨((cell_far (p := ⟨gb193, _, none⟩) Nq13.out _).trans (((cell_far (p := ⟨gb193, _, none⟩) Nq13.out _).trans (((cell_far (p := ⟨gb193, _, none⟩) Nq13.out _).trans (hHeld.1)))))), ((cell_far (p := ⟨gb193, _, none⟩) Nq13.out _).trans (((cell_far (p := ⟨gb193, _, none⟩) Nq13.out _).trans (((cell_far (p := ⟨gb193, _, none⟩) Nq13.out _).trans (hHeld.2.1)))))), ((cell_far (p := ⟨gb193, _, none⟩) Nq13.out _).trans (((cell_far (p := ⟨gb193, _, none⟩) Nq13.out _).trans (((cell_far (p := ⟨gb193, _, none⟩) Nq13.out _).trans (hHeld.2.2))))))⟩ (fun hHeld => ?_)
    clear hK K
    refine one_ (i := 4) (N := none) #[true, true, true, true, true] rfl rfl (by kernel_rfl) (by decide) (fun K hK => ?_)
    have hs34 : w30.cell? ⟨gb194, 0, none⟩ = some (.int .i64 0) := sqc BK194 0
    have hfs34 := blk_frozen BK194.out 0
    have hq6 := Nq5.out
    have hq7 := Nq14.out
    have hms34_0 := Nq9.out
    have hms34_2 := Nq10.out
    have hs35 : w30.cell? ⟨gb194, 1, none⟩ = some (.int .i64 0) := sqc BK194 1
    have hfs35 := blk_frozen BK194.out 1
    have hq8 := Nq5.out
    have hq9 := Nq14.out
    have hms35_0 := Nq9.out
    have hms35_2 := Nq10.out
    have hs37 : w30.cell? ⟨gb194, 2, none⟩ = some (.slice none 0 0) := sqc BK194 2
    have hfs37 := blk_frozen BK194.out 2
    have hq10 := Nq5.out
    have hq11 := Nq14.out
    have hms37_0 := Nq9.out
    have hms37_2 := Nq10.out
    refine skip_ (w1 := ?_) (by rfl) rfl ?_ ?_
    rotate_left
    ·
     go_simp
     rfl
    refine hK.out _ _ ⟨((cell_far (p := ⟨gb194, _, none⟩) Nq14.out _).trans (((cell_far (p := ⟨gb194, _, none⟩) Nq14.out _).trans (((cell_far (p := ⟨gb194, _, none⟩) Nq14.out _).trans (hHeld.1)))))), ((cell_far (p := ⟨gb194, _, none⟩) Nq14.out _).trans (((cell_far (p := ⟨gb194, _, none⟩) Nq14.out _).trans (((cell_far (p := ⟨gb194, _, none⟩) Nq14.out _).trans (hHeld.2.1)))))), ((cell_far (p := ⟨gb194, _, none⟩) Nq14.out _).trans (((cell_far (p := ⟨gb194, _, none⟩) Nq14.out _).trans (((cell_far (p := ⟨gb194, _, none⟩) Nq14.out _).trans (hHeld.2.2))))))⟩ (fun hHeld => ?_)
    clear hK K
    refine done_ (by kernel_rfl) ?_
    try go_wp2
    refine bodyPost_ret (results_cc rfl _ _ gb193 gb194 26 26 #[.int .i64 t195, .int .i64 t196, .slice Ao12 t197.length co12] #[.int .i64 t207, .int .i64 t208, .slice Ao36 t209.length co36] (0, 0) (0, 0) _ _ rfl Q5 Try.underlying26 rfl (by kernel_rfl) rfl (by (with_reducible repeat (first | refine blk_drewN ?_ _ | refine blk_drew ?_ | refine blk_alloc ?_ _)); refine blk_put (cs := #[.int .i64 t207, .int .i64 t208, .slice none 0 0]) ?_ 2 _ rfl; (with_reducible repeat (first | refine blk_drewN ?_ _ | refine blk_drew ?_ | refine blk_alloc ?_ _)); refine blk_put (cs := #[.int .i64 t207, .int .i64 0, .slice none 0 0]) ?_ 1 _ rfl; (with_reducible repeat (first | refine blk_drewN ?_ _ | refine blk_drew ?_ | refine blk_alloc ?_ _)); refine blk_put (cs := #[.int .i64 0, .int .i64 0, .slice none 0 0]) ?_ 0 _ rfl; (with_reducible repeat (first | refine blk_drewN ?_ _ | refine blk_drew ?_ | refine blk_alloc ?_ _)); refine blk_far ?_ Nq9.out _; (with_reducible repeat (first | refine blk_drewN ?_ _ | refine blk_drew ?_ | refine blk_alloc ?_ _)); refine blk_far ?_ Nq9.out _; (with_reducible repeat (first | refine blk_drewN ?_ _ | refine blk_drew ?_ | refine blk_alloc ?_ _)); refine blk_far ?_ Nq9.out _; (with_reducible repeat (first | refine blk_drewN ?_ _ | refine blk_drew ?_ | refine blk_alloc ?_ _)); exact BK194.out) Try.underlying26 rfl (by kernel_rfl)) rfl ?_
    exact ⟨_, _, Q1, by (with_reducible repeat (first | apply Kd.R_alloc | apply Kd.R_drewN | apply Kd.R_drew)); exact Kd.R_mono (Kd.R_far (p := ⟨gb194, 2, none⟩) (Kd.R_far (p := ⟨gb194, 1, none⟩) (Kd.R_far (p := ⟨gb194, 0, none⟩) (Kd.R_far (p := ⟨gb193, 2, none⟩) (Kd.R_far (p := ⟨gb193, 1, none⟩) (Kd.R_far (p := ⟨gb193, 0, none⟩) (Kd.R_types (Kd.R_types Oq3.out BK193.out (by decide)) BK194.out (by decide)) (fun _ hk => hk.1.2) (.int .i64 t195)) (fun _ hk => hk.1.2) (.int .i64 t196)) (fun _ hk => hk.1.2) (.slice Ao12 t197.length co12)) (fun _ hk => hk.2) (.int .i64 t207)) (fun _ hk => hk.2) (.int .i64 t208)) (fun _ hk => hk.2) (.slice Ao36 t209.length co36)) (fun _ hk => hk.1.1.2), by (with_reducible repeat (first | apply Kd.R_alloc | apply Kd.R_drewN | apply Kd.R_drew)); exact Kd.R_mono (Kd.R_far (p := ⟨gb194, 2, none⟩) (Kd.R_far (p := ⟨gb194, 1, none⟩) (Kd.R_far (p := ⟨gb194, 0, none⟩) (Kd.R_far (p := ⟨gb193, 2, none⟩) (Kd.R_far (p := ⟨gb193, 1, none⟩) (Kd.R_far (p := ⟨gb193, 0, none⟩) (Kd.R_types (Kd.R_types Oq1.out BK193.out (by decide)) BK194.out (by decide)) (fun _ hk => hk.1.2) (.int .i64 t195)) (fun _ hk => hk.1.2) (.int .i64 t196)) (fun _ hk => hk.1.2) (.slice Ao12 t197.length co12)) (fun _ hk => hk.2) (.int .i64 t207)) (fun _ hk => hk.2) (.int .i64 t208)) (fun _ hk => hk.2) (.slice Ao36 t209.length co36)) (fun _ hk => hk.1.1.2), qi, qc, qk⟩
   ·
    replace c27 := Bool.eq_false_iff.mpr c27
    subst c27
    have H1 : ((spec_l1Cur_boardOf.f kj2 s0_0 x1001_2 x1002_2 t195 t196).bind fun bt214 => ((spec_l1Cur_one.f s0_0 bt214.2.2.2.1 bt214.2.2.2.2 3).bind fun bt222 => (if bt222.1 = true then (spec_l1Cur_fittingBoards.l0 kj2 (bt214.2.2.1.length : Int) 0 s0_0 bt222.2.1 bt222.2.2 t195 t196 t197 bt214.1 bt214.2.1 bt214.2.2.1) else (some (t195, t196, t197, bt214.1, bt214.2.1, bt214.2.2.1, bt222.2.1, bt222.2.2))))) = some (r1, r2, r3, r4, r5, r6, r7, r8) := by first | (rw [if_neg (show ¬ (false = true) by decide)] at H; exact H) | rfl
    clear H
    have H := H1
    clear H1
    replace H := qE H
    obtain ⟨⟨t214, t215, t216, t219, t220⟩, A38, H⟩ := H
    replace H : ((spec_l1Cur_one.f s0_0 t219 t220 3).bind fun bt222 => (if bt222.1 = true then (spec_l1Cur_fittingBoards.l0 kj2 (t216.length : Int) 0 s0_0 bt222.2.1 bt222.2.2 t195 t196 t197 t214 t215 t216) else (some (t195, t196, t197, t214, t215, t216, bt222.2.1, bt222.2.2)))) = some (r1, r2, r3, r4, r5, r6, r7, r8) := H
    replace H := qE H
    obtain ⟨⟨t222, t223, t224⟩, A39, H⟩ := H
    replace H : (if t222 = true then (spec_l1Cur_fittingBoards.l0 kj2 (t216.length : Int) 0 s0_0 t223 t224 t195 t196 t197 t214 t215 t216) else (some (t195, t196, t197, t214, t215, t216, t223, t224))) = some (r1, r2, r3, r4, r5, r6, r7, r8) := H
    by_cases c40 : t222 = true
    ·
     subst c40
     have H1 : (spec_l1Cur_fittingBoards.l0 kj2 (t216.length : Int) 0 s0_0 t223 t224 t195 t196 t197 t214 t215 t216) = some (r1, r2, r3, r4, r5, r6, r7, r8) := by first | (rw [if_pos rfl] at H; exact H) | rfl
     clear H
     have H := H1
     clear H1
     have H' := Aside0.mk H
     clear H
     have bq7 := Nq13.out
     have cq7 := Nq6.out
     have bq8 := Nq14.out
     have cq8 := Nq10.out
     have bq9 := Nq12.out
     have cq9 := Nq2.out
     obtain ⟨zq9, zq10, zq11, fq9, fq10, fq11⟩ := qd BK202
     go_wp2_with (first | ((with_reducible refine gate_callee (f := 73) rfl ?_); refine qg (some 24) Try.func73 #[.pointer (some ⟨g, 0, none⟩), .int .i64 t195, .int .i64 t196] ?_; (with_reducible refine (spec_l1Cur_boardOf.calls kj2 g s0_0 x1001_2 x1002_2 t195 t196 t214 t215 t216 t219 t220 w0 _ ?side1 ?side2 A38.out).mono ?_); (case side1 => exact qi); (case side2 => exact qc); rintro e w45 ⟨v217, rfl, ho0, hi, hb, hk⟩; refine ⟨_, rfl, ?_⟩; have Oq2 := am (Kd.R_lower (Kd.R_new' ho0 (sqL Oq3)) (qz w g)); replace Oq3 := am (Kd.R_mono (Kd.R_told (Kd.R_oldK (IsS66.apart (show IsS66 w0 _ g s0_0 x1001_2 x1002_2 from qi) (sqr Oq3) (by decide)) hk) (Kd.R_base ho0)) (fun _ h_ => h_.1)); replace BK193 := qK BK193 hk Nq4; replace BK194 := qK BK194 hk Nq8; replace BK202 := qK BK202 hk Nq12; replace HK := qT hk; replace HB := am hb; replace HI0 := am hi; (try clear hb hk hi ho0)) | ((with_reducible refine gate_dst (N := 5) rfl ?_); refine qv 5 #[.int .i64 0, .int .i64 0, .slice none 0 0] 26 ?_; intro gb221 hg w46 hbox hb; have BK221 := am hbox; have GW221 := qx hg; have GE221 := qy HW0 (qx hg); have Nq7 := qn hg BK193; have Nq17 := qN hg BK193; have Nq11 := qn hg BK194; have Nq18 := qN hg BK194; have Nq15 := qn hg BK202; have Nq19 := qN hg BK202; have Nq3 := qo hg g; have Nq16 := qO hg g; replace Oq3 := sqR Oq3 hb; replace Oq2 := sqR Oq2 hb; replace BK193 := sqB BK193 hb; replace BK194 := sqB BK194 hb; replace BK202 := sqB BK202 hb; replace HK := qU hb; replace HB := qt hb; replace HI0 := qj hb; clear hb hbox hg; have bq10 := Nq17.out; have cq10 := Nq7.out; have bq11 := Nq18.out; have cq11 := Nq11.out; have bq12 := Nq19.out; have cq12 := Nq15.out; have bq13 := Nq16.out; have cq13 := Nq3.out; obtain ⟨zq12, zq13, zq14, fq12, fq13, fq14⟩ := qd BK221; obtain ⟨Ao52, co52, eo52⟩ := Kd.R_slice Oq2.out; subst eo52) | ((with_reducible refine gate_callee (f := 72) rfl ?_); refine qg (some 26) Try.func72 #[.pointer (some ⟨g, 0, none⟩), .int .i64 3] ?_; (with_reducible refine (spec_l1Cur_one.calls g s0_0 t219 t220 3 true t223 t224 w0 _ ?side1 ?side2 A39.out).mono ?_); (case side1 => exact qi); (case side2 => exact qc); rintro e w53 ⟨rfl, hi, hb, hk⟩; refine ⟨_, rfl, ?_⟩; replace Oq3 := am (Kd.R_mono (Kd.R_keep (IsS66.apart (show IsS66 w0 _ g s0_0 t219 t220 from qi) (sqw (sqo Oq3 BK221)) (by decide)) hk (fun _ h => h.2)) (fun _ h => h.1)); replace BK193 := am (KeepBut.blk hk (g' := gb193) (o := .cells #[.int .i64 0, .int .i64 0, .slice none 0 0] 26 (0, 0)) Q19 Nq4.out (by simp)); replace BK194 := am (KeepBut.blk hk (g' := gb194) (o := .cells #[.int .i64 0, .int .i64 0, .slice none 0 0] 26 (0, 0)) Q17 Nq8.out (by simp)); replace BK202 := am (KeepBut.blk hk (g' := gb202) (o := .cells #[.int .i64 t195, .int .i64 t196, .slice Ao12 t197.length co12] 26 (0, 0)) Q18 Nq12.out (by simp)); replace Oq2 := am (Kd.R_mono (Kd.R_keep (IsS66.apart (show IsS66 w0 _ g s0_0 t219 t220 from qi) (sqw (sqo Oq2 BK221)) (by decide)) hk (fun _ h => h.2)) (fun _ h => h.1)); replace BK221 := am (KeepBut.blk hk (g' := gb221) (o := .cells #[.int .i64 t214, .int .i64 t215, .slice Ao52 t216.length co52] 26 (0, 0)) Q13 Nq16.out (by simp)); replace HK := qT hk; replace HB := am hb; replace HI0 := am hi; (try clear hb hk hi); obtain ⟨zq15, zq16, zq17, fq15, fq16, fq17⟩ := qd BK221))
     go_loopg [30] kj2 (fun kq v30 w' => ∃ (x30_2 : Int) (x203002_2 : List Int) (x222002_2 : List Int) (u203002 : Value) (u222002 : Value), v30 = .int .i64 x30_2 ∧ Aside0 (spec_l1Cur_fittingBoards.l0 kq (t216.length : Int) x30_2 s0_0 t223 t224 t195 t196 x203002_2 t214 t215 x222002_2 = some (r1, r2, r3, r4, r5, r6, r7, r8)) ∧ Aside0 (kq ≤ kj2) ∧ Aside0 (Kd.R (Kd.int .i64) 3 w' w.heap.size (fun k_ => some k_ ≠ (u222002 : Value).ownBlock) u203002 x203002_2) ∧ Aside0 (Kd.R (Kd.int .i64) 3 w' w.heap.size (fun k_ => some k_ ≠ (u203002 : Value).ownBlock) u222002 x222002_2) ∧ Aside0 (w'.heap[gb193]? = some (.cells #[.int .i64 0, .int .i64 0, (.slice none 0 0)] 26 (0, 0))) ∧ Aside0 (w'.heap[gb194]? = some (.cells #[.int .i64 0, .int .i64 0, (.slice none 0 0)] 26 (0, 0))) ∧ Aside0 (w'.heap[gb202]? = some (.cells #[.int .i64 t195, .int .i64 t196, u203002] 26 (0, 0))) ∧ Aside0 (w'.heap[gb221]? = some (.cells #[.int .i64 t214, .int .i64 t215, u222002] 26 (0, 0))) ∧ Aside0 (IsS66 w0 w' g s0_0 t223 t224) ∧ Aside0 (KeepBut w w' g none) ∧ Aside0 (Below w0.heap.size w0 w'))
     case atStart => exact ⟨(0), (t197), (t216), (.slice Ao12 t197.length co12), (.slice Ao52 t216.length co52), Q3, H', ⟨Nat.le_refl _⟩, ⟨by exact sqm Oq3 (fun _ hk => hk.2)⟩, ⟨by exact sqm Oq2 (fun _ hk => hk.2)⟩, ⟨Q43⟩, ⟨Q44⟩, ⟨Q45⟩, ⟨by (with_reducible repeat (first | refine blk_drewN ?_ _ | refine blk_drew ?_ | refine blk_alloc ?_ _)); exact BK221.out⟩, ⟨qi⟩, ⟨qk⟩, ⟨qc⟩⟩
     case round =>
      clear H'
      try clear c14; try clear c27; try clear c40; try clear zq0; try clear zq1; try clear zq2; try clear zq3; try clear zq4; try clear zq5; try clear zq6; try clear zq7; try clear zq8; try clear zq9; try clear zq10; try clear zq11; try clear zq12; try clear zq13; try clear zq14; try clear zq15; try clear zq16; try clear zq17; try clear fq0; try clear fq1; try clear fq2; try clear fq3; try clear fq4; try clear fq5; try clear fq6; try clear fq7; try clear fq8; try clear fq9; try clear fq10; try clear fq11; try clear fq12; try clear fq13; try clear fq14; try clear fq15; try clear fq16; try clear fq17
      obtain ⟨x30_2, x203002_2, x222002_2, u203002, u222002, rfl, HA, HK2, Oq3, Oq4, BK193, BK194, BK202, BK221, HI0, HK, HB⟩ := hrel
      cases gk with
      | zero => exact absurd HA.out (by simp [spec_l1Cur_fittingBoards.l0])
      | succ k2 =>
       have H := HA.out
       clear HA
       simp only [spec_l1Cur_fittingBoards.l0] at H
       by_cases c55 : x30_2 < (t216.length : Int)
       ·
        rw [if_pos c55] at H
        have c55b0 : decide (x30_2 < (t216.length : Int)) = true := decide_eq_true c55
        clear c55
        by_cases c56 : 0 ≤ x30_2
        ·
         rw [if_pos c56] at H
         have c56b0 : decide (0 ≤ x30_2) = true := decide_eq_true c56
         clear c56
         by_cases c57 : x30_2 < (x222002_2.length : Int)
         ·
          rw [if_pos c57] at H
          have c57b0 : decide (x30_2 < (x222002_2.length : Int)) = true := decide_eq_true c57
          clear c57
          by_cases c58 : x30_2 < (x203002_2.length : Int)
          ·
           rw [if_pos c58] at H
           have c58b0 : decide (x30_2 < (x203002_2.length : Int)) = true := decide_eq_true c58
           clear c58
           obtain ⟨y227, hy_⟩ : ∃ y_ : List Int, y_ = ((x222002_2.set (x30_2 : Int).toNat (Go.bits .or .i64 (rd x222002_2 x30_2) (rd x203002_2 x30_2)))) := ⟨_, rfl⟩
           replace H : (spec_l1Cur_fittingBoards.l0 k2 (t216.length : Int) (wrap64 (x30_2 + 1)) s0_0 t223 t224 t195 t196 x203002_2 t214 t215 y227) = some (r1, r2, r3, r4, r5, r6, r7, r8) := qH
           have Ny227 := Aside0.mk hy_
           clear hy_
           have H' := Aside0.mk H
           clear H
           try go_wp2
           replace Oq3 := am (Kd.R_drew Oq3.out)
           replace Oq4 := am (Kd.R_drew Oq4.out)
           replace BK193 := am (blk_drew BK193.out)
           replace BK194 := am (blk_drew BK194.out)
           replace BK202 := am (blk_drew BK202.out)
           replace BK221 := am (blk_drew BK221.out)
           replace HI0 := am (IsS66.drew HI0.out)
           replace HK := am (keep_drew HK.out)
           replace HB := am (below_drew1 HB.out)
           obtain ⟨Ao61, co61, eo61⟩ := Kd.R_slice Oq4.out
           (first | subst eo61 | (injection eo61 with f1_ f2_ f3_; have f4_ := f1_.symm; have f5_ := f3_.symm; clear f1_ f2_ f3_; subst f4_; subst f5_))
           have p225 : 0 ≤ (x30_2 : Int) := of_decide_eq_true Q2
           have q225 : x30_2 < (x222002_2.length : Int) := of_decide_eq_true Q2
           obtain ⟨ad225, e225, hx225_0⟩ := Kd.at_int (Kd.R_reads' Oq4.out).2.2 x30_2 p225 q225
           cases e225
           replace p225 := eq_true p225
           replace q225 := eq_true q225
           obtain ⟨Ao62, co62, eo62⟩ := Kd.R_slice Oq3.out
           (first | subst eo62 | (injection eo62 with f1_ f2_ f3_; have f4_ := f1_.symm; have f5_ := f3_.symm; clear f1_ f2_ f3_; subst f4_; subst f5_))
           have p226 : 0 ≤ (x30_2 : Int) := of_decide_eq_true Q2
           have q226 : x30_2 < (x203002_2.length : Int) := of_decide_eq_true Q2
           obtain ⟨ad226, e226, hx226_0⟩ := Kd.at_int (Kd.R_reads' Oq3.out).2.2 x30_2 p226 q226
           cases e226
           replace p226 := eq_true p226
           replace q226 := eq_true q226
           have p59 : 0 ≤ (x30_2 : Int) := of_decide_eq_true Q2
           have q59 : (x30_2 : Int) < ((x222002_2.length : Int) : Int) := of_decide_eq_true Q2
           obtain ⟨go59, co59, eo59, gb59, gl59, cl59, HG59⟩ := Kd.R_form Oq4.out (by omega)
           (first | cases eo59 | (injection eo59 with ea_ en_ ec_; (first | subst ea_ | (injection ea_ with ea_; subst ea_)); subst ec_; clear en_))
           have GB59 := Aside0.mk gb59
           have GG59 := Aside0.mk HG59
           clear gb59 gl59 HG59
           (first | simp only [add_plain] at hx225_0 | skip)
           obtain ⟨hx59_0, hf59_0⟩ := Kd.R_celln 0 Oq4.out (x30_2 : Int) p59 q59
           replace p59 := eq_true p59
           replace q59 := eq_true q59
           have HN0_go59 := am (show g ≠ go59 from by have h_ := IsS66.own_ne HI0.out Oq4.out (by decide); intro e_; exact h_ (by rw [e_]; rfl))
           have HP63 := Kd.R_putn Oq4.out (x30_2 : Int) (Go.bits .or .i64 (rd x222002_2 x30_2) (rd x203002_2 x30_2))
           rw [← Ny227.out] at HP63
           have HQ63 := Aside0.mk HP63
           clear HP63
           refine start_ (n := 13) (S := fun w' => w'.cell? ⟨gb221, 0, none⟩ = some (.int .i64 t214) ∧ w'.cell? ⟨gb221, 1, none⟩ = some (.int .i64 t215) ∧ w'.cell? ⟨gb221, 2, none⟩ = some (.slice (some ⟨go59, 0, none⟩) x222002_2.length co61) ∧ w'.cell? ⟨gb202, 0, none⟩ = some (.int .i64 t195) ∧ w'.cell? ⟨gb202, 1, none⟩ = some (.int .i64 t196) ∧ w'.cell? ⟨gb202, 2, none⟩ = some (.slice (some ad226) x203002_2.length co62) ∧ w'.cell? ⟨go59, (x30_2).toNat, none⟩ = some (.int .i64 (rd x222002_2 x30_2)) ∧ w'.cell? (ad226.add (x30_2).toNat) = some (.int .i64 (rd x203002_2 x30_2))) (ds := [12]) #[false, false, false, false, false, false, false, false, false, false, false, false, false] (by kernel_rfl) rfl rfl ⟨sqc BK221 0, sqc BK221 1, sqc BK221 2, sqc BK202 0, sqc BK202 1, sqc BK202 2, hx225_0, hx226_0⟩ (fun hHeld => ?_); refine with_tabW spec_l1Cur_fittingBoards.tab9 spec_l1Cur_fittingBoards.bits9 (fun HT_ HW_ => ?_)
           generalize wr.drew = w60 at Oq3 Oq4 BK193 BK194 BK202 BK221 HI0 HK HB GG59 HQ63 hf59_0 hx225_0 hx226_0 hx59_0 hHeld ⊢
           refine qp 0 (some 33) #[true, false, false, false, false, false, false, false, false, false, false, false, false] ?_
           refine qp 2 (some 35) #[true, false, true, false, false, false, false, false, false, false, false, false, false] ?_
           refine qp 5 (some 38) #[true, false, true, false, false, true, false, false, false, false, false, false, false] ?_
           refine qp 7 (some 40) #[true, false, true, false, false, true, false, true, false, false, false, false, false] ?_
           refine take_ (i := 1) (N := some 34) (v := ?_) (a' := ?_) #[true, true, true, false, false, true, false, true, false, false, false, false, false] rfl rfl (take_ofW HT_.out HW_.out (by kernel_rfl)) (fun _ _ _ h => h) (Or.inl ⟨by rfl, ?_⟩) hHeld ?_ ?_
           rotate_left
           ·
            rintro w' ⟨s0, s1, s2, s3, s4, s5, s6, s7⟩
            go_simp
            with_reducible rfl
           rotate_left
           ·
            simp only [Act.put, List.setIfInBounds_toArray, List.set_cons_zero, List.set_cons_succ, i64_w, i32_w]
            rfl
           refine qp 3 (some 36) #[true, true, true, true, false, true, false, true, false, false, false, false, false] ?_
           refine take_ (i := 4) (N := some 37) (v := ?_) (a' := ?_) #[true, true, true, true, true, true, false, true, false, false, false, false, false] rfl rfl (take_ofW HT_.out HW_.out (by kernel_rfl)) (fun _ _ _ h => h) (Or.inl ⟨by rfl, ?_⟩) hHeld ?_ ?_
           rotate_left
           ·
            rintro w' ⟨s0, s1, s2, s3, s4, s5, s6, s7⟩
            go_simp
            with_reducible rfl
           rotate_left
           ·
            simp only [Act.put, List.setIfInBounds_toArray, List.set_cons_zero, List.set_cons_succ, i64_w, i32_w]
            rfl
           refine take_ (i := 6) (N := some 39) (v := ?_) (a' := ?_) #[true, true, true, true, true, true, true, true, false, false, false, false, false] rfl rfl (take_ofW HT_.out HW_.out (by kernel_rfl)) (fun _ _ _ h => h) (Or.inl ⟨by rfl, ?_⟩) hHeld ?_ ?_
           rotate_left
           ·
            rintro w' ⟨s0, s1, s2, s3, s4, s5, s6, s7⟩
            go_simp
            with_reducible rfl
           rotate_left
           ·
            simp only [Act.put, List.setIfInBounds_toArray, List.set_cons_zero, List.set_cons_succ, i64_w, i32_w]
            rfl
           refine qp 8 (some 41) #[true, true, true, true, true, true, true, true, true, false, false, false, false] ?_
           refine take_ (i := 9) (N := some 42) (v := ?_) (a' := ?_) #[true, true, true, true, true, true, true, true, true, true, false, false, false] rfl rfl (take_ofW HT_.out HW_.out (by kernel_rfl)) (fun _ _ _ h => h) (Or.inl ⟨by rfl, ?_⟩) hHeld ?_ ?_
           rotate_left
           ·
            rintro w' ⟨s0, s1, s2, s3, s4, s5, s6, s7⟩
            go_simp
            with_reducible rfl
           rotate_left
           ·
            simp only [Act.put, List.setIfInBounds_toArray, List.set_cons_zero, List.set_cons_succ, i64_w, i32_w]
            rfl
           refine qp 10 (some 43) #[true, true, true, true, true, true, true, true, true, true, true, false, false] ?_
           refine qp 11 (some 44) #[true, true, true, true, true, true, true, true, true, true, true, true, false] ?_
           refine last_ (i := 12) (N := none) #[true, true, true, true, true, true, true, true, true, true, true, true, true] rfl rfl (one_of HT_.out (by kernel_rfl)) (by decide) fun K hK => ?_
           refine skip_ (w1 := ?_) (by rfl) rfl ?_ ?_
           rotate_left
           ·
            go_simp
            rfl
           refine hK.out _ _ ?_
           clear hK K
           refine done_ (done_of HT_.out (by kernel_rfl)) ?_
           try go_wp2
           go_roundg k2
           case measure => have := HJ2.out; have := HK2.out; omega
           case rel => exact ⟨(wrap64 (x30_2 + 1)), (x203002_2), (y227), (.slice (some ad226) x203002_2.length co62), (.slice (some ⟨go59, 0, none⟩) x222002_2.length co61), Q3, H', ⟨by have := HJ2.out; have := HK2.out; omega⟩, ⟨by (with_reducible repeat (first | apply Kd.R_alloc | apply Kd.R_drewN | apply Kd.R_drew)); exact Kd.R_mono (Kd.R_far (p := ⟨go59, (x30_2 : Int).toNat, none⟩) (Kd.R_mono Oq3.out (fun k_ hk => (⟨hk, fun e_ => hk (by rw [e_]; rfl)⟩ : _ ∧ k_ ≠ go59))) (fun _ hk => hk.2) (.int .i64 (Go.bits .or .i64 (rd x222002_2 x30_2) (rd x203002_2 x30_2)))) (fun _ hk => hk.1)⟩, ⟨by (with_reducible repeat (first | apply Kd.R_alloc | apply Kd.R_drewN | apply Kd.R_drew)); exact HQ63.out⟩, ⟨by (with_reducible repeat (first | refine blk_drewN ?_ _ | refine blk_drew ?_ | refine blk_alloc ?_ _)); refine blk_far ?_ (by have h_ := Kd.R_ne Oq4.out BK193.out (by decide); intro e_; exact h_ (by rw [e_]; rfl)) _; (with_reducible repeat (first | refine blk_drewN ?_ _ | refine blk_drew ?_ | refine blk_alloc ?_ _)); exact BK193.out⟩, ⟨by (with_reducible repeat (first | refine blk_drewN ?_ _ | refine blk_drew ?_ | refine blk_alloc ?_ _)); refine blk_far ?_ (by have h_ := Kd.R_ne Oq4.out BK194.out (by decide); intro e_; exact h_ (by rw [e_]; rfl)) _; (with_reducible repeat (first | refine blk_drewN ?_ _ | refine blk_drew ?_ | refine blk_alloc ?_ _)); exact BK194.out⟩, ⟨by (with_reducible repeat (first | refine blk_drewN ?_ _ | refine blk_drew ?_ | refine blk_alloc ?_ _)); refine blk_far ?_ (by have h_ := Kd.R_ne Oq4.out BK202.out (by decide); intro e_; exact h_ (by rw [e_]; rfl)) _; (with_reducible repeat (first | refine blk_drewN ?_ _ | refine blk_drew ?_ | refine blk_alloc ?_ _)); exact BK202.out⟩, ⟨by (with_reducible repeat (first | refine blk_drewN ?_ _ | refine blk_drew ?_ | refine blk_alloc ?_ _)); refine blk_far ?_ (by have h_ := Kd.R_ne Oq4.out BK221.out (by decide); intro e_; exact h_ (by rw [e_]; rfl)) _; (with_reducible repeat (first | refine blk_drewN ?_ _ | refine blk_drew ?_ | refine blk_alloc ?_ _)); exact BK221.out⟩, ⟨qi⟩, ⟨qk⟩, ⟨qc⟩⟩
          ·
           rw [if_neg c58] at H
           exact absurd H (by simp)
         ·
          rw [if_neg c57] at H
          exact absurd H (by simp)
        ·
         rw [if_neg c56] at H
         exact absurd H (by simp)
       ·
        rw [if_neg c55] at H
        have c55b0 : decide (x30_2 < (t216.length : Int)) = false := decide_eq_false c55
        clear c55
        simp only [Option.some.injEq, Prod.mk.injEq] at H
        obtain ⟨rfl, rfl, rfl, rfl, rfl, rfl, rfl, rfl⟩ := H
        try go_wp2
        replace Oq3 := am (Kd.R_drew Oq3.out)
        replace Oq4 := am (Kd.R_drew Oq4.out)
        replace BK193 := am (blk_drew BK193.out)
        replace BK194 := am (blk_drew BK194.out)
        replace BK202 := am (blk_drew BK202.out)
        replace BK221 := am (blk_drew BK221.out)
        replace HI0 := am (IsS66.drew HI0.out)
        replace HK := am (keep_drew HK.out)
        replace HB := am (below_drew1 HB.out)
        obtain ⟨Ao67, co67, eo67⟩ := Kd.R_slice Oq3.out
        (first | subst eo67 | (injection eo67 with f1_ f2_ f3_; have f4_ := f1_.symm; have f5_ := f3_.symm; clear f1_ f2_ f3_; subst f4_; subst f5_))
        obtain ⟨Ao71, co71, eo71⟩ := Kd.R_slice Oq4.out
        (first | subst eo71 | (injection eo71 with f1_ f2_ f3_; have f4_ := f1_.symm; have f5_ := f3_.symm; clear f1_ f2_ f3_; subst f4_; subst f5_))
        refine start_ (n := 4) (S := fun w' => w'.cell? ⟨gb202, 0, none⟩ = some (.int .i64 t195) ∧ w'.cell? ⟨gb202, 1, none⟩ = some (.int .i64 t196) ∧ w'.cell? ⟨gb202, 2, none⟩ = some (.slice Ao67 x203002_2.length co67) ∧ w'.cell? ⟨gb221, 0, none⟩ = some (.int .i64 t214) ∧ w'.cell? ⟨gb221, 1, none⟩ = some (.int .i64 t215) ∧ w'.cell? ⟨gb221, 2, none⟩ = some (.slice Ao71 x222002_2.length co71)) (ds := []) #[false, false, false, false] (by kernel_rfl) rfl rfl ⟨sqc BK202 0, sqc BK202 1, sqc BK202 2, sqc BK221 0, sqc BK221 1, sqc BK221 2⟩ (fun hHeld => ?_)
        generalize wr.drew = w64 at Oq3 Oq4 BK193 BK194 BK202 BK221 HI0 HK HB hHeld ⊢
        refine take_ (i := 0) (N := some 46) (v := ?_) (a' := ?_) #[true, false, false, false] rfl rfl (by kernel_rfl) (fun _ _ _ h => h) (Or.inl ⟨by rfl, ?_⟩) hHeld ?_ ?_
        rotate_left
        ·
         rintro w' ⟨s0, s1, s2, s3, s4, s5⟩
         go_simp
         with_reducible rfl
        rotate_left
        ·
         simp only [Act.put, List.setIfInBounds_toArray, List.set_cons_zero, List.set_cons_succ, i64_w, i32_w]
         rfl
        refine take_ (i := 1) (N := some 47) (v := ?_) (a' := ?_) #[true, true, false, false] rfl rfl (by kernel_rfl) (fun _ _ _ h => h) (Or.inl ⟨by rfl, ?_⟩) hHeld ?_ ?_
        rotate_left
        ·
         rintro w' ⟨s0, s1, s2, s3, s4, s5⟩
         go_simp
         with_reducible rfl
        rotate_left
        ·
         simp only [Act.put, List.setIfInBounds_toArray, List.set_cons_zero, List.set_cons_succ, i64_w, i32_w]
         rfl
        refine one_ (i := 2) (N := none) #[true, true, true, false] rfl rfl (by kernel_rfl) (by decide) (fun K hK => ?_)
        have hs65 : w64.cell? ⟨gb193, 0, none⟩ = some (.int .i64 0) := sqc BK193 0
        have hfs65 := blk_frozen BK193.out 0
        have hq12 := Nq9.out
        have hq13 := Nq13.out
        have hq14 := Nq17.out
        have hms65_1 := Nq5.out
        have hms65_2 := Nq6.out
        have hms65_3 := Nq7.out
        have hs66 : w64.cell? ⟨gb193, 1, none⟩ = some (.int .i64 0) := sqc BK193 1
        have hfs66 := blk_frozen BK193.out 1
        have hq15 := Nq9.out
        have hq16 := Nq13.out
        have hq17 := Nq17.out
        have hms66_1 := Nq5.out
        have hms66_2 := Nq6.out
        have hms66_3 := Nq7.out
        have hs68 : w64.cell? ⟨gb193, 2, none⟩ = some (.slice none 0 0) := sqc BK193 2
        have hfs68 := blk_frozen BK193.out 2
        have hq18 := Nq9.out
        have hq19 := Nq13.out
        have hq20 := Nq17.out
        have hms68_1 := Nq5.out
        have hms68_2 := Nq6.out
        have hms68_3 := Nq7.out
        refine skip_ (w1 := ?_) (by rfl) rfl ?_ ?_
        rotate_left
        ·
         go_simp
         rfl
        refine hK.out _ _ ⟨((cell_far (p := ⟨gb193, _, none⟩) Nq13.out _).trans (((cell_far (p := ⟨gb193, _, none⟩) Nq13.out _).trans (((cell_far (p := ⟨gb193, _, none⟩) Nq13.out _).trans (hHeld.1)))))), ((cell_far (p := ⟨gb193, _, none⟩) Nq13.out _).trans (((cell_far (p := ⟨gb193, _, none⟩) Nq13.out _).trans (((cell_far (p := ⟨gb193, _, none⟩) Nq13.out _).trans (hHeld.2.1)))))), ((cell_far (p := ⟨gb193, _, none⟩) Nq13.out _).trans (((cell_far (p := ⟨gb193, _, none⟩) Nq13.out _).trans (((cell_far (p := ⟨gb193, _, none⟩) Nq13.out _).trans (hHeld.2.2.1)))))), ((cell_far (p := ⟨gb193, _, none⟩) Nq17.out _).trans (((cell_far (p := ⟨gb193, _, none⟩) Nq17.out _).trans (((cell_far (p := ⟨gb193, _, none⟩) Nq17.out _).trans (hHeld.2.2.2.1)))))), ((cell_far (p := ⟨gb193, _, none⟩) Nq17.out _).trans (((cell_far (p := ⟨gb193, _, none⟩) Nq17.out _).trans (((cell_far (p := ⟨gb193, _, none⟩) Nq17.out _).trans (hHeld.2.2.2.2.1)))))), ((cell_far (p := ⟨gb193, _, none⟩) Nq17.out _).trans (((cell_far (p := ⟨gb193, _, none⟩) Nq17.out _).trans (((cell_far (p := ⟨gb193, _, none⟩) Nq17.out _).trans (hHeld.2.2.2.2.2))))))⟩ (fun hHeld => ?_)
        clear hK K
        refine one_ (i := 3) (N := none) #[true, true, true, true] rfl rfl (by kernel_rfl) (by decide) (fun K hK => ?_)
        have hs69 : w64.cell? ⟨gb194, 0, none⟩ = some (.int .i64 0) := sqc BK194 0
        have hfs69 := blk_frozen BK194.out 0
        have hq21 := Nq5.out
        have hq22 := Nq14.out
        have hq23 := Nq18.out
        have hms69_0 := Nq9.out
        have hms69_2 := Nq10.out
        have hms69_3 := Nq11.out
        have hs70 : w64.cell? ⟨gb194, 1, none⟩ = some (.int .i64 0) := sqc BK194 1
        have hfs70 := blk_frozen BK194.out 1
        have hq24 := Nq5.out
        have hq25 := Nq14.out
        have hq26 := Nq18.out
        have hms70_0 := Nq9.out
        have hms70_2 := Nq10.out
        have hms70_3 := Nq11.out
        have hs72 : w64.cell? ⟨gb194, 2, none⟩ = some (.slice none 0 0) := sqc BK194 2
        have hfs72 := blk_frozen BK194.out 2
        have hq27 := Nq5.out
        have hq28 := Nq14.out
        have hq29 := Nq18.out
        have hms72_0 := Nq9.out
        have hms72_2 := Nq10.out
        have hms72_3 := Nq11.out
        refine skip_ (w1 := ?_) (by rfl) rfl ?_ ?_
        rotate_left
        ·
         go_simp
         rfl
        refine hK.out _ _ ⟨((cell_far (p := ⟨gb194, _, none⟩) Nq14.out _).trans (((cell_far (p := ⟨gb194, _, none⟩) Nq14.out _).trans (((cell_far (p := ⟨gb194, _, none⟩) Nq14.out _).trans (hHeld.1)))))), ((cell_far (p := ⟨gb194, _, none⟩) Nq14.out _).trans (((cell_far (p := ⟨gb194, _, none⟩) Nq14.out _).trans (((cell_far (p := ⟨gb194, _, none⟩) Nq14.out _).trans (hHeld.2.1)))))), ((cell_far (p := ⟨gb194, _, none⟩) Nq14.out _).trans (((cell_far (p := ⟨gb194, _, none⟩) Nq14.out _).trans (((cell_far (p := ⟨gb194, _, none⟩) Nq14.out _).trans (hHeld.2.2.1)))))), ((cell_far (p := ⟨gb194, _, none⟩) Nq18.out _).trans (((cell_far (p := ⟨gb194, _, none⟩) Nq18.out _).trans (((cell_far (p := ⟨gb194, _, none⟩) Nq18.out _).trans (hHeld.2.2.2.1)))))), ((cell_far (p := ⟨gb194, _, none⟩) Nq18.out _).trans (((cell_far (p := ⟨gb194, _, none⟩) Nq18.out _).trans (((cell_far (p := ⟨gb194, _, none⟩) Nq18.out _).trans (hHeld.2.2.2.2.1)))))), ((cell_far (p := ⟨gb194, _, none⟩) Nq18.out _).trans (((cell_far (p := ⟨gb194, _, none⟩) Nq18.out _).trans (((cell_far (p := ⟨gb194, _, none⟩) Nq18.out _).trans (hHeld.2.2.2.2.2))))))⟩ (fun hHeld => ?_)
        clear hK K
        refine done_ (by kernel_rfl) ?_
        try go_wp2
        refine bodyPost_ret (results_cc rfl _ _ gb193 gb194 26 26 #[.int .i64 t195, .int .i64 t196, .slice Ao67 x203002_2.length co67] #[.int .i64 t214, .int .i64 t215, .slice Ao71 x222002_2.length co71] (0, 0) (0, 0) _ _ rfl Q5 Try.underlying26 rfl (by kernel_rfl) rfl Q9 Try.underlying26 rfl (by kernel_rfl)) rfl ?_
        exact ⟨_, _, Q1, by (with_reducible repeat (first | apply Kd.R_alloc | apply Kd.R_drewN | apply Kd.R_drew)); exact Kd.R_mono (Kd.R_far (p := ⟨gb194, 2, none⟩) (Kd.R_far (p := ⟨gb194, 1, none⟩) (Kd.R_far (p := ⟨gb194, 0, none⟩) (Kd.R_far (p := ⟨gb193, 2, none⟩) (Kd.R_far (p := ⟨gb193, 1, none⟩) (Kd.R_far (p := ⟨gb193, 0, none⟩) (Kd.R_types (Kd.R_types Oq3.out BK193.out (by decide)) BK194.out (by decide)) (fun _ hk => hk.1.2) (.int .i64 t195)) (fun _ hk => hk.1.2) (.int .i64 t196)) (fun _ hk => hk.1.2) (.slice Ao67 x203002_2.length co67)) (fun _ hk => hk.2) (.int .i64 t214)) (fun _ hk => hk.2) (.int .i64 t215)) (fun _ hk => hk.2) (.slice Ao71 x222002_2.length co71)) (fun _ hk => hk.1.1), by (with_reducible repeat (first | apply Kd.R_alloc | apply Kd.R_drewN | apply Kd.R_drew)); exact Kd.R_mono (Kd.R_far (p := ⟨gb194, 2, none⟩) (Kd.R_far (p := ⟨gb194, 1, none⟩) (Kd.R_far (p := ⟨gb194, 0, none⟩) (Kd.R_far (p := ⟨gb193, 2, none⟩) (Kd.R_far (p := ⟨gb193, 1, none⟩) (Kd.R_far (p := ⟨gb193, 0, none⟩) (Kd.R_types (Kd.R_types Oq4.out BK193.out (by decide)) BK194.out (by decide)) (fun _ hk => hk.1.2) (.int .i64 t195)) (fun _ hk => hk.1.2) (.int .i64 t196)) (fun _ hk => hk.1.2) (.slice Ao67 x203002_2.length co67)) (fun _ hk => hk.2) (.int .i64 t214)) (fun _ hk => hk.2) (.int .i64 t215)) (fun _ hk => hk.2) (.slice Ao71 x222002_2.length co71)) (fun _ hk => hk.1.1), qi, qc, qk⟩
    ·
     replace c40 := Bool.eq_false_iff.mpr c40
     subst c40
     have H1 : (some (t195, t196, t197, t214, t215, t216, t223, t224)) = some (r1, r2, r3, r4, r5, r6, r7, r8) := by first | (rw [if_neg (show ¬ (false = true) by decide)] at H; exact H) | rfl
     clear H
     have H := H1
     clear H1
     simp only [Option.some.injEq, Prod.mk.injEq] at H
     obtain ⟨rfl, rfl, rfl, rfl, rfl, rfl, rfl, rfl⟩ := H
     have bq14 := Nq13.out
     have cq14 := Nq6.out
     have bq15 := Nq14.out
     have cq15 := Nq10.out
     have bq16 := Nq12.out
     have cq16 := Nq2.out
     obtain ⟨zq18, zq19, zq20, fq18, fq19, fq20⟩ := qd BK202
     try go_wp2_with (first | ((with_reducible refine gate_callee (f := 73) rfl ?_); refine qg (some 24) Try.func73 #[.pointer (some ⟨g, 0, none⟩), .int .i64 t195, .int .i64 t196] ?_; (with_reducible refine (spec_l1Cur_boardOf.calls kj2 g s0_0 x1001_2 x1002_2 t195 t196 t214 t215 t216 t219 t220 w0 _ ?side1 ?side2 A38.out).mono ?_); (case side1 => exact qi); (case side2 => exact qc); rintro e w77 ⟨v217, rfl, ho0, hi, hb, hk⟩; refine ⟨_, rfl, ?_⟩; have Oq2 := am (Kd.R_lower (Kd.R_new' ho0 (sqL Oq3)) (qz w g)); replace Oq3 := am (Kd.R_mono (Kd.R_told (Kd.R_oldK (IsS66.apart (show IsS66 w0 _ g s0_0 x1001_2 x1002_2 from qi) (sqr Oq3) (by decide)) hk) (Kd.R_base ho0)) (fun _ h_ => h_.1)); replace BK193 := qK BK193 hk Nq4; replace BK194 := qK BK194 hk Nq8; replace BK202 := qK BK202 hk Nq12; replace HK := qT hk; replace HB := am hb; replace HI0 := am hi; (try clear hb hk hi ho0)) | ((with_reducible refine gate_dst (N := 5) rfl ?_); refine qv 5 #[.int .i64 0, .int .i64 0, .slice none 0 0] 26 ?_; intro gb221 hg w78 hbox hb; have BK221 := am hbox; have GW221 := qx hg; have GE221 := qy HW0 (qx hg); have Nq7 := qn hg BK193; have Nq17 := qN hg BK193; have Nq11 := qn hg BK194; have Nq18 := qN hg BK194; have Nq15 := qn hg BK202; have Nq19 := qN hg BK202; have Nq3 := qo hg g; have Nq16 := qO hg g; replace Oq3 := sqR Oq3 hb; replace Oq2 := sqR Oq2 hb; replace BK193 := sqB BK193 hb; replace BK194 := sqB BK194 hb; replace BK202 := sqB BK202 hb; replace HK := qU hb; replace HB := qt hb; replace HI0 := qj hb; clear hb hbox hg; have bq17 := Nq17.out; have cq17 := Nq7.out; have bq19 := Nq18.out; have cq19 := Nq11.out; have bq20 := Nq19.out; have cq20 := Nq15.out; have bq21 := Nq16.out; have cq21 := Nq3.out; obtain ⟨zq21, zq22, zq23, fq21, fq22, fq23⟩ := qd BK221; obtain ⟨Ao84, co84, eo84⟩ := Kd.R_slice Oq2.out; subst eo84) | ((with_reducible refine gate_callee (f := 72) rfl ?_); refine qg (some 26) Try.func72 #[.pointer (some ⟨g, 0, none⟩), .int .i64 3] ?_; (with_reducible refine (spec_l1Cur_one.calls g s0_0 t219 t220 3 false t223 t224 w0 _ ?side1 ?side2 A39.out).mono ?_); (case side1 => exact qi); (case side2 => exact qc); rintro e w85 ⟨rfl, hi, hb, hk⟩; refine ⟨_, rfl, ?_⟩; replace Oq3 := am (Kd.R_mono (Kd.R_keep (IsS66.apart (show IsS66 w0 _ g s0_0 t219 t220 from qi) (sqw (sqo Oq3 BK221)) (by decide)) hk (fun _ h => h.2)) (fun _ h => h.1)); replace BK193 := am (KeepBut.blk hk (g' := gb193) (o := .cells #[.int .i64 0, .int .i64 0, .slice none 0 0] 26 (0, 0)) Q19 Nq4.out (by simp)); replace BK194 := am (KeepBut.blk hk (g' := gb194) (o := .cells #[.int .i64 0, .int .i64 0, .slice none 0 0] 26 (0, 0)) Q17 Nq8.out (by simp)); replace BK202 := am (KeepBut.blk hk (g' := gb202) (o := .cells #[.int .i64 t195, .int .i64 t196, .slice Ao12 t197.length co12] 26 (0, 0)) Q18 Nq12.out (by simp)); replace Oq2 := am (Kd.R_mono (Kd.R_keep (IsS66.apart (show IsS66 w0 _ g s0_0 t219 t220 from qi) (sqw (sqo Oq2 BK221)) (by decide)) hk (fun _ h => h.2)) (fun _ h => h.1)); replace BK221 := am (KeepBut.blk hk (g' := gb221) (o := .cells #[.int .i64 t214, .int .i64 t215, .slice Ao84 t216.length co84] 26 (0, 0)) Q13 Nq16.out (by simp)); replace HK := qT hk; replace HB := am hb; replace HI0 := am hi; (try clear hb hk hi)))
     replace Oq3 := am (Kd.R_drew Oq3.out)
     replace Oq2 := am (Kd.R_drew Oq2.out)
     replace BK193 := am (blk_drew BK193.out)
     replace BK194 := am (blk_drew BK194.out)
     replace BK202 := am (blk_drew BK202.out)
     replace BK221 := am (blk_drew BK221.out)
     replace HI0 := am (IsS66.drew HI0.out)
     replace HK := am (keep_drew HK.out)
     replace HB := am (below_drew1 HB.out)
     refine start_ (n := 4) (S := fun w' => w'.cell? ⟨gb202, 0, none⟩ = some (.int .i64 t195) ∧ w'.cell? ⟨gb202, 1, none⟩ = some (.int .i64 t196) ∧ w'.cell? ⟨gb202, 2, none⟩ = some (.slice Ao12 t197.length co12) ∧ w'.cell? ⟨gb221, 0, none⟩ = some (.int .i64 t214) ∧ w'.cell? ⟨gb221, 1, none⟩ = some (.int .i64 t215) ∧ w'.cell? ⟨gb221, 2, none⟩ = some (.slice Ao84 t216.length co84)) (ds := []) #[false, false, false, false] (by kernel_rfl) rfl rfl ⟨sqc BK202 0, sqc BK202 1, sqc BK202 2, sqc BK221 0, sqc BK221 1, sqc BK221 2⟩ (fun hHeld => ?_)
     generalize w85.drew = w86 at Oq3 Oq2 BK193 BK194 BK202 BK221 HI0 HK HB hHeld ⊢
     refine take_ (i := 0) (N := some 46) (v := ?_) (a' := ?_) #[true, false, false, false] rfl rfl (by kernel_rfl) (fun _ _ _ h => h) (Or.inl ⟨by rfl, ?_⟩) hHeld ?_ ?_
     rotate_left
     ·
      rintro w' ⟨s0, s1, s2, s3, s4, s5⟩
      go_simp
      with_reducible rfl
     rotate_left
     ·
      simp only [Act.put, List.setIfInBounds_toArray, List.set_cons_zero, List.set_cons_succ, i64_w, i32_w]
      rfl
     refine take_ (i := 1) (N := some 47) (v := ?_) (a' := ?_) #[true, true, false, false] rfl rfl (by kernel_rfl) (fun _ _ _ h => h) (Or.inl ⟨by rfl, ?_⟩) hHeld ?_ ?_
     rotate_left
     ·
      rintro w' ⟨s0, s1, s2, s3, s4, s5⟩
      go_simp
      with_reducible rfl
     rotate_left
     ·
      simp only [Act.put, List.setIfInBounds_toArray, List.set_cons_zero, List.set_cons_succ, i64_w, i32_w]
      rfl
     refine one_ (i := 2) (N := none) #[true, true, true, false] rfl rfl (by kernel_rfl) (by decide) (fun K hK => ?_)
     have hs87 : w86.cell? ⟨gb193, 0, none⟩ = some (.int .i64 0) := sqc BK193 0
     have hfs87 := blk_frozen BK193.out 0
     have hq30 := Nq9.out
     have hq31 := Nq13.out
     have hq32 := Nq17.out
     have hms87_1 := Nq5.out
     have hms87_2 := Nq6.out
     have hms87_3 := Nq7.out
     have hs88 : w86.cell? ⟨gb193, 1, none⟩ = some (.int .i64 0) := sqc BK193 1
     have hfs88 := blk_frozen BK193.out 1
     have hq33 := Nq9.out
     have hq34 := Nq13.out
     have hq35 := Nq17.out
     have hms88_1 := Nq5.out
     have hms88_2 := Nq6.out
     have hms88_3 := Nq7.out
     have hs89 : w86.cell? ⟨gb193, 2, none⟩ = some (.slice none 0 0) := sqc BK193 2
     have hfs89 := blk_frozen BK193.out 2
     have hq36 := Nq9.out
     have hq37 := Nq13.out
     have hq38 := Nq17.out
     have hms89_1 := Nq5.out
     have hms89_2 := Nq6.out
     have hms89_3 := Nq7.out
     refine skip_ (w1 := ?_) (by rfl) rfl ?_ ?_
     rotate_left
     ·
      go_simp
      rfl
     refine hK.out _ _ ⟨((cell_far (p := ⟨gb193, _, none⟩) Nq13.out _).trans (((cell_far (p := ⟨gb193, _, none⟩) Nq13.out _).trans (((cell_far (p := ⟨gb193, _, none⟩) Nq13.out _).trans (hHeld.1)))))), ((cell_far (p := ⟨gb193, _, none⟩) Nq13.out _).trans (((cell_far (p := ⟨gb193, _, none⟩) Nq13.out _).trans (((cell_far (p := ⟨gb193, _, none⟩) Nq13.out _).trans (hHeld.2.1)))))), ((cell_far (p := ⟨gb193, _, none⟩) Nq13.out _).trans (((cell_far (p := ⟨gb193, _, none⟩) Nq13.out _).trans (((cell_far (p := ⟨gb193, _, none⟩) Nq13.out _).trans (hHeld.2.2.1)))))), ((cell_far (p := ⟨gb193, _, none⟩) Nq17.out _).trans (((cell_far (p := ⟨gb193, _, none⟩) Nq17.out _).trans (((cell_far (p := ⟨gb193, _, none⟩) Nq17.out _).trans (hHeld.2.2.2.1)))))), ((cell_far (p := ⟨gb193, _, none⟩) Nq17.out _).trans (((cell_far (p := ⟨gb193, _, none⟩) Nq17.out _).trans (((cell_far (p := ⟨gb193, _, none⟩) Nq17.out _).trans (hHeld.2.2.2.2.1)))))), ((cell_far (p := ⟨gb193, _, none⟩) Nq17.out _).trans (((cell_far (p := ⟨gb193, _, none⟩) Nq17.out _).trans (((cell_far (p := ⟨gb193, _, none⟩) Nq17.out _).trans (hHeld.2.2.2.2.2))))))⟩ (fun hHeld => ?_)
     clear hK K
     refine one_ (i := 3) (N := none) #[true, true, true, true] rfl rfl (by kernel_rfl) (by decide) (fun K hK => ?_)
     have hs90 : w86.cell? ⟨gb194, 0, none⟩ = some (.int .i64 0) := sqc BK194 0
     have hfs90 := blk_frozen BK194.out 0
     have hq39 := Nq5.out
     have hq40 := Nq14.out
     have hq41 := Nq18.out
     have hms90_0 := Nq9.out
     have hms90_2 := Nq10.out
     have hms90_3 := Nq11.out
     have hs91 : w86.cell? ⟨gb194, 1, none⟩ = some (.int .i64 0) := sqc BK194 1
     have hfs91 := blk_frozen BK194.out 1
     have hq42 := Nq5.out
     have hq43 := Nq14.out
     have hq44 := Nq18.out
     have hms91_0 := Nq9.out
     have hms91_2 := Nq10.out
     have hms91_3 := Nq11.out
     have hs92 : w86.cell? ⟨gb194, 2, none⟩ = some (.slice none 0 0) := sqc BK194 2
     have hfs92 := blk_frozen BK194.out 2
     have hq45 := Nq5.out
     have hq46 := Nq14.out
     have hq47 := Nq18.out
     have hms92_0 := Nq9.out
     have hms92_2 := Nq10.out
     have hms92_3 := Nq11.out
     refine skip_ (w1 := ?_) (by rfl) rfl ?_ ?_
     rotate_left
     ·
      go_simp
      rfl
     refine hK.out _ _ ⟨((cell_far (p := ⟨gb194, _, none⟩) Nq14.out _).trans (((cell_far (p := ⟨gb194, _, none⟩) Nq14.out _).trans (((cell_far (p := ⟨gb194, _, none⟩) Nq14.out _).trans (hHeld.1)))))), ((cell_far (p := ⟨gb194, _, none⟩) Nq14.out _).trans (((cell_far (p := ⟨gb194, _, none⟩) Nq14.out _).trans (((cell_far (p := ⟨gb194, _, none⟩) Nq14.out _).trans (hHeld.2.1)))))), ((cell_far (p := ⟨gb194, _, none⟩) Nq14.out _).trans (((cell_far (p := ⟨gb194, _, none⟩) Nq14.out _).trans (((cell_far (p := ⟨gb194, _, none⟩) Nq14.out _).trans (hHeld.2.2.1)))))), ((cell_far (p := ⟨gb194, _, none⟩) Nq18.out _).trans (((cell_far (p := ⟨gb194, _, none⟩) Nq18.out _).trans (((cell_far (p := ⟨gb194, _, none⟩) Nq18.out _).trans (hHeld.2.2.2.1)))))), ((cell_far (p := ⟨gb194, _, none⟩) Nq18.out _).trans (((cell_far (p := ⟨gb194, _, none⟩) Nq18.out _).trans (((cell_far (p := ⟨gb194, _, none⟩) Nq18.out _).trans (hHeld.2.2.2.2.1)))))), ((cell_far (p := ⟨gb194, _, none⟩) Nq18.out _).trans (((cell_far (p := ⟨gb194, _, none⟩) Nq18.out _).trans (((cell_far (p := ⟨gb194, _, none⟩) Nq18.out _).trans (hHeld.2.2.2.2.2))))))⟩ (fun hHeld => ?_)
     clear hK K
     refine done_ (by kernel_rfl) ?_
     try go_wp2
     refine bodyPost_ret (results_cc rfl _ _ gb193 gb194 26 26 #[.int .i64 t195, .int .i64 t196, .slice Ao12 t197.length co12] #[.int .i64 t214, .int .i64 t215, .slice Ao84 t216.length co84] (0, 0) (0, 0) _ _ rfl Q5 Try.underlying26 rfl (by kernel_rfl) rfl Q9 Try.underlying26 rfl (by kernel_rfl)) rfl ?_
     exact ⟨_, _, Q1, by (with_reducible repeat (first | apply Kd.R_alloc | apply Kd.R_drewN | apply Kd.R_drew)); exact Kd.R_mono (Kd.R_far (p := ⟨gb194, 2, none⟩) (Kd.R_far (p := ⟨gb194, 1, none⟩) (Kd.R_far (p := ⟨gb194, 0, none⟩) (Kd.R_far (p := ⟨gb193, 2, none⟩) (Kd.R_far (p := ⟨gb193, 1, none⟩) (Kd.R_far (p := ⟨gb193, 0, none⟩) (Kd.R_types (Kd.R_types Oq3.out BK193.out (by decide)) BK194.out (by decide)) (fun _ hk => hk.1.2) (.int .i64 t195)) (fun _ hk => hk.1.2) (.int .i64 t196)) (fun _ hk => hk.1.2) (.slice Ao12 t197.length co12)) (fun _ hk => hk.2) (.int .i64 t214)) (fun _ hk => hk.2) (.int .i64 t215)) (fun _ hk => hk.2) (.slice Ao84 t216.length co84)) (fun _ hk => hk.1.1.2), by (with_reducible repeat (first | apply Kd.R_alloc | apply Kd.R_drewN | apply Kd.R_drew)); exact Kd.R_mono (Kd.R_far (p := ⟨gb194, 2, none⟩) (Kd.R_far (p := ⟨gb194, 1, none⟩) (Kd.R_far (p := ⟨gb194, 0, none⟩) (Kd.R_far (p := ⟨gb193, 2, none⟩) (Kd.R_far (p := ⟨gb193, 1, none⟩) (Kd.R_far (p := ⟨gb193, 0, none⟩) (Kd.R_types (Kd.R_types Oq2.out BK193.out (by decide)) BK194.out (by decide)) (fun _ hk => hk.1.2) (.int .i64 t195)) (fun _ hk => hk.1.2) (.int .i64 t196)) (fun _ hk => hk.1.2) (.slice Ao12 t197.length co12)) (fun _ hk => hk.2) (.int .i64 t214)) (fun _ hk => hk.2) (.int .i64 t215)) (fun _ hk => hk.2) (.slice Ao84 t216.length co84)) (fun _ hk => hk.1.1.2), qi, qc, qk⟩

end Go.Proofs.Ytllhofdgbpnkkaa.PFnBoardsJoined
