-- Printed for this claim by wip/pp.py over the kit's printer; Lean checks it.
import Derived.Test.YtllhofdgbpnkkaaPFnBoardsJoinedx0
import Derived.Test.YtllhofdgbpnkkaaPFnBoardsJoinedx5
import Derived.Test.YtllhofdgbpnkkaaPFnBoardsJoinedx12
namespace Go.Proofs.Ytllhofdgbpnkkaa.PFnBoardsJoined
open Go.RowKit Go.Proofs.YtllhofdgbpnkkaaW.PrintWords Go.Proofs.YtllhofdgbpnkkaaW.PrintLast Go.Proofs.YtllhofdgbpnkkaaW.PrintMore
attribute [local go_sem] max2_int min2_int max_two min_two max_three min_three max_four min_four   -- for this text's walks alone
set_option linter.unusedVariables false
set_option linter.unusedSimpArgs false

/-! ### impl_StackBoards: function 21 -/
mutual
def impl_StackBoards.j0 : Nat → Bool → Int → Int → List Int → Int → Int → List Int → Option (Int × Int × List Int × Bool)
 | 0, _, _, _, _, _, _, _ => none
 | k + 1, x34, x444000, x444001, x444002, x445000, x445001, x445002 => if x34 = true then (some (0, 0, ([] : List Int), false)) else ((slices_Clone_int_int.f x444002).bind fun t450 => (impl_StackBoards.l0 k x445002 (x445002.length : Int) 0 x444000 x444001 x444002 (wrap64 (x444000 + x445000)) (wrap64 (x444001 + x445001)) t450))
def impl_StackBoards.l0 : Nat → List Int → Int → Int → Int → Int → List Int → Int → Int → List Int → Option (Int × Int × List Int × Bool)
 | 0, _, _, _, _, _, _, _, _, _ => none
 | k + 1, x51, x52, x53, x444000, x444001, x444002, x454000, x454001, x454002 => if x53 < x52 then (if 0 ≤ x53 then (if x53 < (x51.length : Int) then (if 0 ≤ x444001 then (if x454002.length < 17592186044416 then (impl_StackBoards.l0 k x51 x52 (wrap64 (x53 + 1)) x444000 x444001 x444002 x454000 x454001 (x454002 ++ [shl .i64 (rd x51 x53) x444001])) else (none)) else (none)) else (none)) else (none)) else (some (x454000, x454001, x454002, true))
end
def impl_StackBoards.f (k : Nat) (a0_0 : Int) (a0_1 : Int) (l0_2 : List Int) (a1_0 : Int) (a1_1 : Int) (l1_2 : List Int) : Option (Int × Int × List Int × Bool) := (impl_IsBoard.f a0_0 a0_1 l0_2).bind fun t446 => (if t446 = true then ((impl_IsBoard.f a1_0 a1_1 l1_2).bind fun t447 => (if t447 = true then ((impl_isSide.f (wrap64 (a0_0 + a1_0))).bind fun t448 => (if t448 = true then ((impl_isSide.f (wrap64 (a0_1 + a1_1))).bind fun t449 => (impl_StackBoards.j0 k (!t449) a0_0 a0_1 l0_2 a1_0 a1_1 l1_2)) else (impl_StackBoards.j0 k true a0_0 a0_1 l0_2 a1_0 a1_1 l1_2))) else (impl_StackBoards.j0 k true a0_0 a0_1 l0_2 a1_0 a1_1 l1_2))) else (impl_StackBoards.j0 k true a0_0 a0_1 l0_2 a1_0 a1_1 l1_2))
def impl_StackBoards.T3 : Bool × List (List Nat × List Nat) := (true, [([], []), ([0], [0]), ([], []), ([2], [2]), ([1, 3], [1, 3]), ([], []), ([5], [5]), ([], []), ([7], [7]), ([6, 8], [6, 8]), ([], []), ([10], [10]), ([11], [11]), ([4, 9, 12], [4, 9, 12]), ([], []), ([14, 13, 12, 0, 1, 2, 3, 4, 5, 6, 7, 8, 9, 10, 11, 12, 13, 14], [13, 14])])
def impl_StackBoards.B3 : List Nat := [0, 1, 0, 4, 15, 0, 32, 0, 128, 480, 0, 1024, 3072, 8191, 0, 32767]
theorem impl_StackBoards.tab3 : rtab .any (opsOf Try.f21 3) = impl_StackBoards.T3 := by kernel_rfl
theorem impl_StackBoards.bits3 : waitsOk impl_StackBoards.T3.2 impl_StackBoards.B3 = true := by kernel_rfl
def impl_StackBoards.T7 : Bool × List (List Nat × List Nat) := (true, [([], []), ([0], [0]), ([], []), ([], []), ([3], [3]), ([2, 4], [2, 4]), ([5], [5]), ([1, 6], [1, 6]), ([0, 1, 2, 3, 4, 5, 6, 7], []), ([8, 7, 7, 0, 1, 2, 3, 4, 5, 6, 7], [7, 8])])
def impl_StackBoards.B7 : List Nat := [0, 1, 0, 0, 8, 28, 60, 127, 255, 511]
theorem impl_StackBoards.tab7 : rtab .any (opsOf Try.f21 7) = impl_StackBoards.T7 := by kernel_rfl
theorem impl_StackBoards.bits7 : waitsOk impl_StackBoards.T7.2 impl_StackBoards.B7 = true := by kernel_rfl
set_option maxHeartbeats 8000000 in
set_option maxRecDepth 100000 in
theorem impl_StackBoards.calls (k : Nat) (a0_0 : Int) (a0_1 : Int) (A0_2 : Option Addr) (c0_2 : Nat) (l0_2 : List Int) (a1_0 : Int) (a1_1 : Int) (A1_2 : Option Addr) (c1_2 : Nat) (l1_2 : List Int) (r1 : Int) (r2 : Int) (r3 : List Int) (r4 : Bool) (w : World) (hr0_2 : Kd.C (Kd.int .i64) w A0_2 l0_2.length l0_2) (hc0_2 : l0_2.length ≤ c0_2) (hr1_2 : Kd.C (Kd.int .i64) w A1_2 l1_2.length l1_2) (hc1_2 : l1_2.length ≤ c1_2) (h : impl_StackBoards.f k a0_0 a0_1 l0_2 a1_0 a1_1 l1_2 = some (r1, r2, r3, r4)) :
  Calls Try.prog 21 #[.agg #[.int .i64 a0_0, .int .i64 a0_1, .slice A0_2 l0_2.length c0_2], .agg #[.int .i64 a1_0, .int .i64 a1_1, .slice A1_2 l1_2.length c1_2]] w fun e w' => ∃ v2_ : Value, e = .returned (.tuple #[.agg #[.int .i64 r1, .int .i64 r2, v2_], .bool r4]) ∧ Kd.R (Kd.int .i64) 3 w' w.heap.size (fun _ => True) v2_ r3 ∧ Below w.heap.size w w' := by
 have hu26 := Try.underlying26
 have HR0_2 := Aside0.mk hr0_2
 have HC0_2 := Aside0.mk hc0_2
 clear hr0_2 hc0_2
 have HR1_2 := Aside0.mk hr1_2
 have HC1_2 := Aside0.mk hc1_2
 clear hr1_2 hc1_2
 have HB := am (Below.refl w.heap.size w)
 have H : ((impl_IsBoard.f a0_0 a0_1 l0_2).bind fun t446 => (if t446 = true then ((impl_IsBoard.f a1_0 a1_1 l1_2).bind fun t447 => (if t447 = true then ((impl_isSide.f (wrap64 (a0_0 + a1_0))).bind fun t448 => (if t448 = true then ((impl_isSide.f (wrap64 (a0_1 + a1_1))).bind fun t449 => (impl_StackBoards.j0 k (!t449) a0_0 a0_1 l0_2 a1_0 a1_1 l1_2)) else (impl_StackBoards.j0 k true a0_0 a0_1 l0_2 a1_0 a1_1 l1_2))) else (impl_StackBoards.j0 k true a0_0 a0_1 l0_2 a1_0 a1_1 l1_2))) else (impl_StackBoards.j0 k true a0_0 a0_1 l0_2 a1_0 a1_1 l1_2))) = some (r1, r2, r3, r4) := h
 clear h
 have HC3 := Aside0.mk H
 clear H
 go_enter Try.func21, Try.ntmps21
 go_upto_region 1 with (first | ((with_reducible refine gate_dst (N := 2) rfl ?_); refine qv 2 #[.int .i64 a0_0, .int .i64 a0_1, .slice A0_2 l0_2.length c0_2] 26 ?_; intro gb443 hg w4 hbox hb; have BK443 := am hbox; have GW443 := qw hg; have GE443 := qw hg; replace HB := qs hb; clear hb hbox hg) | ((with_reducible refine gate_dst (N := 3) rfl ?_); refine qv 3 #[.int .i64 a1_0, .int .i64 a1_1, .slice A1_2 l1_2.length c1_2] 26 ?_; intro gb444 hg w5 hbox hb; have BK444 := am hbox; have GW444 := qw hg; have GE444 := qw hg; have Nq0 := qn hg BK443; have Nq3 := qN hg BK443; replace BK443 := sqB BK443 hb; replace HB := qs hb; clear hb hbox hg) | ((with_reducible refine gate_dst (N := 4) rfl ?_); refine qv 4 #[.int .i64 0, .int .i64 0, .slice none 0 0] 26 ?_; intro gb445 hg w6 hbox hb; have BK445 := am hbox; have GW445 := qw hg; have GE445 := qw hg; have Nq1 := qn hg BK443; have Nq6 := qN hg BK443; have Nq4 := qn hg BK444; have Nq7 := qN hg BK444; replace BK443 := sqB BK443 hb; replace BK444 := sqB BK444 hb; replace HB := qs hb; clear hb hbox hg))
 (try simp only [Act.put, List.setIfInBounds_toArray, List.set_cons_zero, List.set_cons_succ])
 go_cut [34] (fun v34 wc => ∃ (kq : Nat) (x34_2 : Bool), v34 = .bool x34_2 ∧ Aside0 (impl_StackBoards.j0 kq x34_2 a0_0 a0_1 l0_2 a1_0 a1_1 l1_2 = some (r1, r2, r3, r4)) ∧ Aside0 (kq ≤ k) ∧ Aside0 (wc.heap[gb443]? = some (.cells #[.int .i64 a0_0, .int .i64 a0_1, (.slice A0_2 l0_2.length c0_2)] 26 (0, 0))) ∧ Aside0 (wc.heap[gb444]? = some (.cells #[.int .i64 a1_0, .int .i64 a1_1, (.slice A1_2 l1_2.length c1_2)] 26 (0, 0))) ∧ Aside0 (wc.heap[gb445]? = some (.cells #[.int .i64 0, .int .i64 0, (.slice none 0 0)] 26 (0, 0))) ∧ Aside0 (Below w.heap.size w wc))
 case first =>
  have H := HC3.out
  clear HC3
  replace H := qE H
  obtain ⟨t446, A7, H⟩ := H
  replace H : (if t446 = true then ((impl_IsBoard.f a1_0 a1_1 l1_2).bind fun t447 => (if t447 = true then ((impl_isSide.f (wrap64 (a0_0 + a1_0))).bind fun t448 => (if t448 = true then ((impl_isSide.f (wrap64 (a0_1 + a1_1))).bind fun t449 => (impl_StackBoards.j0 k (!t449) a0_0 a0_1 l0_2 a1_0 a1_1 l1_2)) else (impl_StackBoards.j0 k true a0_0 a0_1 l0_2 a1_0 a1_1 l1_2))) else (impl_StackBoards.j0 k true a0_0 a0_1 l0_2 a1_0 a1_1 l1_2))) else (impl_StackBoards.j0 k true a0_0 a0_1 l0_2 a1_0 a1_1 l1_2)) = some (r1, r2, r3, r4) := H
  by_cases c8 : t446 = true
  ·
   subst c8
   have H1 : ((impl_IsBoard.f a1_0 a1_1 l1_2).bind fun t447 => (if t447 = true then ((impl_isSide.f (wrap64 (a0_0 + a1_0))).bind fun t448 => (if t448 = true then ((impl_isSide.f (wrap64 (a0_1 + a1_1))).bind fun t449 => (impl_StackBoards.j0 k (!t449) a0_0 a0_1 l0_2 a1_0 a1_1 l1_2)) else (impl_StackBoards.j0 k true a0_0 a0_1 l0_2 a1_0 a1_1 l1_2))) else (impl_StackBoards.j0 k true a0_0 a0_1 l0_2 a1_0 a1_1 l1_2))) = some (r1, r2, r3, r4) := by first | (rw [if_pos rfl] at H; exact H) | rfl
   clear H
   have H := H1
   clear H1
   replace H := qE H
   obtain ⟨t447, A9, H⟩ := H
   replace H : (if t447 = true then ((impl_isSide.f (wrap64 (a0_0 + a1_0))).bind fun t448 => (if t448 = true then ((impl_isSide.f (wrap64 (a0_1 + a1_1))).bind fun t449 => (impl_StackBoards.j0 k (!t449) a0_0 a0_1 l0_2 a1_0 a1_1 l1_2)) else (impl_StackBoards.j0 k true a0_0 a0_1 l0_2 a1_0 a1_1 l1_2))) else (impl_StackBoards.j0 k true a0_0 a0_1 l0_2 a1_0 a1_1 l1_2)) = some (r1, r2, r3, r4) := H
   by_cases c10 : t447 = true
   ·
    subst c10
    have H1 : ((impl_isSide.f (wrap64 (a0_0 + a1_0))).bind fun t448 => (if t448 = true then ((impl_isSide.f (wrap64 (a0_1 + a1_1))).bind fun t449 => (impl_StackBoards.j0 k (!t449) a0_0 a0_1 l0_2 a1_0 a1_1 l1_2)) else (impl_StackBoards.j0 k true a0_0 a0_1 l0_2 a1_0 a1_1 l1_2))) = some (r1, r2, r3, r4) := by first | (rw [if_pos rfl] at H; exact H) | rfl
    clear H
    have H := H1
    clear H1
    replace H := qE H
    obtain ⟨t448, A11, H⟩ := H
    replace H : (if t448 = true then ((impl_isSide.f (wrap64 (a0_1 + a1_1))).bind fun t449 => (impl_StackBoards.j0 k (!t449) a0_0 a0_1 l0_2 a1_0 a1_1 l1_2)) else (impl_StackBoards.j0 k true a0_0 a0_1 l0_2 a1_0 a1_1 l1_2)) = some (r1, r2, r3, r4) := H
    by_cases c12 : t448 = true
    ·
     subst c12
     have H1 : ((impl_isSide.f (wrap64 (a0_1 + a1_1))).bind fun t449 => (impl_StackBoards.j0 k (!t449) a0_0 a0_1 l0_2 a1_0 a1_1 l1_2)) = some (r1, r2, r3, r4) := by first | (rw [if_pos rfl] at H; exact H) | rfl
     clear H
     have H := H1
     clear H1
     replace H := qE H
     obtain ⟨t449, A13, H⟩ := H
     replace H : (impl_StackBoards.j0 k (!t449) a0_0 a0_1 l0_2 a1_0 a1_1 l1_2) = some (r1, r2, r3, r4) := H
     have H' := Aside0.mk H
     clear H
     have bq0 := Nq0.out
     have cq0 := Nq3.out
     have bq1 := Nq1.out
     have cq1 := Nq6.out
     obtain ⟨zq0, zq1, zq2, fq0, fq1, fq2⟩ := qd BK443
     go_wp2_with (first | ((with_reducible refine gate_callee (f := 66) rfl ?_); refine qg (some 10) Try.func66 #[.agg #[.int .i64 a0_0, .int .i64 a0_1, .slice A0_2 l0_2.length c0_2]] ?_; (with_reducible refine (impl_IsBoard.calls a0_0 a0_1 _ _ l0_2 true _ ?side1 HC0_2.out A7.out).mono ?_); (case side1 => exact Q0); rintro e w17 ⟨rfl, hb⟩; refine ⟨_, rfl, ?_⟩; replace BK443 := sqB BK443 hb; replace BK444 := sqB BK444 hb; replace BK445 := sqB BK445 hb; replace HB := qs hb; (try clear hb); have bq2 := Nq4.out; have cq2 := Nq7.out; obtain ⟨zq3, zq4, zq5, fq3, fq4, fq5⟩ := qd BK444) | (go_at_call 66; (with_reducible refine (impl_IsBoard.calls a1_0 a1_1 _ _ l1_2 true _ ?side1 HC1_2.out A9.out).mono ?_); (case side1 => exact Q6); rintro e w20 ⟨rfl, hb⟩; replace BK443 := sqB BK443 hb; replace BK444 := sqB BK444 hb; replace BK445 := sqB BK445 hb; replace HB := qs hb; (try clear hb); obtain ⟨zq6, zq7, zq8, fq6, fq7, fq8⟩ := qd BK443; obtain ⟨zq9, zq10, zq11, fq9, fq10, fq11⟩ := qd BK444) | (go_at_call 74; (with_reducible refine (impl_isSide.calls (wrap64 (a0_0 + a1_0)) true _ A11.out).mono ?_); rintro e w' ⟨rfl, ⟨nd, rfl⟩⟩) | (go_at_call 74; (with_reducible refine (impl_isSide.calls (wrap64 (a0_1 + a1_1)) t449 _ A13.out).mono ?_); rintro e w' ⟨rfl, ⟨nd, rfl⟩⟩))
     go_meet
     case rel => exact ⟨_, (!t449), Q3, H', ⟨Q25⟩, ⟨Q33⟩, ⟨Q34⟩, ⟨Q35⟩, ⟨qb⟩⟩
    ·
     replace c12 := Bool.eq_false_iff.mpr c12
     subst c12
     have H1 : (impl_StackBoards.j0 k true a0_0 a0_1 l0_2 a1_0 a1_1 l1_2) = some (r1, r2, r3, r4) := by first | (rw [if_neg (show ¬ (false = true) by decide)] at H; exact H) | rfl
     clear H
     have H := H1
     clear H1
     have H' := Aside0.mk H
     clear H
     have bq3 := Nq0.out
     have cq3 := Nq3.out
     have bq4 := Nq1.out
     have cq4 := Nq6.out
     obtain ⟨zq12, zq13, zq14, fq12, fq13, fq14⟩ := qd BK443
     go_wp2_with (first | ((with_reducible refine gate_callee (f := 66) rfl ?_); refine qg (some 10) Try.func66 #[.agg #[.int .i64 a0_0, .int .i64 a0_1, .slice A0_2 l0_2.length c0_2]] ?_; (with_reducible refine (impl_IsBoard.calls a0_0 a0_1 _ _ l0_2 true _ ?side1 HC0_2.out A7.out).mono ?_); (case side1 => exact Q0); rintro e w26 ⟨rfl, hb⟩; refine ⟨_, rfl, ?_⟩; replace BK443 := sqB BK443 hb; replace BK444 := sqB BK444 hb; replace BK445 := sqB BK445 hb; replace HB := qs hb; (try clear hb); have bq5 := Nq4.out; have cq5 := Nq7.out; obtain ⟨zq15, zq16, zq17, fq15, fq16, fq17⟩ := qd BK444) | (go_at_call 66; (with_reducible refine (impl_IsBoard.calls a1_0 a1_1 _ _ l1_2 true _ ?side1 HC1_2.out A9.out).mono ?_); (case side1 => exact Q6); rintro e w29 ⟨rfl, hb⟩; replace BK443 := sqB BK443 hb; replace BK444 := sqB BK444 hb; replace BK445 := sqB BK445 hb; replace HB := qs hb; (try clear hb); obtain ⟨zq18, zq19, zq20, fq18, fq19, fq20⟩ := qd BK443; obtain ⟨zq21, zq22, zq23, fq21, fq22, fq23⟩ := qd BK444) | (go_at_call 74; (with_reducible refine (impl_isSide.calls (wrap64 (a0_0 + a1_0)) false _ A11.out).mono ?_); rintro e w' ⟨rfl, ⟨nd, rfl⟩⟩))
     go_meet
     case rel => exact ⟨_, (true), Q3, H', ⟨Q25⟩, ⟨Q33⟩, ⟨Q34⟩, ⟨Q35⟩, ⟨qb⟩⟩
   ·
    replace c10 := Bool.eq_false_iff.mpr c10
    subst c10
    have H1 : (impl_StackBoards.j0 k true a0_0 a0_1 l0_2 a1_0 a1_1 l1_2) = some (r1, r2, r3, r4) := by first | (rw [if_neg (show ¬ (false = true) by decide)] at H; exact H) | rfl
    clear H
    have H := H1
    clear H1
    have H' := Aside0.mk H
    clear H
    have bq6 := Nq0.out
    have cq6 := Nq3.out
    have bq7 := Nq1.out
    have cq7 := Nq6.out
    obtain ⟨zq24, zq25, zq26, fq24, fq25, fq26⟩ := qd BK443
    go_wp2_with (first | ((with_reducible refine gate_callee (f := 66) rfl ?_); refine qg (some 10) Try.func66 #[.agg #[.int .i64 a0_0, .int .i64 a0_1, .slice A0_2 l0_2.length c0_2]] ?_; (with_reducible refine (impl_IsBoard.calls a0_0 a0_1 _ _ l0_2 true _ ?side1 HC0_2.out A7.out).mono ?_); (case side1 => exact Q0); rintro e w35 ⟨rfl, hb⟩; refine ⟨_, rfl, ?_⟩; replace BK443 := sqB BK443 hb; replace BK444 := sqB BK444 hb; replace BK445 := sqB BK445 hb; replace HB := qs hb; (try clear hb); have bq8 := Nq4.out; have cq8 := Nq7.out; obtain ⟨zq27, zq28, zq29, fq27, fq28, fq29⟩ := qd BK444) | (go_at_call 66; (with_reducible refine (impl_IsBoard.calls a1_0 a1_1 _ _ l1_2 false _ ?side1 HC1_2.out A9.out).mono ?_); (case side1 => exact Q6); rintro e w38 ⟨rfl, hb⟩; replace BK443 := sqB BK443 hb; replace BK444 := sqB BK444 hb; replace BK445 := sqB BK445 hb; replace HB := qs hb; (try clear hb)))
    go_meet
    case rel => exact ⟨_, (true), Q3, H', ⟨Q25⟩, ⟨Q33⟩, ⟨Q34⟩, ⟨Q35⟩, ⟨qb⟩⟩
  ·
   replace c8 := Bool.eq_false_iff.mpr c8
   subst c8
   have H1 : (impl_StackBoards.j0 k true a0_0 a0_1 l0_2 a1_0 a1_1 l1_2) = some (r1, r2, r3, r4) := by first | (rw [if_neg (show ¬ (false = true) by decide)] at H; exact H) | rfl
   clear H
   have H := H1
   clear H1
   have H' := Aside0.mk H
   clear H
   have bq9 := Nq0.out
   have cq9 := Nq3.out
   have bq10 := Nq1.out
   have cq10 := Nq6.out
   obtain ⟨zq30, zq31, zq32, fq30, fq31, fq32⟩ := qd BK443
   go_wp2_with (first | ((with_reducible refine gate_callee (f := 66) rfl ?_); refine qg (some 10) Try.func66 #[.agg #[.int .i64 a0_0, .int .i64 a0_1, .slice A0_2 l0_2.length c0_2]] ?_; (with_reducible refine (impl_IsBoard.calls a0_0 a0_1 _ _ l0_2 false _ ?side1 HC0_2.out A7.out).mono ?_); (case side1 => exact Q0); rintro e w42 ⟨rfl, hb⟩; refine ⟨_, rfl, ?_⟩; replace BK443 := sqB BK443 hb; replace BK444 := sqB BK444 hb; replace BK445 := sqB BK445 hb; replace HB := qs hb; (try clear hb)))
   go_meet
   case rel => exact ⟨_, (true), Q3, H', ⟨Q25⟩, ⟨Q33⟩, ⟨Q34⟩, ⟨Q35⟩, ⟨qb⟩⟩
 case rest =>
  clear HC3
  try clear c8; try clear c10; try clear c12; try clear zq0; try clear zq1; try clear zq2; try clear zq3; try clear zq4; try clear zq5; try clear zq6; try clear zq7; try clear zq8; try clear zq9; try clear zq10; try clear zq11; try clear zq12; try clear zq13; try clear zq14; try clear zq15; try clear zq16; try clear zq17; try clear zq18; try clear zq19; try clear zq20; try clear zq21; try clear zq22; try clear zq23; try clear zq24; try clear zq25; try clear zq26; try clear zq27; try clear zq28; try clear zq29; try clear zq30; try clear zq31; try clear zq32; try clear fq0; try clear fq1; try clear fq2; try clear fq3; try clear fq4; try clear fq5; try clear fq6; try clear fq7; try clear fq8; try clear fq9; try clear fq10; try clear fq11; try clear fq12; try clear fq13; try clear fq14; try clear fq15; try clear fq16; try clear fq17; try clear fq18; try clear fq19; try clear fq20; try clear fq21; try clear fq22; try clear fq23; try clear fq24; try clear fq25; try clear fq26; try clear fq27; try clear fq28; try clear fq29; try clear fq30; try clear fq31; try clear fq32
  obtain ⟨kq, x34_2, rfl, HA, HJ2, BK443, BK444, BK445, HB⟩ := hcut
  cases kq with
  | zero => exact absurd HA.out (by simp [impl_StackBoards.j0])
  | succ kj2 =>
   have H := HA.out
   clear HA
   simp only [impl_StackBoards.j0] at H
   by_cases c43 : x34_2 = true
   ·
    subst c43
    have H1 : (some (0, 0, ([] : List Int), false)) = some (r1, r2, r3, r4) := by first | (rw [if_pos rfl] at H; exact H) | rfl
    clear H
    have H := H1
    clear H1
    simp only [Option.some.injEq, Prod.mk.injEq] at H
    obtain ⟨rfl, rfl, rfl, rfl⟩ := H
    have bq11 := Nq6.out
    have cq11 := Nq1.out
    have bq12 := Nq7.out
    have cq12 := Nq4.out
    obtain ⟨zq33, zq34, zq35, fq33, fq34, fq35⟩ := qd BK445
    go_wp2
    refine bodyPost_ret (results_ct rfl _ _ gb445 26 #[.int .i64 0, .int .i64 0, .slice none 0 0] (0, 0) _ rfl (by (with_reducible repeat (first | refine blk_drewN ?_ _ | refine blk_drew ?_ | refine blk_alloc ?_ _)); refine blk_put (cs := #[.int .i64 0, .int .i64 0, .slice none 0 0]) ?_ 2 _ rfl; (with_reducible repeat (first | refine blk_drewN ?_ _ | refine blk_drew ?_ | refine blk_alloc ?_ _)); refine blk_put (cs := #[.int .i64 0, .int .i64 0, .slice none 0 0]) ?_ 1 _ rfl; (with_reducible repeat (first | refine blk_drewN ?_ _ | refine blk_drew ?_ | refine blk_alloc ?_ _)); refine blk_put (cs := #[.int .i64 0, .int .i64 0, .slice none 0 0]) ?_ 0 _ rfl; (with_reducible repeat (first | refine blk_drewN ?_ _ | refine blk_drew ?_ | refine blk_alloc ?_ _)); exact BK445.out) Try.underlying26 rfl (by kernel_rfl)) rfl ?_
    exact ⟨_, Q1, Q11, qb⟩
   ·
    replace c43 := Bool.eq_false_iff.mpr c43
    subst c43
    have H1 : ((slices_Clone_int_int.f l0_2).bind fun t450 => (impl_StackBoards.l0 kj2 l1_2 (l1_2.length : Int) 0 a0_0 a0_1 l0_2 (wrap64 (a0_0 + a1_0)) (wrap64 (a0_1 + a1_1)) t450)) = some (r1, r2, r3, r4) := by first | (rw [if_neg (show ¬ (false = true) by decide)] at H; exact H) | rfl
    clear H
    have H := H1
    clear H1
    replace H := qE H
    obtain ⟨t450, A47, H⟩ := H
    replace H : (impl_StackBoards.l0 kj2 l1_2 (l1_2.length : Int) 0 a0_0 a0_1 l0_2 (wrap64 (a0_0 + a1_0)) (wrap64 (a0_1 + a1_1)) t450) = some (r1, r2, r3, r4) := H
    have H' := Aside0.mk H
    clear H
    try go_wp2
    replace BK443 := am (blk_drew BK443.out)
    replace BK444 := am (blk_drew BK444.out)
    replace BK445 := am (blk_drew BK445.out)
    replace HB := am (below_drew1 HB.out)
    refine start_ (n := 16) (S := fun w' => w'.cell? ⟨gb443, 0, none⟩ = some (.int .i64 a0_0) ∧ w'.cell? ⟨gb443, 1, none⟩ = some (.int .i64 a0_1) ∧ w'.cell? ⟨gb443, 2, none⟩ = some (.slice A0_2 l0_2.length c0_2) ∧ w'.cell? ⟨gb444, 0, none⟩ = some (.int .i64 a1_0) ∧ w'.cell? ⟨gb444, 1, none⟩ = some (.int .i64 a1_1) ∧ w'.cell? ⟨gb444, 2, none⟩ = some (.slice A1_2 l1_2.length c1_2)) (ds := []) #[false, false, false, false, false, false, false, false, false, false, false, false, false, false, false, false] (by kernel_rfl) rfl rfl ⟨sqc BK443 0, sqc BK443 1, sqc BK443 2, sqc BK444 0, sqc BK444 1, sqc BK444 2⟩ (fun hHeld => ?_); refine with_tabW impl_StackBoards.tab3 impl_StackBoards.bits3 (fun HT_ HW_ => ?_)
    generalize wc.drew = w48 at BK443 BK444 BK445 HB hHeld ⊢
    refine qp 0 (some 36) #[true, false, false, false, false, false, false, false, false, false, false, false, false, false, false, false] ?_
    refine qp 2 (some 38) #[true, false, true, false, false, false, false, false, false, false, false, false, false, false, false, false] ?_
    refine qp 5 (some 41) #[true, false, true, false, false, true, false, false, false, false, false, false, false, false, false, false] ?_
    refine qp 7 (some 43) #[true, false, true, false, false, true, false, true, false, false, false, false, false, false, false, false] ?_
    refine qp 10 (some 46) #[true, false, true, false, false, true, false, true, false, false, true, false, false, false, false, false] ?_
    refine take_ (i := 1) (N := some 37) (v := ?_) (a' := ?_) #[true, true, true, false, false, true, false, true, false, false, true, false, false, false, false, false] rfl rfl (take_ofW HT_.out HW_.out (by kernel_rfl)) (fun _ _ _ h => h) (Or.inl ⟨by rfl, ?_⟩) hHeld ?_ ?_
    rotate_left
    ·
     rintro w' ⟨s0, s1, s2, s3, s4, s5⟩
     go_simp
     with_reducible rfl
    rotate_left
    ·
     simp only [Act.put, List.setIfInBounds_toArray, List.set_cons_zero, List.set_cons_succ, i64_w, i32_w]
     rfl
    refine take_ (i := 3) (N := some 39) (v := ?_) (a' := ?_) #[true, true, true, true, false, true, false, true, false, false, true, false, false, false, false, false] rfl rfl (take_ofW HT_.out HW_.out (by kernel_rfl)) (fun _ _ _ h => h) (Or.inl ⟨by rfl, ?_⟩) hHeld ?_ ?_
    rotate_left
    ·
     rintro w' ⟨s0, s1, s2, s3, s4, s5⟩
     go_simp
     with_reducible rfl
    rotate_left
    ·
     simp only [Act.put, List.setIfInBounds_toArray, List.set_cons_zero, List.set_cons_succ, i64_w, i32_w]
     rfl
    refine qp 4 (some 40) #[true, true, true, true, true, true, false, true, false, false, true, false, false, false, false, false] ?_
    refine take_ (i := 6) (N := some 42) (v := ?_) (a' := ?_) #[true, true, true, true, true, true, true, true, false, false, true, false, false, false, false, false] rfl rfl (take_ofW HT_.out HW_.out (by kernel_rfl)) (fun _ _ _ h => h) (Or.inl ⟨by rfl, ?_⟩) hHeld ?_ ?_
    rotate_left
    ·
     rintro w' ⟨s0, s1, s2, s3, s4, s5⟩
     go_simp
     with_reducible rfl
    rotate_left
    ·
     simp only [Act.put, List.setIfInBounds_toArray, List.set_cons_zero, List.set_cons_succ, i64_w, i32_w]
     rfl
    refine take_ (i := 8) (N := some 44) (v := ?_) (a' := ?_) #[true, true, true, true, true, true, true, true, true, false, true, false, false, false, false, false] rfl rfl (take_ofW HT_.out HW_.out (by kernel_rfl)) (fun _ _ _ h => h) (Or.inl ⟨by rfl, ?_⟩) hHeld ?_ ?_
    rotate_left
    ·
     rintro w' ⟨s0, s1, s2, s3, s4, s5⟩
     go_simp
     with_reducible rfl
    rotate_left
    ·
     simp only [Act.put, List.setIfInBounds_toArray, List.set_cons_zero, List.set_cons_succ, i64_w, i32_w]
     rfl
    refine qp 9 (some 45) #[true, true, true, true, true, true, true, true, true, true, true, false, false, false, false, false] ?_
    refine take_ (i := 11) (N := some 47) (v := ?_) (a' := ?_) #[true, true, true, true, true, true, true, true, true, true, true, true, false, false, false, false] rfl rfl (take_ofW HT_.out HW_.out (by kernel_rfl)) (fun _ _ _ h => h) (Or.inl ⟨by rfl, ?_⟩) hHeld ?_ ?_
    rotate_left
    ·
     rintro w' ⟨s0, s1, s2, s3, s4, s5⟩
     go_simp
     with_reducible rfl
    rotate_left
    ·
     simp only [Act.put, List.setIfInBounds_toArray, List.set_cons_zero, List.set_cons_succ, i64_w, i32_w]
     rfl
    refine join_ (σ := Value × Nat) 1 #[true, true, true, true, true, true, true, true, true, true, true, true, true, true, true, false] (fun s_ => [(48, s_.1), (6, .pointer (some ⟨s_.2, 0, none⟩)), (49, .agg #[.int .i64 (wrap64 (a0_0 + a1_0)), .int .i64 (wrap64 (a0_1 + a1_1)), s_.1])]) (fun s_ w' => (w'.cell? ⟨gb443, 0, none⟩ = some (.int .i64 a0_0) ∧ w'.cell? ⟨gb443, 1, none⟩ = some (.int .i64 a0_1) ∧ w'.cell? ⟨gb443, 2, none⟩ = some (.slice A0_2 l0_2.length c0_2) ∧ w'.cell? ⟨gb444, 0, none⟩ = some (.int .i64 a1_0) ∧ w'.cell? ⟨gb444, 1, none⟩ = some (.int .i64 a1_1) ∧ w'.cell? ⟨gb444, 2, none⟩ = some (.slice A1_2 l1_2.length c1_2)) ∧ (Kd.R (Kd.int .i64) 3 w' w.heap.size (fun _ => True) s_.1 t450) ∧ (w'.heap[gb443]? = some (.cells #[.int .i64 a0_0, .int .i64 a0_1, .slice A0_2 l0_2.length c0_2] 26 (0, 0))) ∧ (w'.heap[gb444]? = some (.cells #[.int .i64 a1_0, .int .i64 a1_1, .slice A1_2 l1_2.length c1_2] 26 (0, 0))) ∧ (w'.heap[gb445]? = some (.cells #[.int .i64 0, .int .i64 0, .slice none 0 0] 26 (0, 0))) ∧ (w'.heap[s_.2]? = some (.cells #[.int .i64 0, .int .i64 0, .slice none 0 0] 26 (0, 0))) ∧ (w.heap.size ≤ s_.2) ∧ (w.heap.size ≤ s_.2) ∧ (gb443 ≠ s_.2) ∧ (s_.2 ≠ gb443) ∧ (gb444 ≠ s_.2) ∧ (s_.2 ≠ gb444) ∧ (gb445 ≠ s_.2) ∧ (s_.2 ≠ gb445) ∧ (Below w.heap.size w w')) ?_ ?_
    rotate_left
    ·
     intro hCont
     refine two_ (i := 12) (j := 14) (Ni := some 48) (Nj := some 6) #[true, true, true, true, true, true, true, true, true, true, true, true, true, false, false, false] #[true, true, true, true, true, true, true, true, true, true, true, true, false, false, true, false] rfl rfl rfl rfl (two_of HT_.out (by kernel_rfl)) (by decide) (by decide) (fun K hK => ?_) (fun K hK => ?_)
     ·
      skip
      refine qG Try.func75 #[.slice A0_2 l0_2.length c0_2] ?_
      with_reducible refine (slices_Clone_int_int.calls _ _ l0_2 t450 _ ?side1 ?side2 A47.out).mono ?_
      (case side1 => exact Q0)
      (case side2 => exact HC0_2.out)
      rintro e w49 ⟨v451, rfl, ho0, hb⟩
      refine ⟨_, rfl, ?_⟩
      have Oq0 := ql ho0
      replace BK443 := sqB BK443 hb
      replace BK444 := sqB BK444 hb
      replace BK445 := sqB BK445 hb
      replace HB := qs hb
      (try clear hb ho0)
      obtain ⟨Ao50, co50, eo50⟩ := Kd.R_slice Oq0.out
      (first | subst eo50 | (injection eo50 with f1_ f2_ f3_; have f4_ := f1_.symm; have f5_ := f3_.symm; clear f1_ f2_ f3_; subst f4_; subst f5_))
      refine hK.out _ _ ⟨sqc BK443 0, sqc BK443 1, sqc BK443 2, sqc BK444 0, sqc BK444 1, sqc BK444 2⟩ (fun hHeld => ?_)
      clear hK K
      refine qq (some 48) ?_
      refine qp 13 (some 49) #[true, true, true, true, true, true, true, true, true, true, true, true, true, true, false, false] ?_
      refine one_ (i := 14) (N := some 6) #[true, true, true, true, true, true, true, true, true, true, true, true, true, true, true, false] rfl rfl (one_of HT_.out (by kernel_rfl)) (by decide) fun K hK => ?_
      refine box_step ?hg (N := 6) ?hd (cs := #[.int .i64 0, .int .i64 0, .slice none 0 0]) (t := 26) ?hr ?_; (case hd => rfl); (case hg => rfl); (case hr => first | (go_simp; done) | (go_simp; rfl))
      intro gb453 hg w51 hbox hb
      have BK453 := am hbox
      have GW453 := qw hg
      have GE453 := qw hg
      have Nq2 := qn hg BK443
      have Nq9 := qN hg BK443
      have Nq5 := qn hg BK444
      have Nq10 := qN hg BK444
      have Nq8 := qn hg BK445
      have Nq11 := qN hg BK445
      replace Oq0 := sqR Oq0 hb
      replace BK443 := sqB BK443 hb
      replace BK444 := sqB BK444 hb
      replace BK445 := sqB BK445 hb
      replace HB := qs hb
      clear hb hbox hg
      refine hK.out _ _ ⟨sqc BK443 0, sqc BK443 1, sqc BK443 2, sqc BK444 0, sqc BK444 1, sqc BK444 2⟩ (fun hHeld => ?_)
      clear hK K
      refine qq (some 6) ?_
      exact norm_ Q27 (hCont (.slice Ao50 t450.length co50, gb453) _ ⟨hHeld, (sqr Oq0), (sqb BK443), (sqb BK444), (sqb BK445), (sqb BK453), GW453.out, GE453.out, Nq2.out, Nq9.out, Nq5.out, Nq10.out, Nq8.out, Nq11.out, qb⟩)
     ·
      skip
      refine box_step ?hg (N := 6) ?hd (cs := #[.int .i64 0, .int .i64 0, .slice none 0 0]) (t := 26) ?hr ?_; (case hd => rfl); (case hg => rfl); (case hr => first | (go_simp; done) | (go_simp; rfl))
      intro gb453 hg w49 hbox hb
      have BK453 := am hbox
      have GW453 := qw hg
      have GE453 := qw hg
      have Nq2 := qn hg BK443
      have Nq9 := qN hg BK443
      have Nq5 := qn hg BK444
      have Nq10 := qN hg BK444
      have Nq8 := qn hg BK445
      have Nq11 := qN hg BK445
      replace BK443 := sqB BK443 hb
      replace BK444 := sqB BK444 hb
      replace BK445 := sqB BK445 hb
      replace HB := qs hb
      clear hb hbox hg
      refine hK.out _ _ ⟨sqc BK443 0, sqc BK443 1, sqc BK443 2, sqc BK444 0, sqc BK444 1, sqc BK444 2⟩ (fun hHeld => ?_)
      clear hK K
      refine qq (some 6) ?_
      refine one_ (i := 12) (N := some 48) #[true, true, true, true, true, true, true, true, true, true, true, true, true, false, true, false] rfl rfl (one_of HT_.out (by kernel_rfl)) (by decide) fun K hK => ?_
      refine qG Try.func75 #[.slice A0_2 l0_2.length c0_2] ?_
      with_reducible refine (slices_Clone_int_int.calls _ _ l0_2 t450 _ ?side1 ?side2 A47.out).mono ?_
      (case side1 => exact Q0)
      (case side2 => exact HC0_2.out)
      rintro e w50 ⟨v451, rfl, ho0, hb⟩
      refine ⟨_, rfl, ?_⟩
      have Oq0 := ql ho0
      replace BK443 := sqB BK443 hb
      replace BK444 := sqB BK444 hb
      replace BK445 := sqB BK445 hb
      replace BK453 := sqB BK453 hb
      replace HB := qs hb
      (try clear hb ho0)
      obtain ⟨Ao51, co51, eo51⟩ := Kd.R_slice Oq0.out
      (first | subst eo51 | (injection eo51 with f1_ f2_ f3_; have f4_ := f1_.symm; have f5_ := f3_.symm; clear f1_ f2_ f3_; subst f4_; subst f5_))
      refine hK.out _ _ ⟨sqc BK443 0, sqc BK443 1, sqc BK443 2, sqc BK444 0, sqc BK444 1, sqc BK444 2⟩ (fun hHeld => ?_)
      clear hK K
      refine qq (some 48) ?_
      refine qp 13 (some 49) #[true, true, true, true, true, true, true, true, true, true, true, true, true, true, true, false] ?_
      exact norm_ Q27 (hCont (.slice Ao51 t450.length co51, gb453) _ ⟨hHeld, (sqr Oq0), (sqb BK443), (sqb BK444), (sqb BK445), (sqb BK453), GW453.out, GE453.out, Nq2.out, Nq9.out, Nq5.out, Nq10.out, Nq8.out, Nq11.out, qb⟩)
    rintro ⟨v451, gb453⟩ w52 ⟨hS_, h0_, h1_, h2_, h3_, h4_, h5_, h6_, h7_, h8_, h9_, h10_, h11_, h12_, h13_⟩
    have n0_ : Aside0 (Kd.R (Kd.int .i64) 3 w52 w.heap.size (fun _ => True) v451 t450) := ⟨h0_⟩
    have n1_ : Aside0 (w52.heap[gb443]? = some (.cells #[.int .i64 a0_0, .int .i64 a0_1, .slice A0_2 l0_2.length c0_2] 26 (0, 0))) := ⟨h1_⟩
    have n2_ : Aside0 (w52.heap[gb444]? = some (.cells #[.int .i64 a1_0, .int .i64 a1_1, .slice A1_2 l1_2.length c1_2] 26 (0, 0))) := ⟨h2_⟩
    have n3_ : Aside0 (w52.heap[gb445]? = some (.cells #[.int .i64 0, .int .i64 0, .slice none 0 0] 26 (0, 0))) := ⟨h3_⟩
    have n4_ : Aside0 (w52.heap[gb453]? = some (.cells #[.int .i64 0, .int .i64 0, .slice none 0 0] 26 (0, 0))) := ⟨h4_⟩
    have n5_ : Aside0 (w.heap.size ≤ gb453) := ⟨h5_⟩
    have n6_ : Aside0 (w.heap.size ≤ gb453) := ⟨h6_⟩
    have n7_ : Aside0 (gb443 ≠ gb453) := ⟨h7_⟩
    have n8_ : Aside0 (gb453 ≠ gb443) := ⟨h8_⟩
    have n9_ : Aside0 (gb444 ≠ gb453) := ⟨h9_⟩
    have n10_ : Aside0 (gb453 ≠ gb444) := ⟨h10_⟩
    have n11_ : Aside0 (gb445 ≠ gb453) := ⟨h11_⟩
    have n12_ : Aside0 (gb453 ≠ gb445) := ⟨h12_⟩
    have n13_ : Aside0 (Below w.heap.size w w52) := ⟨h13_⟩
    clear BK443 BK444 BK445 HB h0_ h1_ h2_ h3_ h4_ h5_ h6_ h7_ h8_ h9_ h10_ h11_ h12_ h13_
    have Oq0 := n0_
    have BK443 := n1_
    have BK444 := n2_
    have BK445 := n3_
    have BK453 := n4_
    have GW453 := n5_
    have GE453 := n6_
    have Nq2 := n7_
    have Nq9 := n8_
    have Nq5 := n9_
    have Nq10 := n10_
    have Nq8 := n11_
    have Nq11 := n12_
    have HB := n13_
    clear n0_ n1_ n2_ n3_ n4_ n5_ n6_ n7_ n8_ n9_ n10_ n11_ n12_ n13_
    have hHeld : w52.cell? ⟨gb443, 0, none⟩ = some (.int .i64 a0_0) ∧ w52.cell? ⟨gb443, 1, none⟩ = some (.int .i64 a0_1) ∧ w52.cell? ⟨gb443, 2, none⟩ = some (.slice A0_2 l0_2.length c0_2) ∧ w52.cell? ⟨gb444, 0, none⟩ = some (.int .i64 a1_0) ∧ w52.cell? ⟨gb444, 1, none⟩ = some (.int .i64 a1_1) ∧ w52.cell? ⟨gb444, 2, none⟩ = some (.slice A1_2 l1_2.length c1_2) := hS_
    obtain ⟨Ao53, co53, eo53⟩ := Kd.R_slice Oq0.out
    (first | subst eo53 | (injection eo53 with f1_ f2_ f3_; have f4_ := f1_.symm; have f5_ := f3_.symm; clear f1_ f2_ f3_; subst f4_; subst f5_))
    refine norm_ (a' := ?_) ?_ ?_
    rotate_left
    ·
     simp only [putAll, Act.put, List.setIfInBounds_toArray, List.set_cons_zero, List.set_cons_succ]
     rfl
    refine one_ (i := 15) (N := none) #[true, true, true, true, true, true, true, true, true, true, true, true, true, true, true, true] rfl rfl (one_of HT_.out (by kernel_rfl)) (by decide) fun K hK => ?_
    have hs54 : w52.cell? ⟨gb453, 0, none⟩ = some (.int .i64 0) := sqc BK453 0
    have hfs54 := blk_frozen BK453.out 0
    have hq0 := Nq2.out
    have hq1 := Nq5.out
    have hq2 := Nq8.out
    have hms54_0 := Nq9.out
    have hms54_1 := Nq10.out
    have hms54_2 := Nq11.out
    have hs55 : w52.cell? ⟨gb453, 1, none⟩ = some (.int .i64 0) := sqc BK453 1
    have hfs55 := blk_frozen BK453.out 1
    have hq3 := Nq2.out
    have hq4 := Nq5.out
    have hq5 := Nq8.out
    have hms55_0 := Nq9.out
    have hms55_1 := Nq10.out
    have hms55_2 := Nq11.out
    have hs56 : w52.cell? ⟨gb453, 2, none⟩ = some (.slice none 0 0) := sqc BK453 2
    have hfs56 := blk_frozen BK453.out 2
    have hq6 := Nq2.out
    have hq7 := Nq5.out
    have hq8 := Nq8.out
    have hms56_0 := Nq9.out
    have hms56_1 := Nq10.out
    have hms56_2 := Nq11.out
    refine skip_ (w1 := ?_) (by rfl) rfl ?_ ?_
    rotate_left
    ·
     go_simp
     rfl
    refine hK.out _ _ ⟨((cell_far (p := ⟨gb453, _, none⟩) Nq2.out _).trans (((cell_far (p := ⟨gb453, _, none⟩) Nq2.out _).trans (((cell_far (p := ⟨gb453, _, none⟩) Nq2.out _).trans (hHeld.1)))))), ((cell_far (p := ⟨gb453, _, none⟩) Nq2.out _).trans (((cell_far (p := ⟨gb453, _, none⟩) Nq2.out _).trans (((cell_far (p := ⟨gb453, _, none⟩) Nq2.out _).trans (hHeld.2.1)))))), ((cell_far (p := ⟨gb453, _, none⟩) Nq2.out _).trans (((cell_far (p := ⟨gb453, _, none⟩) Nq2.out _).trans (((cell_far (p := ⟨gb453, _, none⟩) Nq2.out _).trans (hHeld.2.2.1)))))), ((cell_far (p := ⟨gb453, _, none⟩) Nq5.out _).trans (((cell_far (p := ⟨gb453, _, none⟩) Nq5.out _).trans (((cell_far (p := ⟨gb453, _, none⟩) Nq5.out _).trans (hHeld.2.2.2.1)))))), ((cell_far (p := ⟨gb453, _, none⟩) Nq5.out _).trans (((cell_far (p := ⟨gb453, _, none⟩) Nq5.out _).trans (((cell_far (p := ⟨gb453, _, none⟩) Nq5.out _).trans (hHeld.2.2.2.2.1)))))), ((cell_far (p := ⟨gb453, _, none⟩) Nq5.out _).trans (((cell_far (p := ⟨gb453, _, none⟩) Nq5.out _).trans (((cell_far (p := ⟨gb453, _, none⟩) Nq5.out _).trans (hHeld.2.2.2.2.2))))))⟩ (fun hHeld => ?_)
    clear hK K
    refine done_ (done_of HT_.out (by kernel_rfl)) ?_
    have bq13 := Nq3.out
    have cq13 := Nq0.out
    have bq14 := Nq4.out
    have cq14 := Nq7.out
    have bq15 := Nq5.out
    have cq15 := Nq10.out
    obtain ⟨zq36, zq37, zq38, fq36, fq37, fq38⟩ := qd BK444
    try go_wp2
    go_loopg [53] kj2 (fun kq v53 w' => ∃ (x53_2 : Int) (x454002_2 : List Int) (u454002 : Value), v53 = .int .i64 x53_2 ∧ Aside0 (impl_StackBoards.l0 kq l1_2 (l1_2.length : Int) x53_2 a0_0 a0_1 l0_2 (wrap64 (a0_0 + a1_0)) (wrap64 (a0_1 + a1_1)) x454002_2 = some (r1, r2, r3, r4)) ∧ Aside0 (kq ≤ kj2) ∧ Aside0 (Kd.R (Kd.int .i64) 3 w' w.heap.size (fun _ => True) u454002 x454002_2) ∧ Aside0 (w'.heap[gb443]? = some (.cells #[.int .i64 a0_0, .int .i64 a0_1, (.slice A0_2 l0_2.length c0_2)] 26 (0, 0))) ∧ Aside0 (w'.heap[gb444]? = some (.cells #[.int .i64 a1_0, .int .i64 a1_1, (.slice A1_2 l1_2.length c1_2)] 26 (0, 0))) ∧ Aside0 (w'.heap[gb445]? = some (.cells #[.int .i64 0, .int .i64 0, (.slice none 0 0)] 26 (0, 0))) ∧ Aside0 (w'.heap[gb453]? = some (.cells #[.int .i64 (wrap64 (a0_0 + a1_0)), .int .i64 (wrap64 (a0_1 + a1_1)), u454002] 26 (0, 0))) ∧ Aside0 (Below w.heap.size w w'))
    case atStart => exact ⟨(0), (t450), (.slice Ao53 t450.length co53), Q3, H', ⟨Nat.le_refl _⟩, ⟨by (with_reducible repeat (first | apply Kd.R_alloc | apply Kd.R_drewN | apply Kd.R_drew)); exact Kd.R_mono (Kd.R_far (p := ⟨gb453, 2, none⟩) (Kd.R_far (p := ⟨gb453, 1, none⟩) (Kd.R_far (p := ⟨gb453, 0, none⟩) (Kd.R_types Oq0.out BK453.out (by decide)) (fun _ hk => hk.2) (.int .i64 (wrap64 (a0_0 + a1_0)))) (fun _ hk => hk.2) (.int .i64 (wrap64 (a0_1 + a1_1)))) (fun _ hk => hk.2) (.slice Ao53 t450.length co53)) (fun _ hk => trivial)⟩, ⟨by (with_reducible repeat (first | refine blk_drewN ?_ _ | refine blk_drew ?_ | refine blk_alloc ?_ _)); refine blk_far ?_ Nq2.out _; (with_reducible repeat (first | refine blk_drewN ?_ _ | refine blk_drew ?_ | refine blk_alloc ?_ _)); refine blk_far ?_ Nq2.out _; (with_reducible repeat (first | refine blk_drewN ?_ _ | refine blk_drew ?_ | refine blk_alloc ?_ _)); refine blk_far ?_ Nq2.out _; (with_reducible repeat (first | refine blk_drewN ?_ _ | refine blk_drew ?_ | refine blk_alloc ?_ _)); exact BK443.out⟩, ⟨by (with_reducible repeat (first | refine blk_drewN ?_ _ | refine blk_drew ?_ | refine blk_alloc ?_ _)); refine blk_far ?_ Nq5.out _; (with_reducible repeat (first | refine blk_drewN ?_ _ | refine blk_drew ?_ | refine blk_alloc ?_ _)); refine blk_far ?_ Nq5.out _; (with_reducible repeat (first | refine blk_drewN ?_ _ | refine blk_drew ?_ | refine blk_alloc ?_ _)); refine blk_far ?_ Nq5.out _; (with_reducible repeat (first | refine blk_drewN ?_ _ | refine blk_drew ?_ | refine blk_alloc ?_ _)); exact BK444.out⟩, ⟨by (with_reducible repeat (first | refine blk_drewN ?_ _ | refine blk_drew ?_ | refine blk_alloc ?_ _)); refine blk_far ?_ Nq8.out _; (with_reducible repeat (first | refine blk_drewN ?_ _ | refine blk_drew ?_ | refine blk_alloc ?_ _)); refine blk_far ?_ Nq8.out _; (with_reducible repeat (first | refine blk_drewN ?_ _ | refine blk_drew ?_ | refine blk_alloc ?_ _)); refine blk_far ?_ Nq8.out _; (with_reducible repeat (first | refine blk_drewN ?_ _ | refine blk_drew ?_ | refine blk_alloc ?_ _)); exact BK445.out⟩, ⟨by (with_reducible repeat (first | refine blk_drewN ?_ _ | refine blk_drew ?_ | refine blk_alloc ?_ _)); refine blk_put (cs := #[.int .i64 (wrap64 (a0_0 + a1_0)), .int .i64 (wrap64 (a0_1 + a1_1)), .slice none 0 0]) ?_ 2 _ rfl; (with_reducible repeat (first | refine blk_drewN ?_ _ | refine blk_drew ?_ | refine blk_alloc ?_ _)); refine blk_put (cs := #[.int .i64 (wrap64 (a0_0 + a1_0)), .int .i64 0, .slice none 0 0]) ?_ 1 _ rfl; (with_reducible repeat (first | refine blk_drewN ?_ _ | refine blk_drew ?_ | refine blk_alloc ?_ _)); refine blk_put (cs := #[.int .i64 0, .int .i64 0, .slice none 0 0]) ?_ 0 _ rfl; (with_reducible repeat (first | refine blk_drewN ?_ _ | refine blk_drew ?_ | refine blk_alloc ?_ _)); exact BK453.out⟩, ⟨qb⟩⟩
    case round =>
     clear H'
     try clear c8; try clear c10; try clear c12; try clear c43; try clear zq0; try clear zq1; try clear zq2; try clear zq3; try clear zq4; try clear zq5; try clear zq6; try clear zq7; try clear zq8; try clear zq9; try clear zq10; try clear zq11; try clear zq12; try clear zq13; try clear zq14; try clear zq15; try clear zq16; try clear zq17; try clear zq18; try clear zq19; try clear zq20; try clear zq21; try clear zq22; try clear zq23; try clear zq24; try clear zq25; try clear zq26; try clear zq27; try clear zq28; try clear zq29; try clear zq30; try clear zq31; try clear zq32; try clear zq33; try clear zq34; try clear zq35; try clear zq36; try clear zq37; try clear zq38; try clear fq0; try clear fq1; try clear fq2; try clear fq3; try clear fq4; try clear fq5; try clear fq6; try clear fq7; try clear fq8; try clear fq9; try clear fq10; try clear fq11; try clear fq12; try clear fq13; try clear fq14; try clear fq15; try clear fq16; try clear fq17; try clear fq18; try clear fq19; try clear fq20; try clear fq21; try clear fq22; try clear fq23; try clear fq24; try clear fq25; try clear fq26; try clear fq27; try clear fq28; try clear fq29; try clear fq30; try clear fq31; try clear fq32; try clear fq33; try clear fq34; try clear fq35; try clear fq36; try clear fq37; try clear fq38
     obtain ⟨x53_2, x454002_2, u454002, rfl, HA, HK2, Oq2, BK443, BK444, BK445, BK453, HB⟩ := hrel
     cases gk with
     | zero => exact absurd HA.out (by simp [impl_StackBoards.l0])
     | succ k2 =>
      have H := HA.out
      clear HA
      simp only [impl_StackBoards.l0] at H
      by_cases c61 : x53_2 < (l1_2.length : Int)
      ·
       rw [if_pos c61] at H
       have c61b0 : decide (x53_2 < (l1_2.length : Int)) = true := decide_eq_true c61
       clear c61
       by_cases c62 : 0 ≤ x53_2
       ·
        rw [if_pos c62] at H
        have c62b0 : decide (0 ≤ x53_2) = true := decide_eq_true c62
        clear c62
        by_cases c63 : x53_2 < (l1_2.length : Int)
        ·
         rw [if_pos c63] at H
         have c63b0 : decide (x53_2 < (l1_2.length : Int)) = true := decide_eq_true c63
         clear c63
         by_cases c64 : 0 ≤ a0_1
         ·
          rw [if_pos c64] at H
          have c64b0 := eq_true c64
          have c64b1 : decide (0 ≤ a0_1) = true := decide_eq_true c64
          clear c64
          obtain ⟨ji65, hji65⟩ : ∃ j_ : Int, (shl .i64 (rd l1_2 x53_2) a0_1) = j_ := ⟨_, rfl⟩
          replace H : (if x454002_2.length < 17592186044416 then (impl_StackBoards.l0 k2 l1_2 (l1_2.length : Int) (wrap64 (x53_2 + 1)) a0_0 a0_1 l0_2 (wrap64 (a0_0 + a1_0)) (wrap64 (a0_1 + a1_1)) (x454002_2 ++ [ji65])) else (none)) = some (r1, r2, r3, r4) := by first | (rw [hji65] at H; exact H) | (simp only [hji65] at H ⊢; exact H)
          have hji65_ : (IntKind.i64.wrap ((rd l1_2 x53_2) * 2 ^ min a0_1.toNat 64)) = ji65 := hji65
          have hji65z : a0_1 ≤ 64 → (IntKind.i64.wrap ((rd l1_2 x53_2) * 2 ^ a0_1.toNat)) = ji65 := shl_small hji65
          have hji65y : (wrap64 ((rd l1_2 x53_2) * 2 ^ min a0_1.toNat 64)) = ji65 := (i64_w _).symm.trans hji65_
          have hji65x : a0_1 ≤ 64 → (wrap64 ((rd l1_2 x53_2) * 2 ^ a0_1.toNat)) = ji65 := fun h_ => (i64_w _).symm.trans (hji65z h_)
          by_cases c66 : x454002_2.length < 17592186044416
          ·
           rw [if_pos c66] at H
           have LMc66 := Aside0.mk c66
           clear c66
           obtain ⟨y455, hy_⟩ : ∃ y_ : List Int, y_ = ((x454002_2 ++ [ji65])) := ⟨_, rfl⟩
           replace H : (impl_StackBoards.l0 k2 l1_2 (l1_2.length : Int) (wrap64 (x53_2 + 1)) a0_0 a0_1 l0_2 (wrap64 (a0_0 + a1_0)) (wrap64 (a0_1 + a1_1)) y455) = some (r1, r2, r3, r4) := qH
           have Ny455 := Aside0.mk hy_
           clear hy_
           have H' := Aside0.mk H
           clear H
           have p454 : 0 ≤ (x53_2 : Int) := of_decide_eq_true Q2
           have q454 : x53_2 < (l1_2.length : Int) := of_decide_eq_true Q2
           obtain ⟨ad454, e454, hx454_0⟩ := Kd.at_int HR1_2.out x53_2 p454 q454
           cases e454
           replace hx454_0 := (HB.out.cell (World.block_lt_of_cell? w _ hx454_0)).trans hx454_0
           replace p454 := eq_true p454
           replace q454 := eq_true q454
           try go_wp2
           replace Oq2 := am (Kd.R_drew Oq2.out)
           replace BK443 := am (blk_drew BK443.out)
           replace BK444 := am (blk_drew BK444.out)
           replace BK445 := am (blk_drew BK445.out)
           replace BK453 := am (blk_drew BK453.out)
           replace HB := am (below_drew1 HB.out)
           refine start_ (n := 10) (S := fun w' => w'.cell? ⟨gb453, 0, none⟩ = some (.int .i64 (wrap64 (a0_0 + a1_0))) ∧ w'.cell? ⟨gb453, 1, none⟩ = some (.int .i64 (wrap64 (a0_1 + a1_1))) ∧ w'.cell? ⟨gb453, 2, none⟩ = some (u454002) ∧ w'.cell? ⟨gb443, 0, none⟩ = some (.int .i64 a0_0) ∧ w'.cell? ⟨gb443, 1, none⟩ = some (.int .i64 a0_1) ∧ w'.cell? ⟨gb443, 2, none⟩ = some (.slice A0_2 l0_2.length c0_2)) (ds := [9]) #[false, false, false, false, false, false, false, false, false, false] (by kernel_rfl) rfl rfl ⟨sqc BK453 0, sqc BK453 1, sqc BK453 2, sqc BK443 0, sqc BK443 1, sqc BK443 2⟩ (fun hHeld => ?_); refine with_tabW impl_StackBoards.tab7 impl_StackBoards.bits7 (fun HT_ HW_ => ?_)
           generalize wr.drew = w67 at Oq2 BK443 BK444 BK445 BK453 HB hHeld ⊢
           refine qp 0 (some 57) #[true, false, false, false, false, false, false, false, false, false] ?_
           refine qp 2 (some 59) #[true, false, true, false, false, false, false, false, false, false] ?_
           refine qp 3 (some 60) #[true, false, true, true, false, false, false, false, false, false] ?_
           refine take_ (i := 1) (N := some 58) (v := ?_) (a' := ?_) #[true, true, true, true, false, false, false, false, false, false] rfl rfl (take_ofW HT_.out HW_.out (by kernel_rfl)) (fun _ _ _ h => h) (Or.inl ⟨by rfl, ?_⟩) hHeld ?_ ?_
           rotate_left
           ·
            rintro w' ⟨s0, s1, s2, s3, s4, s5⟩
            go_simp
            with_reducible rfl
           rotate_left
           ·
            simp only [Act.put, List.setIfInBounds_toArray, List.set_cons_zero, List.set_cons_succ, i64_w, i32_w]
            rfl
           refine take_ (i := 4) (N := some 61) (v := ?_) (a' := ?_) #[true, true, true, true, true, false, false, false, false, false] rfl rfl (take_ofW HT_.out HW_.out (by kernel_rfl)) (fun _ _ _ h => h) (Or.inl ⟨by rfl, ?_⟩) hHeld ?_ ?_
           rotate_left
           ·
            rintro w' ⟨s0, s1, s2, s3, s4, s5⟩
            go_simp
            with_reducible rfl
           rotate_left
           ·
            simp only [Act.put, List.setIfInBounds_toArray, List.set_cons_zero, List.set_cons_succ, i64_w, i32_w]
            rfl
           refine qp 5 (some 62) #[true, true, true, true, true, true, false, false, false, false] ?_
           refine one_ (i := 6) (N := some 63) #[true, true, true, true, true, true, true, false, false, false] rfl rfl (one_of HT_.out (by kernel_rfl)) (by decide) fun K hK => ?_
           refine value_ (w1 := ?_) (v := ?_) (by rfl) rfl ?_ ?_
           rotate_left 2
           ·
            go_simp
            constructor
            ·
             rfl
            ·
             rfl
           refine hK.out _ _ ⟨(blk_cell (blk_alloc BK453.out _) 0).trans rfl, (blk_cell (blk_alloc BK453.out _) 1).trans rfl, (blk_cell (blk_alloc BK453.out _) 2).trans rfl, (blk_cell (blk_alloc BK443.out _) 0).trans rfl, (blk_cell (blk_alloc BK443.out _) 1).trans rfl, (blk_cell (blk_alloc BK443.out _) 2).trans rfl⟩ (fun hHeld => ?_)
           clear hK K
           refine qq (some 63) ?_
           refine one_ (i := 7) (N := some 64) #[true, true, true, true, true, true, true, true, false, false] rfl rfl (one_of HT_.out (by kernel_rfl)) (by decide) fun K hK => ?_
           refine Kd.R_append_step (Kd.int .i64) (w0 := w) w.heap.size (by rfl) (.tmp 58) (.tmp 63) 24 3 (.int .i64 0) 8 rfl Try.underlying24 info3 rfl (by decide) (by omega) u454002 x454002_2 ji65 [.int .i64 ji65] (fun _ => True) (fun _ => False) rfl rfl ?aP (fun _ hk => hk.elim) ?aF ?aO ?aB ?aS ?aL ?_
           (case aP => exact rfl)
           (case aB => exact qb)
           (case aF => exact (fun _ _ => trivial))
           (case aO => exact (sqr Oq2))
           (case aS => exact (below_size qb))
           (case aL => have := LMc66.out; omega)
           intro v456 w68 ho hb hg hat
           rw [← Ny455.out] at ho
           have Oq1 := am (ho)
           replace BK443 := am (blk_grown (g := gb443) (o := .cells #[.int .i64 a0_0, .int .i64 a0_1, .slice A0_2 l0_2.length c0_2] 26 (0, 0)) (sqb BK443) hg (Kd.R_ne Oq2.out BK443.out (by decide)))
           replace BK444 := am (blk_grown (g := gb444) (o := .cells #[.int .i64 a1_0, .int .i64 a1_1, .slice (some ad454) l1_2.length c1_2] 26 (0, 0)) (sqb BK444) hg (Kd.R_ne Oq2.out BK444.out (by decide)))
           replace BK445 := am (blk_grown (g := gb445) (o := .cells #[.int .i64 0, .int .i64 0, .slice none 0 0] 26 (0, 0)) (sqb BK445) hg (Kd.R_ne Oq2.out BK445.out (by decide)))
           replace BK453 := am (blk_grown (g := gb453) (o := .cells #[.int .i64 (wrap64 (a0_0 + a1_0)), .int .i64 (wrap64 (a0_1 + a1_1)), u454002] 26 (0, 0)) (sqb BK453) hg (Kd.R_ne Oq2.out BK453.out (by decide)))
           replace HB := am hb
           clear Oq2
           clear ho hb hg hat
           obtain ⟨Ao69, co69, eo69⟩ := Kd.R_slice Oq1.out
           (first | subst eo69 | (injection eo69 with f1_ f2_ f3_; have f4_ := f1_.symm; have f5_ := f3_.symm; clear f1_ f2_ f3_; subst f4_; subst f5_))
           refine hK.out _ _ ⟨sqc BK453 0, sqc BK453 1, sqc BK453 2, sqc BK443 0, sqc BK443 1, sqc BK443 2⟩ (fun hHeld => ?_)
           clear hK K
           refine qq (some 64) ?_
           refine qp 8 (some 65) #[true, true, true, true, true, true, true, true, true, false] ?_
           refine last_ (i := 9) (N := none) #[true, true, true, true, true, true, true, true, true, true] rfl rfl (one_of HT_.out (by kernel_rfl)) (by decide) fun K hK => ?_
           have hs70 : w68.cell? ⟨gb453, 2, none⟩ = some (u454002) := sqc BK453 2
           have hfs70 := blk_frozen BK453.out 2
           have hq9 := Nq2.out
           have hq10 := Nq5.out
           have hq11 := Nq8.out
           have hms70_0 := Nq9.out
           have hms70_1 := Nq10.out
           have hms70_2 := Nq11.out
           refine skip_ (w1 := ?_) (by rfl) rfl ?_ ?_
           rotate_left
           ·
            go_simp
            rfl
           refine hK.out _ _ ?_
           clear hK K
           refine done_ (done_of HT_.out (by kernel_rfl)) ?_
           try go_wp2
           go_roundg k2
           case measure => have := HJ2.out; have := HK2.out; omega
           case rel => exact ⟨(wrap64 (x53_2 + 1)), (y455), (.slice Ao69 y455.length co69), Q3, H', ⟨by have := HJ2.out; have := HK2.out; omega⟩, ⟨by (with_reducible repeat (first | apply Kd.R_alloc | apply Kd.R_drewN | apply Kd.R_drew)); exact Kd.R_mono (Kd.R_far (p := ⟨gb453, 2, none⟩) (Kd.R_types Oq1.out BK453.out (by decide)) (fun _ hk => hk.2) (.slice Ao69 y455.length co69)) (fun _ hk => trivial)⟩, ⟨by (with_reducible repeat (first | refine blk_drewN ?_ _ | refine blk_drew ?_ | refine blk_alloc ?_ _)); refine blk_far ?_ Nq2.out _; (with_reducible repeat (first | refine blk_drewN ?_ _ | refine blk_drew ?_ | refine blk_alloc ?_ _)); exact BK443.out⟩, ⟨by (with_reducible repeat (first | refine blk_drewN ?_ _ | refine blk_drew ?_ | refine blk_alloc ?_ _)); refine blk_far ?_ Nq5.out _; (with_reducible repeat (first | refine blk_drewN ?_ _ | refine blk_drew ?_ | refine blk_alloc ?_ _)); exact BK444.out⟩, ⟨by (with_reducible repeat (first | refine blk_drewN ?_ _ | refine blk_drew ?_ | refine blk_alloc ?_ _)); refine blk_far ?_ Nq8.out _; (with_reducible repeat (first | refine blk_drewN ?_ _ | refine blk_drew ?_ | refine blk_alloc ?_ _)); exact BK445.out⟩, ⟨by (with_reducible repeat (first | refine blk_drewN ?_ _ | refine blk_drew ?_ | refine blk_alloc ?_ _)); refine blk_put (cs := #[.int .i64 (wrap64 (a0_0 + a1_0)), .int .i64 (wrap64 (a0_1 + a1_1)), u454002]) ?_ 2 _ rfl; (with_reducible repeat (first | refine blk_drewN ?_ _ | refine blk_drew ?_ | refine blk_alloc ?_ _)); exact BK453.out⟩, ⟨qb⟩⟩
          ·
           rw [if_neg c66] at H
           exact absurd H (by simp)
         ·
          rw [if_neg c64] at H
          exact absurd H (by simp)
        ·
         rw [if_neg c63] at H
         exact absurd H (by simp)
       ·
        rw [if_neg c62] at H
        exact absurd H (by simp)
      ·
       rw [if_neg c61] at H
       have c61b0 : decide (x53_2 < (l1_2.length : Int)) = false := decide_eq_false c61
       clear c61
       simp only [Option.some.injEq, Prod.mk.injEq] at H
       obtain ⟨rfl, rfl, rfl, rfl⟩ := H
       have bq16 := Nq9.out
       have cq16 := Nq2.out
       have bq17 := Nq10.out
       have cq17 := Nq5.out
       have bq18 := Nq11.out
       have cq18 := Nq8.out
       obtain ⟨zq39, zq40, zq41, fq39, fq40, fq41⟩ := qd BK453
       have bq19 := Nq6.out
       have cq19 := Nq1.out
       have bq20 := Nq7.out
       have cq20 := Nq4.out
       obtain ⟨zq42, zq43, zq44, fq42, fq43, fq44⟩ := qd BK445
       obtain ⟨Ao78, co78, eo78⟩ := Kd.R_slice Oq2.out
       subst eo78
       go_wp2
       refine bodyPost_ret (results_ct rfl _ _ gb445 26 #[.int .i64 (wrap64 (a0_0 + a1_0)), .int .i64 (wrap64 (a0_1 + a1_1)), .slice Ao78 x454002_2.length co78] (0, 0) _ rfl (by (with_reducible repeat (first | refine blk_drewN ?_ _ | refine blk_drew ?_ | refine blk_alloc ?_ _)); refine blk_put (cs := #[.int .i64 (wrap64 (a0_0 + a1_0)), .int .i64 (wrap64 (a0_1 + a1_1)), .slice none 0 0]) ?_ 2 _ rfl; (with_reducible repeat (first | refine blk_drewN ?_ _ | refine blk_drew ?_ | refine blk_alloc ?_ _)); refine blk_put (cs := #[.int .i64 (wrap64 (a0_0 + a1_0)), .int .i64 0, .slice none 0 0]) ?_ 1 _ rfl; (with_reducible repeat (first | refine blk_drewN ?_ _ | refine blk_drew ?_ | refine blk_alloc ?_ _)); refine blk_put (cs := #[.int .i64 0, .int .i64 0, .slice none 0 0]) ?_ 0 _ rfl; (with_reducible repeat (first | refine blk_drewN ?_ _ | refine blk_drew ?_ | refine blk_alloc ?_ _)); exact BK445.out) Try.underlying26 rfl (by kernel_rfl)) rfl ?_
       exact ⟨_, Q1, by (with_reducible repeat (first | apply Kd.R_alloc | apply Kd.R_drewN | apply Kd.R_drew)); exact Kd.R_mono (Kd.R_far (p := ⟨gb445, 2, none⟩) (Kd.R_far (p := ⟨gb445, 1, none⟩) (Kd.R_far (p := ⟨gb445, 0, none⟩) (Kd.R_types Oq2.out BK445.out (by decide)) (fun _ hk => hk.2) (.int .i64 (wrap64 (a0_0 + a1_0)))) (fun _ hk => hk.2) (.int .i64 (wrap64 (a0_1 + a1_1)))) (fun _ hk => hk.2) (.slice Ao78 x454002_2.length co78)) (fun _ hk => trivial), qb⟩

end Go.Proofs.Ytllhofdgbpnkkaa.PFnBoardsJoined
