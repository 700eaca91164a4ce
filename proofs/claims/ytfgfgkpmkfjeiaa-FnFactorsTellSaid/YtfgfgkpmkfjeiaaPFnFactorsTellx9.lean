-- Printed for this claim by wip/pp.py over the kit's printer; Lean checks it.
import Derived.Test.YtfgfgkpmkfjeiaaPFnFactorsTellx0
import Derived.Test.YtfgfgkpmkfjeiaaPFnFactorsTellx1
import Derived.Test.YtfgfgkpmkfjeiaaPFnFactorsTellx2
import Derived.Test.YtfgfgkpmkfjeiaaPFnFactorsTellx4
import Derived.Test.YtfgfgkpmkfjeiaaPFnFactorsTellx5
import Derived.Test.YtfgfgkpmkfjeiaaPFnFactorsTellx6
import Derived.Test.YtfgfgkpmkfjeiaaPFnFactorsTellx7
import Derived.Test.YtfgfgkpmkfjeiaaPFnFactorsTellx8
namespace Go.Proofs.Ytfgfgkpmkfjeiaa.PFnFactorsTell
open Go.RowKit Go.Proofs.YtfgfgkpmkfjeiaaW.PrintWords Go.Proofs.YtfgfgkpmkfjeiaaW.PrintLast Go.Proofs.YtfgfgkpmkfjeiaaW.PrintMore
attribute [local go_sem] max2_int min2_int max_two min_two max_three min_three max_four min_four   -- for this text's walks alone
set_option linter.unusedVariables false
set_option linter.unusedSimpArgs false

/-! ### impl_IsBoard: function 121 (by hand) -/
/-- A row that is no number below 2 to the columns. -/
def offB (a1 m : Int) : Bool := !(decide (0 ≤ m ∧ m ≤ 2 ^ a1.toNat - 1))
/-- Is it a board: rows, columns, one number a row, each below 2 to the columns. -/
def GoodB (a0 a1 : Int) (l : List Int) : Prop := (1 ≤ a0 ∧ a0 ≤ 6) ∧ (1 ≤ a1 ∧ a1 ≤ 6) ∧ (l.length : Int) = a0 ∧ ∀ x ∈ l, 0 ≤ x ∧ x ≤ 2 ^ a1.toNat - 1
instance (a0 a1 : Int) (l : List Int) : Decidable (GoodB a0 a1 l) := by unfold GoodB; exact inferInstance
def impl_IsBoard.f (a0_0 : Int) (a0_1 : Int) (l0_2 : List Int) : Option (Bool) := some (decide (GoodB a0_0 a0_1 l0_2))
-- (walk)
set_option maxHeartbeats 400000 in
theorem clos (g : Nat) (m a0 a1 : Int) (v2 : Value) (w : World) (hb : w.heap[g]? = some (.cells #[.int .i64 a0, .int .i64 a1, v2] 34 (0, 0))) (h1 : 1 ≤ a1) (h2 : a1 ≤ 6) :
  Calls Try.prog 202 #[.int .i64 m, .pointer (some ⟨g, 0, none⟩)] w fun e w' => e = .returned (.bool (offB a1 m)) ∧ Drawn0 w w' := by
 have hcell := blk_cell hb 1
 have hw : impl_within.f m 0 (wrap64 (wrap64 (2 ^ a1.toNat) - 1)) = some (decide (0 ≤ m ∧ m ≤ 2 ^ a1.toNat - 1)) := by
  have e : wrap64 (wrap64 (2 ^ a1.toNat) - 1) = 2 ^ a1.toNat - 1 := by
   obtain h | h | h | h | h | h : a1 = 1 ∨ a1 = 2 ∨ a1 = 3 ∨ a1 = 4 ∨ a1 = 5 ∨ a1 = 6 := by omega
   all_goals (subst h; decide +kernel)
  rw [e]; unfold impl_within.f
  by_cases h : 0 ≤ m
  ·
   rw [if_pos h]; simp [h]
  ·
   rw [if_neg h]; simp [h]
 have HW := Aside0.mk hw
 clear hw
 go_enter Try.func202, Try.ntmps202
 go_wp2_with (first | (go_at_call 120; refine (impl_within.calls _ _ _ _ _ HW.out).mono ?_; rintro e w' ⟨rfl, ⟨nd, rfl⟩⟩))
 go_ret
 exact ⟨by unfold offB; simp [Bool.decide_and], by repeat (first | exact Drawn0.refl _ | apply Drawn0.step)⟩
theorem isSide_eq (a : Int) : impl_isSide.f a = some (decide (1 ≤ a ∧ a ≤ 6)) := by
 unfold impl_isSide.f impl_within.f
 by_cases h : 1 ≤ a
 ·
  rw [if_pos h]; simp [h]
 ·
  rw [if_neg h]; simp [h]
theorem isSide_yes (a : Int) (w : World) (h : 1 ≤ a ∧ a ≤ 6) : Calls Try.prog 118 #[.int .i64 a] w fun e w' => e = .returned (.bool true) ∧ Drawn0 w w' :=
 impl_isSide.calls a true w ((isSide_eq a).trans (congrArg some (decide_eq_true h)))
theorem isSide_no (a : Int) (w : World) (h : ¬ (1 ≤ a ∧ a ≤ 6)) : Calls Try.prog 118 #[.int .i64 a] w fun e w' => e = .returned (.bool false) ∧ Drawn0 w w' :=
 impl_isSide.calls a false w ((isSide_eq a).trans (congrArg some (decide_eq_false h)))
theorem goodB_any (a0 a1 : Int) (l : List Int) (h0 : 1 ≤ a0 ∧ a0 ≤ 6) (h1 : 1 ≤ a1 ∧ a1 ≤ 6) (hl : (l.length : Int) = a0) : (!(l.any (offB a1))) = decide (GoodB a0 a1 l) := by
 rw [Bool.eq_iff_iff]
 simp only [GoodB, h0, h1, hl, true_and, decide_eq_true_eq, Bool.not_eq_true', List.any_eq_false]
 simp [offB]
set_option maxHeartbeats 1000000 in
theorem impl_IsBoard.calls (a0_0 : Int) (a0_1 : Int) (A0_2 : Option Addr) (c0_2 : Nat) (l0_2 : List Int) (r : Bool) (w : World) (hr0_2 : Kd.C (Kd.int .i64) w A0_2 l0_2.length l0_2) (hc0_2 : l0_2.length ≤ c0_2) (h : impl_IsBoard.f a0_0 a0_1 l0_2 = some r) :
  Calls Try.prog 121 #[.agg #[.int .i64 a0_0, .int .i64 a0_1, .slice A0_2 l0_2.length c0_2]] w fun e w' => e = .returned (.bool r) ∧ Below w.heap.size w w' := by
 have hu30 := Try.underlying34
 have HH := Aside0.mk h
 have HR := Aside0.mk hr0_2
 clear h hr0_2
 by_cases h0 : 1 ≤ a0_0 ∧ a0_0 ≤ 6
 ·
  by_cases h1 : 1 ≤ a0_1 ∧ a0_1 ≤ 6
  ·
   by_cases hl : (l0_2.length : Int) = a0_0
   ·
    have hne : ((l0_2.length : Int) != a0_0) = false := by simpa using hl
    have HL := Aside0.mk hl
    clear hl
    have HG := am (goodB_any a0_0 a0_1 l0_2 h0 h1 HL.out)
    have HW := am ((Below.refl w.heap.size w).alloc (Nat.le_refl _) (Obj.cells #[.int .i64 a0_0, .int .i64 a0_1, .slice A0_2 l0_2.length c0_2] 34 (0, 0)))
    go_enter Try.func121, Try.ntmps121
    go_wp2_with (go_at_call 118; refine (isSide_yes _ _ (by omega)).mono ?_; rintro e w' ⟨rfl, ⟨nd, rfl⟩⟩)
    refine (containsFunc 202 #[.pointer (some ⟨w.heap.size, 0, none⟩)] (offB a0_1) _ _ l0_2 _ ?c1 (by omega) (by have := HL.out; omega) Try.call202 ?c2).mono ?_
    case c1 => (repeat (first | exact HR.out | apply Kd.C_drewN | apply Kd.C_drew | apply Kd.C_alloc))
    case c2 => exact fun n m => clos _ m a0_0 a0_1 _ _ (by (repeat (first | refine blk_drewN ?_ _ | refine blk_drew ?_)); simpa using heap_alloc_new w _) (by omega) (by omega)
    rintro e w' ⟨rfl, ⟨nd, rfl⟩⟩
    go_wp2
    go_ret
    exact ⟨by have := HH.out; unfold impl_IsBoard.f at this; rw [← HG.out] at this; rw [← Option.some.inj this]; rfl, by repeat (first | exact HW.out | apply pw_below_drewN | apply below_drew1)⟩
   ·
    have hne : ((l0_2.length : Int) != a0_0) = true := by simpa using hl
    have hg : ¬ GoodB a0_0 a0_1 l0_2 := fun g => hl g.2.2.1
    obtain rfl : false = r := by have := HH.out; unfold impl_IsBoard.f at this; rw [decide_eq_false hg] at this; injection this
    have HW := am ((Below.refl w.heap.size w).alloc (Nat.le_refl _) (Obj.cells #[.int .i64 a0_0, .int .i64 a0_1, .slice A0_2 l0_2.length c0_2] 34 (0, 0)))
    clear hl hg
    go_enter Try.func121, Try.ntmps121
    go_wp2_with (go_at_call 118; refine (isSide_yes _ _ (by omega)).mono ?_; rintro e w' ⟨rfl, ⟨nd, rfl⟩⟩)
    go_ret
    exact ⟨rfl, by repeat (first | exact HW.out | apply pw_below_drewN | apply below_drew1)⟩
  ·
   have hg : ¬ GoodB a0_0 a0_1 l0_2 := fun g => h1 g.2.1
   obtain rfl : false = r := by have := HH.out; unfold impl_IsBoard.f at this; rw [decide_eq_false hg] at this; injection this
   have HW := am ((Below.refl w.heap.size w).alloc (Nat.le_refl _) (Obj.cells #[.int .i64 a0_0, .int .i64 a0_1, .slice A0_2 l0_2.length c0_2] 34 (0, 0)))
   have H0 := Aside0.mk h0
   have H1 := Aside0.mk h1
   clear h1 hg h0
   go_enter Try.func121, Try.ntmps121
   go_wp2_with fail
   refine (isSide_yes _ _ H0.out).mono ?_
   rintro e w' ⟨rfl, ⟨nd, rfl⟩⟩
   go_wp2_with fail
   refine (isSide_no _ _ H1.out).mono ?_
   rintro e w' ⟨rfl, ⟨nd, rfl⟩⟩
   go_wp2_with fail
   go_ret
   exact ⟨rfl, by repeat (first | exact HW.out | apply pw_below_drewN | apply below_drew1)⟩
 ·
  have hg : ¬ GoodB a0_0 a0_1 l0_2 := fun g => h0 g.1
  obtain rfl : false = r := by have := HH.out; unfold impl_IsBoard.f at this; rw [decide_eq_false hg] at this; injection this
  have HW := am ((Below.refl w.heap.size w).alloc (Nat.le_refl _) (Obj.cells #[.int .i64 a0_0, .int .i64 a0_1, .slice A0_2 l0_2.length c0_2] 34 (0, 0)))
  have H0 := Aside0.mk h0
  clear hg h0
  go_enter Try.func121, Try.ntmps121
  go_wp2_with fail
  refine (isSide_no _ _ H0.out).mono ?_
  rintro e w' ⟨rfl, ⟨nd, rfl⟩⟩
  go_wp2_with fail
  go_ret
  exact ⟨rfl, by repeat (first | exact HW.out | apply pw_below_drewN | apply below_drew1)⟩

/-! ### impl_RookNumbers: function 26 -/
def impl_RookNumbers.f (a0_0 : Int) (a0_1 : Int) (l0_2 : List Int) : Option (List Int × Bool) := (impl_IsBoard.f a0_0 a0_1 l0_2).bind fun t364 => (if t364 = true then ((impl_Board_numbers.f a0_0 a0_1 l0_2).bind fun t365 => (some (t365, true))) else (some (([] : List Int), false)))
set_option maxHeartbeats 8000000 in
set_option maxRecDepth 100000 in
theorem impl_RookNumbers.calls (a0_0 : Int) (a0_1 : Int) (A0_2 : Option Addr) (c0_2 : Nat) (l0_2 : List Int) (r1 : List Int) (r2 : Bool) (w : World) (hr0_2 : Kd.C (Kd.int .i64) w A0_2 l0_2.length l0_2) (hc0_2 : l0_2.length ≤ c0_2) (h : impl_RookNumbers.f a0_0 a0_1 l0_2 = some (r1, r2)) :
  Calls Try.prog 26 #[.agg #[.int .i64 a0_0, .int .i64 a0_1, .slice A0_2 l0_2.length c0_2]] w fun e w' => ∃ v0_ : Value, e = .returned (.tuple #[v0_, .bool r2]) ∧ Kd.R (Kd.int .i64) 3 w' w.heap.size (fun _ => True) v0_ r1 ∧ Below w.heap.size w w' := by
 have hu34 := Try.underlying34
 have HR0_2 := Aside0.mk hr0_2
 have HC0_2 := Aside0.mk hc0_2
 clear hr0_2 hc0_2
 have HB := am (Below.refl w.heap.size w)
 have H : ((impl_IsBoard.f a0_0 a0_1 l0_2).bind fun t364 => (if t364 = true then ((impl_Board_numbers.f a0_0 a0_1 l0_2).bind fun t365 => (some (t365, true))) else (some (([] : List Int), false)))) = some (r1, r2) := h
 clear h
 replace H := Option.bind_eq_some_iff.mp H
 obtain ⟨t364, A20, H⟩ := H
 replace H : (if t364 = true then ((impl_Board_numbers.f a0_0 a0_1 l0_2).bind fun t365 => (some (t365, true))) else (some (([] : List Int), false))) = some (r1, r2) := H
 have A2 := Aside0.mk A20
 clear A20
 by_cases c3 : t364 = true
 ·
  subst c3
  have H1 : ((impl_Board_numbers.f a0_0 a0_1 l0_2).bind fun t365 => (some (t365, true))) = some (r1, r2) := by first | (rw [if_pos rfl] at H; exact H) | rfl
  clear H
  have H := H1
  clear H1
  replace H := Option.bind_eq_some_iff.mp H
  obtain ⟨t365, A40, H⟩ := H
  replace H : (some (t365, true)) = some (r1, r2) := H
  have A4 := Aside0.mk A40
  clear A40
  simp only [Option.some.injEq, Prod.mk.injEq] at H
  obtain ⟨rfl, rfl⟩ := H
  go_enter Try.func26, Try.ntmps26
  go_wp2_with (first | ((with_reducible refine gate_dst (N := 1) rfl ?_); refine box_event ?hg (N := 1) ?hd (cs := #[.int .i64 a0_0, .int .i64 a0_1, .slice A0_2 l0_2.length c0_2]) (t := 34) ?hr ?_; (case hd => rfl); (case hg => rfl); (case hr => first | (go_simp; done) | (go_simp; rfl)); intro gb363 hg w5 hbox hb; have n0_ := am (below_step (by repeat with_reducible first | exact HB.out | apply pw_below_drewN | apply below_drew1) hb); have n1_ := am (hbox); have n2_ := am ((by rw [hg]; exact (below_size (by repeat with_reducible first | exact HB.out | apply pw_below_drewN | apply below_drew1)) : w.heap.size ≤ gb363)); have n3_ := am ((by rw [hg]; exact (below_size (by repeat with_reducible first | exact HB.out | apply pw_below_drewN | apply below_drew1)) : w.heap.size ≤ gb363)); clear HB; have HB := n0_; have BK363 := n1_; have GW363 := n2_; have GE363 := n3_; clear n0_ n1_ n2_ n3_; clear hb hbox hg; have zq15 : w5.cell? ⟨gb363, 0, none⟩ = some (.int .i64 a0_0) := sqc BK363 0; have zq16 : w5.cell? ⟨gb363, 1, none⟩ = some (.int .i64 a0_1) := sqc BK363 1; have zq17 : w5.cell? ⟨gb363, 2, none⟩ = some (.slice A0_2 l0_2.length c0_2) := sqc BK363 2; have fq15 := blk_frozen BK363.out 0; have fq16 := blk_frozen BK363.out 1; have fq17 := blk_frozen BK363.out 2) | ((with_reducible refine gate_callee (f := 121) rfl ?_); refine goesL_ (some 5) rfl rfl Try.func121 (by kernel_rfl) rfl #[.agg #[.int .i64 a0_0, .int .i64 a0_1, .slice A0_2 l0_2.length c0_2]] rfl (by (try simp only [List.map_toArray, List.map_cons, List.map_nil]); try rfl) ?_; (with_reducible refine (impl_IsBoard.calls a0_0 a0_1 _ _ l0_2 true _ ?side1 ?side2 A2.out).mono ?_); (case side1 => repeat (first | exact (Kd.C_below HR0_2.out HB.out) | (with_reducible first | refine Kd.C_alloc ?_ _ | refine Kd.C_drewN ?_ _ | refine Kd.C_drew ?_))); (case side2 => exact HC0_2.out); rintro e w7 ⟨rfl, hb⟩; refine ⟨_, rfl, ?_⟩; have n1_ := am (below_step (by repeat with_reducible first | exact HB.out | apply pw_below_drewN | apply below_drew1 | refine below_set ?_ GE363.out) hb); clear HB; replace BK363 := sqB BK363 hb; have HB := n1_; clear n1_; (try clear hb); (try clear hb2); (try clear hk); (try clear hi); have zq21 : w7.cell? ⟨gb363, 0, none⟩ = some (.int .i64 a0_0) := sqc BK363 0; have zq22 : w7.cell? ⟨gb363, 1, none⟩ = some (.int .i64 a0_1) := sqc BK363 1; have zq23 : w7.cell? ⟨gb363, 2, none⟩ = some (.slice A0_2 l0_2.length c0_2) := sqc BK363 2; have fq21 := blk_frozen BK363.out 0; have fq22 := blk_frozen BK363.out 1; have fq23 := blk_frozen BK363.out 2) | ((with_reducible refine gate_callee (f := 114) rfl ?_); refine goesL_ (some 8) rfl rfl Try.func114 (by kernel_rfl) rfl #[.agg #[.int .i64 a0_0, .int .i64 a0_1, .slice A0_2 l0_2.length c0_2]] rfl (by (try simp only [List.map_toArray, List.map_cons, List.map_nil]); try rfl) ?_; (with_reducible refine (impl_Board_numbers.calls a0_0 a0_1 _ _ l0_2 t365 _ ?side1 ?side2 A4.out).mono ?_); (case side1 => repeat (first | exact (Kd.C_below HR0_2.out HB.out) | (with_reducible first | refine Kd.C_alloc ?_ _ | refine Kd.C_drewN ?_ _ | refine Kd.C_drew ?_))); (case side2 => exact HC0_2.out); rintro e w9 ⟨v366, rfl, ho0, hb⟩; refine ⟨_, rfl, ?_⟩; have n0_ := am (Kd.R_lower ho0 (below_size (by repeat with_reducible first | exact HB.out | apply pw_below_drewN | apply below_drew1 | refine below_set ?_ GE363.out))); have n2_ := am (below_step (by repeat with_reducible first | exact HB.out | apply pw_below_drewN | apply below_drew1 | refine below_set ?_ GE363.out) hb); clear HB; have Oq1 := n0_; replace BK363 := sqB BK363 hb; have HB := n2_; clear n0_ n2_; (try clear hb); (try clear hb2); (try clear hk); (try clear hi); (try clear ho0)))
  go_ret2
  exact ⟨_, by first | rfl | (simp [errW_none, errW_some] <;> rfl) | (simp [*, errW_none, errW_some] <;> rfl), by (with_reducible repeat (first | apply Kd.R_alloc | apply Kd.R_drewN | apply Kd.R_drew)); exact Oq1.out, by repeat with_reducible first | exact HB.out | apply pw_below_drewN | apply below_drew1 | refine below_set ?_ GE363.out⟩
 ·
  replace c3 := Bool.eq_false_iff.mpr c3
  subst c3
  have H1 : (some (([] : List Int), false)) = some (r1, r2) := by first | (rw [if_neg (show ¬ (false = true) by decide)] at H; exact H) | rfl
  clear H
  have H := H1
  clear H1
  simp only [Option.some.injEq, Prod.mk.injEq] at H
  obtain ⟨rfl, rfl⟩ := H
  go_enter Try.func26, Try.ntmps26
  go_wp2_with (first | ((with_reducible refine gate_dst (N := 1) rfl ?_); refine box_event ?hg (N := 1) ?hd (cs := #[.int .i64 a0_0, .int .i64 a0_1, .slice A0_2 l0_2.length c0_2]) (t := 34) ?hr ?_; (case hd => rfl); (case hg => rfl); (case hr => first | (go_simp; done) | (go_simp; rfl)); intro gb363 hg w10 hbox hb; have n0_ := am (below_step (by repeat with_reducible first | exact HB.out | apply pw_below_drewN | apply below_drew1) hb); have n1_ := am (hbox); have n2_ := am ((by rw [hg]; exact (below_size (by repeat with_reducible first | exact HB.out | apply pw_below_drewN | apply below_drew1)) : w.heap.size ≤ gb363)); have n3_ := am ((by rw [hg]; exact (below_size (by repeat with_reducible first | exact HB.out | apply pw_below_drewN | apply below_drew1)) : w.heap.size ≤ gb363)); clear HB; have HB := n0_; have BK363 := n1_; have GW363 := n2_; have GE363 := n3_; clear n0_ n1_ n2_ n3_; clear hb hbox hg; have zq3 : w10.cell? ⟨gb363, 0, none⟩ = some (.int .i64 a0_0) := sqc BK363 0; have zq4 : w10.cell? ⟨gb363, 1, none⟩ = some (.int .i64 a0_1) := sqc BK363 1; have zq5 : w10.cell? ⟨gb363, 2, none⟩ = some (.slice A0_2 l0_2.length c0_2) := sqc BK363 2; have fq3 := blk_frozen BK363.out 0; have fq4 := blk_frozen BK363.out 1; have fq5 := blk_frozen BK363.out 2) | ((with_reducible refine gate_callee (f := 121) rfl ?_); refine goesL_ (some 5) rfl rfl Try.func121 (by kernel_rfl) rfl #[.agg #[.int .i64 a0_0, .int .i64 a0_1, .slice A0_2 l0_2.length c0_2]] rfl (by (try simp only [List.map_toArray, List.map_cons, List.map_nil]); try rfl) ?_; (with_reducible refine (impl_IsBoard.calls a0_0 a0_1 _ _ l0_2 false _ ?side1 ?side2 A2.out).mono ?_); (case side1 => repeat (first | exact (Kd.C_below HR0_2.out HB.out) | (with_reducible first | refine Kd.C_alloc ?_ _ | refine Kd.C_drewN ?_ _ | refine Kd.C_drew ?_))); (case side2 => exact HC0_2.out); rintro e w12 ⟨rfl, hb⟩; refine ⟨_, rfl, ?_⟩; have n1_ := am (below_step (by repeat with_reducible first | exact HB.out | apply pw_below_drewN | apply below_drew1 | refine below_set ?_ GE363.out) hb); clear HB; replace BK363 := sqB BK363 hb; have HB := n1_; clear n1_; (try clear hb); (try clear hb2); (try clear hk); (try clear hi)))
  go_ret2
  exact ⟨_, by first | rfl | (simp [errW_none, errW_some] <;> rfl) | (simp [*, errW_none, errW_some] <;> rfl), by first | exact Kd.R_nil _ _ _ _ _ | exact Kd.N_nil _ _ _ _ _ | exact Kd.V_nil _ _ _ _ _ | exact Kd.Q_nil _ _ _ _ _ | exact Kd.S_nil _ _ _ _ _, by repeat with_reducible first | exact HB.out | apply pw_below_drewN | apply below_drew1 | refine below_set ?_ GE363.out⟩

/-! ### impl_isSquare: function 122 -/
def impl_isSquare.f (a0_0 : Int) (a0_1 : Int) (l0_2 : List Int) : Option (Bool) := (impl_IsBoard.f a0_0 a0_1 l0_2).bind fun t369 => (if t369 = true then (some (a0_0 == a0_1)) else (some false))
set_option maxHeartbeats 8000000 in
set_option maxRecDepth 100000 in
theorem impl_isSquare.calls (a0_0 : Int) (a0_1 : Int) (A0_2 : Option Addr) (c0_2 : Nat) (l0_2 : List Int) (r : Bool) (w : World) (hr0_2 : Kd.C (Kd.int .i64) w A0_2 l0_2.length l0_2) (hc0_2 : l0_2.length ≤ c0_2) (h : impl_isSquare.f a0_0 a0_1 l0_2 = some r) :
  Calls Try.prog 122 #[.agg #[.int .i64 a0_0, .int .i64 a0_1, .slice A0_2 l0_2.length c0_2]] w fun e w' => e = .returned (.bool r) ∧ Below w.heap.size w w' := by
 have hu34 := Try.underlying34
 have HR0_2 := Aside0.mk hr0_2
 have HC0_2 := Aside0.mk hc0_2
 clear hr0_2 hc0_2
 have HB := am (Below.refl w.heap.size w)
 have H : ((impl_IsBoard.f a0_0 a0_1 l0_2).bind fun t369 => (if t369 = true then (some (a0_0 == a0_1)) else (some false))) = some r := h
 clear h
 replace H := Option.bind_eq_some_iff.mp H
 obtain ⟨t369, A20, H⟩ := H
 replace H : (if t369 = true then (some (a0_0 == a0_1)) else (some false)) = some r := H
 have A2 := Aside0.mk A20
 clear A20
 by_cases c3 : t369 = true
 ·
  subst c3
  have H1 : (some (a0_0 == a0_1)) = some r := by first | (rw [if_pos rfl] at H; exact H) | rfl
  clear H
  have H := H1
  clear H1
  obtain rfl := Option.some.inj H
  go_enter Try.func122, Try.ntmps122
  go_wp2_with (first | ((with_reducible refine gate_dst (N := 1) rfl ?_); refine box_event ?hg (N := 1) ?hd (cs := #[.int .i64 a0_0, .int .i64 a0_1, .slice A0_2 l0_2.length c0_2]) (t := 34) ?hr ?_; (case hd => rfl); (case hg => rfl); (case hr => first | (go_simp; done) | (go_simp; rfl)); intro gb368 hg w4 hbox hb; have n0_ := am (below_step (by repeat with_reducible first | exact HB.out | apply pw_below_drewN | apply below_drew1) hb); have n1_ := am (hbox); have n2_ := am ((by rw [hg]; exact (below_size (by repeat with_reducible first | exact HB.out | apply pw_below_drewN | apply below_drew1)) : w.heap.size ≤ gb368)); have n3_ := am ((by rw [hg]; exact (below_size (by repeat with_reducible first | exact HB.out | apply pw_below_drewN | apply below_drew1)) : w.heap.size ≤ gb368)); clear HB; have HB := n0_; have BK368 := n1_; have GW368 := n2_; have GE368 := n3_; clear n0_ n1_ n2_ n3_; clear hb hbox hg; have zq12 : w4.cell? ⟨gb368, 0, none⟩ = some (.int .i64 a0_0) := sqc BK368 0; have zq13 : w4.cell? ⟨gb368, 1, none⟩ = some (.int .i64 a0_1) := sqc BK368 1; have zq14 : w4.cell? ⟨gb368, 2, none⟩ = some (.slice A0_2 l0_2.length c0_2) := sqc BK368 2; have fq12 := blk_frozen BK368.out 0; have fq13 := blk_frozen BK368.out 1; have fq14 := blk_frozen BK368.out 2) | ((with_reducible refine gate_callee (f := 121) rfl ?_); refine goesL_ (some 4) rfl rfl Try.func121 (by kernel_rfl) rfl #[.agg #[.int .i64 a0_0, .int .i64 a0_1, .slice A0_2 l0_2.length c0_2]] rfl (by (try simp only [List.map_toArray, List.map_cons, List.map_nil]); try rfl) ?_; (with_reducible refine (impl_IsBoard.calls a0_0 a0_1 _ _ l0_2 true _ ?side1 ?side2 A2.out).mono ?_); (case side1 => repeat (first | exact (Kd.C_below HR0_2.out HB.out) | (with_reducible first | refine Kd.C_alloc ?_ _ | refine Kd.C_drewN ?_ _ | refine Kd.C_drew ?_))); (case side2 => exact HC0_2.out); rintro e w6 ⟨rfl, hb⟩; refine ⟨_, rfl, ?_⟩; have n1_ := am (below_step (by repeat with_reducible first | exact HB.out | apply pw_below_drewN | apply below_drew1 | refine below_set ?_ GE368.out) hb); clear HB; replace BK368 := sqB BK368 hb; have HB := n1_; clear n1_; (try clear hb); (try clear hb2); (try clear hk); (try clear hi); have zq18 : w6.cell? ⟨gb368, 0, none⟩ = some (.int .i64 a0_0) := sqc BK368 0; have zq19 : w6.cell? ⟨gb368, 1, none⟩ = some (.int .i64 a0_1) := sqc BK368 1; have zq20 : w6.cell? ⟨gb368, 2, none⟩ = some (.slice A0_2 l0_2.length c0_2) := sqc BK368 2; have fq18 := blk_frozen BK368.out 0; have fq19 := blk_frozen BK368.out 1; have fq20 := blk_frozen BK368.out 2))
  go_ret
  exact ⟨by first | rfl | (simp [errW_none, errW_some] <;> rfl) | (simp [*, errW_none, errW_some] <;> rfl), by repeat with_reducible first | exact HB.out | apply pw_below_drewN | apply below_drew1 | refine below_set ?_ GE368.out⟩
 ·
  replace c3 := Bool.eq_false_iff.mpr c3
  subst c3
  have H1 : (some false) = some r := by first | (rw [if_neg (show ¬ (false = true) by decide)] at H; exact H) | rfl
  clear H
  have H := H1
  clear H1
  obtain rfl := Option.some.inj H
  go_enter Try.func122, Try.ntmps122
  go_wp2_with (first | ((with_reducible refine gate_dst (N := 1) rfl ?_); refine box_event ?hg (N := 1) ?hd (cs := #[.int .i64 a0_0, .int .i64 a0_1, .slice A0_2 l0_2.length c0_2]) (t := 34) ?hr ?_; (case hd => rfl); (case hg => rfl); (case hr => first | (go_simp; done) | (go_simp; rfl)); intro gb368 hg w8 hbox hb; have n0_ := am (below_step (by repeat with_reducible first | exact HB.out | apply pw_below_drewN | apply below_drew1) hb); have n1_ := am (hbox); have n2_ := am ((by rw [hg]; exact (below_size (by repeat with_reducible first | exact HB.out | apply pw_below_drewN | apply below_drew1)) : w.heap.size ≤ gb368)); have n3_ := am ((by rw [hg]; exact (below_size (by repeat with_reducible first | exact HB.out | apply pw_below_drewN | apply below_drew1)) : w.heap.size ≤ gb368)); clear HB; have HB := n0_; have BK368 := n1_; have GW368 := n2_; have GE368 := n3_; clear n0_ n1_ n2_ n3_; clear hb hbox hg; have zq24 : w8.cell? ⟨gb368, 0, none⟩ = some (.int .i64 a0_0) := sqc BK368 0; have zq25 : w8.cell? ⟨gb368, 1, none⟩ = some (.int .i64 a0_1) := sqc BK368 1; have zq26 : w8.cell? ⟨gb368, 2, none⟩ = some (.slice A0_2 l0_2.length c0_2) := sqc BK368 2; have fq24 := blk_frozen BK368.out 0; have fq25 := blk_frozen BK368.out 1; have fq26 := blk_frozen BK368.out 2) | ((with_reducible refine gate_callee (f := 121) rfl ?_); refine goesL_ (some 4) rfl rfl Try.func121 (by kernel_rfl) rfl #[.agg #[.int .i64 a0_0, .int .i64 a0_1, .slice A0_2 l0_2.length c0_2]] rfl (by (try simp only [List.map_toArray, List.map_cons, List.map_nil]); try rfl) ?_; (with_reducible refine (impl_IsBoard.calls a0_0 a0_1 _ _ l0_2 false _ ?side1 ?side2 A2.out).mono ?_); (case side1 => repeat (first | exact (Kd.C_below HR0_2.out HB.out) | (with_reducible first | refine Kd.C_alloc ?_ _ | refine Kd.C_drewN ?_ _ | refine Kd.C_drew ?_))); (case side2 => exact HC0_2.out); rintro e w10 ⟨rfl, hb⟩; refine ⟨_, rfl, ?_⟩; have n1_ := am (below_step (by repeat with_reducible first | exact HB.out | apply pw_below_drewN | apply below_drew1 | refine below_set ?_ GE368.out) hb); clear HB; replace BK368 := sqB BK368 hb; have HB := n1_; clear n1_; (try clear hb); (try clear hb2); (try clear hk); (try clear hi)))
  go_ret
  exact ⟨by first | rfl | (simp [errW_none, errW_some] <;> rfl) | (simp [*, errW_none, errW_some] <;> rfl), by repeat with_reducible first | exact HB.out | apply pw_below_drewN | apply below_drew1 | refine below_set ?_ GE368.out⟩

/-! ### impl_PermanentOf: function 27 (by hand) -/
def impl_PermanentOf.f (a0_0 : Int) (a0_1 : Int) (l0_2 : List Int) : Option (Int × Bool) := (impl_isSquare.f a0_0 a0_1 l0_2).bind fun t167 => (if t167 = true then ((impl_Board_numbers.f a0_0 a0_1 l0_2).bind fun t168 => (if 0 ≤ a0_0 then (if a0_0 < (t168.length : Int) then (some (rd t168 a0_0, true)) else (none)) else (none))) else (some (0, false)))
-- (walk)
set_option maxHeartbeats 8000000 in
set_option maxRecDepth 100000 in
theorem impl_PermanentOf.calls (a0_0 : Int) (a0_1 : Int) (A0_2 : Option Addr) (c0_2 : Nat) (l0_2 : List Int) (r1 : Int) (r2 : Bool) (w : World) (hr0_2 : Kd.C (Kd.int .i64) w A0_2 l0_2.length l0_2) (hc0_2 : l0_2.length ≤ c0_2) (h : impl_PermanentOf.f a0_0 a0_1 l0_2 = some (r1, r2)) :
  Calls Try.prog 27 #[.agg #[.int .i64 a0_0, .int .i64 a0_1, .slice A0_2 l0_2.length c0_2]] w fun e w' => e = .returned (.tuple #[.int .i64 r1, .bool r2]) ∧ Below w.heap.size w w' := by
 have hu28 := Try.underlying34
 have HR0_2 := Aside0.mk hr0_2
 have HC0_2 := Aside0.mk hc0_2
 clear hr0_2 hc0_2
 have HB := am (Below.refl w.heap.size w)
 have H : ((impl_isSquare.f a0_0 a0_1 l0_2).bind fun t167 => (if t167 = true then ((impl_Board_numbers.f a0_0 a0_1 l0_2).bind fun t168 => (if 0 ≤ a0_0 then (if a0_0 < (t168.length : Int) then (some (rd t168 a0_0, true)) else (none)) else (none))) else (some (0, false)))) = some (r1, r2) := h
 clear h
 replace H := Option.bind_eq_some_iff.mp H
 obtain ⟨t167, A20, H⟩ := H
 replace H : (if t167 = true then ((impl_Board_numbers.f a0_0 a0_1 l0_2).bind fun t168 => (if 0 ≤ a0_0 then (if a0_0 < (t168.length : Int) then (some (rd t168 a0_0, true)) else (none)) else (none))) else (some (0, false))) = some (r1, r2) := H
 have A2 := Aside0.mk A20
 clear A20
 by_cases c3 : t167 = true
 ·
  subst c3
  have H1 : ((impl_Board_numbers.f a0_0 a0_1 l0_2).bind fun t168 => (if 0 ≤ a0_0 then (if a0_0 < (t168.length : Int) then (some (rd t168 a0_0, true)) else (none)) else (none))) = some (r1, r2) := by first | (rw [if_pos rfl] at H; exact H) | rfl
  clear H
  have H := H1
  clear H1
  replace H := Option.bind_eq_some_iff.mp H
  obtain ⟨t168, A40, H⟩ := H
  replace H : (if 0 ≤ a0_0 then (if a0_0 < (t168.length : Int) then (some (rd t168 a0_0, true)) else (none)) else (none)) = some (r1, r2) := H
  have A4 := Aside0.mk A40
  clear A40
  by_cases c5 : 0 ≤ a0_0
  ·
   rw [if_pos c5] at H
   have c5b0 : decide (0 ≤ a0_0) = true := decide_eq_true c5
   clear c5
   by_cases c6 : a0_0 < (t168.length : Int)
   ·
    rw [if_pos c6] at H
    have c6b0 : decide (a0_0 < (t168.length : Int)) = true := decide_eq_true c6
    clear c6
    simp only [Option.some.injEq, Prod.mk.injEq] at H
    obtain ⟨rfl, rfl⟩ := H
    go_enter Try.func27, Try.ntmps27
    try go_wp2_with (first | ((with_reducible refine gate_dst (N := 1) rfl ?_); refine box_event ?hg (N := 1) ?hd (cs := #[.int .i64 a0_0, .int .i64 a0_1, .slice A0_2 l0_2.length c0_2]) (t := 34) ?hr ?_; (case hd => rfl); (case hg => rfl); (case hr => first | (go_simp; done) | (go_simp; rfl)); intro gb166 hg w7 hbox hb; have n0_ := am (below_step (by repeat with_reducible first | exact HB.out | apply pw_below_drewN | apply below_drew1) hb); have n1_ := am (hbox); have n2_ := am ((by rw [hg]; exact (below_size (by repeat with_reducible first | exact HB.out | apply pw_below_drewN | apply below_drew1)) : w.heap.size ≤ gb166)); have n3_ := am ((by rw [hg]; exact (below_size (by repeat with_reducible first | exact HB.out | apply pw_below_drewN | apply below_drew1)) : w.heap.size ≤ gb166)); clear HB; have HB := n0_; have BK166 := n1_; have GW166 := n2_; have GE166 := n3_; clear n0_ n1_ n2_ n3_; clear hb hbox hg; have zq21 : w7.cell? ⟨gb166, 0, none⟩ = some (.int .i64 a0_0) := sqc BK166 0; have zq22 : w7.cell? ⟨gb166, 1, none⟩ = some (.int .i64 a0_1) := sqc BK166 1; have zq23 : w7.cell? ⟨gb166, 2, none⟩ = some (.slice A0_2 l0_2.length c0_2) := sqc BK166 2; have fq21 := blk_frozen BK166.out 0; have fq22 := blk_frozen BK166.out 1; have fq23 := blk_frozen BK166.out 2) | ((with_reducible refine gate_callee (f := 122) rfl ?_); refine goesL_ (some 5) rfl rfl Try.func122 (by kernel_rfl) rfl #[.agg #[.int .i64 a0_0, .int .i64 a0_1, .slice A0_2 l0_2.length c0_2]] rfl (by (try simp only [List.map_toArray, List.map_cons, List.map_nil]); try rfl) ?_; (with_reducible refine (impl_isSquare.calls a0_0 a0_1 _ _ l0_2 true _ ?side1 ?side2 A2.out).mono ?_); (case side1 => repeat (first | exact (Kd.C_below HR0_2.out HB.out) | (with_reducible first | refine Kd.C_alloc ?_ _ | refine Kd.C_drewN ?_ _ | refine Kd.C_drew ?_))); (case side2 => exact HC0_2.out); rintro e w9 ⟨rfl, hb⟩; refine ⟨_, rfl, ?_⟩; have n1_ := am (below_step (by repeat with_reducible first | exact HB.out | apply pw_below_drewN | apply below_drew1 | refine below_set ?_ GE166.out) hb); clear HB; replace BK166 := sqB BK166 hb; have HB := n1_; clear n1_; (try clear hb); (try clear hb2); (try clear hk); (try clear hi)))
    have bk9 := BK166.out
    have hc9_0 : w9.cell? ⟨gb166, 0, none⟩ = some (.int .i64 a0_0) := (blk_cell bk9 0).trans rfl
    have hc9_1 : w9.cell? ⟨gb166, 1, none⟩ = some (.int .i64 a0_1) := (blk_cell bk9 1).trans rfl
    have hc9_2 : w9.cell? ⟨gb166, 2, none⟩ = some (.slice A0_2 l0_2.length c0_2) := (blk_cell bk9 2).trans rfl
    clear bk9
    go_region_with (go_at_call 114; (refine (impl_Board_numbers.calls a0_0 a0_1 _ _ l0_2 t168 _ ?side1 ?side2 A4.out).mono ?_); (case side1 => repeat (first | exact (Kd.C_below HR0_2.out HB.out) | (with_reducible first | refine Kd.C_alloc ?_ _ | refine Kd.C_drewN ?_ _ | refine Kd.C_drew ?_))); (case side2 => exact HC0_2.out); rintro e w11 ⟨v169, rfl, ho0, hb⟩; have Oq0 := Aside0.mk ho0; have HB11 := am (below_step (by repeat with_reducible first | exact HB.out | apply pw_below_drewN | apply below_drew1) hb); have bk11 := blk_below (blk_drewN BK166.out _) hb; have hc11_0 : w11.cell? ⟨gb166, 0, none⟩ = some (.int .i64 a0_0) := (blk_cell bk11 0).trans rfl; clear hb ho0 bk11; obtain ⟨Ao12, co12, eo12⟩ := Kd.R_slice Oq0.out; subst eo12; have p171 : 0 ≤ (a0_0 : Int) := of_decide_eq_true (by first | (with_reducible assumption) | assumption); have q171 : a0_0 < (t168.length : Int) := of_decide_eq_true (by first | (with_reducible assumption) | assumption); obtain ⟨ad171, e171, hx171_0⟩ := Kd.at_int (Kd.R_reads' Oq0.out).2.2 a0_0 p171 q171; cases e171; replace p171 := eq_true p171; replace q171 := eq_true q171)
    all_goals (simp only [Exit.then]; go_wp2; go_ret2; exact ⟨by first | rfl | (simp [*, errW_none, errW_some] <;> rfl), by repeat (first | (with_reducible first | exact HB11.out | apply below_alloc | apply pw_below_drewN | apply below_drew1) | exact HB11.out)⟩)
   ·
    rw [if_neg c6] at H
    exact absurd H (by simp)
  ·
   rw [if_neg c5] at H
   exact absurd H (by simp)
 ·
  replace c3 := Bool.eq_false_iff.mpr c3
  subst c3
  have H1 : (some (0, false)) = some (r1, r2) := by first | (rw [if_neg (show ¬ (false = true) by decide)] at H; exact H) | rfl
  clear H
  have H := H1
  clear H1
  simp only [Option.some.injEq, Prod.mk.injEq] at H
  obtain ⟨rfl, rfl⟩ := H
  go_enter Try.func27, Try.ntmps27
  go_wp2_with (first | ((with_reducible refine gate_dst (N := 1) rfl ?_); refine box_event ?hg (N := 1) ?hd (cs := #[.int .i64 a0_0, .int .i64 a0_1, .slice A0_2 l0_2.length c0_2]) (t := 34) ?hr ?_; (case hd => rfl); (case hg => rfl); (case hr => first | (go_simp; done) | (go_simp; rfl)); intro gb166 hg w13 hbox hb; have n0_ := am (below_step (by repeat with_reducible first | exact HB.out | apply pw_below_drewN | apply below_drew1) hb); have n1_ := am (hbox); have n2_ := am ((by rw [hg]; exact (below_size (by repeat with_reducible first | exact HB.out | apply pw_below_drewN | apply below_drew1)) : w.heap.size ≤ gb166)); have n3_ := am ((by rw [hg]; exact (below_size (by repeat with_reducible first | exact HB.out | apply pw_below_drewN | apply below_drew1)) : w.heap.size ≤ gb166)); clear HB; have HB := n0_; have BK166 := n1_; have GW166 := n2_; have GE166 := n3_; clear n0_ n1_ n2_ n3_; clear hb hbox hg; have zq6 : w13.cell? ⟨gb166, 0, none⟩ = some (.int .i64 a0_0) := sqc BK166 0; have zq7 : w13.cell? ⟨gb166, 1, none⟩ = some (.int .i64 a0_1) := sqc BK166 1; have zq8 : w13.cell? ⟨gb166, 2, none⟩ = some (.slice A0_2 l0_2.length c0_2) := sqc BK166 2; have fq6 := blk_frozen BK166.out 0; have fq7 := blk_frozen BK166.out 1; have fq8 := blk_frozen BK166.out 2) | ((with_reducible refine gate_callee (f := 122) rfl ?_); refine goesL_ (some 5) rfl rfl Try.func122 (by kernel_rfl) rfl #[.agg #[.int .i64 a0_0, .int .i64 a0_1, .slice A0_2 l0_2.length c0_2]] rfl (by (try simp only [List.map_toArray, List.map_cons, List.map_nil]); try rfl) ?_; (with_reducible refine (impl_isSquare.calls a0_0 a0_1 _ _ l0_2 false _ ?side1 ?side2 A2.out).mono ?_); (case side1 => repeat (first | exact (Kd.C_below HR0_2.out HB.out) | (with_reducible first | refine Kd.C_alloc ?_ _ | refine Kd.C_drewN ?_ _ | refine Kd.C_drew ?_))); (case side2 => exact HC0_2.out); rintro e w15 ⟨rfl, hb⟩; refine ⟨_, rfl, ?_⟩; have n1_ := am (below_step (by repeat with_reducible first | exact HB.out | apply pw_below_drewN | apply below_drew1 | refine below_set ?_ GE166.out) hb); clear HB; replace BK166 := sqB BK166 hb; have HB := n1_; clear n1_; (try clear hb); (try clear hb2); (try clear hk); (try clear hi)))
  go_ret2
  exact ⟨by first | rfl | (simp [errW_none, errW_some] <;> rfl) | (simp [*, errW_none, errW_some] <;> rfl), by repeat with_reducible first | exact HB.out | apply pw_below_drewN | apply below_drew1 | refine below_set ?_ GE166.out⟩

/-! ### spec_DrawStaircaseNumbers: function 28 -/
def spec_DrawStaircaseNumbers.f (l0 : List Int) : Option (Int) := (spec_l1Cur_pick.f l0 0 0 9).bind fun bt371 => (some (wrap64 (bt371.1 - 1)))
set_option maxHeartbeats 8000000 in
set_option maxRecDepth 100000 in
theorem spec_DrawStaircaseNumbers.calls (A0 : Option Addr) (c0 : Nat) (l0 : List Int) (r : Int) (w : World) (hr0 : Kd.C (Kd.int .u8) w A0 l0.length l0) (hc0 : l0.length ≤ c0) (h : spec_DrawStaircaseNumbers.f l0 = some r) :
  Calls Try.prog 28 #[.slice A0 l0.length c0] w fun e w' => e = .returned (.int .i64 r) ∧ Below w.heap.size w w' := by
 have hu79 := Try.underlying79
 have HR0 := Aside0.mk hr0
 have HC0 := Aside0.mk hc0
 clear hr0 hc0
 have HB := am (Below.refl w.heap.size w)
 have H : ((spec_l1Cur_pick.f l0 0 0 9).bind fun bt371 => (some (wrap64 (bt371.1 - 1)))) = some r := h
 clear h
 replace H := Option.bind_eq_some_iff.mp H
 obtain ⟨⟨t371, t372, t373⟩, A20, H⟩ := H
 replace H : (some (wrap64 (t371 - 1))) = some r := H
 have A2 := Aside0.mk A20
 clear A20
 obtain rfl := Option.some.inj H
 go_enter Try.func28, Try.ntmps28
 go_wp2_with (first | ((with_reducible refine gate_dst (N := 6) rfl ?_); refine box_event ?hg (N := 6) ?hd (cs := #[.slice A0 l0.length c0, .int .i64 0, .int .u64 0]) (t := 79) ?hr ?_; (case hd => rfl); (case hg => rfl); (case hr => first | (go_simp; done) | (go_simp; rfl)); intro gb370 hg w3 hbox hb; have n0_ := am (below_step (by repeat with_reducible first | exact HB.out | apply pw_below_drewN | apply below_drew1) hb); have n1_ := am ((show IsS79 w w3 gb370 l0 0 0 from ⟨_, _, hbox, (by rw [hg]; exact (below_size (by repeat with_reducible first | exact HB.out | apply pw_below_drewN | apply below_drew1)) : w.heap.size ≤ gb370), HR0.out⟩)); have n2_ := am ((by rw [hg]; exact (below_size (by repeat with_reducible first | exact HB.out | apply pw_below_drewN | apply below_drew1)) : w.heap.size ≤ gb370)); have n3_ := am ((by rw [hg]; exact (below_size (by repeat with_reducible first | exact HB.out | apply pw_below_drewN | apply below_drew1)) : w.heap.size ≤ gb370)); clear HB; have HB := n0_; have HI370 := n1_; have GW370 := n2_; have GE370 := n3_; clear n0_ n1_ n2_ n3_; clear hb hbox hg) | ((with_reducible refine gate_callee (f := 123) rfl ?_); refine goesL_ (some 8) rfl rfl Try.func123 (by kernel_rfl) rfl #[.pointer (some ⟨gb370, 0, none⟩), .int .i64 9] rfl (by (try simp only [List.map_toArray, List.map_cons, List.map_nil]); try rfl) ?_; (with_reducible refine (spec_l1Cur_pick.calls gb370 l0 0 0 9 t371 t372 t373 w _ ?side1 ?side2 A2.out).mono ?_); (case side1 => repeat (first | (with_reducible first | exact HI370.out | apply IsS79.alloc | apply IsS79.drewN | apply IsS79.drew | apply IsS79.set_1 | apply IsS79.set_2) | exact HI370.out)); (case side2 => repeat (first | (with_reducible first | exact HB.out | apply below_alloc | apply pw_below_drewN | apply below_drew1 | refine below_set ?_ (IsS79.ge HI370.out)) | exact HB.out)); rintro e w4 ⟨rfl, hi, hb, hk⟩; refine ⟨_, rfl, ?_⟩; have n0_ := am (hb); have n1_ := am (hi); clear HB; clear HI370; have HB := n0_; have HI370 := n1_; clear n0_ n1_; (try clear hb); (try clear hb2); (try clear hk); (try clear hi)))
 go_ret
 exact ⟨by first | rfl | (simp [errW_none, errW_some] <;> rfl) | (simp [*, errW_none, errW_some] <;> rfl), by repeat (first | (with_reducible first | exact HB.out | apply below_alloc | apply pw_below_drewN | apply below_drew1 | refine below_set ?_ (IsS79.ge HI370.out)) | exact HB.out)⟩

/-! ### impl_StaircaseNumbers: function 29 -/
def impl_StaircaseNumbers.l0 : Nat → List Int → Int → Int → Option (List Int × Bool)
 | 0, _, _, _ => none
 | k + 1, x4, x10, x11 => if x11 < x10 then (if x4.length < 17592186044416 then (impl_StaircaseNumbers.l0 k (x4 ++ [x11]) x10 (wrap64 (x11 + 1))) else (none)) else ((impl_boardOf.f k x4).bind fun bt381 => ((impl_Board_numbers.f bt381.1 bt381.2.1 bt381.2.2).bind fun t386 => (some (t386, true))))
def impl_StaircaseNumbers.f (k : Nat) (a0 : Int) : Option (List Int × Bool) := (impl_isSide.f a0).bind fun t374 => (if t374 = true then (impl_StaircaseNumbers.l0 k (([] : List Int)) a0 0) else (some (([] : List Int), false)))
theorem impl_StaircaseNumbers.mono_l : ∀ k, (∀ y0 y1 y2, LeO (impl_StaircaseNumbers.l0 k y0 y1 y2) (impl_StaircaseNumbers.l0 (k + 1) y0 y1 y2))
 | 0 => fun _ _ _ r h => by simp [impl_StaircaseNumbers.l0] at h
 | k + 1 => by
  have ih0 := impl_StaircaseNumbers.mono_l k
  ·
   intro y0 y1 y2
   unfold impl_StaircaseNumbers.l0
   repeat' first
   | (with_reducible exact ih0 _ _ _)
   | (with_reducible exact impl_boardOf.mono _ _)
   | (with_reducible exact LeO.refl _)
   | (with_reducible exact LeO.none _)
   | (with_reducible refine LeO.ite ?_ ?_)
   | (with_reducible refine LeO.bind ?_ (fun _ => ?_))
   | exact ih0 _ _ _
   | exact impl_boardOf.mono _ _
   | exact LeO.none _
   | refine LeO.ite ?_ ?_
   | refine LeO.bind ?_ (fun _ => ?_)
theorem impl_StaircaseNumbers.mono : ∀ a0 k, LeO (impl_StaircaseNumbers.f k a0) (impl_StaircaseNumbers.f (k + 1) a0) := by
 intro a0 k
 have ih0 := impl_StaircaseNumbers.mono_l k
 unfold impl_StaircaseNumbers.f
 repeat' first
   | (with_reducible exact ih0 _ _ _)
   | (with_reducible exact impl_boardOf.mono _ _)
   | (with_reducible exact LeO.refl _)
   | (with_reducible exact LeO.none _)
   | (with_reducible refine LeO.ite ?_ ?_)
   | (with_reducible refine LeO.bind ?_ (fun _ => ?_))
   | exact ih0 _ _ _
   | exact impl_boardOf.mono _ _
   | exact LeO.none _
   | refine LeO.ite ?_ ?_
   | refine LeO.bind ?_ (fun _ => ?_)
set_option maxHeartbeats 8000000 in
set_option maxRecDepth 100000 in
theorem impl_StaircaseNumbers.calls (k : Nat) (a0 : Int) (r1 : List Int) (r2 : Bool) (w : World) (h : impl_StaircaseNumbers.f k a0 = some (r1, r2)) :
  Calls Try.prog 29 #[.int .i64 a0] w fun e w' => ∃ v0_ : Value, e = .returned (.tuple #[v0_, .bool r2]) ∧ Kd.R (Kd.int .i64) 3 w' w.heap.size (fun _ => True) v0_ r1 ∧ Below w.heap.size w w' := by
 have HB := am (Below.refl w.heap.size w)
 have H : ((impl_isSide.f a0).bind fun t374 => (if t374 = true then (impl_StaircaseNumbers.l0 k (([] : List Int)) a0 0) else (some (([] : List Int), false)))) = some (r1, r2) := h
 clear h
 replace H := Option.bind_eq_some_iff.mp H
 obtain ⟨t374, A20, H⟩ := H
 replace H : (if t374 = true then (impl_StaircaseNumbers.l0 k (([] : List Int)) a0 0) else (some (([] : List Int), false))) = some (r1, r2) := H
 have A2 := Aside0.mk A20
 clear A20
 by_cases c3 : t374 = true
 ·
  subst c3
  have H1 : (impl_StaircaseNumbers.l0 k (([] : List Int)) a0 0) = some (r1, r2) := by first | (rw [if_pos rfl] at H; exact H) | rfl
  clear H
  have H := H1
  clear H1
  obtain ⟨y375, hy375⟩ : ∃ y_ : List Int, y_ = (([] : List Int)) := ⟨_, rfl⟩
  replace H : (impl_StaircaseNumbers.l0 k y375 a0 0) = some (r1, r2) := by first | (rw [hy375]; with_reducible exact H) | (have H2_ := (Option.bind_some _ _).symm.trans H; rw [hy375]; with_reducible exact H2_) | (have H2_ := (Option.bind_some _ _).symm.trans H; with_reducible exact H2_) | with_reducible exact H | (rw [hy375]; exact H) | exact H
  have Ny375 := Aside0.mk hy375
  clear hy375
  have H' := Aside0.mk H
  clear H
  go_enter Try.func29, Try.ntmps29
  go_wp2_with (first | ((with_reducible refine gate_callee (f := 118) rfl ?_); refine goesL_ (some 7) rfl rfl Try.func118 (by kernel_rfl) rfl #[.int .i64 a0] rfl (by (try simp only [List.map_toArray, List.map_cons, List.map_nil]); try rfl) ?_; (with_reducible refine (impl_isSide.calls a0 true _ A2.out).mono ?_); rintro e w' ⟨rfl, ⟨nd, rfl⟩⟩; refine ⟨_, rfl, ?_⟩) | ((with_reducible refine gate_dst (N := 9) rfl ?_); refine Kd.R_lit (Kd.int .i64) _ 3 ?hg (N := 9) ?hd (xs := ([] : List Int)) (inner := []) (ok := fun _ => True) (okp := fun _ => True) ?hr ?hp (fun _ hk => hk) trivial (Below.refl _ _) (Nat.le_refl _) (by simp) ?_; (case hd => rfl); (case hg => rfl); (case hr => first | (go_simp; done) | (go_simp; rfl)); (case hp => exact (Reps.none _ _)); intro v376 w4 ho5 hb hg_ hnew_; clear hg_ hnew_; (first | rw [← Ny375.out] at ho5 | (simp only [Int.reduceToNat] at ho5; rw [← Ny375.out] at ho5)); have n0_ := am (Kd.R_lower ho5 (below_size (by repeat with_reducible first | exact HB.out | apply pw_below_drewN | apply below_drew1))); have n1_ := am (below_step (by repeat with_reducible first | exact HB.out | apply pw_below_drewN | apply below_drew1) hb); clear HB; have Oq2 := n0_; have HB := n1_; clear n0_ n1_; clear hb ho5))
  go_loopg [4, 11] k (fun kq v4 v11 w' => ∃ (x4_1 : List Int) (x11_1 : Int), v11 = .int .i64 x11_1 ∧ Aside0 (impl_StaircaseNumbers.l0 kq x4_1 a0 x11_1 = some (r1, r2)) ∧ Aside0 (kq ≤ k) ∧ Aside0 (Kd.R (Kd.int .i64) 3 w' w.heap.size (fun _ => True) v4 x4_1) ∧ Aside0 (Below w.heap.size w w'))
  case atStart => exact ⟨(y375), (0), (by first | rfl | (simp; done) | (simp [*]; done)), H', ⟨Nat.le_refl _⟩, ⟨by (with_reducible repeat (first | apply Kd.R_alloc | apply Kd.R_drewN | apply Kd.R_drew)); exact Oq2.out⟩, ⟨by repeat with_reducible first | exact HB.out | apply pw_below_drewN | apply below_drew1⟩⟩
  case round =>
   clear H'
   try clear c1; try clear c2; try clear p2; try clear c3
   obtain ⟨x4_1, x11_1, rfl, HA, HK1, Oq10, HB⟩ := hrel
   cases gk with
   | zero => exact absurd HA.out (by simp [impl_StaircaseNumbers.l0])
   | succ k1 =>
    have H := HA.out
    clear HA
    simp only [impl_StaircaseNumbers.l0] at H
    by_cases c6 : x11_1 < a0
    ·
     rw [if_pos c6] at H
     have c6b0 : decide (x11_1 < a0) = true := decide_eq_true c6
     clear c6
     by_cases c7 : x4_1.length < 17592186044416
     ·
      rw [if_pos c7] at H
      have LMc7 := Aside0.mk c7
      clear c7
      obtain ⟨y378, hy378⟩ : ∃ y_ : List Int, y_ = (x4_1 ++ [x11_1]) := ⟨_, rfl⟩
      replace H : (impl_StaircaseNumbers.l0 k1 y378 a0 (wrap64 (x11_1 + 1))) = some (r1, r2) := by first | (rw [hy378]; with_reducible exact H) | (have H2_ := (Option.bind_some _ _).symm.trans H; rw [hy378]; with_reducible exact H2_) | (have H2_ := (Option.bind_some _ _).symm.trans H; with_reducible exact H2_) | with_reducible exact H | (rw [hy378]; exact H) | exact H
      have Ny378 := Aside0.mk hy378
      clear hy378
      have H' := Aside0.mk H
      clear H
      go_wp2_with (first | ((with_reducible refine gate_builtin (b := .append) (xs := #[.tmp 14, .tmp 16]) rfl ?_); at_builtin; refine Kd.R_append (Kd.int .i64) (w0 := w) w.heap.size rfl (.tmp 14) (.tmp 16) 24 3 (.int .i64 0) 8 rfl Try.underlying24 info3 rfl (by decide) (by omega) u4 x4_1 x11_1 [.int .i64 x11_1] (fun _ => True) (fun _ => False) rfl rfl ?aP (fun _ hk => hk.elim) ?aF ?aO ?aB ?aS ?aL ?_; (case aP => exact rfl); (case aB => exact (by repeat with_reducible first | exact HB.out | apply pw_below_drewN | apply below_drew1)); (case aF => exact (fun _ _ => trivial)); (case aO => exact (sqr Oq10)); (case aS => exact (below_size (by repeat with_reducible first | exact HB.out | apply pw_below_drewN | apply below_drew1))); (case aL => have := LMc7.out; omega); intro v379 w8 ho hb hg hat; rw [← Ny378.out] at ho; have n0_ := am (hb); have n1_ := am (ho); clear HB; clear Oq10; have HB := n0_; have Oq3 := n1_; clear n0_ n1_; clear ho hb hg hat))
      go_roundg k1
      case measure => have := HK1.out; omega
      case rel => exact ⟨(y378), (wrap64 (x11_1 + 1)), (by first | rfl | (simp; done) | (simp [*]; done)), H', ⟨by have := HK1.out; omega⟩, ⟨by (with_reducible repeat (first | apply Kd.R_alloc | apply Kd.R_drewN | apply Kd.R_drew)); exact Oq3.out⟩, ⟨by repeat with_reducible first | exact HB.out | apply pw_below_drewN | apply below_drew1⟩⟩
     ·
      rw [if_neg c7] at H
      exact absurd H (by simp)
    ·
     rw [if_neg c6] at H
     have c6b0 : decide (x11_1 < a0) = false := decide_eq_false c6
     clear c6
     replace H := Option.bind_eq_some_iff.mp H
     obtain ⟨⟨t381, t382, t383⟩, A90, H⟩ := H
     replace H : ((impl_Board_numbers.f t381 t382 t383).bind fun t386 => (some (t386, true))) = some (r1, r2) := H
     have A9 := Aside0.mk A90
     clear A90
     replace H := Option.bind_eq_some_iff.mp H
     obtain ⟨t386, A100, H⟩ := H
     replace H : (some (t386, true)) = some (r1, r2) := H
     have A10 := Aside0.mk A100
     clear A100
     simp only [Option.some.injEq, Prod.mk.injEq] at H
     obtain ⟨rfl, rfl⟩ := H
     obtain ⟨Ao11, co11, eo11⟩ := Kd.R_slice Oq10.out
     subst eo11
     go_wp2_with (first | ((with_reducible refine gate_callee (f := 113) rfl ?_); refine goesL_ (some 20) rfl rfl Try.func113 (by kernel_rfl) rfl #[.slice Ao11 x4_1.length co11] rfl (by (try simp only [List.map_toArray, List.map_cons, List.map_nil]); try rfl) ?_; (with_reducible refine (impl_boardOf.calls k1 _ _ x4_1 t381 t382 t383 _ ?side1 ?side2 A9.out).mono ?_); (case side1 => repeat (first | exact (Kd.R_reads' Oq10.out).2.2 | (with_reducible first | refine Kd.C_alloc ?_ _ | refine Kd.C_drewN ?_ _ | refine Kd.C_drew ?_))); (case side2 => exact (Kd.R_reads' Oq10.out).2.1); rintro e w12 ⟨v384, rfl, ho0, hb⟩; refine ⟨_, rfl, ?_⟩; have n1_ := am (Kd.R_lower (Kd.R_new' ho0 (sqL Oq10)) (below_size (by repeat with_reducible first | exact HB.out | apply pw_below_drewN | apply below_drew1))); have n2_ := am (below_step (by repeat with_reducible first | exact HB.out | apply pw_below_drewN | apply below_drew1) hb); clear HB; replace Oq10 := sqE Oq10 ho0 hb; have Oq4 := n1_; have HB := n2_; clear n1_ n2_; (try clear hb); (try clear hb2); (try clear hk); (try clear hi); (try clear ho0); obtain ⟨Ao13, co13, eo13⟩ := Kd.R_slice Oq4.out; subst eo13) | ((with_reducible refine gate_callee (f := 114) rfl ?_); refine goesL_ (some 21) rfl rfl Try.func114 (by kernel_rfl) rfl #[.agg #[.int .i64 t381, .int .i64 t382, .slice Ao13 t383.length co13]] rfl (by (try simp only [List.map_toArray, List.map_cons, List.map_nil]); try rfl) ?_; (with_reducible refine (impl_Board_numbers.calls t381 t382 _ _ t383 t386 _ ?side1 ?side2 A10.out).mono ?_); (case side1 => repeat (first | exact (Kd.R_reads' Oq4.out).2.2 | (with_reducible first | refine Kd.C_alloc ?_ _ | refine Kd.C_drewN ?_ _ | refine Kd.C_drew ?_))); (case side2 => exact (Kd.R_reads' Oq4.out).2.1); rintro e w14 ⟨v387, rfl, ho0, hb⟩; refine ⟨_, rfl, ?_⟩; have n2_ := am (Kd.R_lower (Kd.R_new' (Kd.R_new' ho0 (sqL Oq10)) (sqL Oq4)) (below_size (by repeat with_reducible first | exact HB.out | apply pw_below_drewN | apply below_drew1))); have n3_ := am (below_step (by repeat with_reducible first | exact HB.out | apply pw_below_drewN | apply below_drew1) hb); clear HB; replace Oq10 := sqE Oq10 ho0 hb; replace Oq4 := sqE Oq4 ho0 hb; have Oq5 := n2_; have HB := n3_; clear n2_ n3_; (try clear hb); (try clear hb2); (try clear hk); (try clear hi); (try clear ho0)))
     go_ret2
     exact ⟨_, by first | rfl | (simp [errW_none, errW_some] <;> rfl) | (simp [*, errW_none, errW_some] <;> rfl), by exact sqm Oq5 (fun _ hk => trivial), by repeat with_reducible first | exact HB.out | apply pw_below_drewN | apply below_drew1⟩
 ·
  replace c3 := Bool.eq_false_iff.mpr c3
  subst c3
  have H1 : (some (([] : List Int), false)) = some (r1, r2) := by first | (rw [if_neg (show ¬ (false = true) by decide)] at H; exact H) | rfl
  clear H
  have H := H1
  clear H1
  simp only [Option.some.injEq, Prod.mk.injEq] at H
  obtain ⟨rfl, rfl⟩ := H
  go_enter Try.func29, Try.ntmps29
  go_wp2_with (first | ((with_reducible refine gate_callee (f := 118) rfl ?_); refine goesL_ (some 7) rfl rfl Try.func118 (by kernel_rfl) rfl #[.int .i64 a0] rfl (by (try simp only [List.map_toArray, List.map_cons, List.map_nil]); try rfl) ?_; (with_reducible refine (impl_isSide.calls a0 false _ A2.out).mono ?_); rintro e w' ⟨rfl, ⟨nd, rfl⟩⟩; refine ⟨_, rfl, ?_⟩))
  go_ret2
  exact ⟨_, by first | rfl | (simp [errW_none, errW_some] <;> rfl) | (simp [*, errW_none, errW_some] <;> rfl), by first | exact Kd.R_nil _ _ _ _ _ | exact Kd.N_nil _ _ _ _ _ | exact Kd.V_nil _ _ _ _ _ | exact Kd.Q_nil _ _ _ _ _ | exact Kd.S_nil _ _ _ _ _, by repeat with_reducible first | exact HB.out | apply pw_below_drewN | apply below_drew1⟩

/-! ### spec_StaircaseNumbers: function 30 -/
def spec_StaircaseNumbers.l0 : Nat → Int → List Int → Int → Option (List Int × Bool)
 | 0, _, _, _ => none
 | k + 1, x0, x4, x5 => if x5 < x0 then (if x4.length < 17592186044416 then (spec_StaircaseNumbers.l0 k x0 (x4 ++ [x5]) (wrap64 (x5 + 1))) else (none)) else ((spec_feNumbers.f k x4).bind fun t393 => (some (t393, true)))
def spec_StaircaseNumbers.f (k : Nat) (a0 : Int) : Option (List Int × Bool) := (spec_boSide.f a0).bind fun t389 => (if t389 = true then (spec_StaircaseNumbers.l0 k a0 ([] : List Int) 0) else (some (([] : List Int), false)))
theorem spec_StaircaseNumbers.mono_l : ∀ k, (∀ y0 y1 y2, LeO (spec_StaircaseNumbers.l0 k y0 y1 y2) (spec_StaircaseNumbers.l0 (k + 1) y0 y1 y2))
 | 0 => fun _ _ _ r h => by simp [spec_StaircaseNumbers.l0] at h
 | k + 1 => by
  have ih0 := spec_StaircaseNumbers.mono_l k
  ·
   intro y0 y1 y2
   unfold spec_StaircaseNumbers.l0
   repeat' first
   | (with_reducible exact ih0 _ _ _)
   | (with_reducible exact spec_feNumbers.mono _ _)
   | (with_reducible exact LeO.refl _)
   | (with_reducible exact LeO.none _)
   | (with_reducible refine LeO.ite ?_ ?_)
   | (with_reducible refine LeO.bind ?_ (fun _ => ?_))
   | exact ih0 _ _ _
   | exact spec_feNumbers.mono _ _
   | exact LeO.none _
   | refine LeO.ite ?_ ?_
   | refine LeO.bind ?_ (fun _ => ?_)
theorem spec_StaircaseNumbers.mono : ∀ a0 k, LeO (spec_StaircaseNumbers.f k a0) (spec_StaircaseNumbers.f (k + 1) a0) := by
 intro a0 k
 have ih0 := spec_StaircaseNumbers.mono_l k
 unfold spec_StaircaseNumbers.f
 repeat' first
   | (with_reducible exact ih0 _ _ _)
   | (with_reducible exact spec_feNumbers.mono _ _)
   | (with_reducible exact LeO.refl _)
   | (with_reducible exact LeO.none _)
   | (with_reducible refine LeO.ite ?_ ?_)
   | (with_reducible refine LeO.bind ?_ (fun _ => ?_))
   | exact ih0 _ _ _
   | exact spec_feNumbers.mono _ _
   | exact LeO.none _
   | refine LeO.ite ?_ ?_
   | refine LeO.bind ?_ (fun _ => ?_)
set_option maxHeartbeats 8000000 in
set_option maxRecDepth 100000 in
theorem spec_StaircaseNumbers.calls (k : Nat) (a0 : Int) (r1 : List Int) (r2 : Bool) (w : World) (h : spec_StaircaseNumbers.f k a0 = some (r1, r2)) :
  Calls Try.prog 30 #[.int .i64 a0] w fun e w' => ∃ v0_ : Value, e = .returned (.tuple #[v0_, .bool r2]) ∧ Kd.R (Kd.int .i64) 3 w' w.heap.size (fun _ => True) v0_ r1 ∧ Below w.heap.size w w' := by
 have HB := am (Below.refl w.heap.size w)
 have H : ((spec_boSide.f a0).bind fun t389 => (if t389 = true then (spec_StaircaseNumbers.l0 k a0 ([] : List Int) 0) else (some (([] : List Int), false)))) = some (r1, r2) := h
 clear h
 replace H := Option.bind_eq_some_iff.mp H
 obtain ⟨t389, A20, H⟩ := H
 replace H : (if t389 = true then (spec_StaircaseNumbers.l0 k a0 ([] : List Int) 0) else (some (([] : List Int), false))) = some (r1, r2) := H
 have A2 := Aside0.mk A20
 clear A20
 by_cases c3 : t389 = true
 ·
  subst c3
  have H1 : (spec_StaircaseNumbers.l0 k a0 ([] : List Int) 0) = some (r1, r2) := by first | (rw [if_pos rfl] at H; exact H) | rfl
  clear H
  have H := H1
  clear H1
  have H' := Aside0.mk H
  clear H
  go_enter Try.func30, Try.ntmps30
  go_wp2_with (first | ((with_reducible refine gate_callee (f := 124) rfl ?_); refine goesL_ (some 7) rfl rfl Try.func124 (by kernel_rfl) rfl #[.int .i64 a0] rfl (by (try simp only [List.map_toArray, List.map_cons, List.map_nil]); try rfl) ?_; (with_reducible refine (spec_boSide.calls a0 true _ A2.out).mono ?_); rintro e w' ⟨rfl, ⟨nd, rfl⟩⟩; refine ⟨_, rfl, ?_⟩))
  go_loopg [4, 5] k (fun kq v4 v5 w' => ∃ (x4_1 : List Int) (x5_1 : Int), v5 = .int .i64 x5_1 ∧ Aside0 (spec_StaircaseNumbers.l0 kq a0 x4_1 x5_1 = some (r1, r2)) ∧ Aside0 (kq ≤ k) ∧ Aside0 (Kd.R (Kd.int .i64) 3 w' w.heap.size (fun _ => True) v4 x4_1) ∧ Aside0 (Below w.heap.size w w'))
  case atStart => exact ⟨(([] : List Int)), (0), (by first | rfl | (simp; done) | (simp [*]; done)), H', ⟨Nat.le_refl _⟩, ⟨by first | exact Kd.R_nil _ _ _ _ _ | exact Kd.N_nil _ _ _ _ _ | exact Kd.V_nil _ _ _ _ _ | exact Kd.Q_nil _ _ _ _ _ | exact Kd.S_nil _ _ _ _ _⟩, ⟨by repeat with_reducible first | exact HB.out | apply pw_below_drewN | apply below_drew1⟩⟩
  case round =>
   clear H'
   try clear c1; try clear p2; try clear c3
   obtain ⟨x4_1, x5_1, rfl, HA, HK1, Oq10, HB⟩ := hrel
   cases gk with
   | zero => exact absurd HA.out (by simp [spec_StaircaseNumbers.l0])
   | succ k1 =>
    have H := HA.out
    clear HA
    simp only [spec_StaircaseNumbers.l0] at H
    by_cases c4 : x5_1 < a0
    ·
     rw [if_pos c4] at H
     have c4b0 : decide (x5_1 < a0) = true := decide_eq_true c4
     clear c4
     by_cases c5 : x4_1.length < 17592186044416
     ·
      rw [if_pos c5] at H
      have LMc5 := Aside0.mk c5
      clear c5
      obtain ⟨y390, hy390⟩ : ∃ y_ : List Int, y_ = (x4_1 ++ [x5_1]) := ⟨_, rfl⟩
      replace H : (spec_StaircaseNumbers.l0 k1 a0 y390 (wrap64 (x5_1 + 1))) = some (r1, r2) := by first | (rw [hy390]; with_reducible exact H) | (have H2_ := (Option.bind_some _ _).symm.trans H; rw [hy390]; with_reducible exact H2_) | (have H2_ := (Option.bind_some _ _).symm.trans H; with_reducible exact H2_) | with_reducible exact H | (rw [hy390]; exact H) | exact H
      have Ny390 := Aside0.mk hy390
      clear hy390
      have H' := Aside0.mk H
      clear H
      go_wp2_with (first | ((with_reducible refine gate_builtin (b := .append) (xs := #[.tmp 14, .tmp 16]) rfl ?_); at_builtin; refine Kd.R_append (Kd.int .i64) (w0 := w) w.heap.size rfl (.tmp 14) (.tmp 16) 24 3 (.int .i64 0) 8 rfl Try.underlying24 info3 rfl (by decide) (by omega) u4 x4_1 x5_1 [.int .i64 x5_1] (fun _ => True) (fun _ => False) rfl rfl ?aP (fun _ hk => hk.elim) ?aF ?aO ?aB ?aS ?aL ?_; (case aP => exact rfl); (case aB => exact (by repeat with_reducible first | exact HB.out | apply pw_below_drewN | apply below_drew1)); (case aF => exact (fun _ _ => trivial)); (case aO => exact (sqr Oq10)); (case aS => exact (below_size (by repeat with_reducible first | exact HB.out | apply pw_below_drewN | apply below_drew1))); (case aL => have := LMc5.out; omega); intro v391 w6 ho hb hg hat; rw [← Ny390.out] at ho; have n0_ := am (hb); have n1_ := am (ho); clear HB; clear Oq10; have HB := n0_; have Oq6 := n1_; clear n0_ n1_; clear ho hb hg hat))
      go_roundg k1
      case measure => have := HK1.out; omega
      case rel => exact ⟨(y390), (wrap64 (x5_1 + 1)), (by first | rfl | (simp; done) | (simp [*]; done)), H', ⟨by have := HK1.out; omega⟩, ⟨by (with_reducible repeat (first | apply Kd.R_alloc | apply Kd.R_drewN | apply Kd.R_drew)); exact Oq6.out⟩, ⟨by repeat with_reducible first | exact HB.out | apply pw_below_drewN | apply below_drew1⟩⟩
     ·
      rw [if_neg c5] at H
      exact absurd H (by simp)
    ·
     rw [if_neg c4] at H
     have c4b0 : decide (x5_1 < a0) = false := decide_eq_false c4
     clear c4
     replace H := Option.bind_eq_some_iff.mp H
     obtain ⟨t393, A70, H⟩ := H
     replace H : (some (t393, true)) = some (r1, r2) := H
     have A7 := Aside0.mk A70
     clear A70
     simp only [Option.some.injEq, Prod.mk.injEq] at H
     obtain ⟨rfl, rfl⟩ := H
     obtain ⟨Ao8, co8, eo8⟩ := Kd.R_slice Oq10.out
     subst eo8
     go_wp2_with (first | ((with_reducible refine gate_callee (f := 115) rfl ?_); refine goesL_ (some 19) rfl rfl Try.func115 (by kernel_rfl) rfl #[.slice Ao8 x4_1.length co8] rfl (by (try simp only [List.map_toArray, List.map_cons, List.map_nil]); try rfl) ?_; (with_reducible refine (spec_feNumbers.calls k1 _ _ x4_1 t393 _ ?side1 ?side2 A7.out).mono ?_); (case side1 => repeat (first | exact (Kd.R_reads' Oq10.out).2.2 | (with_reducible first | refine Kd.C_alloc ?_ _ | refine Kd.C_drewN ?_ _ | refine Kd.C_drew ?_))); (case side2 => exact (Kd.R_reads' Oq10.out).2.1); rintro e w9 ⟨v394, rfl, ho0, hb⟩; refine ⟨_, rfl, ?_⟩; have n1_ := am (Kd.R_lower (Kd.R_new' ho0 (sqL Oq10)) (below_size (by repeat with_reducible first | exact HB.out | apply pw_below_drewN | apply below_drew1))); have n2_ := am (below_step (by repeat with_reducible first | exact HB.out | apply pw_below_drewN | apply below_drew1) hb); clear HB; replace Oq10 := sqE Oq10 ho0 hb; have Oq7 := n1_; have HB := n2_; clear n1_ n2_; (try clear hb); (try clear hb2); (try clear hk); (try clear hi); (try clear ho0)))
     go_ret2
     exact ⟨_, by first | rfl | (simp [errW_none, errW_some] <;> rfl) | (simp [*, errW_none, errW_some] <;> rfl), by exact sqm Oq7 (fun _ hk => trivial), by repeat with_reducible first | exact HB.out | apply pw_below_drewN | apply below_drew1⟩
 ·
  replace c3 := Bool.eq_false_iff.mpr c3
  subst c3
  have H1 : (some (([] : List Int), false)) = some (r1, r2) := by first | (rw [if_neg (show ¬ (false = true) by decide)] at H; exact H) | rfl
  clear H
  have H := H1
  clear H1
  simp only [Option.some.injEq, Prod.mk.injEq] at H
  obtain ⟨rfl, rfl⟩ := H
  go_enter Try.func30, Try.ntmps30
  go_wp2_with (first | ((with_reducible refine gate_callee (f := 124) rfl ?_); refine goesL_ (some 7) rfl rfl Try.func124 (by kernel_rfl) rfl #[.int .i64 a0] rfl (by (try simp only [List.map_toArray, List.map_cons, List.map_nil]); try rfl) ?_; (with_reducible refine (spec_boSide.calls a0 false _ A2.out).mono ?_); rintro e w' ⟨rfl, ⟨nd, rfl⟩⟩; refine ⟨_, rfl, ?_⟩))
  go_ret2
  exact ⟨_, by first | rfl | (simp [errW_none, errW_some] <;> rfl) | (simp [*, errW_none, errW_some] <;> rfl), by first | exact Kd.R_nil _ _ _ _ _ | exact Kd.N_nil _ _ _ _ _ | exact Kd.V_nil _ _ _ _ _ | exact Kd.Q_nil _ _ _ _ _ | exact Kd.S_nil _ _ _ _ _, by repeat with_reducible first | exact HB.out | apply pw_below_drewN | apply below_drew1⟩

/-! ### impl_falling: function 125 -/
def impl_falling.l0 : Nat → Int → Int → Int → Int → Option (Int)
 | 0, _, _, _, _ => none
 | k + 1, x0, x5, x7, x8 => if x8 < x7 then (impl_falling.l0 k x0 (wrap64 (x5 * (wrap64 (x0 - x8)))) x7 (wrap64 (x8 + 1))) else (some x5)
def impl_falling.f (k : Nat) (a0 : Int) (a1 : Int) : Option (Int) := impl_falling.l0 k a0 1 a1 0
theorem impl_falling.mono_l : ∀ k, (∀ y0 y1 y2 y3, LeO (impl_falling.l0 k y0 y1 y2 y3) (impl_falling.l0 (k + 1) y0 y1 y2 y3))
 | 0 => fun _ _ _ _ r h => by simp [impl_falling.l0] at h
 | k + 1 => by
  have ih0 := impl_falling.mono_l k
  ·
   intro y0 y1 y2 y3
   unfold impl_falling.l0
   repeat' first
   | (with_reducible exact ih0 _ _ _ _)
   | (with_reducible exact LeO.refl _)
   | (with_reducible exact LeO.none _)
   | (with_reducible refine LeO.ite ?_ ?_)
   | (with_reducible refine LeO.bind ?_ (fun _ => ?_))
   | exact ih0 _ _ _ _
   | exact LeO.none _
   | refine LeO.ite ?_ ?_
   | refine LeO.bind ?_ (fun _ => ?_)
theorem impl_falling.mono : ∀ a0 a1 k, LeO (impl_falling.f k a0 a1) (impl_falling.f (k + 1) a0 a1) := by
 intro a0 a1 k
 have ih0 := impl_falling.mono_l k
 unfold impl_falling.f
 repeat' first
   | (with_reducible exact ih0 _ _ _ _)
   | (with_reducible exact LeO.refl _)
   | (with_reducible exact LeO.none _)
   | (with_reducible refine LeO.ite ?_ ?_)
   | (with_reducible refine LeO.bind ?_ (fun _ => ?_))
   | exact ih0 _ _ _ _
   | exact LeO.none _
   | refine LeO.ite ?_ ?_
   | refine LeO.bind ?_ (fun _ => ?_)
set_option maxHeartbeats 8000000 in
set_option maxRecDepth 100000 in
theorem impl_falling.calls (k : Nat) (a0 : Int) (a1 : Int) (r : Int) (w : World) (h : impl_falling.f k a0 a1 = some r) :
  Calls Try.prog 125 #[.int .i64 a0, .int .i64 a1] w fun e w' => e = .returned (.int .i64 r) ∧ Drawn0 w w' := by
 have H : (impl_falling.l0 k a0 1 a1 0) = some r := h
 clear h
 have H' := Aside0.mk H
 clear H
 go_enter Try.func125, Try.ntmps125
 go_wp2
 go_loopg [5, 8] k (fun kq v5 v8 w' => ∃ (x5_1 : Int) (x8_1 : Int), v5 = .int .i64 x5_1 ∧ v8 = .int .i64 x8_1 ∧ Aside0 (impl_falling.l0 kq a0 x5_1 a1 x8_1 = some r) ∧ Aside0 (kq ≤ k) ∧ Drawn0 w w')
 case atStart => exact ⟨(1), (0), (by first | rfl | (simp; done) | (simp [*]; done)), (by first | rfl | (simp; done) | (simp [*]; done)), H', ⟨Nat.le_refl _⟩, by repeat (first | exact Drawn0.refl _ | apply Drawn0.step)⟩
 case round =>
  clear H'
  try clear c1; try clear p2
  obtain ⟨x5_1, x8_1, rfl, rfl, HA, HK1, ⟨m1, rfl⟩⟩ := hrel
  cases gk with
  | zero => exact absurd HA.out (by simp [impl_falling.l0])
  | succ k1 =>
   have H := HA.out
   clear HA
   simp only [impl_falling.l0] at H
   by_cases c3 : x8_1 < a1
   ·
    rw [if_pos c3] at H
    have c3b0 : decide (x8_1 < a1) = true := decide_eq_true c3
    clear c3
    have H' := Aside0.mk H
    clear H
    go_wp2
    go_roundg k1
    case measure => have := HK1.out; omega
    case rel => exact ⟨(wrap64 (x5_1 * (wrap64 (a0 - x8_1)))), (wrap64 (x8_1 + 1)), (by first | rfl | (simp; done) | (simp [*]; done)), (by first | rfl | (simp; done) | (simp [*]; done)), H', ⟨by have := HK1.out; omega⟩, by repeat (first | exact Drawn0.refl _ | apply Drawn0.step)⟩
   ·
    rw [if_neg c3] at H
    have c3b0 : decide (x8_1 < a1) = false := decide_eq_false c3
    clear c3
    obtain rfl := Option.some.inj H
    go_wp2
    go_ret
    exact ⟨by first | rfl | (simp; done) | (simp [*]; done), by repeat (first | exact Drawn0.refl _ | apply Drawn0.step)⟩

/-! ### impl_FactorialAt: function 31 -/
mutual
def impl_FactorialAt.j0 : Nat → Int → Bool → Int → Int → List Int → Option (Int × Bool)
 | 0, _, _, _, _, _ => none
 | k + 1, x1, x16, x397000, x397001, x397002 => if x16 = true then (some (0, false)) else ((impl_Board_numbers.f x397000 x397001 x397002).bind fun t399 => (impl_FactorialAt.l0 k x1 0 t399 (t399.length : Int) 0 x397000 x397001 x397002))
def impl_FactorialAt.l0 : Nat → Int → Int → List Int → Int → Int → Int → Int → List Int → Option (Int × Bool)
 | 0, _, _, _, _, _, _, _, _ => none
 | k + 1, x1, x6, x18, x19, x20, x397000, x397001, x397002 => if x20 < x19 then (if 0 ≤ x20 then (if x20 < (x18.length : Int) then ((impl_falling.f k x1 (wrap64 (x397000 - x20))).bind fun t403 => (impl_FactorialAt.l0 k x1 (wrap64 (x6 + (wrap64 ((rd x18 x20) * t403)))) x18 x19 (wrap64 (x20 + 1)) x397000 x397001 x397002)) else (none)) else (none)) else (some (x6, true))
end
def impl_FactorialAt.f (k : Nat) (a0_0 : Int) (a0_1 : Int) (l0_2 : List Int) (a1 : Int) : Option (Int × Bool) := (impl_isSquare.f a0_0 a0_1 l0_2).bind fun t397 => (if t397 = true then ((impl_isPoint.f a1).bind fun t398 => (impl_FactorialAt.j0 k a1 (!t398) a0_0 a0_1 l0_2)) else (impl_FactorialAt.j0 k a1 true a0_0 a0_1 l0_2))
theorem impl_FactorialAt.mono_l : ∀ k, (∀ y0 y1 y2 y3 y4, LeO (impl_FactorialAt.j0 k y0 y1 y2 y3 y4) (impl_FactorialAt.j0 (k + 1) y0 y1 y2 y3 y4)) ∧ (∀ y0 y1 y2 y3 y4 y5 y6 y7, LeO (impl_FactorialAt.l0 k y0 y1 y2 y3 y4 y5 y6 y7) (impl_FactorialAt.l0 (k + 1) y0 y1 y2 y3 y4 y5 y6 y7))
 | 0 => ⟨fun _ _ _ _ _ r h => by simp [impl_FactorialAt.j0] at h, fun _ _ _ _ _ _ _ _ r h => by simp [impl_FactorialAt.l0] at h⟩
 | k + 1 => by
  obtain ⟨ih0, ih1⟩ := impl_FactorialAt.mono_l k
  refine ⟨?_, ?_⟩
  ·
   intro y0 y1 y2 y3 y4
   unfold impl_FactorialAt.j0
   repeat' first
   | (with_reducible exact ih0 _ _ _ _ _)
   | (with_reducible exact ih1 _ _ _ _ _ _ _ _)
   | (with_reducible exact impl_falling.mono _ _ _)
   | (with_reducible exact LeO.refl _)
   | (with_reducible exact LeO.none _)
   | (with_reducible refine LeO.ite ?_ ?_)
   | (with_reducible refine LeO.bind ?_ (fun _ => ?_))
   | exact ih0 _ _ _ _ _
   | exact ih1 _ _ _ _ _ _ _ _
   | exact impl_falling.mono _ _ _
   | exact LeO.none _
   | refine LeO.ite ?_ ?_
   | refine LeO.bind ?_ (fun _ => ?_)
  ·
   intro y0 y1 y2 y3 y4 y5 y6 y7
   unfold impl_FactorialAt.l0
   repeat' first
   | (with_reducible exact ih0 _ _ _ _ _)
   | (with_reducible exact ih1 _ _ _ _ _ _ _ _)
   | (with_reducible exact impl_falling.mono _ _ _)
   | (with_reducible exact LeO.refl _)
   | (with_reducible exact LeO.none _)
   | (with_reducible refine LeO.ite ?_ ?_)
   | (with_reducible refine LeO.bind ?_ (fun _ => ?_))
   | exact ih0 _ _ _ _ _
   | exact ih1 _ _ _ _ _ _ _ _
   | exact impl_falling.mono _ _ _
   | exact LeO.none _
   | refine LeO.ite ?_ ?_
   | refine LeO.bind ?_ (fun _ => ?_)
theorem impl_FactorialAt.mono : ∀ a0 a1 a2 a3 k, LeO (impl_FactorialAt.f k a0 a1 a2 a3) (impl_FactorialAt.f (k + 1) a0 a1 a2 a3) := by
 intro a0 a1 a2 a3 k
 obtain ⟨ih0, ih1⟩ := impl_FactorialAt.mono_l k
 unfold impl_FactorialAt.f
 repeat' first
   | (with_reducible exact ih0 _ _ _ _ _)
   | (with_reducible exact ih1 _ _ _ _ _ _ _ _)
   | (with_reducible exact impl_falling.mono _ _ _)
   | (with_reducible exact LeO.refl _)
   | (with_reducible exact LeO.none _)
   | (with_reducible refine LeO.ite ?_ ?_)
   | (with_reducible refine LeO.bind ?_ (fun _ => ?_))
   | exact ih0 _ _ _ _ _
   | exact ih1 _ _ _ _ _ _ _ _
   | exact impl_falling.mono _ _ _
   | exact LeO.none _
   | refine LeO.ite ?_ ?_
   | refine LeO.bind ?_ (fun _ => ?_)
set_option maxHeartbeats 8000000 in
set_option maxRecDepth 100000 in
theorem impl_FactorialAt.calls (k : Nat) (a0_0 : Int) (a0_1 : Int) (A0_2 : Option Addr) (c0_2 : Nat) (l0_2 : List Int) (a1 : Int) (r1 : Int) (r2 : Bool) (w : World) (hr0_2 : Kd.C (Kd.int .i64) w A0_2 l0_2.length l0_2) (hc0_2 : l0_2.length ≤ c0_2) (h : impl_FactorialAt.f k a0_0 a0_1 l0_2 a1 = some (r1, r2)) :
  Calls Try.prog 31 #[.agg #[.int .i64 a0_0, .int .i64 a0_1, .slice A0_2 l0_2.length c0_2], .int .i64 a1] w fun e w' => e = .returned (.tuple #[.int .i64 r1, .bool r2]) ∧ Below w.heap.size w w' := by
 have hu34 := Try.underlying34
 have HR0_2 := Aside0.mk hr0_2
 have HC0_2 := Aside0.mk hc0_2
 clear hr0_2 hc0_2
 have HB := am (Below.refl w.heap.size w)
 have H : ((impl_isSquare.f a0_0 a0_1 l0_2).bind fun t397 => (if t397 = true then ((impl_isPoint.f a1).bind fun t398 => (impl_FactorialAt.j0 k a1 (!t398) a0_0 a0_1 l0_2)) else (impl_FactorialAt.j0 k a1 true a0_0 a0_1 l0_2))) = some (r1, r2) := h
 clear h
 have HC3 := Aside0.mk H
 clear H
 go_enter Try.func31, Try.ntmps31
 go_upto_region 1 with (first | ((with_reducible refine gate_dst (N := 2) rfl ?_); refine box_event ?hg (N := 2) ?hd (cs := #[.int .i64 a0_0, .int .i64 a0_1, .slice A0_2 l0_2.length c0_2]) (t := 34) ?hr ?_; (case hd => rfl); (case hg => rfl); (case hr => first | (go_simp; done) | (go_simp; rfl)); intro gb396 hg w4 hbox hb; have n0_ := am (below_step (by repeat with_reducible first | exact HB.out | apply pw_below_drewN | apply below_drew1) hb); have n1_ := am (hbox); have n2_ := am ((by rw [hg]; exact (below_size (by repeat with_reducible first | exact HB.out | apply pw_below_drewN | apply below_drew1)) : w.heap.size ≤ gb396)); have n3_ := am ((by rw [hg]; exact (below_size (by repeat with_reducible first | exact HB.out | apply pw_below_drewN | apply below_drew1)) : w.heap.size ≤ gb396)); clear HB; have HB := n0_; have BK396 := n1_; have GW396 := n2_; have GE396 := n3_; clear n0_ n1_ n2_ n3_; clear hb hbox hg))
 (try simp only [Act.put, List.setIfInBounds_toArray, List.set_cons_zero, List.set_cons_succ])
 go_cut [16] (fun v16 wc => ∃ (kq : Nat) (x16_2 : Bool), v16 = .bool x16_2 ∧ Aside0 (impl_FactorialAt.j0 kq a1 x16_2 a0_0 a0_1 l0_2 = some (r1, r2)) ∧ Aside0 (kq ≤ k) ∧ Aside0 (wc.heap[gb396]? = some (.cells #[.int .i64 a0_0, .int .i64 a0_1, (.slice A0_2 l0_2.length c0_2)] 34 (0, 0))) ∧ Aside0 (Below w.heap.size w wc))
 case first =>
  have H := HC3.out
  clear HC3
  replace H := Option.bind_eq_some_iff.mp H
  obtain ⟨t397, A50, H⟩ := H
  replace H : (if t397 = true then ((impl_isPoint.f a1).bind fun t398 => (impl_FactorialAt.j0 k a1 (!t398) a0_0 a0_1 l0_2)) else (impl_FactorialAt.j0 k a1 true a0_0 a0_1 l0_2)) = some (r1, r2) := H
  have A5 := Aside0.mk A50
  clear A50
  by_cases c6 : t397 = true
  ·
   subst c6
   have H1 : ((impl_isPoint.f a1).bind fun t398 => (impl_FactorialAt.j0 k a1 (!t398) a0_0 a0_1 l0_2)) = some (r1, r2) := by first | (rw [if_pos rfl] at H; exact H) | rfl
   clear H
   have H := H1
   clear H1
   replace H := Option.bind_eq_some_iff.mp H
   obtain ⟨t398, A70, H⟩ := H
   replace H : (impl_FactorialAt.j0 k a1 (!t398) a0_0 a0_1 l0_2) = some (r1, r2) := H
   have A7 := Aside0.mk A70
   clear A70
   have H' := Aside0.mk H
   clear H
   have zq21 : w4.cell? ⟨gb396, 0, none⟩ = some (.int .i64 a0_0) := sqc BK396 0
   have zq22 : w4.cell? ⟨gb396, 1, none⟩ = some (.int .i64 a0_1) := sqc BK396 1
   have zq23 : w4.cell? ⟨gb396, 2, none⟩ = some (.slice A0_2 l0_2.length c0_2) := sqc BK396 2
   have fq21 := blk_frozen BK396.out 0
   have fq22 := blk_frozen BK396.out 1
   have fq23 := blk_frozen BK396.out 2
   go_wp2_with (first | ((with_reducible refine gate_callee (f := 122) rfl ?_); refine goesL_ (some 10) rfl rfl Try.func122 (by kernel_rfl) rfl #[.agg #[.int .i64 a0_0, .int .i64 a0_1, .slice A0_2 l0_2.length c0_2]] rfl (by (try simp only [List.map_toArray, List.map_cons, List.map_nil]); try rfl) ?_; (with_reducible refine (impl_isSquare.calls a0_0 a0_1 _ _ l0_2 true _ ?side1 ?side2 A5.out).mono ?_); (case side1 => repeat (first | exact (Kd.C_below HR0_2.out HB.out) | (with_reducible first | refine Kd.C_alloc ?_ _ | refine Kd.C_drewN ?_ _ | refine Kd.C_drew ?_))); (case side2 => exact HC0_2.out); rintro e w9 ⟨rfl, hb⟩; refine ⟨_, rfl, ?_⟩; have n1_ := am (below_step (by repeat with_reducible first | exact HB.out | apply pw_below_drewN | apply below_drew1 | refine below_set ?_ GE396.out) hb); clear HB; replace BK396 := sqB BK396 hb; have HB := n1_; clear n1_; (try clear hb); (try clear hb2); (try clear hk); (try clear hi)) | (go_at_call 107; (with_reducible refine (impl_isPoint.calls a1 t398 _ A7.out).mono ?_); rintro e w' ⟨rfl, ⟨nd, rfl⟩⟩))
   go_meet
   case rel => exact ⟨_, (!t398), (by first | rfl | (simp; done) | (simp [*]; done)), H', ⟨by first | omega | exact Nat.le_refl _⟩, ⟨by (with_reducible repeat (first | refine blk_drewN ?_ _ | refine blk_drew ?_ | refine blk_alloc ?_ _)); exact BK396.out⟩, ⟨by repeat with_reducible first | exact HB.out | apply pw_below_drewN | apply below_drew1 | refine below_set ?_ GE396.out⟩⟩
  ·
   replace c6 := Bool.eq_false_iff.mpr c6
   subst c6
   have H1 : (impl_FactorialAt.j0 k a1 true a0_0 a0_1 l0_2) = some (r1, r2) := by first | (rw [if_neg (show ¬ (false = true) by decide)] at H; exact H) | rfl
   clear H
   have H := H1
   clear H1
   have H' := Aside0.mk H
   clear H
   have zq0 : w4.cell? ⟨gb396, 0, none⟩ = some (.int .i64 a0_0) := sqc BK396 0
   have zq1 : w4.cell? ⟨gb396, 1, none⟩ = some (.int .i64 a0_1) := sqc BK396 1
   have zq2 : w4.cell? ⟨gb396, 2, none⟩ = some (.slice A0_2 l0_2.length c0_2) := sqc BK396 2
   have fq0 := blk_frozen BK396.out 0
   have fq1 := blk_frozen BK396.out 1
   have fq2 := blk_frozen BK396.out 2
   go_wp2_with (first | ((with_reducible refine gate_callee (f := 122) rfl ?_); refine goesL_ (some 10) rfl rfl Try.func122 (by kernel_rfl) rfl #[.agg #[.int .i64 a0_0, .int .i64 a0_1, .slice A0_2 l0_2.length c0_2]] rfl (by (try simp only [List.map_toArray, List.map_cons, List.map_nil]); try rfl) ?_; (with_reducible refine (impl_isSquare.calls a0_0 a0_1 _ _ l0_2 false _ ?side1 ?side2 A5.out).mono ?_); (case side1 => repeat (first | exact (Kd.C_below HR0_2.out HB.out) | (with_reducible first | refine Kd.C_alloc ?_ _ | refine Kd.C_drewN ?_ _ | refine Kd.C_drew ?_))); (case side2 => exact HC0_2.out); rintro e w11 ⟨rfl, hb⟩; refine ⟨_, rfl, ?_⟩; have n1_ := am (below_step (by repeat with_reducible first | exact HB.out | apply pw_below_drewN | apply below_drew1 | refine below_set ?_ GE396.out) hb); clear HB; replace BK396 := sqB BK396 hb; have HB := n1_; clear n1_; (try clear hb); (try clear hb2); (try clear hk); (try clear hi)))
   go_meet
   case rel => exact ⟨_, (true), (by first | rfl | (simp; done) | (simp [*]; done)), H', ⟨by first | omega | exact Nat.le_refl _⟩, ⟨by (with_reducible repeat (first | refine blk_drewN ?_ _ | refine blk_drew ?_ | refine blk_alloc ?_ _)); exact BK396.out⟩, ⟨by repeat with_reducible first | exact HB.out | apply pw_below_drewN | apply below_drew1 | refine below_set ?_ GE396.out⟩⟩
 case rest =>
  clear HC3
  try clear c1; try clear p2; try clear c3; try clear c6; try clear zq0; try clear zq1; try clear zq2; try clear zq21; try clear zq22; try clear zq23; try clear fq0; try clear fq1; try clear fq2; try clear fq21; try clear fq22; try clear fq23
  obtain ⟨kq, x16_2, rfl, HA, HJ2, BK396, HB⟩ := hcut
  cases kq with
  | zero => exact absurd HA.out (by simp [impl_FactorialAt.j0])
  | succ kj2 =>
   have H := HA.out
   clear HA
   simp only [impl_FactorialAt.j0] at H
   by_cases c12 : x16_2 = true
   ·
    subst c12
    have H1 : (some (0, false)) = some (r1, r2) := by first | (rw [if_pos rfl] at H; exact H) | rfl
    clear H
    have H := H1
    clear H1
    simp only [Option.some.injEq, Prod.mk.injEq] at H
    obtain ⟨rfl, rfl⟩ := H
    go_wp2
    go_ret2
    exact ⟨by first | rfl | (simp [errW_none, errW_some] <;> rfl) | (simp [*, errW_none, errW_some] <;> rfl), by repeat with_reducible first | exact HB.out | apply pw_below_drewN | apply below_drew1 | refine below_set ?_ GE396.out⟩
   ·
    replace c12 := Bool.eq_false_iff.mpr c12
    subst c12
    have H1 : ((impl_Board_numbers.f a0_0 a0_1 l0_2).bind fun t399 => (impl_FactorialAt.l0 kj2 a1 0 t399 (t399.length : Int) 0 a0_0 a0_1 l0_2)) = some (r1, r2) := by first | (rw [if_neg (show ¬ (false = true) by decide)] at H; exact H) | rfl
    clear H
    have H := H1
    clear H1
    replace H := Option.bind_eq_some_iff.mp H
    obtain ⟨t399, A130, H⟩ := H
    replace H : (impl_FactorialAt.l0 kj2 a1 0 t399 (t399.length : Int) 0 a0_0 a0_1 l0_2) = some (r1, r2) := H
    have A13 := Aside0.mk A130
    clear A130
    have H' := Aside0.mk H
    clear H
    have zq6 : wc.cell? ⟨gb396, 0, none⟩ = some (.int .i64 a0_0) := sqc BK396 0
    have zq7 : wc.cell? ⟨gb396, 1, none⟩ = some (.int .i64 a0_1) := sqc BK396 1
    have zq8 : wc.cell? ⟨gb396, 2, none⟩ = some (.slice A0_2 l0_2.length c0_2) := sqc BK396 2
    have fq6 := blk_frozen BK396.out 0
    have fq7 := blk_frozen BK396.out 1
    have fq8 := blk_frozen BK396.out 2
    go_wp2_with (first | ((with_reducible refine gate_callee (f := 114) rfl ?_); refine goesL_ (some 18) rfl rfl Try.func114 (by kernel_rfl) rfl #[.agg #[.int .i64 a0_0, .int .i64 a0_1, .slice A0_2 l0_2.length c0_2]] rfl (by (try simp only [List.map_toArray, List.map_cons, List.map_nil]); try rfl) ?_; (with_reducible refine (impl_Board_numbers.calls a0_0 a0_1 _ _ l0_2 t399 _ ?side1 ?side2 A13.out).mono ?_); (case side1 => repeat (first | exact (Kd.C_below HR0_2.out HB.out) | (with_reducible first | refine Kd.C_alloc ?_ _ | refine Kd.C_drewN ?_ _ | refine Kd.C_drew ?_))); (case side2 => exact HC0_2.out); rintro e w15 ⟨v400, rfl, ho0, hb⟩; refine ⟨_, rfl, ?_⟩; have n0_ := am (Kd.R_lower ho0 (below_size (by repeat with_reducible first | exact HB.out | apply pw_below_drewN | apply below_drew1 | refine below_set ?_ GE396.out))); have n2_ := am (below_step (by repeat with_reducible first | exact HB.out | apply pw_below_drewN | apply below_drew1 | refine below_set ?_ GE396.out) hb); clear HB; have Oq8 := n0_; replace BK396 := sqB BK396 hb; have HB := n2_; clear n0_ n2_; (try clear hb); (try clear hb2); (try clear hk); (try clear hi); (try clear ho0); obtain ⟨Ao16, co16, eo16⟩ := Kd.R_slice Oq8.out; subst eo16))
    go_loopg [6, 20] kj2 (fun kq v6 v20 w' => ∃ (x6_2 : Int) (x20_2 : Int), v6 = .int .i64 x6_2 ∧ v20 = .int .i64 x20_2 ∧ Aside0 (impl_FactorialAt.l0 kq a1 x6_2 t399 (t399.length : Int) x20_2 a0_0 a0_1 l0_2 = some (r1, r2)) ∧ Aside0 (kq ≤ kj2) ∧ Aside0 (Kd.R (Kd.int .i64) 3 w' w.heap.size (fun _ => True) (.slice Ao16 t399.length co16) t399) ∧ Aside0 (w'.heap[gb396]? = some (.cells #[.int .i64 a0_0, .int .i64 a0_1, (.slice A0_2 l0_2.length c0_2)] 34 (0, 0))) ∧ Aside0 (Below w.heap.size w w'))
    case atStart => exact ⟨(0), (0), (by first | rfl | (simp; done) | (simp [*]; done)), (by first | rfl | (simp; done) | (simp [*]; done)), H', ⟨Nat.le_refl _⟩, ⟨by (with_reducible repeat (first | apply Kd.R_alloc | apply Kd.R_drewN | apply Kd.R_drew)); exact Oq8.out⟩, ⟨by (with_reducible repeat (first | refine blk_drewN ?_ _ | refine blk_drew ?_ | refine blk_alloc ?_ _)); exact BK396.out⟩, ⟨by repeat with_reducible first | exact HB.out | apply pw_below_drewN | apply below_drew1 | refine below_set ?_ GE396.out⟩⟩
    case round =>
     clear H'
     try clear c1; try clear p2; try clear c3; try clear c6; try clear c11; try clear c12; try clear zq0; try clear zq1; try clear zq2; try clear zq6; try clear zq7; try clear zq8; try clear zq21; try clear zq22; try clear zq23; try clear fq0; try clear fq1; try clear fq2; try clear fq6; try clear fq7; try clear fq8; try clear fq21; try clear fq22; try clear fq23; try clear p2
     obtain ⟨x6_2, x20_2, rfl, rfl, HA, HK2, Oq9, BK396, HB⟩ := hrel
     cases gk with
     | zero => exact absurd HA.out (by simp [impl_FactorialAt.l0])
     | succ k2 =>
      have H := HA.out
      clear HA
      simp only [impl_FactorialAt.l0] at H
      by_cases c17 : x20_2 < (t399.length : Int)
      ·
       rw [if_pos c17] at H
       have c17b0 : decide (x20_2 < (t399.length : Int)) = true := decide_eq_true c17
       clear c17
       by_cases c18 : 0 ≤ x20_2
       ·
        rw [if_pos c18] at H
        have c18b0 : decide (0 ≤ x20_2) = true := decide_eq_true c18
        clear c18
        by_cases c19 : x20_2 < (t399.length : Int)
        ·
         rw [if_pos c19] at H
         have c19b0 : decide (x20_2 < (t399.length : Int)) = true := decide_eq_true c19
         clear c19
         replace H := Option.bind_eq_some_iff.mp H
         obtain ⟨t403, A200, H⟩ := H
         replace H : (impl_FactorialAt.l0 k2 a1 (wrap64 (x6_2 + (wrap64 ((rd t399 x20_2) * t403)))) t399 (t399.length : Int) (wrap64 (x20_2 + 1)) a0_0 a0_1 l0_2) = some (r1, r2) := H
         have A20 := Aside0.mk A200
         clear A200
         have H' := Aside0.mk H
         clear H
         have p402 : 0 ≤ (x20_2 : Int) := of_decide_eq_true (by first | (with_reducible assumption) | assumption)
         have q402 : x20_2 < (t399.length : Int) := of_decide_eq_true (by first | (with_reducible assumption) | assumption)
         obtain ⟨ad402, e402, hx402_0⟩ := Kd.at_int (Kd.R_reads' Oq9.out).2.2 x20_2 p402 q402
         cases e402
         replace p402 := eq_true p402
         replace q402 := eq_true q402
         have zq9 : wr.cell? ⟨gb396, 0, none⟩ = some (.int .i64 a0_0) := sqc BK396 0
         have zq10 : wr.cell? ⟨gb396, 1, none⟩ = some (.int .i64 a0_1) := sqc BK396 1
         have zq11 : wr.cell? ⟨gb396, 2, none⟩ = some (.slice A0_2 l0_2.length c0_2) := sqc BK396 2
         have fq9 := blk_frozen BK396.out 0
         have fq10 := blk_frozen BK396.out 1
         have fq11 := blk_frozen BK396.out 2
         go_wp2_with (first | ((with_reducible refine gate_callee (f := 125) rfl ?_); refine goesL_ (some 32) rfl rfl Try.func125 (by kernel_rfl) rfl #[.int .i64 a1, .int .i64 (wrap64 (a0_0 - x20_2))] rfl (by (try simp only [List.map_toArray, List.map_cons, List.map_nil]); try rfl) ?_; (with_reducible refine (impl_falling.calls k2 a1 (wrap64 (a0_0 - x20_2)) t403 _ A20.out).mono ?_); rintro e w' ⟨rfl, ⟨nd, rfl⟩⟩; refine ⟨_, rfl, ?_⟩))
         go_roundg k2
         case measure => have := HJ2.out; have := HK2.out; omega
         case rel => exact ⟨(wrap64 (x6_2 + (wrap64 ((rd t399 x20_2) * t403)))), (wrap64 (x20_2 + 1)), (by first | rfl | (simp; done) | (simp [*]; done)), (by first | rfl | (simp; done) | (simp [*]; done)), H', ⟨by have := HJ2.out; have := HK2.out; omega⟩, ⟨by (with_reducible repeat (first | apply Kd.R_alloc | apply Kd.R_drewN | apply Kd.R_drew)); exact Oq9.out⟩, ⟨by (with_reducible repeat (first | refine blk_drewN ?_ _ | refine blk_drew ?_ | refine blk_alloc ?_ _)); exact BK396.out⟩, ⟨by repeat with_reducible first | exact HB.out | apply pw_below_drewN | apply below_drew1 | refine below_set ?_ GE396.out⟩⟩
        ·
         rw [if_neg c19] at H
         exact absurd H (by simp)
       ·
        rw [if_neg c18] at H
        exact absurd H (by simp)
      ·
       rw [if_neg c17] at H
       have c17b0 : decide (x20_2 < (t399.length : Int)) = false := decide_eq_false c17
       clear c17
       simp only [Option.some.injEq, Prod.mk.injEq] at H
       obtain ⟨rfl, rfl⟩ := H
       go_wp2
       go_ret2
       exact ⟨by first | rfl | (simp [errW_none, errW_some] <;> rfl) | (simp [*, errW_none, errW_some] <;> rfl), by repeat with_reducible first | exact HB.out | apply pw_below_drewN | apply below_drew1 | refine below_set ?_ GE396.out⟩

end Go.Proofs.Ytfgfgkpmkfjeiaa.PFnFactorsTell
