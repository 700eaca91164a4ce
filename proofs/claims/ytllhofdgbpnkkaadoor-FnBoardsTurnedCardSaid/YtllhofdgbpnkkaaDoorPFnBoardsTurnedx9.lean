-- Printed for this claim by wip/pp.py over the kit's printer; Lean checks it.
import Derived.Test.YtllhofdgbpnkkaaDoorPFnBoardsTurnedx0
import Derived.Test.YtllhofdgbpnkkaaDoorPFnBoardsTurnedx4
import Derived.Test.YtllhofdgbpnkkaaDoorPFnBoardsTurnedx6
import Derived.Test.YtllhofdgbpnkkaaDoorPFnBoardsTurnedx8
namespace Go.Proofs.YtllhofdgbpnkkaaDoor.PFnBoardsTurned
open Go.RowKit Go.Proofs.YtllhofdgbpnkkaaDoorW.PrintWords Go.Proofs.YtllhofdgbpnkkaaDoorW.PrintLast Go.Proofs.YtllhofdgbpnkkaaDoorW.PrintMore
attribute [local go_sem] max2_int min2_int max_two min_two max_three min_three max_four min_four   -- for this text's walks alone
set_option linter.unusedVariables false
set_option linter.unusedSimpArgs false

/-! ### spec_OrderRows: function 15 -/
mutual
def spec_OrderRows.j0 : Nat → List Int → Bool → Int → Int → List Int → Option (Int × Int × List Int × Bool)
 | 0, _, _, _, _, _ => none
 | k + 1, x1, x18, x371000, x371001, x371002 => if x18 = true then (some (0, 0, ([] : List Int), false)) else ((spec_boOwn.f x371000 x371001 x371002).bind fun bt374 => (spec_OrderRows.l0 k x1 (x1.length : Int) 0 x371000 x371001 x371002 bt374.1 bt374.2.1 bt374.2.2))
def spec_OrderRows.l0 : Nat → List Int → Int → Int → Int → Int → List Int → Int → Int → List Int → Option (Int × Int × List Int × Bool)
 | 0, _, _, _, _, _, _, _, _, _ => none
 | k + 1, x22, x23, x24, x371000, x371001, x371002, x380000, x380001, x380002 => if x24 < x23 then (if 0 ≤ x24 then (if x24 < (x22.length : Int) then (if 0 ≤ (rd x22 x24) then (if (rd x22 x24) < (x371002.length : Int) then (if x24 < (x380002.length : Int) then (spec_OrderRows.l0 k x22 x23 (wrap64 (x24 + 1)) x371000 x371001 x371002 x380000 x380001 (x380002.set (x24 : Int).toNat (rd x371002 (rd x22 x24)))) else (none)) else (none)) else (none)) else (none)) else (none)) else (some (x380000, x380001, x380002, true))
end
def spec_OrderRows.f (k : Nat) (a0_0 : Int) (a0_1 : Int) (l0_2 : List Int) (l1 : List Int) : Option (Int × Int × List Int × Bool) := (spec_boGood.f k a0_0 a0_1 l0_2).bind fun t372 => (if t372 = true then ((spec_boOrder.f k l1 a0_0).bind fun t373 => (spec_OrderRows.j0 k l1 (!t373) a0_0 a0_1 l0_2)) else (spec_OrderRows.j0 k l1 true a0_0 a0_1 l0_2))
def spec_OrderRows.T7 : Bool × List (List Nat × List Nat) := (true, [([], []), ([0], [0]), ([], []), ([], []), ([3], [3]), ([], []), ([4, 5], [4, 5]), ([6], [6]), ([1, 2, 0, 1, 2, 3, 4, 5, 6, 7], [1, 2]), ([8, 7, 0, 1, 2, 3, 4, 5, 6, 7], [7, 8])])
def spec_OrderRows.B7 : List Nat := [0, 1, 0, 0, 8, 0, 56, 120, 255, 511]
theorem spec_OrderRows.tab7 : rtab .any (opsOf Tryd.f15 7) = spec_OrderRows.T7 := by kernel_rfl
theorem spec_OrderRows.bits7 : waitsOk spec_OrderRows.T7.2 spec_OrderRows.B7 = true := by kernel_rfl
set_option maxHeartbeats 8000000 in
set_option maxRecDepth 100000 in
theorem spec_OrderRows.calls (k : Nat) (a0_0 : Int) (a0_1 : Int) (A0_2 : Option Addr) (c0_2 : Nat) (l0_2 : List Int) (A1 : Option Addr) (c1 : Nat) (l1 : List Int) (r1 : Int) (r2 : Int) (r3 : List Int) (r4 : Bool) (w : World) (hr0_2 : Kd.C (Kd.int .i64) w A0_2 l0_2.length l0_2) (hc0_2 : l0_2.length ≤ c0_2) (hr1 : Kd.C (Kd.int .i64) w A1 l1.length l1) (hc1 : l1.length ≤ c1) (h : spec_OrderRows.f k a0_0 a0_1 l0_2 l1 = some (r1, r2, r3, r4)) :
  Calls Tryd.prog 15 #[.agg #[.int .i64 a0_0, .int .i64 a0_1, .slice A0_2 l0_2.length c0_2], .slice A1 l1.length c1] w fun e w' => ∃ v2_ : Value, e = .returned (.tuple #[.agg #[.int .i64 r1, .int .i64 r2, v2_], .bool r4]) ∧ Kd.R (Kd.int .i64) 3 w' w.heap.size (fun _ => True) v2_ r3 ∧ Below w.heap.size w w' := by
 have hu26 := Tryd.underlying26
 have HR0_2 := Aside0.mk hr0_2
 have HC0_2 := Aside0.mk hc0_2
 clear hr0_2 hc0_2
 have HR1 := Aside0.mk hr1
 have HC1 := Aside0.mk hc1
 clear hr1 hc1
 have HB := am (Below.refl w.heap.size w)
 have H : ((spec_boGood.f k a0_0 a0_1 l0_2).bind fun t372 => (if t372 = true then ((spec_boOrder.f k l1 a0_0).bind fun t373 => (spec_OrderRows.j0 k l1 (!t373) a0_0 a0_1 l0_2)) else (spec_OrderRows.j0 k l1 true a0_0 a0_1 l0_2))) = some (r1, r2, r3, r4) := h
 clear h
 have HC3 := Aside0.mk H
 clear H
 go_enter Tryd.func15, Tryd.ntmps15
 go_upto_region 1 with (first | ((with_reducible refine gate_dst (N := 2) rfl ?_); refine qv 2 #[.int .i64 a0_0, .int .i64 a0_1, .slice A0_2 l0_2.length c0_2] 26 ?_; intro gb370 hg w4 hbox hb; have BK370 := am hbox; have GW370 := qw hg; have GE370 := qw hg; replace HB := qs hb; clear hb hbox hg) | ((with_reducible refine gate_dst (N := 4) rfl ?_); refine qv 4 #[.int .i64 0, .int .i64 0, .slice none 0 0] 26 ?_; intro gb371 hg w5 hbox hb; have BK371 := am hbox; have GW371 := qw hg; have GE371 := qw hg; have Nq0 := qn hg BK370; have Nq2 := qN hg BK370; replace BK370 := sqB BK370 hb; replace HB := qs hb; clear hb hbox hg))
 (try simp only [Act.put, List.setIfInBounds_toArray, List.set_cons_zero, List.set_cons_succ])
 go_cut [18] (fun v18 wc => ∃ (kq : Nat) (x18_2 : Bool), v18 = .bool x18_2 ∧ Aside0 (spec_OrderRows.j0 kq l1 x18_2 a0_0 a0_1 l0_2 = some (r1, r2, r3, r4)) ∧ Aside0 (kq ≤ k) ∧ Aside0 (wc.heap[gb370]? = some (.cells #[.int .i64 a0_0, .int .i64 a0_1, (.slice A0_2 l0_2.length c0_2)] 26 (0, 0))) ∧ Aside0 (wc.heap[gb371]? = some (.cells #[.int .i64 0, .int .i64 0, (.slice none 0 0)] 26 (0, 0))) ∧ Aside0 (Below w.heap.size w wc))
 case first =>
  have H := HC3.out
  clear HC3
  replace H := qE H
  obtain ⟨t372, A6, H⟩ := H
  replace H : (if t372 = true then ((spec_boOrder.f k l1 a0_0).bind fun t373 => (spec_OrderRows.j0 k l1 (!t373) a0_0 a0_1 l0_2)) else (spec_OrderRows.j0 k l1 true a0_0 a0_1 l0_2)) = some (r1, r2, r3, r4) := H
  by_cases c7 : t372 = true
  ·
   subst c7
   have H1 : ((spec_boOrder.f k l1 a0_0).bind fun t373 => (spec_OrderRows.j0 k l1 (!t373) a0_0 a0_1 l0_2)) = some (r1, r2, r3, r4) := by first | (rw [if_pos rfl] at H; exact H) | rfl
   clear H
   have H := H1
   clear H1
   replace H := qE H
   obtain ⟨t373, A8, H⟩ := H
   replace H : (spec_OrderRows.j0 k l1 (!t373) a0_0 a0_1 l0_2) = some (r1, r2, r3, r4) := H
   have H' := Aside0.mk H
   clear H
   have bq8 := Nq0.out
   have cq8 := Nq2.out
   obtain ⟨zq0, zq1, zq2, fq0, fq1, fq2⟩ := qd BK370
   go_wp2_with (first | ((with_reducible refine gate_callee (f := 28) rfl ?_); refine qg (some 10) Tryd.func28 #[.agg #[.int .i64 a0_0, .int .i64 a0_1, .slice A0_2 l0_2.length c0_2]] ?_; (with_reducible refine (spec_boGood.calls k a0_0 a0_1 _ _ l0_2 true _ ?side1 HC0_2.out A6.out).mono ?_); (case side1 => exact Q3); rintro e w11 ⟨rfl, hb⟩; refine ⟨_, rfl, ?_⟩; replace BK370 := sqB BK370 hb; replace BK371 := sqB BK371 hb; replace HB := qs hb; (try clear hb); obtain ⟨zq3, zq4, zq5, fq3, fq4, fq5⟩ := qd BK370) | (go_at_call 45; (with_reducible refine (spec_boOrder.calls k _ _ l1 a0_0 t373 _ ?side1 HC1.out A8.out).mono ?_); (case side1 => exact Q46); rintro e w' ⟨rfl, ⟨nd, rfl⟩⟩))
   go_meet
   case rel => exact ⟨_, (!t373), Q2, H', ⟨Q63⟩, ⟨by (with_reducible repeat (first | refine blk_drewN ?_ _ | refine blk_drew ?_ | refine blk_alloc ?_ _)); exact BK370.out⟩, ⟨by (with_reducible repeat (first | refine blk_drewN ?_ _ | refine blk_drew ?_ | refine blk_alloc ?_ _)); exact BK371.out⟩, ⟨qb⟩⟩
  ·
   replace c7 := Bool.eq_false_iff.mpr c7
   subst c7
   have H1 : (spec_OrderRows.j0 k l1 true a0_0 a0_1 l0_2) = some (r1, r2, r3, r4) := by first | (rw [if_neg (show ¬ (false = true) by decide)] at H; exact H) | rfl
   clear H
   have H := H1
   clear H1
   have H' := Aside0.mk H
   clear H
   have bq0 := Nq0.out
   have cq0 := Nq2.out
   obtain ⟨zq6, zq7, zq8, fq6, fq7, fq8⟩ := qd BK370
   go_wp2_with (first | ((with_reducible refine gate_callee (f := 28) rfl ?_); refine qg (some 10) Tryd.func28 #[.agg #[.int .i64 a0_0, .int .i64 a0_1, .slice A0_2 l0_2.length c0_2]] ?_; (with_reducible refine (spec_boGood.calls k a0_0 a0_1 _ _ l0_2 false _ ?side1 HC0_2.out A6.out).mono ?_); (case side1 => exact Q3); rintro e w15 ⟨rfl, hb⟩; refine ⟨_, rfl, ?_⟩; replace BK370 := sqB BK370 hb; replace BK371 := sqB BK371 hb; replace HB := qs hb; (try clear hb)))
   go_meet
   case rel => exact ⟨_, (true), Q2, H', ⟨Q63⟩, ⟨by (with_reducible repeat (first | refine blk_drewN ?_ _ | refine blk_drew ?_ | refine blk_alloc ?_ _)); exact BK370.out⟩, ⟨by (with_reducible repeat (first | refine blk_drewN ?_ _ | refine blk_drew ?_ | refine blk_alloc ?_ _)); exact BK371.out⟩, ⟨qb⟩⟩
 case rest =>
  clear HC3
  try clear c7; try clear zq0; try clear zq1; try clear zq2; try clear zq3; try clear zq4; try clear zq5; try clear zq6; try clear zq7; try clear zq8; try clear fq0; try clear fq1; try clear fq2; try clear fq3; try clear fq4; try clear fq5; try clear fq6; try clear fq7; try clear fq8
  obtain ⟨kq, x18_2, rfl, HA, HJ2, BK370, BK371, HB⟩ := hcut
  cases kq with
  | zero => exact absurd HA.out (by simp [spec_OrderRows.j0])
  | succ kj2 =>
   have H := HA.out
   clear HA
   simp only [spec_OrderRows.j0] at H
   by_cases c16 : x18_2 = true
   ·
    subst c16
    have H1 : (some (0, 0, ([] : List Int), false)) = some (r1, r2, r3, r4) := by first | (rw [if_pos rfl] at H; exact H) | rfl
    clear H
    have H := H1
    clear H1
    simp only [Option.some.injEq, Prod.mk.injEq] at H
    obtain ⟨rfl, rfl, rfl, rfl⟩ := H
    have bq1 := Nq2.out
    have cq1 := Nq0.out
    obtain ⟨zq9, zq10, zq11, fq9, fq10, fq11⟩ := qd BK371
    go_wp2
    refine bodyPost_ret (results_ct rfl _ _ gb371 26 #[.int .i64 0, .int .i64 0, .slice none 0 0] (0, 0) _ rfl (by (with_reducible repeat (first | refine blk_drewN ?_ _ | refine blk_drew ?_ | refine blk_alloc ?_ _)); refine blk_put (cs := #[.int .i64 0, .int .i64 0, .slice none 0 0]) ?_ 2 _ rfl; (with_reducible repeat (first | refine blk_drewN ?_ _ | refine blk_drew ?_ | refine blk_alloc ?_ _)); refine blk_put (cs := #[.int .i64 0, .int .i64 0, .slice none 0 0]) ?_ 1 _ rfl; (with_reducible repeat (first | refine blk_drewN ?_ _ | refine blk_drew ?_ | refine blk_alloc ?_ _)); refine blk_put (cs := #[.int .i64 0, .int .i64 0, .slice none 0 0]) ?_ 0 _ rfl; (with_reducible repeat (first | refine blk_drewN ?_ _ | refine blk_drew ?_ | refine blk_alloc ?_ _)); exact BK371.out) Tryd.underlying26 rfl (by kernel_rfl)) rfl ?_
    exact ⟨_, Q1, Q6, qb⟩
   ·
    replace c16 := Bool.eq_false_iff.mpr c16
    subst c16
    have H1 : ((spec_boOwn.f a0_0 a0_1 l0_2).bind fun bt374 => (spec_OrderRows.l0 kj2 l1 (l1.length : Int) 0 a0_0 a0_1 l0_2 bt374.1 bt374.2.1 bt374.2.2)) = some (r1, r2, r3, r4) := by first | (rw [if_neg (show ¬ (false = true) by decide)] at H; exact H) | rfl
    clear H
    have H := H1
    clear H1
    replace H := qE H
    obtain ⟨⟨t374, t375, t376⟩, A19, H⟩ := H
    replace H : (spec_OrderRows.l0 kj2 l1 (l1.length : Int) 0 a0_0 a0_1 l0_2 t374 t375 t376) = some (r1, r2, r3, r4) := H
    have H' := Aside0.mk H
    clear H
    have bq2 := Nq0.out
    have cq2 := Nq2.out
    obtain ⟨zq12, zq13, zq14, fq12, fq13, fq14⟩ := qd BK370
    go_wp2_with (first | ((with_reducible refine gate_callee (f := 46) rfl ?_); refine qg (some 21) Tryd.func46 #[.agg #[.int .i64 a0_0, .int .i64 a0_1, .slice A0_2 l0_2.length c0_2]] ?_; (with_reducible refine (spec_boOwn.calls a0_0 a0_1 _ _ l0_2 t374 t375 t376 _ ?side1 HC0_2.out A19.out).mono ?_); (case side1 => exact Q3); rintro e w22 ⟨v377, rfl, ho0, hb⟩; refine ⟨_, rfl, ?_⟩; have Oq0 := ql ho0; replace BK370 := sqB BK370 hb; replace BK371 := sqB BK371 hb; replace HB := qs hb; (try clear hb ho0)) | ((with_reducible refine gate_dst (N := 6) rfl ?_); refine qv 6 #[.int .i64 0, .int .i64 0, .slice none 0 0] 26 ?_; intro gb379 hg w23 hbox hb; have BK379 := am hbox; have GW379 := qw hg; have GE379 := qw hg; have Nq1 := qn hg BK370; have Nq4 := qN hg BK370; have Nq3 := qn hg BK371; have Nq5 := qN hg BK371; replace Oq0 := sqR Oq0 hb; replace BK370 := sqB BK370 hb; replace BK371 := sqB BK371 hb; replace HB := qs hb; clear hb hbox hg; have bq3 := Nq4.out; have cq3 := Nq1.out; have bq4 := Nq5.out; have cq4 := Nq3.out; obtain ⟨zq15, zq16, zq17, fq15, fq16, fq17⟩ := qd BK379; obtain ⟨Ao27, co27, eo27⟩ := Kd.R_slice Oq0.out; subst eo27))
    go_loopg [24] kj2 (fun kq v24 w' => ∃ (x24_2 : Int) (x380002_2 : List Int) (u380002 : Value), v24 = .int .i64 x24_2 ∧ Aside0 (spec_OrderRows.l0 kq l1 (l1.length : Int) x24_2 a0_0 a0_1 l0_2 t374 t375 x380002_2 = some (r1, r2, r3, r4)) ∧ Aside0 (kq ≤ kj2) ∧ Aside0 (Kd.R (Kd.int .i64) 3 w' w.heap.size (fun _ => True) u380002 x380002_2) ∧ Aside0 (w'.heap[gb370]? = some (.cells #[.int .i64 a0_0, .int .i64 a0_1, (.slice A0_2 l0_2.length c0_2)] 26 (0, 0))) ∧ Aside0 (w'.heap[gb371]? = some (.cells #[.int .i64 0, .int .i64 0, (.slice none 0 0)] 26 (0, 0))) ∧ Aside0 (w'.heap[gb379]? = some (.cells #[.int .i64 t374, .int .i64 t375, u380002] 26 (0, 0))) ∧ Aside0 (Below w.heap.size w w'))
    case atStart => exact ⟨(0), (t376), (.slice Ao27 t376.length co27), Q2, H', ⟨Nat.le_refl _⟩, ⟨by (with_reducible repeat (first | apply Kd.R_alloc | apply Kd.R_drewN | apply Kd.R_drew)); exact Kd.R_mono (Kd.R_far (p := ⟨gb379, 2, none⟩) (Kd.R_far (p := ⟨gb379, 1, none⟩) (Kd.R_far (p := ⟨gb379, 0, none⟩) (Kd.R_types Oq0.out BK379.out (by decide)) (fun _ hk => hk.2) (.int .i64 t374)) (fun _ hk => hk.2) (.int .i64 t375)) (fun _ hk => hk.2) (.slice Ao27 t376.length co27)) (fun _ hk => trivial)⟩, ⟨by (with_reducible repeat (first | refine blk_drewN ?_ _ | refine blk_drew ?_ | refine blk_alloc ?_ _)); refine blk_far ?_ Nq1.out _; (with_reducible repeat (first | refine blk_drewN ?_ _ | refine blk_drew ?_ | refine blk_alloc ?_ _)); refine blk_far ?_ Nq1.out _; (with_reducible repeat (first | refine blk_drewN ?_ _ | refine blk_drew ?_ | refine blk_alloc ?_ _)); refine blk_far ?_ Nq1.out _; (with_reducible repeat (first | refine blk_drewN ?_ _ | refine blk_drew ?_ | refine blk_alloc ?_ _)); exact BK370.out⟩, ⟨by (with_reducible repeat (first | refine blk_drewN ?_ _ | refine blk_drew ?_ | refine blk_alloc ?_ _)); refine blk_far ?_ Nq3.out _; (with_reducible repeat (first | refine blk_drewN ?_ _ | refine blk_drew ?_ | refine blk_alloc ?_ _)); refine blk_far ?_ Nq3.out _; (with_reducible repeat (first | refine blk_drewN ?_ _ | refine blk_drew ?_ | refine blk_alloc ?_ _)); refine blk_far ?_ Nq3.out _; (with_reducible repeat (first | refine blk_drewN ?_ _ | refine blk_drew ?_ | refine blk_alloc ?_ _)); exact BK371.out⟩, ⟨by (with_reducible repeat (first | refine blk_drewN ?_ _ | refine blk_drew ?_ | refine blk_alloc ?_ _)); refine blk_put (cs := #[.int .i64 t374, .int .i64 t375, .slice none 0 0]) ?_ 2 _ rfl; (with_reducible repeat (first | refine blk_drewN ?_ _ | refine blk_drew ?_ | refine blk_alloc ?_ _)); refine blk_put (cs := #[.int .i64 t374, .int .i64 0, .slice none 0 0]) ?_ 1 _ rfl; (with_reducible repeat (first | refine blk_drewN ?_ _ | refine blk_drew ?_ | refine blk_alloc ?_ _)); refine blk_put (cs := #[.int .i64 0, .int .i64 0, .slice none 0 0]) ?_ 0 _ rfl; (with_reducible repeat (first | refine blk_drewN ?_ _ | refine blk_drew ?_ | refine blk_alloc ?_ _)); exact BK379.out⟩, ⟨qb⟩⟩
    case round =>
     clear H'
     try clear c7; try clear c16; try clear zq0; try clear zq1; try clear zq2; try clear zq3; try clear zq4; try clear zq5; try clear zq6; try clear zq7; try clear zq8; try clear zq9; try clear zq10; try clear zq11; try clear zq12; try clear zq13; try clear zq14; try clear zq15; try clear zq16; try clear zq17; try clear fq0; try clear fq1; try clear fq2; try clear fq3; try clear fq4; try clear fq5; try clear fq6; try clear fq7; try clear fq8; try clear fq9; try clear fq10; try clear fq11; try clear fq12; try clear fq13; try clear fq14; try clear fq15; try clear fq16; try clear fq17
     obtain ⟨x24_2, x380002_2, u380002, rfl, HA, HK2, Oq3, BK370, BK371, BK379, HB⟩ := hrel
     cases gk with
     | zero => exact absurd HA.out (by simp [spec_OrderRows.l0])
     | succ k2 =>
      have H := HA.out
      clear HA
      simp only [spec_OrderRows.l0] at H
      by_cases c28 : x24_2 < (l1.length : Int)
      ·
       rw [if_pos c28] at H
       have c28b0 : decide (x24_2 < (l1.length : Int)) = true := decide_eq_true c28
       clear c28
       by_cases c29 : 0 ≤ x24_2
       ·
        rw [if_pos c29] at H
        have c29b0 : decide (0 ≤ x24_2) = true := decide_eq_true c29
        clear c29
        by_cases c30 : x24_2 < (l1.length : Int)
        ·
         rw [if_pos c30] at H
         have c30b0 : decide (x24_2 < (l1.length : Int)) = true := decide_eq_true c30
         clear c30
         by_cases c31 : 0 ≤ (rd l1 x24_2)
         ·
          rw [if_pos c31] at H
          have c31b0 : decide (0 ≤ (rd l1 x24_2)) = true := decide_eq_true c31
          clear c31
          by_cases c32 : (rd l1 x24_2) < (l0_2.length : Int)
          ·
           rw [if_pos c32] at H
           have c32b0 : decide ((rd l1 x24_2) < (l0_2.length : Int)) = true := decide_eq_true c32
           clear c32
           by_cases c33 : x24_2 < (x380002_2.length : Int)
           ·
            rw [if_pos c33] at H
            have c33b0 : decide (x24_2 < (x380002_2.length : Int)) = true := decide_eq_true c33
            clear c33
            obtain ⟨y382, hy_⟩ : ∃ y_ : List Int, y_ = ((x380002_2.set (x24_2 : Int).toNat (rd l0_2 (rd l1 x24_2)))) := ⟨_, rfl⟩
            replace H : (spec_OrderRows.l0 k2 l1 (l1.length : Int) (wrap64 (x24_2 + 1)) a0_0 a0_1 l0_2 t374 t375 y382) = some (r1, r2, r3, r4) := qH
            have Ny382 := Aside0.mk hy_
            clear hy_
            have H' := Aside0.mk H
            clear H
            have p380 : 0 ≤ (x24_2 : Int) := of_decide_eq_true Q0
            have q380 : x24_2 < (l1.length : Int) := of_decide_eq_true Q0
            obtain ⟨ad380, e380, hx380_0⟩ := Kd.at_int HR1.out x24_2 p380 q380
            cases e380
            replace hx380_0 := (HB.out.cell (World.block_lt_of_cell? w _ hx380_0)).trans hx380_0
            replace p380 := eq_true p380
            replace q380 := eq_true q380
            try go_wp2
            replace Oq3 := am (Kd.R_drew Oq3.out)
            replace BK370 := am (blk_drew BK370.out)
            replace BK371 := am (blk_drew BK371.out)
            replace BK379 := am (blk_drew BK379.out)
            replace HB := am (below_drew1 HB.out)
            have p381 : 0 ≤ ((rd l1 x24_2) : Int) := of_decide_eq_true Q0
            have q381 : (rd l1 x24_2) < (l0_2.length : Int) := of_decide_eq_true Q0
            obtain ⟨ad381, e381, hx381_0⟩ := Kd.at_int HR0_2.out (rd l1 x24_2) p381 q381
            have hw381_0 := hx381_0
            cases e381
            replace hx381_0 := (HB.out.cell (World.block_lt_of_cell? w _ hx381_0)).trans hx381_0
            replace p381 := eq_true p381
            replace q381 := eq_true q381
            have p34 : 0 ≤ (x24_2 : Int) := of_decide_eq_true Q0
            have q34 : (x24_2 : Int) < ((x380002_2.length : Int) : Int) := of_decide_eq_true Q0
            obtain ⟨go34, co34, eo34, gb34, gl34, cl34, HG34⟩ := Kd.R_form Oq3.out (by omega)
            (first | cases eo34 | (injection eo34 with ea_ en_ ec_; (first | subst ea_ | (injection ea_ with ea_; subst ea_)); subst ec_; clear en_))
            have GB34 := Aside0.mk gb34
            have GG34 := Aside0.mk HG34
            clear gb34 gl34 HG34
            obtain ⟨hx34_0, hf34_0⟩ := Kd.R_celln 0 Oq3.out (x24_2 : Int) p34 q34
            replace p34 := eq_true p34
            replace q34 := eq_true q34
            have HP36 := Kd.R_putn Oq3.out (x24_2 : Int) (rd l0_2 (rd l1 x24_2))
            rw [← Ny382.out] at HP36
            have HQ36 := Aside0.mk HP36
            clear HP36
            refine start_ (n := 10) (S := fun w' => w'.cell? ⟨gb379, 0, none⟩ = some (.int .i64 t374) ∧ w'.cell? ⟨gb379, 1, none⟩ = some (.int .i64 t375) ∧ w'.cell? ⟨gb379, 2, none⟩ = some (.slice (some ⟨go34, 0, none⟩) x380002_2.length co34) ∧ w'.cell? ⟨gb370, 0, none⟩ = some (.int .i64 a0_0) ∧ w'.cell? ⟨gb370, 1, none⟩ = some (.int .i64 a0_1) ∧ w'.cell? ⟨gb370, 2, none⟩ = some (.slice (some ad381) l0_2.length c0_2) ∧ w'.cell? (ad381.add ((rd l1 x24_2)).toNat) = some (.int .i64 (rd l0_2 (rd l1 x24_2)))) (ds := [9]) #[false, false, false, false, false, false, false, false, false, false] (by kernel_rfl) rfl rfl ⟨sqc BK379 0, sqc BK379 1, sqc BK379 2, sqc BK370 0, sqc BK370 1, sqc BK370 2, ((HB.out.cell (World.block_lt_of_cell? w _ hw381_0)).trans hw381_0)⟩ (fun hHeld => ?_); refine with_tabW spec_OrderRows.tab7 spec_OrderRows.bits7 (fun HT_ HW_ => ?_)
            generalize wr.drew = w35 at Oq3 BK370 BK371 BK379 HB GG34 HQ36 hf34_0 hx34_0 hx381_0 hHeld ⊢
            refine qp 0 (some 29) #[true, false, false, false, false, false, false, false, false, false] ?_
            refine qp 2 (some 31) #[true, false, true, false, false, false, false, false, false, false] ?_
            refine qp 3 (some 32) #[true, false, true, true, false, false, false, false, false, false] ?_
            refine qp 5 (some 34) #[true, false, true, true, false, true, false, false, false, false] ?_
            refine take_ (i := 1) (N := some 30) (v := ?_) (a' := ?_) #[true, true, true, true, false, true, false, false, false, false] rfl rfl (take_ofW HT_.out HW_.out (by kernel_rfl)) (fun _ _ _ h => h) (Or.inl ⟨by rfl, ?_⟩) hHeld ?_ ?_
            rotate_left
            ·
             rintro w' ⟨s0, s1, s2, s3, s4, s5, s6⟩
             go_simp
             with_reducible rfl
            rotate_left
            ·
             simp only [Act.put, List.setIfInBounds_toArray, List.set_cons_zero, List.set_cons_succ, i64_w, i32_w]
             rfl
            refine take_ (i := 4) (N := some 33) (v := ?_) (a' := ?_) #[true, true, true, true, true, true, false, false, false, false] rfl rfl (take_ofW HT_.out HW_.out (by kernel_rfl)) (fun _ _ _ h => h) (Or.inl ⟨by rfl, ?_⟩) hHeld ?_ ?_
            rotate_left
            ·
             rintro w' ⟨s0, s1, s2, s3, s4, s5, s6⟩
             go_simp
             with_reducible rfl
            rotate_left
            ·
             simp only [Act.put, List.setIfInBounds_toArray, List.set_cons_zero, List.set_cons_succ, i64_w, i32_w]
             rfl
            refine qp 6 (some 35) #[true, true, true, true, true, true, true, false, false, false] ?_
            refine take_ (i := 7) (N := some 36) (v := ?_) (a' := ?_) #[true, true, true, true, true, true, true, true, false, false] rfl rfl (take_ofW HT_.out HW_.out (by kernel_rfl)) (fun _ _ _ h => h) (Or.inl ⟨by rfl, ?_⟩) hHeld ?_ ?_
            rotate_left
            ·
             rintro w' ⟨s0, s1, s2, s3, s4, s5, s6⟩
             go_simp
             with_reducible rfl
            rotate_left
            ·
             simp only [Act.put, List.setIfInBounds_toArray, List.set_cons_zero, List.set_cons_succ, i64_w, i32_w]
             rfl
            refine qp 8 (some 37) #[true, true, true, true, true, true, true, true, true, false] ?_
            refine last_ (i := 9) (N := none) #[true, true, true, true, true, true, true, true, true, true] rfl rfl (one_of HT_.out (by kernel_rfl)) (by decide) fun K hK => ?_
            refine skip_ (w1 := ?_) (by rfl) rfl ?_ ?_
            rotate_left
            ·
             go_simp
             rfl
            refine hK.out _ _ ?_
            clear hK K
            refine done_ (done_of HT_.out (by kernel_rfl)) ?_
            try go_wp2
            go_roundg k2
            case measure => have := HJ2.out; have := HK2.out; omega
            case rel => exact ⟨(wrap64 (x24_2 + 1)), (y382), (.slice (some ⟨go34, 0, none⟩) x380002_2.length co34), Q2, H', ⟨by have := HJ2.out; have := HK2.out; omega⟩, ⟨by (with_reducible repeat (first | apply Kd.R_alloc | apply Kd.R_drewN | apply Kd.R_drew)); exact HQ36.out⟩, ⟨by (with_reducible repeat (first | refine blk_drewN ?_ _ | refine blk_drew ?_ | refine blk_alloc ?_ _)); refine blk_far ?_ (by have h_ := Kd.R_ne Oq3.out BK370.out (by decide); intro e_; exact h_ (by rw [e_]; rfl)) _; (with_reducible repeat (first | refine blk_drewN ?_ _ | refine blk_drew ?_ | refine blk_alloc ?_ _)); exact BK370.out⟩, ⟨by (with_reducible repeat (first | refine blk_drewN ?_ _ | refine blk_drew ?_ | refine blk_alloc ?_ _)); refine blk_far ?_ (by have h_ := Kd.R_ne Oq3.out BK371.out (by decide); intro e_; exact h_ (by rw [e_]; rfl)) _; (with_reducible repeat (first | refine blk_drewN ?_ _ | refine blk_drew ?_ | refine blk_alloc ?_ _)); exact BK371.out⟩, ⟨by (with_reducible repeat (first | refine blk_drewN ?_ _ | refine blk_drew ?_ | refine blk_alloc ?_ _)); refine blk_far ?_ (by have h_ := Kd.R_ne Oq3.out BK379.out (by decide); intro e_; exact h_ (by rw [e_]; rfl)) _; (with_reducible repeat (first | refine blk_drewN ?_ _ | refine blk_drew ?_ | refine blk_alloc ?_ _)); exact BK379.out⟩, ⟨by repeat (first | (with_reducible first | exact HB.out | apply below_alloc | apply pw_below_drewN | apply below_drew1 | refine below_set ?_ GB34.out | refine below_set ?_ GE370.out | refine below_set ?_ GE371.out | refine below_set ?_ GE379.out) | exact HB.out)⟩⟩
           ·
            rw [if_neg c33] at H
            exact absurd H (by simp)
          ·
           rw [if_neg c32] at H
           exact absurd H (by simp)
         ·
          rw [if_neg c31] at H
          exact absurd H (by simp)
        ·
         rw [if_neg c30] at H
         exact absurd H (by simp)
       ·
        rw [if_neg c29] at H
        exact absurd H (by simp)
      ·
       rw [if_neg c28] at H
       have c28b0 : decide (x24_2 < (l1.length : Int)) = false := decide_eq_false c28
       clear c28
       simp only [Option.some.injEq, Prod.mk.injEq] at H
       obtain ⟨rfl, rfl, rfl, rfl⟩ := H
       have bq5 := Nq4.out
       have cq5 := Nq1.out
       have bq6 := Nq5.out
       have cq6 := Nq3.out
       obtain ⟨zq18, zq19, zq20, fq18, fq19, fq20⟩ := qd BK379
       have bq7 := Nq2.out
       have cq7 := Nq0.out
       obtain ⟨zq21, zq22, zq23, fq21, fq22, fq23⟩ := qd BK371
       obtain ⟨Ao42, co42, eo42⟩ := Kd.R_slice Oq3.out
       subst eo42
       go_wp2
       refine bodyPost_ret (results_ct rfl _ _ gb371 26 #[.int .i64 t374, .int .i64 t375, .slice Ao42 x380002_2.length co42] (0, 0) _ rfl (by (with_reducible repeat (first | refine blk_drewN ?_ _ | refine blk_drew ?_ | refine blk_alloc ?_ _)); refine blk_put (cs := #[.int .i64 t374, .int .i64 t375, .slice none 0 0]) ?_ 2 _ rfl; (with_reducible repeat (first | refine blk_drewN ?_ _ | refine blk_drew ?_ | refine blk_alloc ?_ _)); refine blk_put (cs := #[.int .i64 t374, .int .i64 0, .slice none 0 0]) ?_ 1 _ rfl; (with_reducible repeat (first | refine blk_drewN ?_ _ | refine blk_drew ?_ | refine blk_alloc ?_ _)); refine blk_put (cs := #[.int .i64 0, .int .i64 0, .slice none 0 0]) ?_ 0 _ rfl; (with_reducible repeat (first | refine blk_drewN ?_ _ | refine blk_drew ?_ | refine blk_alloc ?_ _)); exact BK371.out) Tryd.underlying26 rfl (by kernel_rfl)) rfl ?_
       exact ⟨_, Q1, by (with_reducible repeat (first | apply Kd.R_alloc | apply Kd.R_drewN | apply Kd.R_drew)); exact Kd.R_mono (Kd.R_far (p := ⟨gb371, 2, none⟩) (Kd.R_far (p := ⟨gb371, 1, none⟩) (Kd.R_far (p := ⟨gb371, 0, none⟩) (Kd.R_types Oq3.out BK371.out (by decide)) (fun _ hk => hk.2) (.int .i64 t374)) (fun _ hk => hk.2) (.int .i64 t375)) (fun _ hk => hk.2) (.slice Ao42 x380002_2.length co42)) (fun _ hk => trivial), qb⟩

/-! ### spec_l1Num: function 69 -/
def spec_l1Num.f : Nat → Int → Option (ByteArray)
 | 0, _ => none
 | k + 1, a0 => if a0 < 10 then (some (strOfNums (([(wrap64 (48 + a0)) % 256] : List Int)))) else ((spec_l1Num.f k (wrap64 (Int.tdiv a0 10))).bind fun t386 => ((some (([(wrap64 (48 + (Int.tmod a0 10))) % 256] : List Int) : List Int)).bind fun y387 => (if t386.size + (strOfNums y387).size ≤ 9223372036854775807 then (some (t386 ++ (strOfNums y387))) else (none))))
def spec_l1Num.T3 : Bool × List (List Nat × List Nat) := (true, [([], []), ([0], [0]), ([1], [1]), ([], []), ([3], [3]), ([4], [4]), ([5], [5]), ([6], [6]), ([7], [7]), ([2, 8], [2, 8]), ([9, 2, 0, 1, 2, 3, 4, 5, 6, 7, 8, 9], [9])])
def spec_l1Num.B3 : List Nat := [0, 1, 3, 0, 8, 24, 56, 120, 248, 511, 1023]
theorem spec_l1Num.tab3 : rtab .any (opsOf Tryd.f69 3) = spec_l1Num.T3 := by kernel_rfl
theorem spec_l1Num.bits3 : waitsOk spec_l1Num.T3.2 spec_l1Num.B3 = true := by kernel_rfl
set_option maxHeartbeats 8000000 in
set_option maxRecDepth 100000 in
theorem spec_l1Num.calls (k : Nat) : ∀ (a0 : Int) (r : ByteArray) (w : World) (h : spec_l1Num.f k a0 = some r),
  Calls Tryd.prog 69 #[.int .i64 a0] w fun e w' => e = .returned (.string r) ∧ Below w.heap.size w w' := by
 induction k using Nat.strongRecOn with
 | _ k ih =>
 intro a0 r w h
 cases k with
 | zero => exact absurd h (by simp [spec_l1Num.f])
 | succ k =>
 simp only [spec_l1Num.f] at h
 have HB := am (Below.refl w.heap.size w)
 have H : (if a0 < 10 then (some (strOfNums (([(wrap64 (48 + a0)) % 256] : List Int)))) else ((spec_l1Num.f k (wrap64 (Int.tdiv a0 10))).bind fun t386 => ((some (([(wrap64 (48 + (Int.tmod a0 10))) % 256] : List Int) : List Int)).bind fun y387 => (if t386.size + (strOfNums y387).size ≤ 9223372036854775807 then (some (t386 ++ (strOfNums y387))) else (none))))) = some r := h
 clear h
 by_cases c2 : a0 < 10
 ·
  rw [if_pos c2] at H
  have c2b0 : decide (a0 < 10) = true := decide_eq_true c2
  clear c2
  obtain ⟨y383, hy_⟩ : ∃ y_ : List Int, y_ = ((([(wrap64 (48 + a0)) % 256] : List Int))) := ⟨_, rfl⟩
  replace H : (some (strOfNums y383)) = some r := qH
  have Ny383 := Aside0.mk hy_
  clear hy_
  obtain rfl := Option.some.inj H
  go_enter Tryd.func69, Tryd.ntmps69
  go_wp2_with (first | ((with_reducible refine gate_dst (N := 8) rfl ?_); refine Kd.R_lit (Kd.int .u8) _ 5 ?hg (N := 8) ?hd (xs := ([(wrap64 (48 + a0)) % 256] : List Int)) (inner := [.int .u8 ((wrap64 (48 + a0)) % 256)]) (ok := fun _ => True) (okp := fun _ => True) ?hr ?hp (fun _ hk => hk) trivial (Below.refl _ _) (Nat.le_refl _) (by simp) ?_; (case hd => rfl); (case hg => rfl); (case hr => first | (go_simp; done) | (go_simp; rfl)); (case hp => exact (Reps.one (show Kd.M (Kd.int .u8) _ _ _ ((wrap64 (48 + a0)) % 256) [.int .u8 ((wrap64 (48 + a0)) % 256)] from rfl) (Reps.none _ _))); intro v384 w3 ho4 hb hg_ hnew_; clear hg_ hnew_; (first | rw [← Ny383.out] at ho4 | (simp only [Int.reduceToNat] at ho4; rw [← Ny383.out] at ho4)); have Oq1 := ql ho4; replace HB := qs hb; clear hb ho4; have hcv5 := own_string (P := Tryd.prog) Tryd.underlying22 Tryd.underlying5 Tryd.underlying9 (Kd.own_of_R Oq1.out)))
  go_ret
  exact ⟨Q1, qb⟩
 ·
  rw [if_neg c2] at H
  have c2b0 : decide (a0 < 10) = false := decide_eq_false c2
  clear c2
  replace H := qE H
  obtain ⟨t386, A6, H⟩ := H
  replace H : ((some (([(wrap64 (48 + (Int.tmod a0 10))) % 256] : List Int) : List Int)).bind fun y387 => (if t386.size + (strOfNums y387).size ≤ 9223372036854775807 then (some (t386 ++ (strOfNums y387))) else (none))) = some r := H
  obtain ⟨y387, hy_⟩ : ∃ y_ : List Int, y_ = ((([(wrap64 (48 + (Int.tmod a0 10))) % 256] : List Int))) := ⟨_, rfl⟩
  replace H : (if t386.size + (strOfNums y387).size ≤ 9223372036854775807 then (some (t386 ++ (strOfNums y387))) else (none)) = some r := qH
  have Ny387 := Aside0.mk hy_
  clear hy_
  by_cases c7 : t386.size + (strOfNums y387).size ≤ 9223372036854775807
  ·
   rw [if_pos c7] at H
   have c7b0 := eq_true c7
   have c7b1 : decide (t386.size + (strOfNums y387).size ≤ 9223372036854775807) = true := decide_eq_true c7
   try have c7b2 : (9223372036854775807 < t386.size + (strOfNums y387).size) = False := eq_false (Nat.not_lt.2 c7)
   obtain rfl := Option.some.inj H
   go_enter Tryd.func69, Tryd.ntmps69
   try go_wp2
   replace HB := am (below_drew1 HB.out)
   refine start_ (n := 11) (S := fun w' => True) (ds := []) #[false, false, false, false, false, false, false, false, false, false, false] (by kernel_rfl) rfl rfl trivial (fun hHeld => ?_); refine with_tabW spec_l1Num.tab3 spec_l1Num.bits3 (fun HT_ HW_ => ?_)
   generalize w.drew = w8 at HB hHeld ⊢
   refine qp 0 (some 10) #[true, false, false, false, false, false, false, false, false, false, false] ?_
   refine qp 1 (some 11) #[true, true, false, false, false, false, false, false, false, false, false] ?_
   refine qp 3 (some 13) #[true, true, false, true, false, false, false, false, false, false, false] ?_
   refine qp 4 (some 14) #[true, true, false, true, true, false, false, false, false, false, false] ?_
   refine qp 5 (some 15) #[true, true, false, true, true, true, false, false, false, false, false] ?_
   refine qp 6 (some 16) #[true, true, false, true, true, true, true, false, false, false, false] ?_
   refine join_ (σ := Value) 2 #[true, true, true, true, true, true, true, true, true, false, false] (fun s_ => [(12, .string t386), (17, s_), (18, .string (strOfNums y387))]) (fun s_ w' => (Kd.R (Kd.int .u8) 5 w' w.heap.size (fun _ => True) s_ y387) ∧ (Below w.heap.size w w')) ?_ ?_
   rotate_left
   ·
    intro hCont
    refine two_ (i := 2) (j := 7) (Ni := some 12) (Nj := some 17) #[true, true, true, true, true, true, true, false, false, false, false] #[true, true, false, true, true, true, true, true, false, false, false] rfl rfl rfl rfl (two_of HT_.out (by kernel_rfl)) (by decide) (by decide) (fun K hK => ?_) (fun K hK => ?_)
    ·
     skip
     refine qG Tryd.func69 #[.int .i64 (wrap64 (Int.tdiv a0 10))] ?_
     with_reducible refine (ih k (by omega) (wrap64 (Int.tdiv a0 10)) t386 _ A6.out).mono ?_
     rintro e w9 ⟨rfl, hb⟩
     refine ⟨_, rfl, ?_⟩
     replace HB := qs hb
     (try clear hb)
     refine hK.out _ _ trivial (fun hHeld => ?_)
     clear hK K
     refine qq (some 12) ?_
     refine one_ (i := 7) (N := some 17) #[true, true, true, true, true, true, true, true, false, false, false] rfl rfl (one_of HT_.out (by kernel_rfl)) (by decide) fun K hK => ?_
     refine Kd.R_lit_step (Kd.int .u8) _ 5 ?hg (N := 17) ?hd (xs := ([(wrap64 (48 + (Int.tmod a0 10))) % 256] : List Int)) (inner := [.int .u8 ((wrap64 (48 + (Int.tmod a0 10))) % 256)]) (ok := fun _ => True) (okp := fun _ => True) ?hr ?hp (fun _ hk => hk) trivial (Below.refl _ _) (Nat.le_refl _) (by simp) ?_; (case hd => rfl); (case hg => rfl); (case hr => first | (go_simp; done) | (go_simp; rfl)); (case hp => exact (Reps.one (show Kd.M (Kd.int .u8) _ _ _ ((wrap64 (48 + (Int.tmod a0 10))) % 256) [.int .u8 ((wrap64 (48 + (Int.tmod a0 10))) % 256)] from rfl) (Reps.none _ _)))
     intro v388 w10 ho11 hb hg_ hnew_
     clear hg_ hnew_
     (first | rw [← Ny387.out] at ho11 | (simp only [Int.reduceToNat] at ho11; rw [← Ny387.out] at ho11))
     have Oq2 := ql ho11
     replace HB := qs hb
     clear hb ho11
     refine hK.out _ _ trivial (fun hHeld => ?_)
     clear hK K
     refine qq (some 17) ?_
     refine one_ (i := 8) (N := some 18) #[true, true, true, true, true, true, true, true, true, false, false] rfl rfl (one_of HT_.out (by kernel_rfl)) (by decide) fun K hK => ?_
     have hcv12 := own_string (P := Tryd.prog) Tryd.underlying22 Tryd.underlying5 Tryd.underlying9 (Kd.own_of_R Oq2.out)
     refine value_ (w1 := ?_) (v := ?_) (by rfl) rfl ?_ ?_
     rotate_left 2
     ·
      go_simp
      constructor
      ·
       rfl
      ·
       rfl
     clear hcv12
     refine hK.out _ _ trivial (fun hHeld => ?_)
     clear hK K
     refine qq (some 18) ?_
     exact norm_ Q39 (hCont (v388) _ ⟨(sqr Oq2), qb⟩)
    ·
     skip
     refine Kd.R_lit_step (Kd.int .u8) _ 5 ?hg (N := 17) ?hd (xs := ([(wrap64 (48 + (Int.tmod a0 10))) % 256] : List Int)) (inner := [.int .u8 ((wrap64 (48 + (Int.tmod a0 10))) % 256)]) (ok := fun _ => True) (okp := fun _ => True) ?hr ?hp (fun _ hk => hk) trivial (Below.refl _ _) (Nat.le_refl _) (by simp) ?_; (case hd => rfl); (case hg => rfl); (case hr => first | (go_simp; done) | (go_simp; rfl)); (case hp => exact (Reps.one (show Kd.M (Kd.int .u8) _ _ _ ((wrap64 (48 + (Int.tmod a0 10))) % 256) [.int .u8 ((wrap64 (48 + (Int.tmod a0 10))) % 256)] from rfl) (Reps.none _ _)))
     intro v388 w9 ho10 hb hg_ hnew_
     clear hg_ hnew_
     (first | rw [← Ny387.out] at ho10 | (simp only [Int.reduceToNat] at ho10; rw [← Ny387.out] at ho10))
     have Oq2 := ql ho10
     replace HB := qs hb
     clear hb ho10
     refine hK.out _ _ trivial (fun hHeld => ?_)
     clear hK K
     refine qq (some 17) ?_
     refine two_ (i := 2) (j := 8) (Ni := some 12) (Nj := some 18) #[true, true, true, true, true, true, true, true, false, false, false] #[true, true, false, true, true, true, true, true, true, false, false] rfl rfl rfl rfl (two_of HT_.out (by kernel_rfl)) (by decide) (by decide) (fun K hK => ?_) (fun K hK => ?_)
     ·
      skip
      refine qG Tryd.func69 #[.int .i64 (wrap64 (Int.tdiv a0 10))] ?_
      with_reducible refine (ih k (by omega) (wrap64 (Int.tdiv a0 10)) t386 _ A6.out).mono ?_
      rintro e w11 ⟨rfl, hb⟩
      refine ⟨_, rfl, ?_⟩
      replace Oq2 := sqR Oq2 hb
      replace HB := qs hb
      (try clear hb)
      refine hK.out _ _ trivial (fun hHeld => ?_)
      clear hK K
      refine qq (some 12) ?_
      refine one_ (i := 8) (N := some 18) #[true, true, true, true, true, true, true, true, true, false, false] rfl rfl (one_of HT_.out (by kernel_rfl)) (by decide) fun K hK => ?_
      have hcv12 := own_string (P := Tryd.prog) Tryd.underlying22 Tryd.underlying5 Tryd.underlying9 (Kd.own_of_R Oq2.out)
      refine value_ (w1 := ?_) (v := ?_) (by rfl) rfl ?_ ?_
      rotate_left 2
      ·
       go_simp
       constructor
       ·
        rfl
       ·
        rfl
      clear hcv12
      refine hK.out _ _ trivial (fun hHeld => ?_)
      clear hK K
      refine qq (some 18) ?_
      exact norm_ Q39 (hCont (v388) _ ⟨(sqr Oq2), qb⟩)
     ·
      skip
      have hcv11 := own_string (P := Tryd.prog) Tryd.underlying22 Tryd.underlying5 Tryd.underlying9 (Kd.own_of_R Oq2.out)
      refine value_ (w1 := ?_) (v := ?_) (by rfl) rfl ?_ ?_
      rotate_left 2
      ·
       go_simp
       constructor
       ·
        rfl
       ·
        rfl
      clear hcv11
      refine hK.out _ _ trivial (fun hHeld => ?_)
      clear hK K
      refine qq (some 18) ?_
      refine one_ (i := 2) (N := some 12) #[true, true, true, true, true, true, true, true, true, false, false] rfl rfl (one_of HT_.out (by kernel_rfl)) (by decide) fun K hK => ?_
      refine qG Tryd.func69 #[.int .i64 (wrap64 (Int.tdiv a0 10))] ?_
      with_reducible refine (ih k (by omega) (wrap64 (Int.tdiv a0 10)) t386 _ A6.out).mono ?_
      rintro e w12 ⟨rfl, hb⟩
      refine ⟨_, rfl, ?_⟩
      replace Oq2 := sqR Oq2 hb
      replace HB := qs hb
      (try clear hb)
      refine hK.out _ _ trivial (fun hHeld => ?_)
      clear hK K
      refine qq (some 12) ?_
      exact norm_ Q39 (hCont (v388) _ ⟨(sqr Oq2), qb⟩)
   rintro v388 w13 ⟨h0_, h1_⟩
   have n0_ : Aside0 (Kd.R (Kd.int .u8) 5 w13 w.heap.size (fun _ => True) v388 y387) := ⟨h0_⟩
   have n1_ : Aside0 (Below w.heap.size w w13) := ⟨h1_⟩
   clear HB h0_ h1_
   have Oq2 := n0_
   have HB := n1_
   clear n0_ n1_
   have hHeld := trivial
   refine norm_ (a' := ?_) ?_ ?_
   rotate_left
   ·
    simp only [putAll, Act.put, List.setIfInBounds_toArray, List.set_cons_zero, List.set_cons_succ]
    rfl
   refine qp 9 (some 19) #[true, true, true, true, true, true, true, true, true, true, false] ?_
   refine qp 10 (some 2) #[true, true, true, true, true, true, true, true, true, true, true] ?_
   refine done_ (done_of HT_.out (by kernel_rfl)) ?_
   try go_wp2
   go_ret
   exact ⟨Q1, qb⟩
  ·
   rw [if_neg c7] at H
   exact absurd H (by simp)

end Go.Proofs.YtllhofdgbpnkkaaDoor.PFnBoardsTurned
