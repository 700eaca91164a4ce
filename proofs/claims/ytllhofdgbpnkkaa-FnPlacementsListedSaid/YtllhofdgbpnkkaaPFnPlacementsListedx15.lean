-- Printed for this claim by wip/pp.py over the kit's printer; Lean checks it.
import Derived.Test.YtllhofdgbpnkkaaPFnPlacementsListedx0
import Derived.Test.YtllhofdgbpnkkaaPFnPlacementsListedx1
import Derived.Test.YtllhofdgbpnkkaaPFnPlacementsListedx2
import Derived.Test.YtllhofdgbpnkkaaPFnPlacementsListedx4
import Derived.Test.YtllhofdgbpnkkaaPFnPlacementsListedx8
import Derived.Test.YtllhofdgbpnkkaaPFnPlacementsListedx11
import Derived.Test.YtllhofdgbpnkkaaPFnPlacementsListedx12
import Derived.Test.YtllhofdgbpnkkaaPFnPlacementsListedx14
namespace Go.Proofs.Ytllhofdgbpnkkaa.PFnPlacementsListed
open Go.RowKit Go.Proofs.YtllhofdgbpnkkaaW.PrintWords Go.Proofs.YtllhofdgbpnkkaaW.PrintLast Go.Proofs.YtllhofdgbpnkkaaW.PrintMore
attribute [local go_sem] max2_int min2_int max_two min_two max_three min_three max_four min_four   -- for this text's walks alone
set_option linter.unusedVariables false
set_option linter.unusedSimpArgs false

/-! ### impl_TurnBoard: function 49 -/
def impl_TurnBoard.f (k : Nat) (a0_0 : Int) (a0_1 : Int) (l0_2 : List Int) : Option (Int × Int × List Int × Bool) := (impl_IsBoard.f a0_0 a0_1 l0_2).bind fun t499 => (if t499 = true then ((impl_Board_turned.f k a0_0 a0_1 l0_2).bind fun bt500 => (some (bt500.1, bt500.2.1, bt500.2.2, true))) else (some (0, 0, ([] : List Int), false)))
set_option maxHeartbeats 8000000 in
set_option maxRecDepth 100000 in
theorem impl_TurnBoard.calls (k : Nat) (a0_0 : Int) (a0_1 : Int) (A0_2 : Option Addr) (c0_2 : Nat) (l0_2 : List Int) (r1 : Int) (r2 : Int) (r3 : List Int) (r4 : Bool) (w : World) (hr0_2 : Kd.C (Kd.int .i64) w A0_2 l0_2.length l0_2) (hc0_2 : l0_2.length ≤ c0_2) (h : impl_TurnBoard.f k a0_0 a0_1 l0_2 = some (r1, r2, r3, r4)) :
  Calls Try.prog 49 #[.agg #[.int .i64 a0_0, .int .i64 a0_1, .slice A0_2 l0_2.length c0_2]] w fun e w' => ∃ v2_ : Value, e = .returned (.tuple #[.agg #[.int .i64 r1, .int .i64 r2, v2_], .bool r4]) ∧ Kd.R (Kd.int .i64) 3 w' w.heap.size (fun _ => True) v2_ r3 ∧ Below w.heap.size w w' := by
 have hu26 := Try.underlying26
 have HR0_2 := Aside0.mk hr0_2
 have HC0_2 := Aside0.mk hc0_2
 clear hr0_2 hc0_2
 have HB := am (Below.refl w.heap.size w)
 have H : ((impl_IsBoard.f a0_0 a0_1 l0_2).bind fun t499 => (if t499 = true then ((impl_Board_turned.f k a0_0 a0_1 l0_2).bind fun bt500 => (some (bt500.1, bt500.2.1, bt500.2.2, true))) else (some (0, 0, ([] : List Int), false)))) = some (r1, r2, r3, r4) := h
 clear h
 replace H := qE H
 obtain ⟨t499, A2, H⟩ := H
 replace H : (if t499 = true then ((impl_Board_turned.f k a0_0 a0_1 l0_2).bind fun bt500 => (some (bt500.1, bt500.2.1, bt500.2.2, true))) else (some (0, 0, ([] : List Int), false))) = some (r1, r2, r3, r4) := H
 by_cases c3 : t499 = true
 ·
  subst c3
  have H1 : ((impl_Board_turned.f k a0_0 a0_1 l0_2).bind fun bt500 => (some (bt500.1, bt500.2.1, bt500.2.2, true))) = some (r1, r2, r3, r4) := by first | (rw [if_pos rfl] at H; exact H) | rfl
  clear H
  have H := H1
  clear H1
  replace H := qE H
  obtain ⟨⟨t500, t501, t502⟩, A4, H⟩ := H
  replace H : (some (t500, t501, t502, true)) = some (r1, r2, r3, r4) := H
  simp only [Option.some.injEq, Prod.mk.injEq] at H
  obtain ⟨rfl, rfl, rfl, rfl⟩ := H
  go_enter Try.func49, Try.ntmps49
  go_wp2_with (first | ((with_reducible refine gate_dst (N := 1) rfl ?_); refine qv 1 #[.int .i64 a0_0, .int .i64 a0_1, .slice A0_2 l0_2.length c0_2] 26 ?_; intro gb497 hg w5 hbox hb; have BK497 := am hbox; have GW497 := qw hg; have GE497 := qw hg; replace HB := qs hb; clear hb hbox hg) | ((with_reducible refine gate_dst (N := 2) rfl ?_); refine qv 2 #[.int .i64 0, .int .i64 0, .slice none 0 0] 26 ?_; intro gb498 hg w6 hbox hb; have BK498 := am hbox; have GW498 := qw hg; have GE498 := qw hg; have Nq0 := qn hg BK497; have Nq1 := qN hg BK497; replace BK497 := sqB BK497 hb; replace HB := qs hb; clear hb hbox hg; have bq2 := Nq0.out; have cq2 := Nq1.out; obtain ⟨zq15, zq16, zq17, fq15, fq16, fq17⟩ := qd BK497) | ((with_reducible refine gate_callee (f := 66) rfl ?_); refine qg (some 5) Try.func66 #[.agg #[.int .i64 a0_0, .int .i64 a0_1, .slice A0_2 l0_2.length c0_2]] ?_; (with_reducible refine (impl_IsBoard.calls a0_0 a0_1 _ _ l0_2 true _ ?side1 HC0_2.out A2.out).mono ?_); (case side1 => exact Q0); rintro e w9 ⟨rfl, hb⟩; refine ⟨_, rfl, ?_⟩; replace BK497 := sqB BK497 hb; replace BK498 := sqB BK498 hb; replace HB := qs hb; (try clear hb); obtain ⟨zq0, zq1, zq2, fq0, fq1, fq2⟩ := qd BK497) | ((with_reducible refine gate_callee (f := 113) rfl ?_); refine qg (some 9) Try.func113 #[.agg #[.int .i64 a0_0, .int .i64 a0_1, .slice A0_2 l0_2.length c0_2]] ?_; (with_reducible refine (impl_Board_turned.calls k a0_0 a0_1 _ _ l0_2 t500 t501 t502 _ ?side1 HC0_2.out A4.out).mono ?_); (case side1 => exact Q0); rintro e w11 ⟨v503, rfl, ho0, hb⟩; refine ⟨_, rfl, ?_⟩; have Oq0 := ql ho0; replace BK497 := sqB BK497 hb; replace BK498 := sqB BK498 hb; replace HB := qs hb; (try clear hb ho0); obtain ⟨zq3, zq4, zq5, fq3, fq4, fq5⟩ := qd BK498; obtain ⟨Ao13, co13, eo13⟩ := Kd.R_slice Oq0.out; subst eo13))
  refine bodyPost_ret (results_ct rfl _ _ gb498 26 #[.int .i64 t500, .int .i64 t501, .slice Ao13 t502.length co13] (0, 0) _ rfl (by (with_reducible repeat (first | refine blk_drewN ?_ _ | refine blk_drew ?_ | refine blk_alloc ?_ _)); refine blk_put (cs := #[.int .i64 t500, .int .i64 t501, .slice none 0 0]) ?_ 2 _ rfl; (with_reducible repeat (first | refine blk_drewN ?_ _ | refine blk_drew ?_ | refine blk_alloc ?_ _)); refine blk_put (cs := #[.int .i64 t500, .int .i64 0, .slice none 0 0]) ?_ 1 _ rfl; (with_reducible repeat (first | refine blk_drewN ?_ _ | refine blk_drew ?_ | refine blk_alloc ?_ _)); refine blk_put (cs := #[.int .i64 0, .int .i64 0, .slice none 0 0]) ?_ 0 _ rfl; (with_reducible repeat (first | refine blk_drewN ?_ _ | refine blk_drew ?_ | refine blk_alloc ?_ _)); exact BK498.out) Try.underlying26 rfl (by kernel_rfl)) rfl ?_
  exact ⟨_, Q2, by (with_reducible repeat (first | apply Kd.R_alloc | apply Kd.R_drewN | apply Kd.R_drew)); exact Kd.R_mono (Kd.R_far (p := ⟨gb498, 2, none⟩) (Kd.R_far (p := ⟨gb498, 1, none⟩) (Kd.R_far (p := ⟨gb498, 0, none⟩) (Kd.R_types Oq0.out BK498.out (by decide)) (fun _ hk => hk.2) (.int .i64 t500)) (fun _ hk => hk.2) (.int .i64 t501)) (fun _ hk => hk.2) (.slice Ao13 t502.length co13)) (fun _ hk => trivial), qb⟩
 ·
  replace c3 := Bool.eq_false_iff.mpr c3
  subst c3
  have H1 : (some (0, 0, ([] : List Int), false)) = some (r1, r2, r3, r4) := by first | (rw [if_neg (show ¬ (false = true) by decide)] at H; exact H) | rfl
  clear H
  have H := H1
  clear H1
  simp only [Option.some.injEq, Prod.mk.injEq] at H
  obtain ⟨rfl, rfl, rfl, rfl⟩ := H
  go_enter Try.func49, Try.ntmps49
  go_wp2_with (first | ((with_reducible refine gate_dst (N := 1) rfl ?_); refine qv 1 #[.int .i64 a0_0, .int .i64 a0_1, .slice A0_2 l0_2.length c0_2] 26 ?_; intro gb497 hg w14 hbox hb; have BK497 := am hbox; have GW497 := qw hg; have GE497 := qw hg; replace HB := qs hb; clear hb hbox hg) | ((with_reducible refine gate_dst (N := 2) rfl ?_); refine qv 2 #[.int .i64 0, .int .i64 0, .slice none 0 0] 26 ?_; intro gb498 hg w15 hbox hb; have BK498 := am hbox; have GW498 := qw hg; have GE498 := qw hg; have Nq0 := qn hg BK497; have Nq1 := qN hg BK497; replace BK497 := sqB BK497 hb; replace HB := qs hb; clear hb hbox hg; have bq0 := Nq0.out; have cq0 := Nq1.out; obtain ⟨zq6, zq7, zq8, fq6, fq7, fq8⟩ := qd BK497) | ((with_reducible refine gate_callee (f := 66) rfl ?_); refine qg (some 5) Try.func66 #[.agg #[.int .i64 a0_0, .int .i64 a0_1, .slice A0_2 l0_2.length c0_2]] ?_; (with_reducible refine (impl_IsBoard.calls a0_0 a0_1 _ _ l0_2 false _ ?side1 HC0_2.out A2.out).mono ?_); (case side1 => exact Q0); rintro e w18 ⟨rfl, hb⟩; refine ⟨_, rfl, ?_⟩; replace BK497 := sqB BK497 hb; replace BK498 := sqB BK498 hb; replace HB := qs hb; (try clear hb); obtain ⟨zq9, zq10, zq11, fq9, fq10, fq11⟩ := qd BK498))
  refine bodyPost_ret (results_ct rfl _ _ gb498 26 #[.int .i64 0, .int .i64 0, .slice none 0 0] (0, 0) _ rfl (by (with_reducible repeat (first | refine blk_drewN ?_ _ | refine blk_drew ?_ | refine blk_alloc ?_ _)); refine blk_put (cs := #[.int .i64 0, .int .i64 0, .slice none 0 0]) ?_ 2 _ rfl; (with_reducible repeat (first | refine blk_drewN ?_ _ | refine blk_drew ?_ | refine blk_alloc ?_ _)); refine blk_put (cs := #[.int .i64 0, .int .i64 0, .slice none 0 0]) ?_ 1 _ rfl; (with_reducible repeat (first | refine blk_drewN ?_ _ | refine blk_drew ?_ | refine blk_alloc ?_ _)); refine blk_put (cs := #[.int .i64 0, .int .i64 0, .slice none 0 0]) ?_ 0 _ rfl; (with_reducible repeat (first | refine blk_drewN ?_ _ | refine blk_drew ?_ | refine blk_alloc ?_ _)); exact BK498.out) Try.underlying26 rfl (by kernel_rfl)) rfl ?_
  exact ⟨_, Q2, Q14, qb⟩

/-! ### spec_DrawCountRooks: function 50 -/
def spec_DrawCountRooks.f (k : Nat) (l0 : List Int) : Option (List Int) := (spec_l1Cur_placed.f k l0 0 0).bind fun bt506 => (some bt506.2.2.2.1)
set_option maxHeartbeats 8000000 in
set_option maxRecDepth 100000 in
theorem spec_DrawCountRooks.calls (k : Nat) (A0 : Option Addr) (c0 : Nat) (l0 : List Int) (r : List Int) (w : World) (hr0 : Kd.C (Kd.int .u8) w A0 l0.length l0) (hc0 : l0.length ≤ c0) (h : spec_DrawCountRooks.f k l0 = some r) :
  Calls Try.prog 50 #[.slice A0 l0.length c0] w fun e w' => ∃ v0_ : Value, e = .returned (v0_) ∧ Kd.R (Kd.int .i64) 3 w' w.heap.size (fun _ => True) v0_ r ∧ Below w.heap.size w w' := by
 have hu66 := Try.underlying66
 have hu26 := Try.underlying26
 have HR0 := Aside0.mk hr0
 have HC0 := Aside0.mk hc0
 clear hr0 hc0
 have HB := am (Below.refl w.heap.size w)
 have H : ((spec_l1Cur_placed.f k l0 0 0).bind fun bt506 => (some bt506.2.2.2.1)) = some r := h
 clear h
 replace H := qE H
 obtain ⟨⟨t506, t507, t508, t511, t514, t515⟩, A2, H⟩ := H
 replace H : (some t511) = some r := H
 obtain rfl := Option.some.inj H
 go_enter Try.func50, Try.ntmps50
 go_wp2_with (first | ((with_reducible refine gate_dst (N := 8) rfl ?_); refine qv 8 #[.slice A0 l0.length c0, .int .i64 0, .int .u64 0] 66 ?_; intro gb505 hg w3 hbox hb; have HI505 := am ((show IsS66 w w3 gb505 l0 0 0 from ⟨_, _, hbox, (by rw [hg]; exact (below_size qb) : w.heap.size ≤ gb505), HR0.out⟩)); have GW505 := qw hg; have GE505 := qw hg; replace HB := qs hb; clear hb hbox hg) | ((with_reducible refine gate_callee (f := 114) rfl ?_); refine qg (some 11) Try.func114 #[.pointer (some ⟨gb505, 0, none⟩)] ?_; (with_reducible refine (spec_l1Cur_placed.calls k gb505 l0 0 0 t506 t507 t508 t511 t514 t515 w _ ?side1 ?side2 A2.out).mono ?_); (case side1 => exact qi); (case side2 => exact qc); rintro e w4 ⟨v509, v512, rfl, ho0, ho1, hi, hb, hk⟩; refine ⟨_, rfl, ?_⟩; have Oq1 := qL ho0; have Oq2 := qL ho1; replace HB := am hb; replace HI505 := am hi; (try clear hb hk hi ho0 ho1)) | ((with_reducible refine gate_dst (N := 4) rfl ?_); refine qv 4 #[.int .i64 0, .int .i64 0, .slice none 0 0] 26 ?_; intro gb516 hg w5 hbox hb; have BK516 := am hbox; have GW516 := qW hg; have GE516 := qW hg; have Nq2 := qo hg gb505; have Nq3 := qO hg gb505; replace Oq1 := sqR Oq1 hb; replace Oq2 := sqR Oq2 hb; replace HB := qt hb; replace HI505 := qj hb; clear hb hbox hg; have bq1 := Nq3.out; have cq1 := Nq2.out; obtain ⟨zq12, zq13, zq14, fq12, fq13, fq14⟩ := qd BK516; obtain ⟨Ao8, co8, eo8⟩ := Kd.R_slice Oq1.out; subst eo8))
 go_ret
 exact ⟨_, Q2, by (with_reducible repeat (first | apply Kd.R_alloc | apply Kd.R_drewN | apply Kd.R_drew)); exact Kd.R_mono (Kd.R_far (p := ⟨gb516, 2, none⟩) (Kd.R_far (p := ⟨gb516, 1, none⟩) (Kd.R_far (p := ⟨gb516, 0, none⟩) (Kd.R_types Oq2.out BK516.out (by decide)) (fun _ hk => hk.2) (.int .i64 t506)) (fun _ hk => hk.2) (.int .i64 t507)) (fun _ hk => hk.2) (.slice Ao8 t508.length co8)) (fun _ hk => trivial), qc⟩

/-! ### spec_roCount: function 116 -/
def spec_roCount.l0 : Nat → Int → List Int → Int → Int → Option (Int)
 | 0, _, _, _, _ => none
 | k + 1, x3, x6, x7, x8 => if x8 < x7 then (if 0 ≤ x8 then (if x8 < (x6.length : Int) then (if (rd x6 x8) ≥ 0 then (spec_roCount.l0 k (wrap64 (x3 + 1)) x6 x7 (wrap64 (x8 + 1))) else (spec_roCount.l0 k x3 x6 x7 (wrap64 (x8 + 1)))) else (none)) else (none)) else (some x3)
def spec_roCount.f (k : Nat) (l0 : List Int) : Option (Int) := spec_roCount.l0 k 0 l0 (l0.length : Int) 0
set_option maxHeartbeats 8000000 in
set_option maxRecDepth 100000 in
theorem spec_roCount.calls (k : Nat) (A0 : Option Addr) (c0 : Nat) (l0 : List Int) (r : Int) (w : World) (hr0 : Kd.C (Kd.int .i64) w A0 l0.length l0) (hc0 : l0.length ≤ c0) (h : spec_roCount.f k l0 = some r) :
  Calls Try.prog 116 #[.slice A0 l0.length c0] w fun e w' => e = .returned (.int .i64 r) ∧ Drawn0 w w' := by
 have HR0 := Aside0.mk hr0
 have HC0 := Aside0.mk hc0
 clear hr0 hc0
 have H : (spec_roCount.l0 k 0 l0 (l0.length : Int) 0) = some r := h
 clear h
 have H' := Aside0.mk H
 clear H
 go_enter Try.func116, Try.ntmps116
 go_wp2
 go_loopg [3, 8] k (fun kq v3 v8 w' => ∃ (x3_1 : Int) (x8_1 : Int), v3 = .int .i64 x3_1 ∧ v8 = .int .i64 x8_1 ∧ Aside0 (spec_roCount.l0 kq x3_1 l0 (l0.length : Int) x8_1 = some r) ∧ Aside0 (kq ≤ k) ∧ Drawn0 w w')
 case atStart => exact ⟨(0), (0), Q3, Q3, H', ⟨Nat.le_refl _⟩, Q4⟩
 case round =>
  clear H'
  try clear c1
  obtain ⟨x3_1, x8_1, rfl, rfl, HA, HK1, ⟨m1, rfl⟩⟩ := hrel
  cases gk with
  | zero => exact absurd HA.out (by simp [spec_roCount.l0])
  | succ k1 =>
   have H := HA.out
   clear HA
   simp only [spec_roCount.l0] at H
   by_cases c2 : x8_1 < (l0.length : Int)
   ·
    rw [if_pos c2] at H
    have c2b0 : decide (x8_1 < (l0.length : Int)) = true := decide_eq_true c2
    clear c2
    by_cases c3 : 0 ≤ x8_1
    ·
     rw [if_pos c3] at H
     have c3b0 : decide (0 ≤ x8_1) = true := decide_eq_true c3
     clear c3
     by_cases c4 : x8_1 < (l0.length : Int)
     ·
      rw [if_pos c4] at H
      have c4b0 : decide (x8_1 < (l0.length : Int)) = true := decide_eq_true c4
      clear c4
      by_cases c5 : (rd l0 x8_1) ≥ 0
      ·
       rw [if_pos c5] at H
       have c5b0 : decide (0 ≤ (rd l0 x8_1)) = true := decide_eq_true c5
       clear c5
       have H' := Aside0.mk H
       clear H
       have p517 : 0 ≤ (x8_1 : Int) := of_decide_eq_true Q1
       have q517 : x8_1 < (l0.length : Int) := of_decide_eq_true Q1
       obtain ⟨ad517, e517, hx517_0⟩ := Kd.at_int HR0.out x8_1 p517 q517
       cases e517
       replace p517 := eq_true p517
       replace q517 := eq_true q517
       go_wp2
       go_roundg k1
       case measure => have := HK1.out; omega
       case rel => exact ⟨(wrap64 (x3_1 + 1)), (wrap64 (x8_1 + 1)), Q3, Q3, H', ⟨Q42⟩, Q4⟩
      ·
       rw [if_neg c5] at H
       have c5b0 : decide (0 ≤ (rd l0 x8_1)) = false := decide_eq_false c5
       clear c5
       have H' := Aside0.mk H
       clear H
       have p517 : 0 ≤ (x8_1 : Int) := of_decide_eq_true Q1
       have q517 : x8_1 < (l0.length : Int) := of_decide_eq_true Q1
       obtain ⟨ad517, e517, hx517_0⟩ := Kd.at_int HR0.out x8_1 p517 q517
       cases e517
       replace p517 := eq_true p517
       replace q517 := eq_true q517
       go_wp2
       go_roundg k1
       case measure => have := HK1.out; omega
       case rel => exact ⟨(x3_1), (wrap64 (x8_1 + 1)), Q3, Q3, H', ⟨Q42⟩, Q4⟩
     ·
      rw [if_neg c4] at H
      exact absurd H (by simp)
    ·
     rw [if_neg c3] at H
     exact absurd H (by simp)
   ·
    rw [if_neg c2] at H
    have c2b0 : decide (x8_1 < (l0.length : Int)) = false := decide_eq_false c2
    clear c2
    obtain rfl := Option.some.inj H
    go_wp2
    go_ret
    exact ⟨Q3, Q4⟩

/-! ### spec_CountRooks: function 51 -/
def spec_CountRooks.f (k : Nat) (l0 : List Int) : Option (Int × Bool) := if (l0.length : Int) > 6 then (some (0, false)) else ((spec_l1All.f k l0 (-1) 5).bind fun t518 => (if t518 = true then ((spec_roCount.f k l0).bind fun t519 => (some (t519, true))) else (some (0, false))))
set_option maxHeartbeats 8000000 in
set_option maxRecDepth 100000 in
theorem spec_CountRooks.calls (k : Nat) (A0 : Option Addr) (c0 : Nat) (l0 : List Int) (r1 : Int) (r2 : Bool) (w : World) (hr0 : Kd.C (Kd.int .i64) w A0 l0.length l0) (hc0 : l0.length ≤ c0) (h : spec_CountRooks.f k l0 = some (r1, r2)) :
  Calls Try.prog 51 #[.slice A0 l0.length c0] w fun e w' => e = .returned (.tuple #[.int .i64 r1, .bool r2]) ∧ Drawn0 w w' := by
 have HR0 := Aside0.mk hr0
 have HC0 := Aside0.mk hc0
 clear hr0 hc0
 have H : (if (l0.length : Int) > 6 then (some (0, false)) else ((spec_l1All.f k l0 (-1) 5).bind fun t518 => (if t518 = true then ((spec_roCount.f k l0).bind fun t519 => (some (t519, true))) else (some (0, false))))) = some (r1, r2) := h
 clear h
 by_cases c2 : (l0.length : Int) > 6
 ·
  rw [if_pos c2] at H
  have c2b0 : decide (6 < (l0.length : Int)) = true := decide_eq_true c2
  have c2b1 : decide (6 < l0.length) = true := decide_eq_true (by omega)
  clear c2
  simp only [Option.some.injEq, Prod.mk.injEq] at H
  obtain ⟨rfl, rfl⟩ := H
  go_enter Try.func51, Try.ntmps51
  go_wp2
  go_ret2
  exact ⟨Q3, Q4⟩
 ·
  rw [if_neg c2] at H
  have c2b0 : decide (6 < (l0.length : Int)) = false := decide_eq_false c2
  have c2b1 : decide (6 < l0.length) = false := decide_eq_false (by omega)
  clear c2
  replace H := qE H
  obtain ⟨t518, A3, H⟩ := H
  replace H : (if t518 = true then ((spec_roCount.f k l0).bind fun t519 => (some (t519, true))) else (some (0, false))) = some (r1, r2) := H
  by_cases c4 : t518 = true
  ·
   subst c4
   have H1 : ((spec_roCount.f k l0).bind fun t519 => (some (t519, true))) = some (r1, r2) := by first | (rw [if_pos rfl] at H; exact H) | rfl
   clear H
   have H := H1
   clear H1
   replace H := qE H
   obtain ⟨t519, A5, H⟩ := H
   replace H : (some (t519, true)) = some (r1, r2) := H
   simp only [Option.some.injEq, Prod.mk.injEq] at H
   obtain ⟨rfl, rfl⟩ := H
   go_enter Try.func51, Try.ntmps51
   go_wp2_with (first | (go_at_call 115; (with_reducible refine (spec_l1All.calls k _ _ l0 (-1) 5 true _ ?side1 HC0.out A3.out).mono ?_); (case side1 => exact Q22); rintro e w' ⟨rfl, ⟨nd, rfl⟩⟩) | ((with_reducible refine gate_callee (f := 116) rfl ?_); refine qg (some 13) Try.func116 #[.slice A0 l0.length c0] ?_; (with_reducible refine (spec_roCount.calls k _ _ l0 t519 _ ?side1 HC0.out A5.out).mono ?_); (case side1 => exact Q22); rintro e w' ⟨rfl, ⟨nd, rfl⟩⟩; refine ⟨_, rfl, ?_⟩))
   go_ret2
   exact ⟨Q3, Q4⟩
  ·
   replace c4 := Bool.eq_false_iff.mpr c4
   subst c4
   have H1 : (some (0, false)) = some (r1, r2) := by first | (rw [if_neg (show ¬ (false = true) by decide)] at H; exact H) | rfl
   clear H
   have H := H1
   clear H1
   simp only [Option.some.injEq, Prod.mk.injEq] at H
   obtain ⟨rfl, rfl⟩ := H
   go_enter Try.func51, Try.ntmps51
   go_wp2_with (first | (go_at_call 115; (with_reducible refine (spec_l1All.calls k _ _ l0 (-1) 5 false _ ?side1 HC0.out A3.out).mono ?_); (case side1 => exact Q22); rintro e w' ⟨rfl, ⟨nd, rfl⟩⟩))
   go_ret2
   exact ⟨Q3, Q4⟩

/-! ### slices_Equal_int_int: function 96 -/
def slices_Equal_int_int.l0 : Nat → List Int → List Int → Int → Int → Option (Bool)
 | 0, _, _, _, _ => none
 | k + 1, x0, x1, x12, x13 => if x13 < x12 then (if 0 ≤ x13 then (if x13 < (x0.length : Int) then (if x13 < (x1.length : Int) then (if (rd x0 x13) = (rd x1 x13) then (slices_Equal_int_int.l0 k x0 x1 x12 (wrap64 (x13 + 1))) else (some false)) else (none)) else (none)) else (none)) else (some true)
def slices_Equal_int_int.f (k : Nat) (l0 : List Int) (l1 : List Int) : Option (Bool) := if (l0.length : Int) = (l1.length : Int) then (slices_Equal_int_int.l0 k l0 l1 (l0.length : Int) 0) else (some false)
set_option maxHeartbeats 8000000 in
set_option maxRecDepth 100000 in
theorem slices_Equal_int_int.calls (k : Nat) (A0 : Option Addr) (c0 : Nat) (l0 : List Int) (A1 : Option Addr) (c1 : Nat) (l1 : List Int) (r : Bool) (w : World) (hr0 : Kd.C (Kd.int .i64) w A0 l0.length l0) (hc0 : l0.length ≤ c0) (hr1 : Kd.C (Kd.int .i64) w A1 l1.length l1) (hc1 : l1.length ≤ c1) (h : slices_Equal_int_int.f k l0 l1 = some r) :
  Calls Try.prog 96 #[.slice A0 l0.length c0, .slice A1 l1.length c1] w fun e w' => e = .returned (.bool r) ∧ Drawn0 w w' := by
 have HR0 := Aside0.mk hr0
 have HC0 := Aside0.mk hc0
 clear hr0 hc0
 have HR1 := Aside0.mk hr1
 have HC1 := Aside0.mk hc1
 clear hr1 hc1
 have H : (if (l0.length : Int) = (l1.length : Int) then (slices_Equal_int_int.l0 k l0 l1 (l0.length : Int) 0) else (some false)) = some r := h
 clear h
 by_cases c3 : (l0.length : Int) = (l1.length : Int)
 ·
  rw [if_pos c3] at H
  have c3b0 : ((l0.length : Int) == (l1.length : Int)) = true := beq_iff_eq.mpr c3
  have c3b1 : ((l0.length : Int) != (l1.length : Int)) = false := bne_eq_false_iff_eq.mpr c3
  have c3b2 : (l0.length == l1.length) = true := by first | simpa using c3 | (simp at c3 ⊢; omega)
  clear c3
  have H' := Aside0.mk H
  clear H
  go_enter Try.func96, Try.ntmps96
  go_wp2
  repeat (go_quiet (fail); try go_wp2)
  go_loopg [13] k (fun kq v13 w' => ∃ (x13_1 : Int), v13 = .int .i64 x13_1 ∧ Aside0 (slices_Equal_int_int.l0 kq l0 l1 (l0.length : Int) x13_1 = some r) ∧ Aside0 (kq ≤ k) ∧ Drawn0 w w')
  case atStart => exact ⟨(0), Q3, H', ⟨Nat.le_refl _⟩, Q4⟩
  case round =>
   clear H'
   try clear c3; try clear c3b0; try clear c3b1; try clear c3b2
   obtain ⟨x13_1, rfl, HA, HK1, ⟨m1, rfl⟩⟩ := hrel
   cases gk with
   | zero => exact absurd HA.out (by simp [slices_Equal_int_int.l0])
   | succ k1 =>
    have H := HA.out
    clear HA
    simp only [slices_Equal_int_int.l0] at H
    by_cases c4 : x13_1 < (l0.length : Int)
    ·
     rw [if_pos c4] at H
     have c4b0 : decide (x13_1 < (l0.length : Int)) = true := decide_eq_true c4
     clear c4
     by_cases c5 : 0 ≤ x13_1
     ·
      rw [if_pos c5] at H
      have c5b0 : decide (0 ≤ x13_1) = true := decide_eq_true c5
      clear c5
      by_cases c6 : x13_1 < (l0.length : Int)
      ·
       rw [if_pos c6] at H
       have c6b0 : decide (x13_1 < (l0.length : Int)) = true := decide_eq_true c6
       clear c6
       by_cases c7 : x13_1 < (l1.length : Int)
       ·
        rw [if_pos c7] at H
        have c7b0 : decide (x13_1 < (l1.length : Int)) = true := decide_eq_true c7
        clear c7
        by_cases c8 : (rd l0 x13_1) = (rd l1 x13_1)
        ·
         rw [if_pos c8] at H
         have c8b0 : ((rd l0 x13_1) == (rd l1 x13_1)) = true := beq_iff_eq.mpr c8
         have c8b1 : ((rd l0 x13_1) != (rd l1 x13_1)) = false := bne_eq_false_iff_eq.mpr c8
         clear c8
         have H' := Aside0.mk H
         clear H
         have p520 : 0 ≤ (x13_1 : Int) := of_decide_eq_true Q1
         have q520 : x13_1 < (l0.length : Int) := of_decide_eq_true Q1
         obtain ⟨ad520, e520, hx520_0⟩ := Kd.at_int HR0.out x13_1 p520 q520
         cases e520
         replace p520 := eq_true p520
         replace q520 := eq_true q520
         have p521 : 0 ≤ (x13_1 : Int) := of_decide_eq_true Q1
         have q521 : x13_1 < (l1.length : Int) := of_decide_eq_true Q1
         obtain ⟨ad521, e521, hx521_0⟩ := Kd.at_int HR1.out x13_1 p521 q521
         cases e521
         replace p521 := eq_true p521
         replace q521 := eq_true q521
         go_wp2
         repeat (go_quiet (fail); try go_wp2)
         go_roundg k1
         case measure => have := HK1.out; omega
         case rel => exact ⟨(wrap64 (x13_1 + 1)), Q3, H', ⟨Q42⟩, Q4⟩
        ·
         rw [if_neg c8] at H
         have c8b0 : ((rd l0 x13_1) == (rd l1 x13_1)) = false := beq_eq_false_iff_ne.mpr c8
         have c8b1 : ((rd l0 x13_1) != (rd l1 x13_1)) = true := bne_iff_ne.mpr c8
         obtain rfl := Option.some.inj H
         have p520 : 0 ≤ (x13_1 : Int) := of_decide_eq_true Q1
         have q520 : x13_1 < (l0.length : Int) := of_decide_eq_true Q1
         obtain ⟨ad520, e520, hx520_0⟩ := Kd.at_int HR0.out x13_1 p520 q520
         cases e520
         replace p520 := eq_true p520
         replace q520 := eq_true q520
         have p521 : 0 ≤ (x13_1 : Int) := of_decide_eq_true Q1
         have q521 : x13_1 < (l1.length : Int) := of_decide_eq_true Q1
         obtain ⟨ad521, e521, hx521_0⟩ := Kd.at_int HR1.out x13_1 p521 q521
         cases e521
         replace p521 := eq_true p521
         replace q521 := eq_true q521
         go_wp2
         repeat (go_quiet (fail); try go_wp2)
         go_ret
         exact ⟨Q3, Q4⟩
       ·
        rw [if_neg c7] at H
        exact absurd H (by simp)
      ·
       rw [if_neg c6] at H
       exact absurd H (by simp)
     ·
      rw [if_neg c5] at H
      exact absurd H (by simp)
    ·
     rw [if_neg c4] at H
     have c4b0 : decide (x13_1 < (l0.length : Int)) = false := decide_eq_false c4
     clear c4
     obtain rfl := Option.some.inj H
     go_wp2
     repeat (go_quiet (fail); try go_wp2)
     go_ret
     exact ⟨Q3, Q4⟩
 ·
  rw [if_neg c3] at H
  have c3b0 : ((l0.length : Int) == (l1.length : Int)) = false := beq_eq_false_iff_ne.mpr c3
  have c3b1 : ((l0.length : Int) != (l1.length : Int)) = true := bne_iff_ne.mpr c3
  have c3b2 : (l0.length == l1.length) = false := by first | simpa using c3 | (simp at c3 ⊢; omega)
  obtain rfl := Option.some.inj H
  go_enter Try.func96, Try.ntmps96
  go_wp2
  repeat (go_quiet (fail); try go_wp2)
  go_ret
  exact ⟨Q3, Q4⟩

/-! ### slices_IndexFunc_int_int_117: function 117 (by hand) -/
-- (walk)
set_option maxHeartbeats 1000000 in
theorem indexFunc2 (fid : FuncId) (caps : Array Value) (p : List Int → Bool) (A : Option Addr) (c : Nat) (l : List (List Int)) (w : World) (hr : Kd.C (Kd.slice 3 (Kd.int .i64)) w A l.length l) (hc : l.length ≤ c) (hlen : l.length ≤ 2000000)
  (hcall : ∀ (args : Array Value) (W : World), Sem.run Try.prog (callFunc fid args) W = .ok (.enter fid args) W)
  (hF : ∀ n q A0 c0, q ∈ l → q.length ≤ c0 → Kd.C (Kd.int .i64) (w.drewN n) A0 q.length q → Calls Try.prog fid (#[.slice A0 q.length c0] ++ caps) (w.drewN n) fun e w' => e = .returned (.bool (p q)) ∧ Drawn0 (w.drewN n) w') :
  Calls Try.prog 117 #[.slice A l.length c, .func (.func fid) #[] caps] w fun e w' => e = .returned (.int .i64 (idxB p l)) ∧ Drawn0 w w' := by
 have HR := Aside0.mk hr
 have HF := Aside0.mk hF
 have HL := Aside0.mk hlen
 clear hr hF hlen
 go_enter Try.func117, Try.ntmps117
 go_wp2
 go_loopw [8] (fun v8 w' => ∃ i : Nat, i ≤ l.length ∧ v8 = .int .i64 i ∧ Aside0 (∀ j (h : j < l.length), j < i → p l[j] = false) ∧ Drawn0 w w') (fun v8 _ => l.length - (intOf v8).toNat)
 case atStart => exact ⟨0, Nat.zero_le _, rfl, ⟨fun j h hj => absurd hj (Nat.not_lt_zero _)⟩, Drawn0.refl _⟩
 case round =>
  obtain ⟨i, hi, rfl, HN, ⟨m1, rfl⟩⟩ := hrel
  by_cases hlt : i < l.length
  ·
   obtain ⟨ad, A0, c0, e, hx, hl0, hi0⟩ := at_L2 HR.out (i : Int) (by omega) (by omega)
   cases e
   rw [Int.toNat_natCast] at hx
   rw [show rd_L2 l (i : Int) = l[i] from by unfold rd_L2; simp [List.getD, hlt]] at hx hl0 hi0
   have hx1 : (w.drewN m1).cell? (ad.add i) = some (.slice A0 l[i].length c0) := hx
   have HC := am (fun n => HF.out n l[i] A0 c0 (List.getElem_mem hlt) hl0 (Kd.C_drewN hi0 n))
   have hlt2 : decide ((i : Int) < (l.length : Int)) = true := decide_eq_true (by omega)
   have hge : decide ((0 : Int) ≤ (i : Int)) = true := decide_eq_true (by omega)
   have he : wrap64 ((i : Int) + 1) = ((i + 1 : Nat) : Int) := by have := HL.out; unfold wrap64; omega
   have HE := Aside0.mk he
   clear he hl0 hi0
   by_cases hp : p l[i] = true
   ·
    have HP := Aside0.mk hp
    clear hp
    go_wp2_with ((with_reducible refine (HC.out _).mono ?_); rintro e w' ⟨rfl, ⟨nd, rfl⟩⟩; rw [HP.out])
    go_ret
    exact ⟨by rw [idxB_hit p l i hlt HP.out HN.out]; rfl, Q4⟩
   ·
    have HP := am (Bool.eq_false_iff.2 hp)
    clear hp
    go_wp2_with ((with_reducible refine (HC.out _).mono ?_); rintro e w' ⟨rfl, ⟨nd, rfl⟩⟩; rw [HP.out])
    (try rw [HE.out])
    go_roundw
    case rel => exact ⟨i + 1, by omega, by go_num, ⟨fun j h hj => by
      rcases Nat.lt_succ_iff_lt_or_eq.1 hj with hj | rfl
      ·
       exact HN.out j h hj
      ·
       exact HP.out⟩, Q4⟩
    case measure => simp [intOf]; omega
  ·
   go_wp2
   go_ret
   exact ⟨by rw [idxB_miss p l (fun j h => HN.out j h (by omega))]; rfl, Q4⟩

/-! ### impl_RankPlacement: function 52 (by hand) -/
def impl_RankPlacement.f (k : Nat) (a0_0 a0_1 : Int) (l0_2 : List Int) (l1 : List Int) : Option (Int × Bool) := if GoodB a0_0 a0_1 l0_2 then (impl_Board_isPlacement.f k a0_0 a0_1 l0_2 l1).bind fun b => if b = true then (if l1.length ≤ 6 then (impl_Board_with.f a0_0 a0_1 l0_2 (cntR l1)).bind fun L => if L.length ≤ 1000000 ∧ (L.all fun q => slices_Equal_int_int.f k l1 q == some (decide (l1 = q))) = true then some (idxB (fun q => decide (l1 = q)) L, true) else none else none) else some (0, false) else some (0, false)
-- (walk)
set_option maxHeartbeats 1000000 in
theorem rk_one {g k c1 cq : Nat} {A1 Aq : Option Addr} {p q : List Int} {w : World} (hp : w.heap[g]? = some (.cells #[.slice A1 p.length c1] 24 (0, 0))) (hA : Kd.C (Kd.int .i64) w A1 p.length p) (hc1 : p.length ≤ c1) (hq : Kd.C (Kd.int .i64) w Aq q.length q) (hcq : q.length ≤ cq) (he : slices_Equal_int_int.f k p q = some (decide (p = q))) :
  Calls Try.prog 118 #[.slice Aq q.length cq, .pointer (some ⟨g, 0, none⟩)] w fun e w2 => e = .returned (.bool (decide (p = q))) ∧ Drawn0 w w2 := by
 have d0 := blk_cell hp 0
 have HA := Aside0.mk hA
 have HQ := Aside0.mk hq
 have HE := Aside0.mk he
 clear hp hA hq he
 go_enter Try.func118, Try.ntmps118
 go_wp2_with (first | (go_at_call 96; refine (slices_Equal_int_int.calls k _ _ p _ _ q _ _ (by repeat (first | exact HA.out | (with_reducible refine Kd.C_drewN ?_ _) | (with_reducible refine Kd.C_drew ?_))) hc1 (by repeat (first | exact HQ.out | (with_reducible refine Kd.C_drewN ?_ _) | (with_reducible refine Kd.C_drew ?_))) hcq HE.out).mono ?_; rintro e w' ⟨rfl, ⟨nd, rfl⟩⟩))
 go_ret
 exact ⟨rfl, Q4⟩
theorem rk_idx {gp k c1 c5 : Nat} {A1 A5 : Option Addr} {p : List Int} {L : List (List Int)} {rk : Int} {w5 : World} (hC5 : Kd.C (Kd.slice 3 (Kd.int .i64)) w5 A5 L.length L) (hc5 : L.length ≤ c5) (hL : L.length ≤ 1000000) (hp : w5.heap[gp]? = some (.cells #[.slice A1 p.length c1] 24 (0, 0))) (hA : Kd.C (Kd.int .i64) w5 A1 p.length p) (hc1 : p.length ≤ c1)
  (he : ∀ q ∈ L, slices_Equal_int_int.f k p q = some (decide (p = q))) (hv : idxB (fun q => decide (p = q)) L = rk) :
  Calls Try.prog 117 #[.slice A5 L.length c5, .func (.func 118) #[] #[.pointer (some ⟨gp, 0, none⟩)]] w5 fun e w' => e = .returned (.int .i64 rk) ∧ Drawn0 w5 w' := by
 subst hv
 exact indexFunc2 118 #[.pointer (some ⟨gp, 0, none⟩)] (fun q => decide (p = q)) A5 c5 L w5 hC5 hc5 (by omega) (fun _ _ => by kernel_rfl) (fun n q A0 c0 hq hql hC => rk_one (blk_drewN hp n) (Kd.C_drewN hA n) hc1 hC hql (he q hq))
theorem rk_with {gp n c1 c5 : Nat} {A1 A5 : Option Addr} {p : List Int} {L : List (List Int)} {w w4 w5 : World} (hp : w4.heap[gp]? = some (.cells #[.slice A1 p.length c1] 24 (0, 0))) (hA : Kd.C (Kd.int .i64) w4 A1 p.length p) (T4 : Below w.heap.size w w4)
  (hC5 : Kd.C (Kd.slice 3 (Kd.int .i64)) w5 A5 L.length L) (hc5 : L.length ≤ c5) (hb5 : Below (w4.drewN n).heap.size (w4.drewN n) w5) :
  Kd.C (Kd.slice 3 (Kd.int .i64)) w5 A5 L.length L ∧ L.length ≤ c5 ∧ w5.heap[gp]? = some (.cells #[.slice A1 p.length c1] 24 (0, 0)) ∧ Kd.C (Kd.int .i64) w5 A1 p.length p ∧ Below w.heap.size w w5 :=
 ⟨hC5, hc5, blk_below (blk_drewN hp n) hb5, Kd.C_below (Kd.C_drewN hA n) hb5, below_step (pw_below_drewN T4 n) hb5⟩
set_option maxHeartbeats 6000000 in
set_option maxRecDepth 4000 in
theorem impl_RankPlacement.calls (k : Nat) (a0_0 : Int) (a0_1 : Int) (A0_2 : Option Addr) (c0_2 : Nat) (l0_2 : List Int) (A1 : Option Addr) (c1 : Nat) (l1 : List Int) (r1 : Int) (r2 : Bool) (w : World) (hr0_2 : Kd.C (Kd.int .i64) w A0_2 l0_2.length l0_2) (hc0_2 : l0_2.length ≤ c0_2) (hr1 : Kd.C (Kd.int .i64) w A1 l1.length l1) (hc1 : l1.length ≤ c1) (h : impl_RankPlacement.f k a0_0 a0_1 l0_2 l1 = some (r1, r2)) :
  Calls Try.prog 52 #[.agg #[.int .i64 a0_0, .int .i64 a0_1, .slice A0_2 l0_2.length c0_2], .slice A1 l1.length c1] w fun e w' => e = .returned (.tuple #[.int .i64 r1, .bool r2]) ∧ Below w.heap.size w w' := by
 unfold impl_RankPlacement.f at h
 have HA := Aside0.mk hr0_2
 have HA1 := Aside0.mk hr1
 clear hr0_2 hr1
 by_cases hg : GoodB a0_0 a0_1 l0_2
 case neg =>
  rw [if_neg hg] at h
  simp only [Option.some.injEq, Prod.mk.injEq] at h
  obtain ⟨rfl, rfl⟩ := h
  have HI := am (show impl_IsBoard.f a0_0 a0_1 l0_2 = some false by unfold impl_IsBoard.f; rw [decide_eq_false hg])
  clear hg
  go_enter Try.func52, Try.ntmps52
  go_wp2_with (first
   | ((with_reducible refine gate_dst (N := 2) rfl ?_); refine qv 2 #[.int .i64 a0_0, .int .i64 a0_1, .slice A0_2 l0_2.length c0_2] 26 ?_; intro gb hgb w1 bb hb1; have BB := Aside0.mk bb; have HB1 := Aside0.mk hb1; clear hgb bb hb1)
   | ((with_reducible refine gate_dst (N := 3) rfl ?_); refine qv 3 #[.slice A1 l1.length c1] 24 ?_; intro gp hgp w2 bp hb2; have BP := Aside0.mk bp; have HB2 := Aside0.mk hb2; have BB2 := am (blk_below BB.out hb2); have cb0 := blk_cell BB2.out 0; have cb1 := blk_cell BB2.out 1; have cb2 := blk_cell BB2.out 2; clear hgp bp hb2)
   | (go_at_call 66; refine (impl_IsBoard.calls _ _ _ _ _ _ _ (Kd.C_below HA.out (below_step HB1.out HB2.out)) hc0_2 HI.out).mono ?_; rintro e w3 ⟨rfl, hb3⟩; have HB3 := Aside0.mk hb3; have BB3 := am (blk_below BB2.out hb3); have BP3 := am (blk_below BP.out hb3); clear cb0 cb1 cb2; have cb0 := blk_cell BB3.out 0; have cb1 := blk_cell BB3.out 1; have cb2 := blk_cell BB3.out 2; have cp0 := blk_cell BP3.out 0; clear hb3)
   | (go_at_call 110; refine (impl_Board_isPlacement.calls k _ _ _ _ l0_2 _ _ l1 _ _ (Kd.C_below HA.out (below_step (below_step HB1.out HB2.out) HB3.out)) hc0_2 (Kd.C_below HA1.out (below_step (below_step HB1.out HB2.out) HB3.out)) hc1 HP.out).mono ?_; rintro e w4 ⟨rfl, hb4⟩; have HB4 := Aside0.mk hb4; have BB4 := am (blk_below BB3.out hb4); have BP4 := am (blk_below BP3.out hb4); clear cb0 cb1 cb2 cp0; have cb0 := blk_cell BB4.out 0; have cb1 := blk_cell BB4.out 1; have cb2 := blk_cell BB4.out 2; have cp0 := blk_cell BP4.out 0; clear hb4)
   )
  have T3 := below_step (below_step HB1.out HB2.out) HB3.out
  go_ret2
  exact ⟨rfl, T3⟩
 rw [if_pos hg] at h
 have hb_ := Option.bind_eq_some_iff.1 h
 clear h
 obtain ⟨b, hperm, h⟩ := hb_
 have HP := Aside0.mk hperm
 have HI := am (show impl_IsBoard.f a0_0 a0_1 l0_2 = some true by unfold impl_IsBoard.f; rw [decide_eq_true hg])
 clear hperm
 cases b with
 | false =>
  simp only [Bool.false_eq_true, if_false, Option.some.injEq, Prod.mk.injEq] at h
  obtain ⟨rfl, rfl⟩ := h
  clear hg
  go_enter Try.func52, Try.ntmps52
  go_wp2_with (first
   | ((with_reducible refine gate_dst (N := 2) rfl ?_); refine qv 2 #[.int .i64 a0_0, .int .i64 a0_1, .slice A0_2 l0_2.length c0_2] 26 ?_; intro gb hgb w1 bb hb1; have BB := Aside0.mk bb; have HB1 := Aside0.mk hb1; clear hgb bb hb1)
   | ((with_reducible refine gate_dst (N := 3) rfl ?_); refine qv 3 #[.slice A1 l1.length c1] 24 ?_; intro gp hgp w2 bp hb2; have BP := Aside0.mk bp; have HB2 := Aside0.mk hb2; have BB2 := am (blk_below BB.out hb2); have cb0 := blk_cell BB2.out 0; have cb1 := blk_cell BB2.out 1; have cb2 := blk_cell BB2.out 2; clear hgp bp hb2)
   | (go_at_call 66; refine (impl_IsBoard.calls _ _ _ _ _ _ _ (Kd.C_below HA.out (below_step HB1.out HB2.out)) hc0_2 HI.out).mono ?_; rintro e w3 ⟨rfl, hb3⟩; have HB3 := Aside0.mk hb3; have BB3 := am (blk_below BB2.out hb3); have BP3 := am (blk_below BP.out hb3); clear cb0 cb1 cb2; have cb0 := blk_cell BB3.out 0; have cb1 := blk_cell BB3.out 1; have cb2 := blk_cell BB3.out 2; have cp0 := blk_cell BP3.out 0; clear hb3)
   | (go_at_call 110; refine (impl_Board_isPlacement.calls k _ _ _ _ l0_2 _ _ l1 _ _ (Kd.C_below HA.out (below_step (below_step HB1.out HB2.out) HB3.out)) hc0_2 (Kd.C_below HA1.out (below_step (below_step HB1.out HB2.out) HB3.out)) hc1 HP.out).mono ?_; rintro e w4 ⟨rfl, hb4⟩; have HB4 := Aside0.mk hb4; have BB4 := am (blk_below BB3.out hb4); have BP4 := am (blk_below BP3.out hb4); clear cb0 cb1 cb2 cp0; have cb0 := blk_cell BB4.out 0; have cb1 := blk_cell BB4.out 1; have cb2 := blk_cell BB4.out 2; have cp0 := blk_cell BP4.out 0; clear hb4)
   )
  have T3 := below_step (below_step HB1.out HB2.out) HB3.out
  go_ret2
  exact ⟨rfl, below_step T3 HB4.out⟩
 | true =>
  rw [if_pos rfl] at h
  by_cases hq : l1.length ≤ 6
  case neg => rw [if_neg hq] at h; exact absurd h (by simp)
  rw [if_pos hq] at h
  have hb_ := Option.bind_eq_some_iff.1 h
  clear h
  obtain ⟨L, hL, h⟩ := hb_
  by_cases hall : L.length ≤ 1000000 ∧ (L.all fun q => slices_Equal_int_int.f k l1 q == some (decide (l1 = q))) = true
  case neg => rw [if_neg hall] at h; exact absurd h (by simp)
  rw [if_pos hall] at h
  simp only [Option.some.injEq, Prod.mk.injEq] at h
  obtain ⟨hrk, rfl⟩ := h
  have HV := Aside0.mk hrk
  clear hrk
  have HW := Aside0.mk hL
  have HLL := Aside0.mk hall.1
  have HEQ := am (show ∀ q ∈ L, slices_Equal_int_int.f k l1 q = some (decide (l1 = q)) from fun q hq => by
   have := List.all_eq_true.1 hall.2 q hq
   rwa [beq_iff_eq] at this)
  have HRK := am (show impl_rooks.f l1 = some (cntR l1) by unfold impl_rooks.f; rw [if_pos (by omega)])
  clear hall hL hg hq
  go_enter Try.func52, Try.ntmps52
  go_wp2_with (first
   | ((with_reducible refine gate_dst (N := 2) rfl ?_); refine qv 2 #[.int .i64 a0_0, .int .i64 a0_1, .slice A0_2 l0_2.length c0_2] 26 ?_; intro gb hgb w1 bb hb1; have BB := Aside0.mk bb; have HB1 := Aside0.mk hb1; clear hgb bb hb1)
   | ((with_reducible refine gate_dst (N := 3) rfl ?_); refine qv 3 #[.slice A1 l1.length c1] 24 ?_; intro gp hgp w2 bp hb2; have BP := Aside0.mk bp; have HB2 := Aside0.mk hb2; have BB2 := am (blk_below BB.out hb2); have cb0 := blk_cell BB2.out 0; have cb1 := blk_cell BB2.out 1; have cb2 := blk_cell BB2.out 2; clear hgp bp hb2)
   | (go_at_call 66; refine (impl_IsBoard.calls _ _ _ _ _ _ _ (Kd.C_below HA.out (below_step HB1.out HB2.out)) hc0_2 HI.out).mono ?_; rintro e w3 ⟨rfl, hb3⟩; have HB3 := Aside0.mk hb3; have BB3 := am (blk_below BB2.out hb3); have BP3 := am (blk_below BP.out hb3); clear cb0 cb1 cb2; have cb0 := blk_cell BB3.out 0; have cb1 := blk_cell BB3.out 1; have cb2 := blk_cell BB3.out 2; have cp0 := blk_cell BP3.out 0; clear hb3)
   | (go_at_call 110; refine (impl_Board_isPlacement.calls k _ _ _ _ l0_2 _ _ l1 _ _ (Kd.C_below HA.out (below_step (below_step HB1.out HB2.out) HB3.out)) hc0_2 (Kd.C_below HA1.out (below_step (below_step HB1.out HB2.out) HB3.out)) hc1 HP.out).mono ?_; rintro e w4 ⟨rfl, hb4⟩; have HB4 := Aside0.mk hb4; have BB4 := am (blk_below BB3.out hb4); have BP4 := am (blk_below BP3.out hb4); clear cb0 cb1 cb2 cp0; have cb0 := blk_cell BB4.out 0; have cb1 := blk_cell BB4.out 1; have cb2 := blk_cell BB4.out 2; have cp0 := blk_cell BP4.out 0; clear hb4)
   )
  have T4 := am (below_step (below_step (below_step HB1.out HB2.out) HB3.out) HB4.out)
  have CA4 := am (Kd.C_below HA.out T4.out)
  have CP4 := am (Kd.C_below HA1.out T4.out)
  clear HI HP HA HA1 HB1 HB2 HB3 HB4 BB BB2 BB3 BP BP3
  go_region_with (first
   | (go_at_call 107; refine (impl_rooks.calls _ _ l1 (cntR l1) _ ?side1 hc1 HRK.out).mono ?_; (case side1 => repeat (first | exact CP4.out | (with_reducible refine Kd.C_drewN ?_ _) | (with_reducible refine Kd.C_drew ?_))); rintro e w' ⟨rfl, ⟨nd, rfl⟩⟩)
   | (go_at_call 103; refine (impl_Board_with.calls _ _ _ _ l0_2 (cntR l1) L _ ?side1 hc0_2 HW.out).mono ?_; (case side1 => repeat (first | exact CA4.out | (with_reducible refine Kd.C_drewN ?_ _) | (with_reducible refine Kd.C_drew ?_))); rintro e w5 ⟨v5, rfl, hs5, hb5⟩; obtain ⟨A5, c5, rfl, hc5, hC5⟩ := Kd.S_reads hs5; have H5 := am (rk_with BP4.out CP4.out T4.out hC5 hc5 hb5); clear hs5 hb5 hC5 hc5)
   | (go_at_call 117; refine (rk_idx H5.out.1 H5.out.2.1 HLL.out H5.out.2.2.1 H5.out.2.2.2.1 hc1 HEQ.out HV.out).mono ?_; rintro e w' ⟨rfl, ⟨nd2, rfl⟩⟩))
  all_goals (simp only [Exit.then]; go_wp2)
  all_goals go_ret2
  all_goals exact ⟨rfl, pw_below_drewN H5.out.2.2.2.2 _⟩

end Go.Proofs.Ytllhofdgbpnkkaa.PFnPlacementsListed
