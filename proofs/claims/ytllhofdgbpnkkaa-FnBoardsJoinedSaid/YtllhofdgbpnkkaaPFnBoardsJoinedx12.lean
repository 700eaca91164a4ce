-- Printed for this claim by wip/pp.py over the kit's printer; Lean checks it.
import Derived.Test.YtllhofdgbpnkkaaPFnBoardsJoinedx0
import Derived.Test.YtllhofdgbpnkkaaPFnBoardsJoinedx1
import Derived.Test.YtllhofdgbpnkkaaPFnBoardsJoinedx2
import Derived.Test.YtllhofdgbpnkkaaPFnBoardsJoinedx3
import Derived.Test.YtllhofdgbpnkkaaPFnBoardsJoinedx5
import Derived.Test.YtllhofdgbpnkkaaPFnBoardsJoinedx9
import Derived.Test.YtllhofdgbpnkkaaPFnBoardsJoinedx10
import Derived.Test.YtllhofdgbpnkkaaPFnBoardsJoinedx11
namespace Go.Proofs.Ytllhofdgbpnkkaa.PFnBoardsJoined
open Go.RowKit Go.Proofs.YtllhofdgbpnkkaaW.PrintWords Go.Proofs.YtllhofdgbpnkkaaW.PrintLast Go.Proofs.YtllhofdgbpnkkaaW.PrintMore
attribute [local go_sem] max2_int min2_int max_two min_two max_three min_three max_four min_four   -- for this text's walks alone
set_option linter.unusedVariables false
set_option linter.unusedSimpArgs false

/-! ### spec_boStrike: function 70 -/
def spec_boStrike.l0 : Nat → Int → Int → List Int → Int → Int → Int → Int → List Int → Option (Int × Int × List Int)
 | 0, _, _, _, _, _, _, _, _ => none
 | k + 1, x1, x2, x18, x19, x20, x378000, x378001, x378002 => if x20 < x19 then (if 0 ≤ x20 then (if x20 < (x18.length : Int) then (if x20 = x1 then (spec_boStrike.l0 k x1 x2 x18 x19 (wrap64 (x20 + 1)) x378000 x378001 x378002) else (if 0 ≤ x2 then (if 0 ≤ (wrap64 (x2 + 1)) then (if x378002.length < 17592186044416 then (spec_boStrike.l0 k x1 x2 x18 x19 (wrap64 (x20 + 1)) x378000 x378001 (x378002 ++ [Go.bits .or .i64 (Go.bits .and .i64 (rd x18 x20) (wrap64 ((shl .i64 1 x2) - 1))) (shl .i64 (shr .i64 (rd x18 x20) (wrap64 (x2 + 1))) x2)])) else (none)) else (none)) else (none))) else (none)) else (none)) else (some (x378000, x378001, x378002))
def spec_boStrike.f (k : Nat) (a0_0 : Int) (a0_1 : Int) (l0_2 : List Int) (a1 : Int) (a2 : Int) : Option (Int × Int × List Int) := spec_boStrike.l0 k a1 a2 l0_2 (l0_2.length : Int) 0 (wrap64 (a0_0 - 1)) (wrap64 (a0_1 - 1)) ([] : List Int)
def spec_boStrike.T6 : Bool × List (List Nat × List Nat) := (true, [([], []), ([0], [0]), ([], []), ([], []), ([3], [3]), ([4], [4]), ([2, 5], [2, 5]), ([], []), ([], []), ([8], [8]), ([7, 9], [7, 9]), ([], []), ([10, 11], [10, 11]), ([6, 12], [6, 12]), ([13], [13]), ([1, 14], [1, 14]), ([0, 1, 2, 3, 4, 5, 6, 7, 8, 9, 10, 11, 12, 13, 14, 15], []), ([16, 15, 15, 0, 1, 2, 3, 4, 5, 6, 7, 8, 9, 10, 11, 12, 13, 14, 15], [15, 16])])
def spec_boStrike.B6 : List Nat := [0, 1, 0, 0, 8, 24, 60, 0, 0, 256, 896, 0, 3968, 8188, 16380, 32767, 65535, 131071]
theorem spec_boStrike.tab6 : rtab .any (opsOf Try.f70 6) = spec_boStrike.T6 := by kernel_rfl
theorem spec_boStrike.bits6 : waitsOk spec_boStrike.T6.2 spec_boStrike.B6 = true := by kernel_rfl
set_option maxHeartbeats 8000000 in
set_option maxRecDepth 100000 in
theorem spec_boStrike.calls (k : Nat) (a0_0 : Int) (a0_1 : Int) (A0_2 : Option Addr) (c0_2 : Nat) (l0_2 : List Int) (a1 : Int) (a2 : Int) (r1 : Int) (r2 : Int) (r3 : List Int) (w : World) (hr0_2 : Kd.C (Kd.int .i64) w A0_2 l0_2.length l0_2) (hc0_2 : l0_2.length ≤ c0_2) (h : spec_boStrike.f k a0_0 a0_1 l0_2 a1 a2 = some (r1, r2, r3)) :
  Calls Try.prog 70 #[.agg #[.int .i64 a0_0, .int .i64 a0_1, .slice A0_2 l0_2.length c0_2], .int .i64 a1, .int .i64 a2] w fun e w' => ∃ v2_ : Value, e = .returned (.agg #[.int .i64 r1, .int .i64 r2, v2_]) ∧ Kd.R (Kd.int .i64) 3 w' w.heap.size (fun _ => True) v2_ r3 ∧ Below w.heap.size w w' := by
 have hu26 := Try.underlying26
 have HR0_2 := Aside0.mk hr0_2
 have HC0_2 := Aside0.mk hc0_2
 clear hr0_2 hc0_2
 have HB := am (Below.refl w.heap.size w)
 have H : (spec_boStrike.l0 k a1 a2 l0_2 (l0_2.length : Int) 0 (wrap64 (a0_0 - 1)) (wrap64 (a0_1 - 1)) ([] : List Int)) = some (r1, r2, r3) := h
 clear h
 have H' := Aside0.mk H
 clear H
 go_enter Try.func70, Try.ntmps70
 go_wp2_with (first | ((with_reducible refine gate_dst (N := 3) rfl ?_); refine qv 3 #[.int .i64 a0_0, .int .i64 a0_1, .slice A0_2 l0_2.length c0_2] 26 ?_; intro gb375 hg w4 hbox hb; have BK375 := am hbox; have GW375 := qw hg; have GE375 := qw hg; replace HB := qs hb; clear hb hbox hg) | ((with_reducible refine gate_dst (N := 6) rfl ?_); refine qv 6 #[.int .i64 0, .int .i64 0, .slice none 0 0] 26 ?_; intro gb376 hg w5 hbox hb; have BK376 := am hbox; have GW376 := qw hg; have GE376 := qw hg; have Nq0 := qn hg BK375; have Nq2 := qN hg BK375; replace BK375 := sqB BK375 hb; replace HB := qs hb; clear hb hbox hg; have bq13 := Nq0.out; have cq13 := Nq2.out; obtain ⟨zq57, zq58, zq59, fq57, fq58, fq59⟩ := qd BK375) | ((with_reducible refine gate_dst (N := 7) rfl ?_); refine qv 7 #[.int .i64 0, .int .i64 0, .slice none 0 0] 26 ?_; intro gb377 hg w8 hbox hb; have BK377 := am hbox; have GW377 := qw hg; have GE377 := qw hg; have Nq1 := qn hg BK375; have Nq4 := qN hg BK375; have Nq3 := qn hg BK376; have Nq5 := qN hg BK376; replace BK375 := sqB BK375 hb; replace BK376 := sqB BK376 hb; replace HB := qs hb; clear hb hbox hg; have bq14 := Nq4.out; have cq14 := Nq1.out; have bq0 := Nq5.out; have cq0 := Nq3.out; obtain ⟨zq3, zq4, zq5, fq3, fq4, fq5⟩ := qd BK377; obtain ⟨zq6, zq7, zq8, fq6, fq7, fq8⟩ := qd BK375))
 go_loopg [20] k (fun kq v20 w' => ∃ (x20_1 : Int) (x378002_1 : List Int) (u378002 : Value), v20 = .int .i64 x20_1 ∧ Aside0 (spec_boStrike.l0 kq a1 a2 l0_2 (l0_2.length : Int) x20_1 (wrap64 (a0_0 - 1)) (wrap64 (a0_1 - 1)) x378002_1 = some (r1, r2, r3)) ∧ Aside0 (kq ≤ k) ∧ Aside0 (Kd.R (Kd.int .i64) 3 w' w.heap.size (fun _ => True) u378002 x378002_1) ∧ Aside0 (w'.heap[gb375]? = some (.cells #[.int .i64 a0_0, .int .i64 a0_1, (.slice A0_2 l0_2.length c0_2)] 26 (0, 0))) ∧ Aside0 (w'.heap[gb376]? = some (.cells #[.int .i64 0, .int .i64 0, (.slice none 0 0)] 26 (0, 0))) ∧ Aside0 (w'.heap[gb377]? = some (.cells #[.int .i64 (wrap64 (a0_0 - 1)), .int .i64 (wrap64 (a0_1 - 1)), u378002] 26 (0, 0))) ∧ Aside0 (Below w.heap.size w w'))
 case atStart => exact ⟨(0), (([] : List Int)), (.slice none 0 0), Q3, H', ⟨Nat.le_refl _⟩, ⟨Q11⟩, ⟨by (with_reducible repeat (first | refine blk_drewN ?_ _ | refine blk_drew ?_ | refine blk_alloc ?_ _)); refine blk_far ?_ Nq1.out _; (with_reducible repeat (first | refine blk_drewN ?_ _ | refine blk_drew ?_ | refine blk_alloc ?_ _)); refine blk_far ?_ Nq1.out _; (with_reducible repeat (first | refine blk_drewN ?_ _ | refine blk_drew ?_ | refine blk_alloc ?_ _)); refine blk_far ?_ Nq1.out _; (with_reducible repeat (first | refine blk_drewN ?_ _ | refine blk_drew ?_ | refine blk_alloc ?_ _)); exact BK375.out⟩, ⟨by (with_reducible repeat (first | refine blk_drewN ?_ _ | refine blk_drew ?_ | refine blk_alloc ?_ _)); refine blk_far ?_ Nq3.out _; (with_reducible repeat (first | refine blk_drewN ?_ _ | refine blk_drew ?_ | refine blk_alloc ?_ _)); refine blk_far ?_ Nq3.out _; (with_reducible repeat (first | refine blk_drewN ?_ _ | refine blk_drew ?_ | refine blk_alloc ?_ _)); refine blk_far ?_ Nq3.out _; (with_reducible repeat (first | refine blk_drewN ?_ _ | refine blk_drew ?_ | refine blk_alloc ?_ _)); exact BK376.out⟩, ⟨by (with_reducible repeat (first | refine blk_drewN ?_ _ | refine blk_drew ?_ | refine blk_alloc ?_ _)); refine blk_put (cs := #[.int .i64 (wrap64 (a0_0 - 1)), .int .i64 (wrap64 (a0_1 - 1)), .slice none 0 0]) ?_ 2 _ rfl; (with_reducible repeat (first | refine blk_drewN ?_ _ | refine blk_drew ?_ | refine blk_alloc ?_ _)); refine blk_put (cs := #[.int .i64 (wrap64 (a0_0 - 1)), .int .i64 0, .slice none 0 0]) ?_ 1 _ rfl; (with_reducible repeat (first | refine blk_drewN ?_ _ | refine blk_drew ?_ | refine blk_alloc ?_ _)); refine blk_put (cs := #[.int .i64 0, .int .i64 0, .slice none 0 0]) ?_ 0 _ rfl; (with_reducible repeat (first | refine blk_drewN ?_ _ | refine blk_drew ?_ | refine blk_alloc ?_ _)); exact BK377.out⟩, ⟨qb⟩⟩
 case round =>
  clear H'
  try clear zq3; try clear zq4; try clear zq5; try clear zq6; try clear zq7; try clear zq8; try clear zq57; try clear zq58; try clear zq59; try clear fq3; try clear fq4; try clear fq5; try clear fq6; try clear fq7; try clear fq8; try clear fq57; try clear fq58; try clear fq59
  obtain ⟨x20_1, x378002_1, u378002, rfl, HA, HK1, Oq8, BK375, BK376, BK377, HB⟩ := hrel
  cases gk with
  | zero => exact absurd HA.out (by simp [spec_boStrike.l0])
  | succ k1 =>
   have H := HA.out
   clear HA
   simp only [spec_boStrike.l0] at H
   by_cases c13 : x20_1 < (l0_2.length : Int)
   ·
    rw [if_pos c13] at H
    have c13b0 : decide (x20_1 < (l0_2.length : Int)) = true := decide_eq_true c13
    clear c13
    by_cases c14 : 0 ≤ x20_1
    ·
     rw [if_pos c14] at H
     have c14b0 : decide (0 ≤ x20_1) = true := decide_eq_true c14
     clear c14
     by_cases c15 : x20_1 < (l0_2.length : Int)
     ·
      rw [if_pos c15] at H
      have c15b0 : decide (x20_1 < (l0_2.length : Int)) = true := decide_eq_true c15
      clear c15
      by_cases c16 : x20_1 = a1
      ·
       rw [if_pos c16] at H
       have c16b0 : (x20_1 == a1) = true := beq_iff_eq.mpr c16
       have c16b1 : (x20_1 != a1) = false := bne_eq_false_iff_eq.mpr c16
       clear c16
       have H' := Aside0.mk H
       clear H
       have p378 : 0 ≤ (x20_1 : Int) := of_decide_eq_true Q2
       have q378 : x20_1 < (l0_2.length : Int) := of_decide_eq_true Q2
       obtain ⟨ad378, e378, hx378_0⟩ := Kd.at_int HR0_2.out x20_1 p378 q378
       cases e378
       replace hx378_0 := (HB.out.cell (World.block_lt_of_cell? w _ hx378_0)).trans hx378_0
       replace p378 := eq_true p378
       replace q378 := eq_true q378
       go_wp2
       go_roundg k1
       case measure => have := HK1.out; omega
       case rel => exact ⟨(wrap64 (x20_1 + 1)), (x378002_1), (u378002), Q3, H', ⟨Q55⟩, ⟨by (with_reducible repeat (first | apply Kd.R_alloc | apply Kd.R_drewN | apply Kd.R_drew)); exact Oq8.out⟩, ⟨by (with_reducible repeat (first | refine blk_drewN ?_ _ | refine blk_drew ?_ | refine blk_alloc ?_ _)); exact BK375.out⟩, ⟨by (with_reducible repeat (first | refine blk_drewN ?_ _ | refine blk_drew ?_ | refine blk_alloc ?_ _)); exact BK376.out⟩, ⟨by (with_reducible repeat (first | refine blk_drewN ?_ _ | refine blk_drew ?_ | refine blk_alloc ?_ _)); exact BK377.out⟩, ⟨qb⟩⟩
      ·
       rw [if_neg c16] at H
       have c16b0 : (x20_1 == a1) = false := beq_eq_false_iff_ne.mpr c16
       have c16b1 : (x20_1 != a1) = true := bne_iff_ne.mpr c16
       by_cases c17 : 0 ≤ a2
       ·
        rw [if_pos c17] at H
        have c17b0 := eq_true c17
        have c17b1 : decide (0 ≤ a2) = true := decide_eq_true c17
        clear c17
        obtain ⟨ji18, hji18⟩ : ∃ j_ : Int, (shl .i64 1 a2) = j_ := ⟨_, rfl⟩
        replace H : (if 0 ≤ (wrap64 (a2 + 1)) then (if x378002_1.length < 17592186044416 then (spec_boStrike.l0 k1 a1 a2 l0_2 (l0_2.length : Int) (wrap64 (x20_1 + 1)) (wrap64 (a0_0 - 1)) (wrap64 (a0_1 - 1)) (x378002_1 ++ [Go.bits .or .i64 (Go.bits .and .i64 (rd l0_2 x20_1) (wrap64 ((ji18) - 1))) (shl .i64 (shr .i64 (rd l0_2 x20_1) (wrap64 (a2 + 1))) a2)])) else (none)) else (none)) = some (r1, r2, r3) := by first | (rw [hji18] at H; exact H) | (simp only [hji18] at H ⊢; exact H)
        have hji18_ : (IntKind.i64.wrap (1 * 2 ^ min a2.toNat 64)) = ji18 := hji18
        have hji18z : a2 ≤ 64 → (IntKind.i64.wrap (1 * 2 ^ a2.toNat)) = ji18 := shl_small hji18
        have hji18u : (IntKind.i64.wrap (2 ^ min a2.toNat 64)) = ji18 := by have h_ := hji18_; rw [Int.one_mul] at h_; exact h_
        have hji18v : a2 ≤ 64 → (IntKind.i64.wrap (2 ^ a2.toNat)) = ji18 := fun hle_ => by have h_ := hji18z hle_; rw [Int.one_mul] at h_; exact h_
        have hji18y : (wrap64 (1 * 2 ^ min a2.toNat 64)) = ji18 := (i64_w _).symm.trans hji18_
        have hji18x : a2 ≤ 64 → (wrap64 (1 * 2 ^ a2.toNat)) = ji18 := fun h_ => (i64_w _).symm.trans (hji18z h_)
        obtain ⟨ji19, hji19⟩ : ∃ j_ : Int, (wrap64 (a2 + 1)) = j_ := ⟨_, rfl⟩
        replace H : (if 0 ≤ (ji19) then (if x378002_1.length < 17592186044416 then (spec_boStrike.l0 k1 a1 a2 l0_2 (l0_2.length : Int) (wrap64 (x20_1 + 1)) (wrap64 (a0_0 - 1)) (wrap64 (a0_1 - 1)) (x378002_1 ++ [Go.bits .or .i64 (Go.bits .and .i64 (rd l0_2 x20_1) (wrap64 ((ji18) - 1))) (shl .i64 (shr .i64 (rd l0_2 x20_1) (ji19)) a2)])) else (none)) else (none)) = some (r1, r2, r3) := by first | (rw [hji19] at H; exact H) | (simp only [hji19] at H ⊢; exact H)
        have hji19w : (IntKind.i64.wrap (a2 + 1)) = ji19 := (i64_w _).trans hji19
        by_cases c20 : 0 ≤ (ji19)
        ·
         rw [if_pos c20] at H
         have c20b0 := eq_true c20
         have c20b1 : decide (0 ≤ (ji19)) = true := decide_eq_true c20
         clear c20
         obtain ⟨ji21, hji21⟩ : ∃ j_ : Int, (shr .i64 (rd l0_2 x20_1) (ji19)) = j_ := ⟨_, rfl⟩
         replace H : (if x378002_1.length < 17592186044416 then (spec_boStrike.l0 k1 a1 a2 l0_2 (l0_2.length : Int) (wrap64 (x20_1 + 1)) (wrap64 (a0_0 - 1)) (wrap64 (a0_1 - 1)) (x378002_1 ++ [Go.bits .or .i64 (Go.bits .and .i64 (rd l0_2 x20_1) (wrap64 ((ji18) - 1))) (shl .i64 (ji21) a2)])) else (none)) = some (r1, r2, r3) := by first | (rw [hji21] at H; exact H) | (simp only [hji21] at H ⊢; exact H)
         have hji21_ : ((rd l0_2 x20_1) / 2 ^ min (ji19).toNat 64) = ji21 := hji21
         have hji21z : (ji19) ≤ 64 → ((rd l0_2 x20_1) / 2 ^ (ji19).toNat) = ji21 := shr_small hji21
         have c22b0 := eq_true (of_decide_eq_true Q2 : 0 ≤ a2)
         obtain ⟨ji23, hji23⟩ : ∃ j_ : Int, (shl .i64 (ji21) a2) = j_ := ⟨_, rfl⟩
         replace H : (if x378002_1.length < 17592186044416 then (spec_boStrike.l0 k1 a1 a2 l0_2 (l0_2.length : Int) (wrap64 (x20_1 + 1)) (wrap64 (a0_0 - 1)) (wrap64 (a0_1 - 1)) (x378002_1 ++ [Go.bits .or .i64 (Go.bits .and .i64 (rd l0_2 x20_1) (wrap64 ((ji18) - 1))) (ji23)])) else (none)) = some (r1, r2, r3) := by first | (rw [hji23] at H; exact H) | (simp only [hji23] at H ⊢; exact H)
         have hji23_ : (IntKind.i64.wrap ((ji21) * 2 ^ min a2.toNat 64)) = ji23 := hji23
         have hji23z : a2 ≤ 64 → (IntKind.i64.wrap ((ji21) * 2 ^ a2.toNat)) = ji23 := shl_small hji23
         have hji23y : (wrap64 ((ji21) * 2 ^ min a2.toNat 64)) = ji23 := (i64_w _).symm.trans hji23_
         have hji23x : a2 ≤ 64 → (wrap64 ((ji21) * 2 ^ a2.toNat)) = ji23 := fun h_ => (i64_w _).symm.trans (hji23z h_)
         by_cases c24 : x378002_1.length < 17592186044416
         ·
          rw [if_pos c24] at H
          have LMc24 := Aside0.mk c24
          clear c24
          obtain ⟨y379, hy_⟩ : ∃ y_ : List Int, y_ = ((x378002_1 ++ [Go.bits .or .i64 (Go.bits .and .i64 (rd l0_2 x20_1) (wrap64 ((ji18) - 1))) (ji23)])) := ⟨_, rfl⟩
          replace H : (spec_boStrike.l0 k1 a1 a2 l0_2 (l0_2.length : Int) (wrap64 (x20_1 + 1)) (wrap64 (a0_0 - 1)) (wrap64 (a0_1 - 1)) y379) = some (r1, r2, r3) := qH
          have Ny379 := Aside0.mk hy_
          clear hy_
          have H' := Aside0.mk H
          clear H
          have p378 : 0 ≤ (x20_1 : Int) := of_decide_eq_true Q2
          have q378 : x20_1 < (l0_2.length : Int) := of_decide_eq_true Q2
          obtain ⟨ad378, e378, hx378_0⟩ := Kd.at_int HR0_2.out x20_1 p378 q378
          cases e378
          replace hx378_0 := (HB.out.cell (World.block_lt_of_cell? w _ hx378_0)).trans hx378_0
          replace p378 := eq_true p378
          replace q378 := eq_true q378
          try go_wp2
          replace Oq8 := am (Kd.R_drew Oq8.out)
          replace BK375 := am (blk_drew BK375.out)
          replace BK376 := am (blk_drew BK376.out)
          replace BK377 := am (blk_drew BK377.out)
          replace HB := am (below_drew1 HB.out)
          refine start_ (n := 18) (S := fun w' => w'.cell? ⟨gb377, 0, none⟩ = some (.int .i64 (wrap64 (a0_0 - 1))) ∧ w'.cell? ⟨gb377, 1, none⟩ = some (.int .i64 (wrap64 (a0_1 - 1))) ∧ w'.cell? ⟨gb377, 2, none⟩ = some (u378002)) (ds := [17]) #[false, false, false, false, false, false, false, false, false, false, false, false, false, false, false, false, false, false] (by kernel_rfl) rfl rfl ⟨sqc BK377 0, sqc BK377 1, sqc BK377 2⟩ (fun hHeld => ?_); refine with_tabW spec_boStrike.tab6 spec_boStrike.bits6 (fun HT_ HW_ => ?_)
          generalize wr.drew = w25 at Oq8 BK375 BK376 BK377 HB hHeld ⊢
          refine qp 0 (some 28) #[true, false, false, false, false, false, false, false, false, false, false, false, false, false, false, false, false, false] ?_
          refine qp 2 (some 30) #[true, false, true, false, false, false, false, false, false, false, false, false, false, false, false, false, false, false] ?_
          refine qp 3 (some 31) #[true, false, true, true, false, false, false, false, false, false, false, false, false, false, false, false, false, false] ?_
          refine qp 4 (some 32) #[true, false, true, true, true, false, false, false, false, false, false, false, false, false, false, false, false, false] ?_
          refine qp 5 (some 33) #[true, false, true, true, true, true, false, false, false, false, false, false, false, false, false, false, false, false] ?_
          refine qp 6 (some 34) #[true, false, true, true, true, true, true, false, false, false, false, false, false, false, false, false, false, false] ?_
          refine qp 7 (some 35) #[true, false, true, true, true, true, true, true, false, false, false, false, false, false, false, false, false, false] ?_
          refine qp 8 (some 36) #[true, false, true, true, true, true, true, true, true, false, false, false, false, false, false, false, false, false] ?_
          refine qp 9 (some 37) #[true, false, true, true, true, true, true, true, true, true, false, false, false, false, false, false, false, false] ?_
          refine qp 10 (some 38) #[true, false, true, true, true, true, true, true, true, true, true, false, false, false, false, false, false, false] ?_
          refine qp 11 (some 39) #[true, false, true, true, true, true, true, true, true, true, true, true, false, false, false, false, false, false] ?_
          refine qp 12 (some 40) #[true, false, true, true, true, true, true, true, true, true, true, true, true, false, false, false, false, false] ?_
          refine qp 13 (some 41) #[true, false, true, true, true, true, true, true, true, true, true, true, true, true, false, false, false, false] ?_
          refine take_ (i := 1) (N := some 29) (v := ?_) (a' := ?_) #[true, true, true, true, true, true, true, true, true, true, true, true, true, true, false, false, false, false] rfl rfl (take_ofW HT_.out HW_.out (by kernel_rfl)) (fun _ _ _ h => h) (Or.inl ⟨by rfl, ?_⟩) hHeld ?_ ?_
          rotate_left
          ·
           rintro w' ⟨s0, s1, s2⟩
           go_simp
           with_reducible rfl
          rotate_left
          ·
           simp only [Act.put, List.setIfInBounds_toArray, List.set_cons_zero, List.set_cons_succ, i64_w, i32_w]
           rfl
          refine one_ (i := 14) (N := some 42) #[true, true, true, true, true, true, true, true, true, true, true, true, true, true, true, false, false, false] rfl rfl (one_of HT_.out (by kernel_rfl)) (by decide) fun K hK => ?_
          refine value_ (w1 := ?_) (v := ?_) (by rfl) rfl ?_ ?_
          rotate_left 2
          ·
           go_simp
           constructor
           ·
            rfl
           ·
            rfl
          refine hK.out _ _ ⟨(blk_cell (blk_alloc BK377.out _) 0).trans rfl, (blk_cell (blk_alloc BK377.out _) 1).trans rfl, (blk_cell (blk_alloc BK377.out _) 2).trans rfl⟩ (fun hHeld => ?_)
          clear hK K
          refine qq (some 42) ?_
          refine one_ (i := 15) (N := some 43) #[true, true, true, true, true, true, true, true, true, true, true, true, true, true, true, true, false, false] rfl rfl (one_of HT_.out (by kernel_rfl)) (by decide) fun K hK => ?_
          refine Kd.R_append_step (Kd.int .i64) (w0 := w) w.heap.size (by rfl) (.tmp 29) (.tmp 42) 24 3 (.int .i64 0) 8 rfl Try.underlying24 info3 rfl (by decide) (by omega) u378002 x378002_1 (Go.bits .or .i64 (Go.bits .and .i64 (rd l0_2 x20_1) (wrap64 ((ji18) - 1))) (ji23)) [.int .i64 (Go.bits .or .i64 (Go.bits .and .i64 (rd l0_2 x20_1) (wrap64 ((ji18) - 1))) (ji23))] (fun _ => True) (fun _ => False) rfl rfl ?aP (fun _ hk => hk.elim) ?aF ?aO ?aB ?aS ?aL ?_
          (case aP => exact rfl)
          (case aB => exact qb)
          (case aF => exact (fun _ _ => trivial))
          (case aO => exact (sqr Oq8))
          (case aS => exact (below_size qb))
          (case aL => have := LMc24.out; omega)
          intro v380 w26 ho hb hg hat
          rw [← Ny379.out] at ho
          have Oq2 := am (ho)
          replace BK375 := am (blk_grown (g := gb375) (o := .cells #[.int .i64 a0_0, .int .i64 a0_1, .slice (some ad378) l0_2.length c0_2] 26 (0, 0)) (sqb BK375) hg (Kd.R_ne Oq8.out BK375.out (by decide)))
          replace BK376 := am (blk_grown (g := gb376) (o := .cells #[.int .i64 0, .int .i64 0, .slice none 0 0] 26 (0, 0)) (sqb BK376) hg (Kd.R_ne Oq8.out BK376.out (by decide)))
          replace BK377 := am (blk_grown (g := gb377) (o := .cells #[.int .i64 (wrap64 (a0_0 - 1)), .int .i64 (wrap64 (a0_1 - 1)), u378002] 26 (0, 0)) (sqb BK377) hg (Kd.R_ne Oq8.out BK377.out (by decide)))
          replace HB := am hb
          clear Oq8
          clear ho hb hg hat
          obtain ⟨Ao27, co27, eo27⟩ := Kd.R_slice Oq2.out
          (first | subst eo27 | (injection eo27 with f1_ f2_ f3_; have f4_ := f1_.symm; have f5_ := f3_.symm; clear f1_ f2_ f3_; subst f4_; subst f5_))
          refine hK.out _ _ ⟨sqc BK377 0, sqc BK377 1, sqc BK377 2⟩ (fun hHeld => ?_)
          clear hK K
          refine qq (some 43) ?_
          refine qp 16 (some 44) #[true, true, true, true, true, true, true, true, true, true, true, true, true, true, true, true, true, false] ?_
          refine last_ (i := 17) (N := none) #[true, true, true, true, true, true, true, true, true, true, true, true, true, true, true, true, true, true] rfl rfl (one_of HT_.out (by kernel_rfl)) (by decide) fun K hK => ?_
          have hs28 : w26.cell? ⟨gb377, 2, none⟩ = some (u378002) := sqc BK377 2
          have hfs28 := blk_frozen BK377.out 2
          have hq0 := Nq1.out
          have hq1 := Nq3.out
          have hms28_0 := Nq4.out
          have hms28_1 := Nq5.out
          refine skip_ (w1 := ?_) (by rfl) rfl ?_ ?_
          rotate_left
          ·
           go_simp
           rfl
          refine hK.out _ _ ?_
          clear hK K
          refine done_ (done_of HT_.out (by kernel_rfl)) ?_
          try go_wp2
          go_roundg k1
          case measure => have := HK1.out; omega
          case rel => exact ⟨(wrap64 (x20_1 + 1)), (y379), (.slice Ao27 y379.length co27), Q3, H', ⟨Q55⟩, ⟨by (with_reducible repeat (first | apply Kd.R_alloc | apply Kd.R_drewN | apply Kd.R_drew)); exact Kd.R_mono (Kd.R_far (p := ⟨gb377, 2, none⟩) (Kd.R_types Oq2.out BK377.out (by decide)) (fun _ hk => hk.2) (.slice Ao27 y379.length co27)) (fun _ hk => trivial)⟩, ⟨by (with_reducible repeat (first | refine blk_drewN ?_ _ | refine blk_drew ?_ | refine blk_alloc ?_ _)); refine blk_far ?_ Nq1.out _; (with_reducible repeat (first | refine blk_drewN ?_ _ | refine blk_drew ?_ | refine blk_alloc ?_ _)); exact BK375.out⟩, ⟨by (with_reducible repeat (first | refine blk_drewN ?_ _ | refine blk_drew ?_ | refine blk_alloc ?_ _)); refine blk_far ?_ Nq3.out _; (with_reducible repeat (first | refine blk_drewN ?_ _ | refine blk_drew ?_ | refine blk_alloc ?_ _)); exact BK376.out⟩, ⟨by (with_reducible repeat (first | refine blk_drewN ?_ _ | refine blk_drew ?_ | refine blk_alloc ?_ _)); refine blk_put (cs := #[.int .i64 (wrap64 (a0_0 - 1)), .int .i64 (wrap64 (a0_1 - 1)), u378002]) ?_ 2 _ rfl; (with_reducible repeat (first | refine blk_drewN ?_ _ | refine blk_drew ?_ | refine blk_alloc ?_ _)); exact BK377.out⟩, ⟨qb⟩⟩
         ·
          rw [if_neg c24] at H
          exact absurd H (by simp)
        ·
         rw [if_neg c20] at H
         exact absurd H (by simp)
       ·
        rw [if_neg c17] at H
        exact absurd H (by simp)
     ·
      rw [if_neg c15] at H
      exact absurd H (by simp)
    ·
     rw [if_neg c14] at H
     exact absurd H (by simp)
   ·
    rw [if_neg c13] at H
    have c13b0 : decide (x20_1 < (l0_2.length : Int)) = false := decide_eq_false c13
    clear c13
    simp only [Option.some.injEq, Prod.mk.injEq] at H
    obtain ⟨rfl, rfl, rfl⟩ := H
    have bq6 := Nq4.out
    have cq6 := Nq1.out
    have bq7 := Nq5.out
    have cq7 := Nq3.out
    obtain ⟨zq42, zq43, zq44, fq42, fq43, fq44⟩ := qd BK377
    have bq8 := Nq2.out
    have cq8 := Nq0.out
    obtain ⟨zq45, zq46, zq47, fq45, fq46, fq47⟩ := qd BK376
    obtain ⟨Ao34, co34, eo34⟩ := Kd.R_slice Oq8.out
    subst eo34
    go_wp2
    refine bodyPost_ret (results_cell_row rfl _ _ gb376 26 #[.int .i64 (wrap64 (a0_0 - 1)), .int .i64 (wrap64 (a0_1 - 1)), .slice Ao34 x378002_1.length co34] (0, 0) _ rfl (by (with_reducible repeat (first | refine blk_drewN ?_ _ | refine blk_drew ?_ | refine blk_alloc ?_ _)); refine blk_put (cs := #[.int .i64 (wrap64 (a0_0 - 1)), .int .i64 (wrap64 (a0_1 - 1)), .slice none 0 0]) ?_ 2 _ rfl; (with_reducible repeat (first | refine blk_drewN ?_ _ | refine blk_drew ?_ | refine blk_alloc ?_ _)); refine blk_put (cs := #[.int .i64 (wrap64 (a0_0 - 1)), .int .i64 0, .slice none 0 0]) ?_ 1 _ rfl; (with_reducible repeat (first | refine blk_drewN ?_ _ | refine blk_drew ?_ | refine blk_alloc ?_ _)); refine blk_put (cs := #[.int .i64 0, .int .i64 0, .slice none 0 0]) ?_ 0 _ rfl; (with_reducible repeat (first | refine blk_drewN ?_ _ | refine blk_drew ?_ | refine blk_alloc ?_ _)); exact BK376.out) Try.underlying26 rfl (by kernel_rfl)) rfl ?_
    exact ⟨_, Q1, by (with_reducible repeat (first | apply Kd.R_alloc | apply Kd.R_drewN | apply Kd.R_drew)); exact Kd.R_mono (Kd.R_far (p := ⟨gb376, 2, none⟩) (Kd.R_far (p := ⟨gb376, 1, none⟩) (Kd.R_far (p := ⟨gb376, 0, none⟩) (Kd.R_types Oq8.out BK376.out (by decide)) (fun _ hk => hk.2) (.int .i64 (wrap64 (a0_0 - 1)))) (fun _ hk => hk.2) (.int .i64 (wrap64 (a0_1 - 1)))) (fun _ hk => hk.2) (.slice Ao34 x378002_1.length co34)) (fun _ hk => trivial), qb⟩

/-! ### spec_StrikeCell: function 18 -/
def spec_StrikeCell.f (k : Nat) (a0_0 : Int) (a0_1 : Int) (l0_2 : List Int) (a1 : Int) (a2 : Int) : Option (Int × Int × List Int × Bool) := (spec_boPlace.f k a0_0 a0_1 l0_2 a1 a2).bind fun t384 => (if t384 = true then (if a0_0 = 1 then (some (0, 0, ([] : List Int), false)) else (if a0_1 = 1 then (some (0, 0, ([] : List Int), false)) else ((spec_boStrike.f k a0_0 a0_1 l0_2 a1 a2).bind fun bt385 => (some (bt385.1, bt385.2.1, bt385.2.2, true))))) else (some (0, 0, ([] : List Int), false)))
set_option maxHeartbeats 8000000 in
set_option maxRecDepth 100000 in
theorem spec_StrikeCell.calls (k : Nat) (a0_0 : Int) (a0_1 : Int) (A0_2 : Option Addr) (c0_2 : Nat) (l0_2 : List Int) (a1 : Int) (a2 : Int) (r1 : Int) (r2 : Int) (r3 : List Int) (r4 : Bool) (w : World) (hr0_2 : Kd.C (Kd.int .i64) w A0_2 l0_2.length l0_2) (hc0_2 : l0_2.length ≤ c0_2) (h : spec_StrikeCell.f k a0_0 a0_1 l0_2 a1 a2 = some (r1, r2, r3, r4)) :
  Calls Try.prog 18 #[.agg #[.int .i64 a0_0, .int .i64 a0_1, .slice A0_2 l0_2.length c0_2], .int .i64 a1, .int .i64 a2] w fun e w' => ∃ v2_ : Value, e = .returned (.tuple #[.agg #[.int .i64 r1, .int .i64 r2, v2_], .bool r4]) ∧ Kd.R (Kd.int .i64) 3 w' w.heap.size (fun _ => True) v2_ r3 ∧ Below w.heap.size w w' := by
 have hu26 := Try.underlying26
 have HR0_2 := Aside0.mk hr0_2
 have HC0_2 := Aside0.mk hc0_2
 clear hr0_2 hc0_2
 have HB := am (Below.refl w.heap.size w)
 have H : ((spec_boPlace.f k a0_0 a0_1 l0_2 a1 a2).bind fun t384 => (if t384 = true then (if a0_0 = 1 then (some (0, 0, ([] : List Int), false)) else (if a0_1 = 1 then (some (0, 0, ([] : List Int), false)) else ((spec_boStrike.f k a0_0 a0_1 l0_2 a1 a2).bind fun bt385 => (some (bt385.1, bt385.2.1, bt385.2.2, true))))) else (some (0, 0, ([] : List Int), false)))) = some (r1, r2, r3, r4) := h
 clear h
 replace H := qE H
 obtain ⟨t384, A4, H⟩ := H
 replace H : (if t384 = true then (if a0_0 = 1 then (some (0, 0, ([] : List Int), false)) else (if a0_1 = 1 then (some (0, 0, ([] : List Int), false)) else ((spec_boStrike.f k a0_0 a0_1 l0_2 a1 a2).bind fun bt385 => (some (bt385.1, bt385.2.1, bt385.2.2, true))))) else (some (0, 0, ([] : List Int), false))) = some (r1, r2, r3, r4) := H
 by_cases c5 : t384 = true
 ·
  subst c5
  have H1 : (if a0_0 = 1 then (some (0, 0, ([] : List Int), false)) else (if a0_1 = 1 then (some (0, 0, ([] : List Int), false)) else ((spec_boStrike.f k a0_0 a0_1 l0_2 a1 a2).bind fun bt385 => (some (bt385.1, bt385.2.1, bt385.2.2, true))))) = some (r1, r2, r3, r4) := by first | (rw [if_pos rfl] at H; exact H) | rfl
  clear H
  have H := H1
  clear H1
  by_cases c6 : a0_0 = 1
  ·
   rw [if_pos c6] at H
   have c6b0 : (a0_0 == 1) = true := beq_iff_eq.mpr c6
   have c6b1 : (a0_0 != 1) = false := bne_eq_false_iff_eq.mpr c6
   clear c6
   simp only [Option.some.injEq, Prod.mk.injEq] at H
   obtain ⟨rfl, rfl, rfl, rfl⟩ := H
   go_enter Try.func18, Try.ntmps18
   go_wp2_with (first | ((with_reducible refine gate_dst (N := 3) rfl ?_); refine qv 3 #[.int .i64 a0_0, .int .i64 a0_1, .slice A0_2 l0_2.length c0_2] 26 ?_; intro gb382 hg w7 hbox hb; have BK382 := am hbox; have GW382 := qw hg; have GE382 := qw hg; replace HB := qs hb; clear hb hbox hg) | ((with_reducible refine gate_dst (N := 6) rfl ?_); refine qv 6 #[.int .i64 0, .int .i64 0, .slice none 0 0] 26 ?_; intro gb383 hg w8 hbox hb; have BK383 := am hbox; have GW383 := qw hg; have GE383 := qw hg; have Nq6 := qn hg BK382; have Nq7 := qN hg BK382; replace BK382 := sqB BK382 hb; replace HB := qs hb; clear hb hbox hg; have bq14 := Nq6.out; have cq14 := Nq7.out; obtain ⟨zq0, zq1, zq2, fq0, fq1, fq2⟩ := qd BK382) | ((with_reducible refine gate_callee (f := 69) rfl ?_); refine qg (some 11) Try.func69 #[.agg #[.int .i64 a0_0, .int .i64 a0_1, .slice A0_2 l0_2.length c0_2], .int .i64 a1, .int .i64 a2] ?_; (with_reducible refine (spec_boPlace.calls k a0_0 a0_1 _ _ l0_2 a1 a2 true _ ?side1 HC0_2.out A4.out).mono ?_); (case side1 => exact Q0); rintro e w11 ⟨rfl, hb⟩; refine ⟨_, rfl, ?_⟩; replace BK382 := sqB BK382 hb; replace BK383 := sqB BK383 hb; replace HB := qs hb; (try clear hb); obtain ⟨zq6, zq7, zq8, fq6, fq7, fq8⟩ := qd BK382; obtain ⟨zq9, zq10, zq11, fq9, fq10, fq11⟩ := qd BK383))
   refine bodyPost_ret (results_ct rfl _ _ gb383 26 #[.int .i64 0, .int .i64 0, .slice none 0 0] (0, 0) _ rfl Q10 Try.underlying26 rfl (by kernel_rfl)) rfl ?_
   exact ⟨_, Q1, Q11, qb⟩
  ·
   rw [if_neg c6] at H
   have c6b0 : (a0_0 == 1) = false := beq_eq_false_iff_ne.mpr c6
   have c6b1 : (a0_0 != 1) = true := bne_iff_ne.mpr c6
   by_cases c14 : a0_1 = 1
   ·
    rw [if_pos c14] at H
    have c14b0 : (a0_1 == 1) = true := beq_iff_eq.mpr c14
    have c14b1 : (a0_1 != 1) = false := bne_eq_false_iff_eq.mpr c14
    clear c14
    simp only [Option.some.injEq, Prod.mk.injEq] at H
    obtain ⟨rfl, rfl, rfl, rfl⟩ := H
    go_enter Try.func18, Try.ntmps18
    go_wp2_with (first | ((with_reducible refine gate_dst (N := 3) rfl ?_); refine qv 3 #[.int .i64 a0_0, .int .i64 a0_1, .slice A0_2 l0_2.length c0_2] 26 ?_; intro gb382 hg w15 hbox hb; have BK382 := am hbox; have GW382 := qw hg; have GE382 := qw hg; replace HB := qs hb; clear hb hbox hg) | ((with_reducible refine gate_dst (N := 6) rfl ?_); refine qv 6 #[.int .i64 0, .int .i64 0, .slice none 0 0] 26 ?_; intro gb383 hg w16 hbox hb; have BK383 := am hbox; have GW383 := qw hg; have GE383 := qw hg; have Nq6 := qn hg BK382; have Nq7 := qN hg BK382; replace BK382 := sqB BK382 hb; replace HB := qs hb; clear hb hbox hg; have bq4 := Nq6.out; have cq4 := Nq7.out; obtain ⟨zq18, zq19, zq20, fq18, fq19, fq20⟩ := qd BK382) | ((with_reducible refine gate_callee (f := 69) rfl ?_); refine qg (some 11) Try.func69 #[.agg #[.int .i64 a0_0, .int .i64 a0_1, .slice A0_2 l0_2.length c0_2], .int .i64 a1, .int .i64 a2] ?_; (with_reducible refine (spec_boPlace.calls k a0_0 a0_1 _ _ l0_2 a1 a2 true _ ?side1 HC0_2.out A4.out).mono ?_); (case side1 => exact Q0); rintro e w19 ⟨rfl, hb⟩; refine ⟨_, rfl, ?_⟩; replace BK382 := sqB BK382 hb; replace BK383 := sqB BK383 hb; replace HB := qs hb; (try clear hb); obtain ⟨zq24, zq25, zq26, fq24, fq25, fq26⟩ := qd BK382; obtain ⟨zq27, zq28, zq29, fq27, fq28, fq29⟩ := qd BK383))
    refine bodyPost_ret (results_ct rfl _ _ gb383 26 #[.int .i64 0, .int .i64 0, .slice none 0 0] (0, 0) _ rfl Q10 Try.underlying26 rfl (by kernel_rfl)) rfl ?_
    exact ⟨_, Q1, Q11, qb⟩
   ·
    rw [if_neg c14] at H
    have c14b0 : (a0_1 == 1) = false := beq_eq_false_iff_ne.mpr c14
    have c14b1 : (a0_1 != 1) = true := bne_iff_ne.mpr c14
    replace H := qE H
    obtain ⟨⟨t385, t386, t387⟩, A22, H⟩ := H
    replace H : (some (t385, t386, t387, true)) = some (r1, r2, r3, r4) := H
    simp only [Option.some.injEq, Prod.mk.injEq] at H
    obtain ⟨rfl, rfl, rfl, rfl⟩ := H
    go_enter Try.func18, Try.ntmps18
    go_wp2_with (first | ((with_reducible refine gate_dst (N := 3) rfl ?_); refine qv 3 #[.int .i64 a0_0, .int .i64 a0_1, .slice A0_2 l0_2.length c0_2] 26 ?_; intro gb382 hg w23 hbox hb; have BK382 := am hbox; have GW382 := qw hg; have GE382 := qw hg; replace HB := qs hb; clear hb hbox hg) | ((with_reducible refine gate_dst (N := 6) rfl ?_); refine qv 6 #[.int .i64 0, .int .i64 0, .slice none 0 0] 26 ?_; intro gb383 hg w24 hbox hb; have BK383 := am hbox; have GW383 := qw hg; have GE383 := qw hg; have Nq6 := qn hg BK382; have Nq7 := qN hg BK382; replace BK382 := sqB BK382 hb; replace HB := qs hb; clear hb hbox hg; have bq5 := Nq6.out; have cq5 := Nq7.out; obtain ⟨zq33, zq34, zq35, fq33, fq34, fq35⟩ := qd BK382) | ((with_reducible refine gate_callee (f := 69) rfl ?_); refine qg (some 11) Try.func69 #[.agg #[.int .i64 a0_0, .int .i64 a0_1, .slice A0_2 l0_2.length c0_2], .int .i64 a1, .int .i64 a2] ?_; (with_reducible refine (spec_boPlace.calls k a0_0 a0_1 _ _ l0_2 a1 a2 true _ ?side1 HC0_2.out A4.out).mono ?_); (case side1 => exact Q0); rintro e w27 ⟨rfl, hb⟩; refine ⟨_, rfl, ?_⟩; replace BK382 := sqB BK382 hb; replace BK383 := sqB BK383 hb; replace HB := qs hb; (try clear hb); obtain ⟨zq36, zq37, zq38, fq36, fq37, fq38⟩ := qd BK382) | ((with_reducible refine gate_callee (f := 70) rfl ?_); refine qg (some 27) Try.func70 #[.agg #[.int .i64 a0_0, .int .i64 a0_1, .slice A0_2 l0_2.length c0_2], .int .i64 a1, .int .i64 a2] ?_; (with_reducible refine (spec_boStrike.calls k a0_0 a0_1 _ _ l0_2 a1 a2 t385 t386 t387 _ ?side1 HC0_2.out A22.out).mono ?_); (case side1 => exact Q0); rintro e w29 ⟨v388, rfl, ho0, hb⟩; refine ⟨_, rfl, ?_⟩; have Oq3 := ql ho0; replace BK382 := sqB BK382 hb; replace BK383 := sqB BK383 hb; replace HB := qs hb; (try clear hb ho0); obtain ⟨zq39, zq40, zq41, fq39, fq40, fq41⟩ := qd BK383; obtain ⟨Ao31, co31, eo31⟩ := Kd.R_slice Oq3.out; subst eo31))
    refine bodyPost_ret (results_ct rfl _ _ gb383 26 #[.int .i64 t385, .int .i64 t386, .slice Ao31 t387.length co31] (0, 0) _ rfl (by (with_reducible repeat (first | refine blk_drewN ?_ _ | refine blk_drew ?_ | refine blk_alloc ?_ _)); refine blk_put (cs := #[.int .i64 t385, .int .i64 t386, .slice none 0 0]) ?_ 2 _ rfl; (with_reducible repeat (first | refine blk_drewN ?_ _ | refine blk_drew ?_ | refine blk_alloc ?_ _)); refine blk_put (cs := #[.int .i64 t385, .int .i64 0, .slice none 0 0]) ?_ 1 _ rfl; (with_reducible repeat (first | refine blk_drewN ?_ _ | refine blk_drew ?_ | refine blk_alloc ?_ _)); refine blk_put (cs := #[.int .i64 0, .int .i64 0, .slice none 0 0]) ?_ 0 _ rfl; (with_reducible repeat (first | refine blk_drewN ?_ _ | refine blk_drew ?_ | refine blk_alloc ?_ _)); exact BK383.out) Try.underlying26 rfl (by kernel_rfl)) rfl ?_
    exact ⟨_, Q1, by (with_reducible repeat (first | apply Kd.R_alloc | apply Kd.R_drewN | apply Kd.R_drew)); exact Kd.R_mono (Kd.R_far (p := ⟨gb383, 2, none⟩) (Kd.R_far (p := ⟨gb383, 1, none⟩) (Kd.R_far (p := ⟨gb383, 0, none⟩) (Kd.R_types Oq3.out BK383.out (by decide)) (fun _ hk => hk.2) (.int .i64 t385)) (fun _ hk => hk.2) (.int .i64 t386)) (fun _ hk => hk.2) (.slice Ao31 t387.length co31)) (fun _ hk => trivial), qb⟩
 ·
  replace c5 := Bool.eq_false_iff.mpr c5
  subst c5
  have H1 : (some (0, 0, ([] : List Int), false)) = some (r1, r2, r3, r4) := by first | (rw [if_neg (show ¬ (false = true) by decide)] at H; exact H) | rfl
  clear H
  have H := H1
  clear H1
  simp only [Option.some.injEq, Prod.mk.injEq] at H
  obtain ⟨rfl, rfl, rfl, rfl⟩ := H
  go_enter Try.func18, Try.ntmps18
  go_wp2_with (first | ((with_reducible refine gate_dst (N := 3) rfl ?_); refine qv 3 #[.int .i64 a0_0, .int .i64 a0_1, .slice A0_2 l0_2.length c0_2] 26 ?_; intro gb382 hg w32 hbox hb; have BK382 := am hbox; have GW382 := qw hg; have GE382 := qw hg; replace HB := qs hb; clear hb hbox hg) | ((with_reducible refine gate_dst (N := 6) rfl ?_); refine qv 6 #[.int .i64 0, .int .i64 0, .slice none 0 0] 26 ?_; intro gb383 hg w33 hbox hb; have BK383 := am hbox; have GW383 := qw hg; have GE383 := qw hg; have Nq6 := qn hg BK382; have Nq7 := qN hg BK382; replace BK382 := sqB BK382 hb; replace HB := qs hb; clear hb hbox hg; have bq9 := Nq6.out; have cq9 := Nq7.out; obtain ⟨zq48, zq49, zq50, fq48, fq49, fq50⟩ := qd BK382) | ((with_reducible refine gate_callee (f := 69) rfl ?_); refine qg (some 11) Try.func69 #[.agg #[.int .i64 a0_0, .int .i64 a0_1, .slice A0_2 l0_2.length c0_2], .int .i64 a1, .int .i64 a2] ?_; (with_reducible refine (spec_boPlace.calls k a0_0 a0_1 _ _ l0_2 a1 a2 false _ ?side1 HC0_2.out A4.out).mono ?_); (case side1 => exact Q0); rintro e w36 ⟨rfl, hb⟩; refine ⟨_, rfl, ?_⟩; replace BK382 := sqB BK382 hb; replace BK383 := sqB BK383 hb; replace HB := qs hb; (try clear hb); obtain ⟨zq51, zq52, zq53, fq51, fq52, fq53⟩ := qd BK383))
  refine bodyPost_ret (results_ct rfl _ _ gb383 26 #[.int .i64 0, .int .i64 0, .slice none 0 0] (0, 0) _ rfl Q10 Try.underlying26 rfl (by kernel_rfl)) rfl ?_
  exact ⟨_, Q1, Q11, qb⟩

/-! ### impl_HasCell: function 71 -/
def impl_HasCell.f (a0_0 : Int) (a0_1 : Int) (l0_2 : List Int) (a1 : Int) (a2 : Int) : Option (Bool × Bool) := (impl_IsBoard.f a0_0 a0_1 l0_2).bind fun t391 => (if t391 = true then ((impl_Board_place.f a0_0 a0_1 l0_2 a1 a2).bind fun t392 => (if t392 = true then ((impl_Board_has.f a0_0 a0_1 l0_2 a1 a2).bind fun t393 => (some (t393, true))) else (some (false, false)))) else (some (false, false)))
set_option maxHeartbeats 8000000 in
set_option maxRecDepth 100000 in
theorem impl_HasCell.calls (a0_0 : Int) (a0_1 : Int) (A0_2 : Option Addr) (c0_2 : Nat) (l0_2 : List Int) (a1 : Int) (a2 : Int) (r1 : Bool) (r2 : Bool) (w : World) (hr0_2 : Kd.C (Kd.int .i64) w A0_2 l0_2.length l0_2) (hc0_2 : l0_2.length ≤ c0_2) (h : impl_HasCell.f a0_0 a0_1 l0_2 a1 a2 = some (r1, r2)) :
  Calls Try.prog 71 #[.agg #[.int .i64 a0_0, .int .i64 a0_1, .slice A0_2 l0_2.length c0_2], .int .i64 a1, .int .i64 a2] w fun e w' => e = .returned (.tuple #[.bool r1, .bool r2]) ∧ Below w.heap.size w w' := by
 have hu26 := Try.underlying26
 have HR0_2 := Aside0.mk hr0_2
 have HC0_2 := Aside0.mk hc0_2
 clear hr0_2 hc0_2
 have HB := am (Below.refl w.heap.size w)
 have H : ((impl_IsBoard.f a0_0 a0_1 l0_2).bind fun t391 => (if t391 = true then ((impl_Board_place.f a0_0 a0_1 l0_2 a1 a2).bind fun t392 => (if t392 = true then ((impl_Board_has.f a0_0 a0_1 l0_2 a1 a2).bind fun t393 => (some (t393, true))) else (some (false, false)))) else (some (false, false)))) = some (r1, r2) := h
 clear h
 replace H := qE H
 obtain ⟨t391, A4, H⟩ := H
 replace H : (if t391 = true then ((impl_Board_place.f a0_0 a0_1 l0_2 a1 a2).bind fun t392 => (if t392 = true then ((impl_Board_has.f a0_0 a0_1 l0_2 a1 a2).bind fun t393 => (some (t393, true))) else (some (false, false)))) else (some (false, false))) = some (r1, r2) := H
 by_cases c5 : t391 = true
 ·
  subst c5
  have H1 : ((impl_Board_place.f a0_0 a0_1 l0_2 a1 a2).bind fun t392 => (if t392 = true then ((impl_Board_has.f a0_0 a0_1 l0_2 a1 a2).bind fun t393 => (some (t393, true))) else (some (false, false)))) = some (r1, r2) := by first | (rw [if_pos rfl] at H; exact H) | rfl
  clear H
  have H := H1
  clear H1
  replace H := qE H
  obtain ⟨t392, A6, H⟩ := H
  replace H : (if t392 = true then ((impl_Board_has.f a0_0 a0_1 l0_2 a1 a2).bind fun t393 => (some (t393, true))) else (some (false, false))) = some (r1, r2) := H
  by_cases c7 : t392 = true
  ·
   subst c7
   have H1 : ((impl_Board_has.f a0_0 a0_1 l0_2 a1 a2).bind fun t393 => (some (t393, true))) = some (r1, r2) := by first | (rw [if_pos rfl] at H; exact H) | rfl
   clear H
   have H := H1
   clear H1
   replace H := qE H
   obtain ⟨t393, A8, H⟩ := H
   replace H : (some (t393, true)) = some (r1, r2) := H
   simp only [Option.some.injEq, Prod.mk.injEq] at H
   obtain ⟨rfl, rfl⟩ := H
   go_enter Try.func71, Try.ntmps71
   go_wp2_with (first | ((with_reducible refine gate_dst (N := 3) rfl ?_); refine qv 3 #[.int .i64 a0_0, .int .i64 a0_1, .slice A0_2 l0_2.length c0_2] 26 ?_; intro gb390 hg w9 hbox hb; have BK390 := am hbox; have GW390 := qw hg; have GE390 := qw hg; replace HB := qs hb; clear hb hbox hg; obtain ⟨zq0, zq1, zq2, fq0, fq1, fq2⟩ := qd BK390) | ((with_reducible refine gate_callee (f := 66) rfl ?_); refine qg (some 9) Try.func66 #[.agg #[.int .i64 a0_0, .int .i64 a0_1, .slice A0_2 l0_2.length c0_2]] ?_; (with_reducible refine (impl_IsBoard.calls a0_0 a0_1 _ _ l0_2 true _ ?side1 HC0_2.out A4.out).mono ?_); (case side1 => exact Q0); rintro e w11 ⟨rfl, hb⟩; refine ⟨_, rfl, ?_⟩; replace BK390 := sqB BK390 hb; replace HB := qs hb; (try clear hb); obtain ⟨zq6, zq7, zq8, fq6, fq7, fq8⟩ := qd BK390) | (go_at_call 67; (with_reducible refine (impl_Board_place.calls a0_0 a0_1 _ _ l0_2 a1 a2 true _ ?side1 HC0_2.out A6.out).mono ?_); (case side1 => exact Q0); rintro e w13 ⟨rfl, hb⟩; replace BK390 := sqB BK390 hb; replace HB := qs hb; (try clear hb); obtain ⟨zq12, zq13, zq14, fq12, fq13, fq14⟩ := qd BK390) | ((with_reducible refine gate_callee (f := 120) rfl ?_); refine qg (some 21) Try.func120 #[.agg #[.int .i64 a0_0, .int .i64 a0_1, .slice A0_2 l0_2.length c0_2], .int .i64 a1, .int .i64 a2] ?_; (with_reducible refine (impl_Board_has.calls a0_0 a0_1 _ _ l0_2 a1 a2 t393 _ ?side1 HC0_2.out A8.out).mono ?_); (case side1 => exact Q0); rintro e w15 ⟨rfl, hb⟩; refine ⟨_, rfl, ?_⟩; replace BK390 := sqB BK390 hb; replace HB := qs hb; (try clear hb)))
   go_ret2
   exact ⟨Q1, qb⟩
  ·
   replace c7 := Bool.eq_false_iff.mpr c7
   subst c7
   have H1 : (some (false, false)) = some (r1, r2) := by first | (rw [if_neg (show ¬ (false = true) by decide)] at H; exact H) | rfl
   clear H
   have H := H1
   clear H1
   simp only [Option.some.injEq, Prod.mk.injEq] at H
   obtain ⟨rfl, rfl⟩ := H
   go_enter Try.func71, Try.ntmps71
   go_wp2_with (first | ((with_reducible refine gate_dst (N := 3) rfl ?_); refine qv 3 #[.int .i64 a0_0, .int .i64 a0_1, .slice A0_2 l0_2.length c0_2] 26 ?_; intro gb390 hg w16 hbox hb; have BK390 := am hbox; have GW390 := qw hg; have GE390 := qw hg; replace HB := qs hb; clear hb hbox hg; obtain ⟨zq15, zq16, zq17, fq15, fq16, fq17⟩ := qd BK390) | ((with_reducible refine gate_callee (f := 66) rfl ?_); refine qg (some 9) Try.func66 #[.agg #[.int .i64 a0_0, .int .i64 a0_1, .slice A0_2 l0_2.length c0_2]] ?_; (with_reducible refine (impl_IsBoard.calls a0_0 a0_1 _ _ l0_2 true _ ?side1 HC0_2.out A4.out).mono ?_); (case side1 => exact Q0); rintro e w18 ⟨rfl, hb⟩; refine ⟨_, rfl, ?_⟩; replace BK390 := sqB BK390 hb; replace HB := qs hb; (try clear hb); obtain ⟨zq21, zq22, zq23, fq21, fq22, fq23⟩ := qd BK390) | (go_at_call 67; (with_reducible refine (impl_Board_place.calls a0_0 a0_1 _ _ l0_2 a1 a2 false _ ?side1 HC0_2.out A6.out).mono ?_); (case side1 => exact Q0); rintro e w20 ⟨rfl, hb⟩; replace BK390 := sqB BK390 hb; replace HB := qs hb; (try clear hb)))
   go_ret2
   exact ⟨Q1, qb⟩
 ·
  replace c5 := Bool.eq_false_iff.mpr c5
  subst c5
  have H1 : (some (false, false)) = some (r1, r2) := by first | (rw [if_neg (show ¬ (false = true) by decide)] at H; exact H) | rfl
  clear H
  have H := H1
  clear H1
  simp only [Option.some.injEq, Prod.mk.injEq] at H
  obtain ⟨rfl, rfl⟩ := H
  go_enter Try.func71, Try.ntmps71
  go_wp2_with (first | ((with_reducible refine gate_dst (N := 3) rfl ?_); refine qv 3 #[.int .i64 a0_0, .int .i64 a0_1, .slice A0_2 l0_2.length c0_2] 26 ?_; intro gb390 hg w21 hbox hb; have BK390 := am hbox; have GW390 := qw hg; have GE390 := qw hg; replace HB := qs hb; clear hb hbox hg; obtain ⟨zq30, zq31, zq32, fq30, fq31, fq32⟩ := qd BK390) | ((with_reducible refine gate_callee (f := 66) rfl ?_); refine qg (some 9) Try.func66 #[.agg #[.int .i64 a0_0, .int .i64 a0_1, .slice A0_2 l0_2.length c0_2]] ?_; (with_reducible refine (impl_IsBoard.calls a0_0 a0_1 _ _ l0_2 false _ ?side1 HC0_2.out A4.out).mono ?_); (case side1 => exact Q0); rintro e w23 ⟨rfl, hb⟩; refine ⟨_, rfl, ?_⟩; replace BK390 := sqB BK390 hb; replace HB := qs hb; (try clear hb)))
  go_ret2
  exact ⟨Q1, qb⟩

/-! ### laws_rOn: function 19 -/
def laws_rOn.f (a0_0 : Int) (a0_1 : Int) (l0_2 : List Int) (a1 : Int) (a2 : Int) : Option (Bool) := (impl_HasCell.f a0_0 a0_1 l0_2 a1 a2).bind fun bt395 => (if bt395.2 = true then (some bt395.1) else (some false))
set_option maxHeartbeats 8000000 in
set_option maxRecDepth 100000 in
theorem laws_rOn.calls (a0_0 : Int) (a0_1 : Int) (A0_2 : Option Addr) (c0_2 : Nat) (l0_2 : List Int) (a1 : Int) (a2 : Int) (r : Bool) (w : World) (hr0_2 : Kd.C (Kd.int .i64) w A0_2 l0_2.length l0_2) (hc0_2 : l0_2.length ≤ c0_2) (h : laws_rOn.f a0_0 a0_1 l0_2 a1 a2 = some r) :
  Calls Try.prog 19 #[.agg #[.int .i64 a0_0, .int .i64 a0_1, .slice A0_2 l0_2.length c0_2], .int .i64 a1, .int .i64 a2] w fun e w' => e = .returned (.bool r) ∧ Below w.heap.size w w' := by
 have hu26 := Try.underlying26
 have HR0_2 := Aside0.mk hr0_2
 have HC0_2 := Aside0.mk hc0_2
 clear hr0_2 hc0_2
 have HB := am (Below.refl w.heap.size w)
 have H : ((impl_HasCell.f a0_0 a0_1 l0_2 a1 a2).bind fun bt395 => (if bt395.2 = true then (some bt395.1) else (some false))) = some r := h
 clear h
 replace H := qE H
 obtain ⟨⟨t395, t396⟩, A4, H⟩ := H
 replace H : (if t396 = true then (some t395) else (some false)) = some r := H
 by_cases c5 : t396 = true
 ·
  subst c5
  have H1 : (some t395) = some r := by first | (rw [if_pos rfl] at H; exact H) | rfl
  clear H
  have H := H1
  clear H1
  obtain rfl := Option.some.inj H
  go_enter Try.func19, Try.ntmps19
  go_wp2_with (first | ((with_reducible refine gate_dst (N := 3) rfl ?_); refine qv 3 #[.int .i64 a0_0, .int .i64 a0_1, .slice A0_2 l0_2.length c0_2] 26 ?_; intro gb394 hg w6 hbox hb; have BK394 := am hbox; have GW394 := qw hg; have GE394 := qw hg; replace HB := qs hb; clear hb hbox hg; obtain ⟨zq57, zq58, zq59, fq57, fq58, fq59⟩ := qd BK394) | ((with_reducible refine gate_callee (f := 71) rfl ?_); refine qg (some 13) Try.func71 #[.agg #[.int .i64 a0_0, .int .i64 a0_1, .slice A0_2 l0_2.length c0_2], .int .i64 a1, .int .i64 a2] ?_; (with_reducible refine (impl_HasCell.calls a0_0 a0_1 _ _ l0_2 a1 a2 t395 true _ ?side1 HC0_2.out A4.out).mono ?_); (case side1 => exact Q0); rintro e w8 ⟨rfl, hb⟩; refine ⟨_, rfl, ?_⟩; replace BK394 := sqB BK394 hb; replace HB := qs hb; (try clear hb)))
  go_ret
  exact ⟨Q1, qb⟩
 ·
  replace c5 := Bool.eq_false_iff.mpr c5
  subst c5
  have H1 : (some false) = some r := by first | (rw [if_neg (show ¬ (false = true) by decide)] at H; exact H) | rfl
  clear H
  have H := H1
  clear H1
  obtain rfl := Option.some.inj H
  go_enter Try.func19, Try.ntmps19
  go_wp2_with (first | ((with_reducible refine gate_dst (N := 3) rfl ?_); refine qv 3 #[.int .i64 a0_0, .int .i64 a0_1, .slice A0_2 l0_2.length c0_2] 26 ?_; intro gb394 hg w9 hbox hb; have BK394 := am hbox; have GW394 := qw hg; have GE394 := qw hg; replace HB := qs hb; clear hb hbox hg; obtain ⟨zq0, zq1, zq2, fq0, fq1, fq2⟩ := qd BK394) | ((with_reducible refine gate_callee (f := 71) rfl ?_); refine qg (some 13) Try.func71 #[.agg #[.int .i64 a0_0, .int .i64 a0_1, .slice A0_2 l0_2.length c0_2], .int .i64 a1, .int .i64 a2] ?_; (with_reducible refine (impl_HasCell.calls a0_0 a0_1 _ _ l0_2 a1 a2 t395 false _ ?side1 HC0_2.out A4.out).mono ?_); (case side1 => exact Q0); rintro e w11 ⟨rfl, hb⟩; refine ⟨_, rfl, ?_⟩; replace BK394 := sqB BK394 hb; replace HB := qs hb; (try clear hb)))
  go_ret
  exact ⟨Q1, qb⟩

/-! ### spec_DrawStackBoards: function 20 -/
def spec_DrawStackBoards.f (k : Nat) (l0 : List Int) : Option (Int × Int × List Int × Int × Int × List Int) := (spec_l1Cur_one.f l0 0 0 5).bind fun bt400 => (if bt400.1 = true then ((spec_l1Cur_board.f k l0 bt400.2.1 bt400.2.2).bind fun bt403 => ((spec_l1Cur_board.f k l0 bt403.2.2.2.1 bt403.2.2.2.2).bind fun bt410 => (some (bt403.1, bt403.2.1, bt403.2.2.1, bt410.1, bt410.2.1, bt410.2.2.1)))) else ((spec_l1Cur_pick.f l0 bt400.2.1 bt400.2.2 3).bind fun bt417 => ((spec_l1Cur_pick.f l0 bt417.2.1 bt417.2.2 3).bind fun bt420 => ((spec_l1Cur_boardOf.f k l0 bt420.2.1 bt420.2.2 (wrap64 (1 + bt417.1)) (wrap64 (1 + bt420.1))).bind fun bt423 => ((spec_l1Cur_pick.f l0 bt423.2.2.2.1 bt423.2.2.2.2 3).bind fun bt430 => ((spec_l1Cur_pick.f l0 bt430.2.1 bt430.2.2 3).bind fun bt433 => ((spec_l1Cur_boardOf.f k l0 bt433.2.1 bt433.2.2 (wrap64 (1 + bt430.1)) (wrap64 (1 + bt433.1))).bind fun bt436 => (some (bt423.1, bt423.2.1, bt423.2.2.1, bt436.1, bt436.2.1, bt436.2.2.1)))))))))
set_option maxHeartbeats 8000000 in
set_option maxRecDepth 100000 in
theorem spec_DrawStackBoards.calls (k : Nat) (A0 : Option Addr) (c0 : Nat) (l0 : List Int) (r1 : Int) (r2 : Int) (r3 : List Int) (r4 : Int) (r5 : Int) (r6 : List Int) (w : World) (hr0 : Kd.C (Kd.int .u8) w A0 l0.length l0) (hc0 : l0.length ≤ c0) (h : spec_DrawStackBoards.f k l0 = some (r1, r2, r3, r4, r5, r6)) :
  Calls Try.prog 20 #[.slice A0 l0.length c0] w fun e w' => ∃ v2_ v5_ : Value, e = .returned (.tuple #[.agg #[.int .i64 r1, .int .i64 r2, v2_], .agg #[.int .i64 r4, .int .i64 r5, v5_]]) ∧ Kd.R (Kd.int .i64) 3 w' w.heap.size (fun k_ => some k_ ≠ (v5_ : Value).ownBlock) v2_ r3 ∧ Kd.R (Kd.int .i64) 3 w' w.heap.size (fun k_ => some k_ ≠ (v2_ : Value).ownBlock) v5_ r6 ∧ Below w.heap.size w w' := by
 have hu26 := Try.underlying26
 have hu66 := Try.underlying66
 have HR0 := Aside0.mk hr0
 have HC0 := Aside0.mk hc0
 clear hr0 hc0
 have HB := am (Below.refl w.heap.size w)
 have H : ((spec_l1Cur_one.f l0 0 0 5).bind fun bt400 => (if bt400.1 = true then ((spec_l1Cur_board.f k l0 bt400.2.1 bt400.2.2).bind fun bt403 => ((spec_l1Cur_board.f k l0 bt403.2.2.2.1 bt403.2.2.2.2).bind fun bt410 => (some (bt403.1, bt403.2.1, bt403.2.2.1, bt410.1, bt410.2.1, bt410.2.2.1)))) else ((spec_l1Cur_pick.f l0 bt400.2.1 bt400.2.2 3).bind fun bt417 => ((spec_l1Cur_pick.f l0 bt417.2.1 bt417.2.2 3).bind fun bt420 => ((spec_l1Cur_boardOf.f k l0 bt420.2.1 bt420.2.2 (wrap64 (1 + bt417.1)) (wrap64 (1 + bt420.1))).bind fun bt423 => ((spec_l1Cur_pick.f l0 bt423.2.2.2.1 bt423.2.2.2.2 3).bind fun bt430 => ((spec_l1Cur_pick.f l0 bt430.2.1 bt430.2.2 3).bind fun bt433 => ((spec_l1Cur_boardOf.f k l0 bt433.2.1 bt433.2.2 (wrap64 (1 + bt430.1)) (wrap64 (1 + bt433.1))).bind fun bt436 => (some (bt423.1, bt423.2.1, bt423.2.2.1, bt436.1, bt436.2.1, bt436.2.2.1)))))))))) = some (r1, r2, r3, r4, r5, r6) := h
 clear h
 replace H := qE H
 obtain ⟨⟨t400, t401, t402⟩, A2, H⟩ := H
 replace H : (if t400 = true then ((spec_l1Cur_board.f k l0 t401 t402).bind fun bt403 => ((spec_l1Cur_board.f k l0 bt403.2.2.2.1 bt403.2.2.2.2).bind fun bt410 => (some (bt403.1, bt403.2.1, bt403.2.2.1, bt410.1, bt410.2.1, bt410.2.2.1)))) else ((spec_l1Cur_pick.f l0 t401 t402 3).bind fun bt417 => ((spec_l1Cur_pick.f l0 bt417.2.1 bt417.2.2 3).bind fun bt420 => ((spec_l1Cur_boardOf.f k l0 bt420.2.1 bt420.2.2 (wrap64 (1 + bt417.1)) (wrap64 (1 + bt420.1))).bind fun bt423 => ((spec_l1Cur_pick.f l0 bt423.2.2.2.1 bt423.2.2.2.2 3).bind fun bt430 => ((spec_l1Cur_pick.f l0 bt430.2.1 bt430.2.2 3).bind fun bt433 => ((spec_l1Cur_boardOf.f k l0 bt433.2.1 bt433.2.2 (wrap64 (1 + bt430.1)) (wrap64 (1 + bt433.1))).bind fun bt436 => (some (bt423.1, bt423.2.1, bt423.2.2.1, bt436.1, bt436.2.1, bt436.2.2.1))))))))) = some (r1, r2, r3, r4, r5, r6) := H
 by_cases c3 : t400 = true
 ·
  subst c3
  have H1 : ((spec_l1Cur_board.f k l0 t401 t402).bind fun bt403 => ((spec_l1Cur_board.f k l0 bt403.2.2.2.1 bt403.2.2.2.2).bind fun bt410 => (some (bt403.1, bt403.2.1, bt403.2.2.1, bt410.1, bt410.2.1, bt410.2.2.1)))) = some (r1, r2, r3, r4, r5, r6) := by first | (rw [if_pos rfl] at H; exact H) | rfl
  clear H
  have H := H1
  clear H1
  replace H := qE H
  obtain ⟨⟨t403, t404, t405, t408, t409⟩, A4, H⟩ := H
  replace H : ((spec_l1Cur_board.f k l0 t408 t409).bind fun bt410 => (some (t403, t404, t405, bt410.1, bt410.2.1, bt410.2.2.1))) = some (r1, r2, r3, r4, r5, r6) := H
  replace H := qE H
  obtain ⟨⟨t410, t411, t412, t415, t416⟩, A5, H⟩ := H
  replace H : (some (t403, t404, t405, t410, t411, t412)) = some (r1, r2, r3, r4, r5, r6) := H
  simp only [Option.some.injEq, Prod.mk.injEq] at H
  obtain ⟨rfl, rfl, rfl, rfl, rfl, rfl⟩ := H
  go_enter Try.func20, Try.ntmps20
  go_wp2_with (first | ((with_reducible refine gate_dst (N := 2) rfl ?_); refine qv 2 #[.int .i64 0, .int .i64 0, .slice none 0 0] 26 ?_; intro gb397 hg w6 hbox hb; have BK397 := am hbox; have GW397 := qw hg; have GE397 := qw hg; replace HB := qs hb; clear hb hbox hg) | ((with_reducible refine gate_dst (N := 3) rfl ?_); refine qv 3 #[.int .i64 0, .int .i64 0, .slice none 0 0] 26 ?_; intro gb398 hg w7 hbox hb; have BK398 := am hbox; have GW398 := qw hg; have GE398 := qw hg; have Nq8 := qn hg BK397; have Nq10 := qN hg BK397; replace BK397 := sqB BK397 hb; replace HB := qs hb; clear hb hbox hg) | ((with_reducible refine gate_dst (N := 7) rfl ?_); refine qv 7 #[.slice A0 l0.length c0, .int .i64 0, .int .u64 0] 66 ?_; intro gb399 hg w8 hbox hb; have HI399 := am ((show IsS66 w w8 gb399 l0 0 0 from ⟨_, _, hbox, (by rw [hg]; exact (below_size qb) : w.heap.size ≤ gb399), HR0.out⟩)); have GW399 := qw hg; have GE399 := qw hg; have Nq9 := qn hg BK397; have Nq12 := qN hg BK397; have Nq11 := qn hg BK398; have Nq13 := qN hg BK398; replace BK397 := sqB BK397 hb; replace BK398 := sqB BK398 hb; replace HB := qs hb; clear hb hbox hg) | ((with_reducible refine gate_callee (f := 72) rfl ?_); refine qg (some 9) Try.func72 #[.pointer (some ⟨gb399, 0, none⟩), .int .i64 5] ?_; (with_reducible refine (spec_l1Cur_one.calls gb399 l0 0 0 5 true t401 t402 w _ ?side1 ?side2 A2.out).mono ?_); (case side1 => exact qi); (case side2 => exact qc); rintro e w9 ⟨rfl, hi, hb, hk⟩; refine ⟨_, rfl, ?_⟩; replace BK397 := qK BK397 hk Nq9; replace BK398 := qK BK398 hk Nq11; replace HB := am hb; replace HI399 := am hi; (try clear hb hk hi)) | ((with_reducible refine gate_callee (f := 62) rfl ?_); refine qg (some 11) Try.func62 #[.pointer (some ⟨gb399, 0, none⟩)] ?_; (with_reducible refine (spec_l1Cur_board.calls k gb399 l0 t401 t402 t403 t404 t405 t408 t409 w _ ?side1 ?side2 A4.out).mono ?_); (case side1 => exact qi); (case side2 => exact qc); rintro e w10 ⟨v406, rfl, ho0, hi, hb, hk⟩; refine ⟨_, rfl, ?_⟩; have Oq4 := qL ho0; replace BK397 := qK BK397 hk Nq9; replace BK398 := qK BK398 hk Nq11; replace HB := am hb; replace HI399 := am hi; (try clear hb hk hi ho0)) | ((with_reducible refine gate_callee (f := 62) rfl ?_); refine qg (some 13) Try.func62 #[.pointer (some ⟨gb399, 0, none⟩)] ?_; (with_reducible refine (spec_l1Cur_board.calls k gb399 l0 t408 t409 t410 t411 t412 t415 t416 w _ ?side1 ?side2 A5.out).mono ?_); (case side1 => exact qi); (case side2 => exact qc); rintro e w11 ⟨v413, rfl, ho0, hi, hb, hk⟩; refine ⟨_, rfl, ?_⟩; have Oq5 := am (Kd.R_lower (Kd.R_new' ho0 (sqL Oq4)) (below_size qc)); replace BK397 := qK BK397 hk Nq9; replace BK398 := qK BK398 hk Nq11; replace Oq4 := am (Kd.R_mono (Kd.R_told (Kd.R_oldK (IsS66.apart (show IsS66 w _ gb399 l0 t408 t409 from qi) (sqr Oq4) (by decide)) hk) (Kd.R_base ho0)) (fun _ h_ => h_.1)); replace HB := am hb; replace HI399 := am hi; (try clear hb hk hi ho0); have bq1 := Nq8.out; have cq1 := Nq10.out; have bq2 := Nq9.out; have cq2 := Nq12.out; obtain ⟨zq12, zq13, zq14, fq12, fq13, fq14⟩ := qd BK397; obtain ⟨Ao15, co15, eo15⟩ := Kd.R_slice Oq4.out; subst eo15; have bq3 := Nq11.out; have cq3 := Nq13.out; obtain ⟨zq15, zq16, zq17, fq15, fq16, fq17⟩ := qd BK398; obtain ⟨Ao18, co18, eo18⟩ := Kd.R_slice Oq5.out; subst eo18))
  refine bodyPost_ret (results_cc rfl _ _ gb397 gb398 26 26 #[.int .i64 t403, .int .i64 t404, .slice Ao15 t405.length co15] #[.int .i64 t410, .int .i64 t411, .slice Ao18 t412.length co18] (0, 0) (0, 0) _ _ rfl (by (with_reducible repeat (first | refine blk_drewN ?_ _ | refine blk_drew ?_ | refine blk_alloc ?_ _)); refine blk_far ?_ Nq8.out _; (with_reducible repeat (first | refine blk_drewN ?_ _ | refine blk_drew ?_ | refine blk_alloc ?_ _)); refine blk_far ?_ Nq8.out _; (with_reducible repeat (first | refine blk_drewN ?_ _ | refine blk_drew ?_ | refine blk_alloc ?_ _)); refine blk_far ?_ Nq8.out _; (with_reducible repeat (first | refine blk_drewN ?_ _ | refine blk_drew ?_ | refine blk_alloc ?_ _)); refine blk_put (cs := #[.int .i64 t403, .int .i64 t404, .slice none 0 0]) ?_ 2 _ rfl; (with_reducible repeat (first | refine blk_drewN ?_ _ | refine blk_drew ?_ | refine blk_alloc ?_ _)); refine blk_put (cs := #[.int .i64 t403, .int .i64 0, .slice none 0 0]) ?_ 1 _ rfl; (with_reducible repeat (first | refine blk_drewN ?_ _ | refine blk_drew ?_ | refine blk_alloc ?_ _)); refine blk_put (cs := #[.int .i64 0, .int .i64 0, .slice none 0 0]) ?_ 0 _ rfl; (with_reducible repeat (first | refine blk_drewN ?_ _ | refine blk_drew ?_ | refine blk_alloc ?_ _)); exact BK397.out) Try.underlying26 rfl (by kernel_rfl) rfl (by (with_reducible repeat (first | refine blk_drewN ?_ _ | refine blk_drew ?_ | refine blk_alloc ?_ _)); refine blk_put (cs := #[.int .i64 t410, .int .i64 t411, .slice none 0 0]) ?_ 2 _ rfl; (with_reducible repeat (first | refine blk_drewN ?_ _ | refine blk_drew ?_ | refine blk_alloc ?_ _)); refine blk_put (cs := #[.int .i64 t410, .int .i64 0, .slice none 0 0]) ?_ 1 _ rfl; (with_reducible repeat (first | refine blk_drewN ?_ _ | refine blk_drew ?_ | refine blk_alloc ?_ _)); refine blk_put (cs := #[.int .i64 0, .int .i64 0, .slice none 0 0]) ?_ 0 _ rfl; (with_reducible repeat (first | refine blk_drewN ?_ _ | refine blk_drew ?_ | refine blk_alloc ?_ _)); refine blk_far ?_ Nq10.out _; (with_reducible repeat (first | refine blk_drewN ?_ _ | refine blk_drew ?_ | refine blk_alloc ?_ _)); refine blk_far ?_ Nq10.out _; (with_reducible repeat (first | refine blk_drewN ?_ _ | refine blk_drew ?_ | refine blk_alloc ?_ _)); refine blk_far ?_ Nq10.out _; (with_reducible repeat (first | refine blk_drewN ?_ _ | refine blk_drew ?_ | refine blk_alloc ?_ _)); exact BK398.out) Try.underlying26 rfl (by kernel_rfl)) rfl ?_
  exact ⟨_, _, Q1, by (with_reducible repeat (first | apply Kd.R_alloc | apply Kd.R_drewN | apply Kd.R_drew)); exact Kd.R_mono (Kd.R_far (p := ⟨gb398, 2, none⟩) (Kd.R_far (p := ⟨gb398, 1, none⟩) (Kd.R_far (p := ⟨gb398, 0, none⟩) (Kd.R_far (p := ⟨gb397, 2, none⟩) (Kd.R_far (p := ⟨gb397, 1, none⟩) (Kd.R_far (p := ⟨gb397, 0, none⟩) (Kd.R_types (Kd.R_types Oq4.out BK397.out (by decide)) BK398.out (by decide)) (fun _ hk => hk.1.2) (.int .i64 t403)) (fun _ hk => hk.1.2) (.int .i64 t404)) (fun _ hk => hk.1.2) (.slice Ao15 t405.length co15)) (fun _ hk => hk.2) (.int .i64 t410)) (fun _ hk => hk.2) (.int .i64 t411)) (fun _ hk => hk.2) (.slice Ao18 t412.length co18)) (fun _ hk => hk.1.1.2), by (with_reducible repeat (first | apply Kd.R_alloc | apply Kd.R_drewN | apply Kd.R_drew)); exact Kd.R_mono (Kd.R_far (p := ⟨gb398, 2, none⟩) (Kd.R_far (p := ⟨gb398, 1, none⟩) (Kd.R_far (p := ⟨gb398, 0, none⟩) (Kd.R_far (p := ⟨gb397, 2, none⟩) (Kd.R_far (p := ⟨gb397, 1, none⟩) (Kd.R_far (p := ⟨gb397, 0, none⟩) (Kd.R_types (Kd.R_types Oq5.out BK397.out (by decide)) BK398.out (by decide)) (fun _ hk => hk.1.2) (.int .i64 t403)) (fun _ hk => hk.1.2) (.int .i64 t404)) (fun _ hk => hk.1.2) (.slice Ao15 t405.length co15)) (fun _ hk => hk.2) (.int .i64 t410)) (fun _ hk => hk.2) (.int .i64 t411)) (fun _ hk => hk.2) (.slice Ao18 t412.length co18)) (fun _ hk => hk.1.1.2), qc⟩
 ·
  replace c3 := Bool.eq_false_iff.mpr c3
  subst c3
  have H1 : ((spec_l1Cur_pick.f l0 t401 t402 3).bind fun bt417 => ((spec_l1Cur_pick.f l0 bt417.2.1 bt417.2.2 3).bind fun bt420 => ((spec_l1Cur_boardOf.f k l0 bt420.2.1 bt420.2.2 (wrap64 (1 + bt417.1)) (wrap64 (1 + bt420.1))).bind fun bt423 => ((spec_l1Cur_pick.f l0 bt423.2.2.2.1 bt423.2.2.2.2 3).bind fun bt430 => ((spec_l1Cur_pick.f l0 bt430.2.1 bt430.2.2 3).bind fun bt433 => ((spec_l1Cur_boardOf.f k l0 bt433.2.1 bt433.2.2 (wrap64 (1 + bt430.1)) (wrap64 (1 + bt433.1))).bind fun bt436 => (some (bt423.1, bt423.2.1, bt423.2.2.1, bt436.1, bt436.2.1, bt436.2.2.1)))))))) = some (r1, r2, r3, r4, r5, r6) := by first | (rw [if_neg (show ¬ (false = true) by decide)] at H; exact H) | rfl
  clear H
  have H := H1
  clear H1
  replace H := qE H
  obtain ⟨⟨t417, t418, t419⟩, A19, H⟩ := H
  replace H : ((spec_l1Cur_pick.f l0 t418 t419 3).bind fun bt420 => ((spec_l1Cur_boardOf.f k l0 bt420.2.1 bt420.2.2 (wrap64 (1 + t417)) (wrap64 (1 + bt420.1))).bind fun bt423 => ((spec_l1Cur_pick.f l0 bt423.2.2.2.1 bt423.2.2.2.2 3).bind fun bt430 => ((spec_l1Cur_pick.f l0 bt430.2.1 bt430.2.2 3).bind fun bt433 => ((spec_l1Cur_boardOf.f k l0 bt433.2.1 bt433.2.2 (wrap64 (1 + bt430.1)) (wrap64 (1 + bt433.1))).bind fun bt436 => (some (bt423.1, bt423.2.1, bt423.2.2.1, bt436.1, bt436.2.1, bt436.2.2.1))))))) = some (r1, r2, r3, r4, r5, r6) := H
  replace H := qE H
  obtain ⟨⟨t420, t421, t422⟩, A20, H⟩ := H
  replace H : ((spec_l1Cur_boardOf.f k l0 t421 t422 (wrap64 (1 + t417)) (wrap64 (1 + t420))).bind fun bt423 => ((spec_l1Cur_pick.f l0 bt423.2.2.2.1 bt423.2.2.2.2 3).bind fun bt430 => ((spec_l1Cur_pick.f l0 bt430.2.1 bt430.2.2 3).bind fun bt433 => ((spec_l1Cur_boardOf.f k l0 bt433.2.1 bt433.2.2 (wrap64 (1 + bt430.1)) (wrap64 (1 + bt433.1))).bind fun bt436 => (some (bt423.1, bt423.2.1, bt423.2.2.1, bt436.1, bt436.2.1, bt436.2.2.1)))))) = some (r1, r2, r3, r4, r5, r6) := H
  replace H := qE H
  obtain ⟨⟨t423, t424, t425, t428, t429⟩, A21, H⟩ := H
  replace H : ((spec_l1Cur_pick.f l0 t428 t429 3).bind fun bt430 => ((spec_l1Cur_pick.f l0 bt430.2.1 bt430.2.2 3).bind fun bt433 => ((spec_l1Cur_boardOf.f k l0 bt433.2.1 bt433.2.2 (wrap64 (1 + bt430.1)) (wrap64 (1 + bt433.1))).bind fun bt436 => (some (t423, t424, t425, bt436.1, bt436.2.1, bt436.2.2.1))))) = some (r1, r2, r3, r4, r5, r6) := H
  replace H := qE H
  obtain ⟨⟨t430, t431, t432⟩, A22, H⟩ := H
  replace H : ((spec_l1Cur_pick.f l0 t431 t432 3).bind fun bt433 => ((spec_l1Cur_boardOf.f k l0 bt433.2.1 bt433.2.2 (wrap64 (1 + t430)) (wrap64 (1 + bt433.1))).bind fun bt436 => (some (t423, t424, t425, bt436.1, bt436.2.1, bt436.2.2.1)))) = some (r1, r2, r3, r4, r5, r6) := H
  replace H := qE H
  obtain ⟨⟨t433, t434, t435⟩, A23, H⟩ := H
  replace H : ((spec_l1Cur_boardOf.f k l0 t434 t435 (wrap64 (1 + t430)) (wrap64 (1 + t433))).bind fun bt436 => (some (t423, t424, t425, bt436.1, bt436.2.1, bt436.2.2.1))) = some (r1, r2, r3, r4, r5, r6) := H
  replace H := qE H
  obtain ⟨⟨t436, t437, t438, t441, t442⟩, A24, H⟩ := H
  replace H : (some (t423, t424, t425, t436, t437, t438)) = some (r1, r2, r3, r4, r5, r6) := H
  simp only [Option.some.injEq, Prod.mk.injEq] at H
  obtain ⟨rfl, rfl, rfl, rfl, rfl, rfl⟩ := H
  go_enter Try.func20, Try.ntmps20
  go_wp2_with (first | ((with_reducible refine gate_dst (N := 2) rfl ?_); refine qv 2 #[.int .i64 0, .int .i64 0, .slice none 0 0] 26 ?_; intro gb397 hg w25 hbox hb; have BK397 := am hbox; have GW397 := qw hg; have GE397 := qw hg; replace HB := qs hb; clear hb hbox hg) | ((with_reducible refine gate_dst (N := 3) rfl ?_); refine qv 3 #[.int .i64 0, .int .i64 0, .slice none 0 0] 26 ?_; intro gb398 hg w26 hbox hb; have BK398 := am hbox; have GW398 := qw hg; have GE398 := qw hg; have Nq8 := qn hg BK397; have Nq10 := qN hg BK397; replace BK397 := sqB BK397 hb; replace HB := qs hb; clear hb hbox hg) | ((with_reducible refine gate_dst (N := 7) rfl ?_); refine qv 7 #[.slice A0 l0.length c0, .int .i64 0, .int .u64 0] 66 ?_; intro gb399 hg w27 hbox hb; have HI399 := am ((show IsS66 w w27 gb399 l0 0 0 from ⟨_, _, hbox, (by rw [hg]; exact (below_size qb) : w.heap.size ≤ gb399), HR0.out⟩)); have GW399 := qw hg; have GE399 := qw hg; have Nq9 := qn hg BK397; have Nq12 := qN hg BK397; have Nq11 := qn hg BK398; have Nq13 := qN hg BK398; replace BK397 := sqB BK397 hb; replace BK398 := sqB BK398 hb; replace HB := qs hb; clear hb hbox hg) | ((with_reducible refine gate_callee (f := 72) rfl ?_); refine qg (some 9) Try.func72 #[.pointer (some ⟨gb399, 0, none⟩), .int .i64 5] ?_; (with_reducible refine (spec_l1Cur_one.calls gb399 l0 0 0 5 false t401 t402 w _ ?side1 ?side2 A2.out).mono ?_); (case side1 => exact qi); (case side2 => exact qc); rintro e w28 ⟨rfl, hi, hb, hk⟩; refine ⟨_, rfl, ?_⟩; replace BK397 := qK BK397 hk Nq9; replace BK398 := qK BK398 hk Nq11; replace HB := am hb; replace HI399 := am hi; (try clear hb hk hi)) | ((with_reducible refine gate_callee (f := 63) rfl ?_); refine qg (some 16) Try.func63 #[.pointer (some ⟨gb399, 0, none⟩), .int .i64 3] ?_; (with_reducible refine (spec_l1Cur_pick.calls gb399 l0 t401 t402 3 t417 t418 t419 w _ ?side1 ?side2 A19.out).mono ?_); (case side1 => exact qi); (case side2 => exact qc); rintro e w29 ⟨rfl, hi, hb, hk⟩; refine ⟨_, rfl, ?_⟩; replace BK397 := qK BK397 hk Nq9; replace BK398 := qK BK398 hk Nq11; replace HB := am hb; replace HI399 := am hi; (try clear hb hk hi)) | ((with_reducible refine gate_callee (f := 63) rfl ?_); refine qg (some 19) Try.func63 #[.pointer (some ⟨gb399, 0, none⟩), .int .i64 3] ?_; (with_reducible refine (spec_l1Cur_pick.calls gb399 l0 t418 t419 3 t420 t421 t422 w _ ?side1 ?side2 A20.out).mono ?_); (case side1 => exact qi); (case side2 => exact qc); rintro e w30 ⟨rfl, hi, hb, hk⟩; refine ⟨_, rfl, ?_⟩; replace BK397 := qK BK397 hk Nq9; replace BK398 := qK BK398 hk Nq11; replace HB := am hb; replace HI399 := am hi; (try clear hb hk hi)) | ((with_reducible refine gate_callee (f := 73) rfl ?_); refine qg (some 21) Try.func73 #[.pointer (some ⟨gb399, 0, none⟩), .int .i64 (wrap64 (1 + t417)), .int .i64 (wrap64 (1 + t420))] ?_; (with_reducible refine (spec_l1Cur_boardOf.calls k gb399 l0 t421 t422 (wrap64 (1 + t417)) (wrap64 (1 + t420)) t423 t424 t425 t428 t429 w _ ?side1 ?side2 A21.out).mono ?_); (case side1 => exact qi); (case side2 => exact qc); rintro e w31 ⟨v426, rfl, ho0, hi, hb, hk⟩; refine ⟨_, rfl, ?_⟩; have Oq6 := qL ho0; replace BK397 := qK BK397 hk Nq9; replace BK398 := qK BK398 hk Nq11; replace HB := am hb; replace HI399 := am hi; (try clear hb hk hi ho0)) | ((with_reducible refine gate_callee (f := 63) rfl ?_); refine qg (some 24) Try.func63 #[.pointer (some ⟨gb399, 0, none⟩), .int .i64 3] ?_; (with_reducible refine (spec_l1Cur_pick.calls gb399 l0 t428 t429 3 t430 t431 t432 w _ ?side1 ?side2 A22.out).mono ?_); (case side1 => exact qi); (case side2 => exact qc); rintro e w32 ⟨rfl, hi, hb, hk⟩; refine ⟨_, rfl, ?_⟩; replace BK397 := qK BK397 hk Nq9; replace BK398 := qK BK398 hk Nq11; replace Oq6 := qR Oq6 hk; replace HB := am hb; replace HI399 := am hi; (try clear hb hk hi)) | ((with_reducible refine gate_callee (f := 63) rfl ?_); refine qg (some 27) Try.func63 #[.pointer (some ⟨gb399, 0, none⟩), .int .i64 3] ?_; (with_reducible refine (spec_l1Cur_pick.calls gb399 l0 t431 t432 3 t433 t434 t435 w _ ?side1 ?side2 A23.out).mono ?_); (case side1 => exact qi); (case side2 => exact qc); rintro e w33 ⟨rfl, hi, hb, hk⟩; refine ⟨_, rfl, ?_⟩; replace BK397 := qK BK397 hk Nq9; replace BK398 := qK BK398 hk Nq11; replace Oq6 := qR Oq6 hk; replace HB := am hb; replace HI399 := am hi; (try clear hb hk hi)) | ((with_reducible refine gate_callee (f := 73) rfl ?_); refine qg (some 29) Try.func73 #[.pointer (some ⟨gb399, 0, none⟩), .int .i64 (wrap64 (1 + t430)), .int .i64 (wrap64 (1 + t433))] ?_; (with_reducible refine (spec_l1Cur_boardOf.calls k gb399 l0 t434 t435 (wrap64 (1 + t430)) (wrap64 (1 + t433)) t436 t437 t438 t441 t442 w _ ?side1 ?side2 A24.out).mono ?_); (case side1 => exact qi); (case side2 => exact qc); rintro e w34 ⟨v439, rfl, ho0, hi, hb, hk⟩; refine ⟨_, rfl, ?_⟩; have Oq7 := am (Kd.R_lower (Kd.R_new' ho0 (sqL Oq6)) (below_size qc)); replace BK397 := qK BK397 hk Nq9; replace BK398 := qK BK398 hk Nq11; replace Oq6 := am (Kd.R_mono (Kd.R_told (Kd.R_oldK (IsS66.apart (show IsS66 w _ gb399 l0 t434 t435 from qi) (sqr Oq6) (by decide)) hk) (Kd.R_base ho0)) (fun _ h_ => h_.1)); replace HB := am hb; replace HI399 := am hi; (try clear hb hk hi ho0); have bq10 := Nq8.out; have cq10 := Nq10.out; have bq11 := Nq9.out; have cq11 := Nq12.out; obtain ⟨zq51, zq52, zq53, fq51, fq52, fq53⟩ := qd BK397; obtain ⟨Ao38, co38, eo38⟩ := Kd.R_slice Oq6.out; subst eo38; have bq12 := Nq11.out; have cq12 := Nq13.out; obtain ⟨zq54, zq55, zq56, fq54, fq55, fq56⟩ := qd BK398; obtain ⟨Ao41, co41, eo41⟩ := Kd.R_slice Oq7.out; subst eo41))
  refine bodyPost_ret (results_cc rfl _ _ gb397 gb398 26 26 #[.int .i64 t423, .int .i64 t424, .slice Ao38 t425.length co38] #[.int .i64 t436, .int .i64 t437, .slice Ao41 t438.length co41] (0, 0) (0, 0) _ _ rfl (by (with_reducible repeat (first | refine blk_drewN ?_ _ | refine blk_drew ?_ | refine blk_alloc ?_ _)); refine blk_far ?_ Nq8.out _; (with_reducible repeat (first | refine blk_drewN ?_ _ | refine blk_drew ?_ | refine blk_alloc ?_ _)); refine blk_far ?_ Nq8.out _; (with_reducible repeat (first | refine blk_drewN ?_ _ | refine blk_drew ?_ | refine blk_alloc ?_ _)); refine blk_far ?_ Nq8.out _; (with_reducible repeat (first | refine blk_drewN ?_ _ | refine blk_drew ?_ | refine blk_alloc ?_ _)); refine blk_put (cs := #[.int .i64 t423, .int .i64 t424, .slice none 0 0]) ?_ 2 _ rfl; (with_reducible repeat (first | refine blk_drewN ?_ _ | refine blk_drew ?_ | refine blk_alloc ?_ _)); refine blk_put (cs := #[.int .i64 t423, .int .i64 0, .slice none 0 0]) ?_ 1 _ rfl; (with_reducible repeat (first | refine blk_drewN ?_ _ | refine blk_drew ?_ | refine blk_alloc ?_ _)); refine blk_put (cs := #[.int .i64 0, .int .i64 0, .slice none 0 0]) ?_ 0 _ rfl; (with_reducible repeat (first | refine blk_drewN ?_ _ | refine blk_drew ?_ | refine blk_alloc ?_ _)); exact BK397.out) Try.underlying26 rfl (by kernel_rfl) rfl (by (with_reducible repeat (first | refine blk_drewN ?_ _ | refine blk_drew ?_ | refine blk_alloc ?_ _)); refine blk_put (cs := #[.int .i64 t436, .int .i64 t437, .slice none 0 0]) ?_ 2 _ rfl; (with_reducible repeat (first | refine blk_drewN ?_ _ | refine blk_drew ?_ | refine blk_alloc ?_ _)); refine blk_put (cs := #[.int .i64 t436, .int .i64 0, .slice none 0 0]) ?_ 1 _ rfl; (with_reducible repeat (first | refine blk_drewN ?_ _ | refine blk_drew ?_ | refine blk_alloc ?_ _)); refine blk_put (cs := #[.int .i64 0, .int .i64 0, .slice none 0 0]) ?_ 0 _ rfl; (with_reducible repeat (first | refine blk_drewN ?_ _ | refine blk_drew ?_ | refine blk_alloc ?_ _)); refine blk_far ?_ Nq10.out _; (with_reducible repeat (first | refine blk_drewN ?_ _ | refine blk_drew ?_ | refine blk_alloc ?_ _)); refine blk_far ?_ Nq10.out _; (with_reducible repeat (first | refine blk_drewN ?_ _ | refine blk_drew ?_ | refine blk_alloc ?_ _)); refine blk_far ?_ Nq10.out _; (with_reducible repeat (first | refine blk_drewN ?_ _ | refine blk_drew ?_ | refine blk_alloc ?_ _)); exact BK398.out) Try.underlying26 rfl (by kernel_rfl)) rfl ?_
  exact ⟨_, _, Q1, by (with_reducible repeat (first | apply Kd.R_alloc | apply Kd.R_drewN | apply Kd.R_drew)); exact Kd.R_mono (Kd.R_far (p := ⟨gb398, 2, none⟩) (Kd.R_far (p := ⟨gb398, 1, none⟩) (Kd.R_far (p := ⟨gb398, 0, none⟩) (Kd.R_far (p := ⟨gb397, 2, none⟩) (Kd.R_far (p := ⟨gb397, 1, none⟩) (Kd.R_far (p := ⟨gb397, 0, none⟩) (Kd.R_types (Kd.R_types Oq6.out BK397.out (by decide)) BK398.out (by decide)) (fun _ hk => hk.1.2) (.int .i64 t423)) (fun _ hk => hk.1.2) (.int .i64 t424)) (fun _ hk => hk.1.2) (.slice Ao38 t425.length co38)) (fun _ hk => hk.2) (.int .i64 t436)) (fun _ hk => hk.2) (.int .i64 t437)) (fun _ hk => hk.2) (.slice Ao41 t438.length co41)) (fun _ hk => hk.1.1.2), by (with_reducible repeat (first | apply Kd.R_alloc | apply Kd.R_drewN | apply Kd.R_drew)); exact Kd.R_mono (Kd.R_far (p := ⟨gb398, 2, none⟩) (Kd.R_far (p := ⟨gb398, 1, none⟩) (Kd.R_far (p := ⟨gb398, 0, none⟩) (Kd.R_far (p := ⟨gb397, 2, none⟩) (Kd.R_far (p := ⟨gb397, 1, none⟩) (Kd.R_far (p := ⟨gb397, 0, none⟩) (Kd.R_types (Kd.R_types Oq7.out BK397.out (by decide)) BK398.out (by decide)) (fun _ hk => hk.1.2) (.int .i64 t423)) (fun _ hk => hk.1.2) (.int .i64 t424)) (fun _ hk => hk.1.2) (.slice Ao38 t425.length co38)) (fun _ hk => hk.2) (.int .i64 t436)) (fun _ hk => hk.2) (.int .i64 t437)) (fun _ hk => hk.2) (.slice Ao41 t438.length co41)) (fun _ hk => hk.1.1.2), qc⟩

/-! ### slices_Clone_int_int: function 75 (by hand) -/
def slices_Clone_int_int.f (l0 : List Int) : Option (List Int) := if l0.length < 17592186044416 then some l0 else none
-- (walk)
set_option maxHeartbeats 8000000 in
set_option maxRecDepth 100000 in
theorem slices_Clone_int_int.calls (A0 : Option Addr) (c0 : Nat) (l0 : List Int) (r : List Int) (w : World) (hr0 : Kd.C (Kd.int .i64) w A0 l0.length l0) (hc0 : l0.length ≤ c0) (h : slices_Clone_int_int.f l0 = some r) :
  Calls Try.prog 75 #[.slice A0 l0.length c0] w fun e w' => ∃ v0_ : Value, e = .returned (v0_) ∧ Kd.R (Kd.int .i64) 3 w' w.heap.size (fun _ => True) v0_ r ∧ Below w.heap.size w w' := by
 have hu := Try.underlying24
 have HR0 := Aside0.mk hr0
 have HC0 := Aside0.mk hc0
 have HL0 := am (Kd.C_len hr0)
 have HZ0 := am (show A0 = none → l0 = [] from fun e => by
  subst e
  by_cases h0 : 0 < l0.length
  ·
   obtain ⟨_, _, h3⟩ := hr0
   obtain ⟨ad, e, _⟩ := h3 h0
   cases e
  ·
   exact List.eq_nil_of_length_eq_zero (by omega))
 clear hr0 hc0
 have HB := am (Below.refl w.heap.size w)
 unfold slices_Clone_int_int.f at h
 by_cases c2 : l0.length < 17592186044416
 ·
  rw [if_pos c2] at h
  obtain rfl := Option.some.inj h
  have LM := Aside0.mk c2
  clear c2 h
  cases A0 with
  | none =>
   obtain rfl := HZ0.out rfl
   have hq := fun (W : World) => Lib.run_eql_slice_nil (P := Try.prog) W 24 3 none 0 c0 0 0 Try.underlying24
   go_enter Try.func75, Try.ntmps75
   go_wp2
   go_ret
   exact ⟨_, rfl, Kd.R_nil _ _ _ _ _, HB.out⟩
  | some a =>
   have hq := fun (W : World) => Lib.run_eql_slice_nil (P := Try.prog) W 24 3 (some a) l0.length c0 0 0 Try.underlying24
   go_enter Try.func75, Try.ntmps75
   have hd : (some a : Option Addr).isNone = false := rfl
   obtain ⟨y133, hy133⟩ : ∃ y_ : List Int, y_ = (([] : List Int)) := ⟨_, rfl⟩
   obtain ⟨y136, hy136⟩ : ∃ y_ : List Int, y_ = (y133 ++ l0) := ⟨_, rfl⟩
   have e136 := am (show y136 = l0 by rw [hy136, hy133]; rfl)
   have hl133 := am (show y133.length = 0 by rw [hy133]; rfl)
   have Ny133 := Aside0.mk hy133
   have Ny136 := Aside0.mk hy136
   clear hy133 hy136
   go_wp2_with (first | ((with_reducible refine gate_dst (N := 5) rfl ?_); refine Kd.R_lit (Kd.int .i64) _ 3 ?hg (N := 5) ?hd (xs := ([] : List Int)) (inner := []) (ok := fun _ => True) (okp := fun _ => True) ?hr ?hp (fun _ hk => hk) trivial (Below.refl _ _) (Nat.le_refl _) (by simp) ?_; (case hd => rfl); (case hg => rfl); (case hr => first | (go_simp; done) | (go_simp; rfl)); (case hp => exact (Reps.none _ _)); intro v134 w3 ho4 hb hg_ hnew_; clear hg_ hnew_; (first | rw [← Ny133.out] at ho4 | (simp only [Int.reduceToNat] at ho4; rw [← Ny133.out] at ho4)); have Oq0 := ql ho4; replace HB := qs hb; clear hb ho4) | ((with_reducible refine gate_builtin (b := .append) (xs := #[.tmp 5, .tmp 6]) rfl ?_); at_builtin; refine Kd.R_append_rows (Kd.int .i64) (w0 := w) w.heap.size rfl (.tmp 5) (.tmp 6) 24 3 (.int .i64 0) 8 rfl Try.underlying24 info3 rfl (by decide) (by omega) v134 y133 l0 _ _ _ (fun _ => True) (fun _ => False) rfl rfl ?aO ?aR (fun _ _ h => h) (fun _ h => h.elim) ?aF ?aB ?aS ?aL ?_; (case aR => repeat (first | exact (Kd.C_below HR0.out HB.out) | (with_reducible first | refine Kd.C_alloc ?_ _ | refine Kd.C_drewN ?_ _ | refine Kd.C_drew ?_))); (case aB => exact qb); (case aF => exact (fun _ _ => trivial)); (case aO => exact (sqr Oq0)); (case aS => exact (below_size qb)); (case aL => have := LM.out; have := hl133.out; omega); intro v137 w5 ho hb hg hat; rw [← Ny136.out] at ho; have Oq1 := am (ho); replace HB := am hb; clear Oq0; clear ho hb hg hat))
   go_ret
   exact ⟨_, rfl, by rw [← e136.out]; (with_reducible repeat (first | apply Kd.R_alloc | apply Kd.R_drewN | apply Kd.R_drew)); exact Oq1.out, qb⟩
 ·
  rw [if_neg c2] at h; exact absurd h (by simp)

end Go.Proofs.Ytllhofdgbpnkkaa.PFnBoardsJoined
