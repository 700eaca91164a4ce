-- Printed for this claim by wip/pp.py over the kit's printer; Lean checks it.
import Derived.Test.YtllhofdgbpnkkaaPFnBoardsJoinedx0
import Derived.Test.YtllhofdgbpnkkaaPFnBoardsJoinedx1
import Derived.Test.YtllhofdgbpnkkaaPFnBoardsJoinedx5
import Derived.Test.YtllhofdgbpnkkaaPFnBoardsJoinedx10
namespace Go.Proofs.Ytllhofdgbpnkkaa.PFnBoardsJoined
open Go.RowKit Go.Proofs.YtllhofdgbpnkkaaW.PrintWords Go.Proofs.YtllhofdgbpnkkaaW.PrintLast Go.Proofs.YtllhofdgbpnkkaaW.PrintMore
attribute [local go_sem] max2_int min2_int max_two min_two max_three min_three max_four min_four   -- for this text's walks alone
set_option linter.unusedVariables false
set_option linter.unusedSimpArgs false

/-! ### impl_Board_strike: function 68 -/
def impl_Board_strike.l0 : Nat → Int → Int → List Int → Int → Int → Int → Int → List Int → Option (Int × Int × List Int)
 | 0, _, _, _, _, _, _, _, _ => none
 | k + 1, x1, x2, x18, x19, x20, x358000, x358001, x358002 => if x20 < x19 then (if 0 ≤ x20 then (if x20 < (x18.length : Int) then (if x20 = x1 then (impl_Board_strike.l0 k x1 x2 x18 x19 (wrap64 (x20 + 1)) x358000 x358001 x358002) else (if 0 ≤ x2 then (if 0 ≤ (wrap64 (x2 + 1)) then (if x358002.length < 17592186044416 then (impl_Board_strike.l0 k x1 x2 x18 x19 (wrap64 (x20 + 1)) x358000 x358001 (x358002 ++ [Go.bits .or .i64 (Go.bits .and .i64 (rd x18 x20) (wrap64 ((shl .i64 1 x2) - 1))) (shl .i64 (shr .i64 (rd x18 x20) (wrap64 (x2 + 1))) x2)])) else (none)) else (none)) else (none))) else (none)) else (none)) else (some (x358000, x358001, x358002))
def impl_Board_strike.f (k : Nat) (a0_0 : Int) (a0_1 : Int) (l0_2 : List Int) (a1 : Int) (a2 : Int) : Option (Int × Int × List Int) := impl_Board_strike.l0 k a1 a2 l0_2 (l0_2.length : Int) 0 (wrap64 (a0_0 - 1)) (wrap64 (a0_1 - 1)) ([] : List Int)
def impl_Board_strike.T6 : Bool × List (List Nat × List Nat) := (true, [([], []), ([0], [0]), ([], []), ([], []), ([3], [3]), ([4], [4]), ([2, 5], [2, 5]), ([], []), ([], []), ([8], [8]), ([7, 9], [7, 9]), ([], []), ([10, 11], [10, 11]), ([6, 12], [6, 12]), ([13], [13]), ([1, 14], [1, 14]), ([0, 1, 2, 3, 4, 5, 6, 7, 8, 9, 10, 11, 12, 13, 14, 15], []), ([16, 15, 15, 0, 1, 2, 3, 4, 5, 6, 7, 8, 9, 10, 11, 12, 13, 14, 15], [15, 16])])
def impl_Board_strike.B6 : List Nat := [0, 1, 0, 0, 8, 24, 60, 0, 0, 256, 896, 0, 3968, 8188, 16380, 32767, 65535, 131071]
theorem impl_Board_strike.tab6 : rtab .any (opsOf Try.f68 6) = impl_Board_strike.T6 := by kernel_rfl
theorem impl_Board_strike.bits6 : waitsOk impl_Board_strike.T6.2 impl_Board_strike.B6 = true := by kernel_rfl
set_option maxHeartbeats 8000000 in
set_option maxRecDepth 100000 in
theorem impl_Board_strike.calls (k : Nat) (a0_0 : Int) (a0_1 : Int) (A0_2 : Option Addr) (c0_2 : Nat) (l0_2 : List Int) (a1 : Int) (a2 : Int) (r1 : Int) (r2 : Int) (r3 : List Int) (w : World) (hr0_2 : Kd.C (Kd.int .i64) w A0_2 l0_2.length l0_2) (hc0_2 : l0_2.length ≤ c0_2) (h : impl_Board_strike.f k a0_0 a0_1 l0_2 a1 a2 = some (r1, r2, r3)) :
  Calls Try.prog 68 #[.agg #[.int .i64 a0_0, .int .i64 a0_1, .slice A0_2 l0_2.length c0_2], .int .i64 a1, .int .i64 a2] w fun e w' => ∃ v2_ : Value, e = .returned (.agg #[.int .i64 r1, .int .i64 r2, v2_]) ∧ Kd.R (Kd.int .i64) 3 w' w.heap.size (fun _ => True) v2_ r3 ∧ Below w.heap.size w w' := by
 have hu26 := Try.underlying26
 have HR0_2 := Aside0.mk hr0_2
 have HC0_2 := Aside0.mk hc0_2
 clear hr0_2 hc0_2
 have HB := am (Below.refl w.heap.size w)
 have H : (impl_Board_strike.l0 k a1 a2 l0_2 (l0_2.length : Int) 0 (wrap64 (a0_0 - 1)) (wrap64 (a0_1 - 1)) ([] : List Int)) = some (r1, r2, r3) := h
 clear h
 have H' := Aside0.mk H
 clear H
 go_enter Try.func68, Try.ntmps68
 go_wp2_with (first | ((with_reducible refine gate_dst (N := 3) rfl ?_); refine qv 3 #[.int .i64 a0_0, .int .i64 a0_1, .slice A0_2 l0_2.length c0_2] 26 ?_; intro gb355 hg w4 hbox hb; have BK355 := am hbox; have GW355 := qw hg; have GE355 := qw hg; replace HB := qs hb; clear hb hbox hg) | ((with_reducible refine gate_dst (N := 6) rfl ?_); refine qv 6 #[.int .i64 0, .int .i64 0, .slice none 0 0] 26 ?_; intro gb356 hg w5 hbox hb; have BK356 := am hbox; have GW356 := qw hg; have GE356 := qw hg; have Nq0 := qn hg BK355; have Nq2 := qN hg BK355; replace BK355 := sqB BK355 hb; replace HB := qs hb; clear hb hbox hg; have bq9 := Nq0.out; have cq9 := Nq2.out; obtain ⟨zq66, zq67, zq68, fq66, fq67, fq68⟩ := qd BK355) | ((with_reducible refine gate_dst (N := 7) rfl ?_); refine qv 7 #[.int .i64 0, .int .i64 0, .slice none 0 0] 26 ?_; intro gb357 hg w8 hbox hb; have BK357 := am hbox; have GW357 := qw hg; have GE357 := qw hg; have Nq1 := qn hg BK355; have Nq4 := qN hg BK355; have Nq3 := qn hg BK356; have Nq5 := qN hg BK356; replace BK355 := sqB BK355 hb; replace BK356 := sqB BK356 hb; replace HB := qs hb; clear hb hbox hg; have bq10 := Nq4.out; have cq10 := Nq1.out; have bq0 := Nq5.out; have cq0 := Nq3.out; obtain ⟨zq3, zq4, zq5, fq3, fq4, fq5⟩ := qd BK357; obtain ⟨zq6, zq7, zq8, fq6, fq7, fq8⟩ := qd BK355))
 go_loopg [20] k (fun kq v20 w' => ∃ (x20_1 : Int) (x358002_1 : List Int) (u358002 : Value), v20 = .int .i64 x20_1 ∧ Aside0 (impl_Board_strike.l0 kq a1 a2 l0_2 (l0_2.length : Int) x20_1 (wrap64 (a0_0 - 1)) (wrap64 (a0_1 - 1)) x358002_1 = some (r1, r2, r3)) ∧ Aside0 (kq ≤ k) ∧ Aside0 (Kd.R (Kd.int .i64) 3 w' w.heap.size (fun _ => True) u358002 x358002_1) ∧ Aside0 (w'.heap[gb355]? = some (.cells #[.int .i64 a0_0, .int .i64 a0_1, (.slice A0_2 l0_2.length c0_2)] 26 (0, 0))) ∧ Aside0 (w'.heap[gb356]? = some (.cells #[.int .i64 0, .int .i64 0, (.slice none 0 0)] 26 (0, 0))) ∧ Aside0 (w'.heap[gb357]? = some (.cells #[.int .i64 (wrap64 (a0_0 - 1)), .int .i64 (wrap64 (a0_1 - 1)), u358002] 26 (0, 0))) ∧ Aside0 (Below w.heap.size w w'))
 case atStart => exact ⟨(0), (([] : List Int)), (.slice none 0 0), Q3, H', ⟨Nat.le_refl _⟩, ⟨Q11⟩, ⟨by (with_reducible repeat (first | refine blk_drewN ?_ _ | refine blk_drew ?_ | refine blk_alloc ?_ _)); refine blk_far ?_ Nq1.out _; (with_reducible repeat (first | refine blk_drewN ?_ _ | refine blk_drew ?_ | refine blk_alloc ?_ _)); refine blk_far ?_ Nq1.out _; (with_reducible repeat (first | refine blk_drewN ?_ _ | refine blk_drew ?_ | refine blk_alloc ?_ _)); refine blk_far ?_ Nq1.out _; (with_reducible repeat (first | refine blk_drewN ?_ _ | refine blk_drew ?_ | refine blk_alloc ?_ _)); exact BK355.out⟩, ⟨by (with_reducible repeat (first | refine blk_drewN ?_ _ | refine blk_drew ?_ | refine blk_alloc ?_ _)); refine blk_far ?_ Nq3.out _; (with_reducible repeat (first | refine blk_drewN ?_ _ | refine blk_drew ?_ | refine blk_alloc ?_ _)); refine blk_far ?_ Nq3.out _; (with_reducible repeat (first | refine blk_drewN ?_ _ | refine blk_drew ?_ | refine blk_alloc ?_ _)); refine blk_far ?_ Nq3.out _; (with_reducible repeat (first | refine blk_drewN ?_ _ | refine blk_drew ?_ | refine blk_alloc ?_ _)); exact BK356.out⟩, ⟨by (with_reducible repeat (first | refine blk_drewN ?_ _ | refine blk_drew ?_ | refine blk_alloc ?_ _)); refine blk_put (cs := #[.int .i64 (wrap64 (a0_0 - 1)), .int .i64 (wrap64 (a0_1 - 1)), .slice none 0 0]) ?_ 2 _ rfl; (with_reducible repeat (first | refine blk_drewN ?_ _ | refine blk_drew ?_ | refine blk_alloc ?_ _)); refine blk_put (cs := #[.int .i64 (wrap64 (a0_0 - 1)), .int .i64 0, .slice none 0 0]) ?_ 1 _ rfl; (with_reducible repeat (first | refine blk_drewN ?_ _ | refine blk_drew ?_ | refine blk_alloc ?_ _)); refine blk_put (cs := #[.int .i64 0, .int .i64 0, .slice none 0 0]) ?_ 0 _ rfl; (with_reducible repeat (first | refine blk_drewN ?_ _ | refine blk_drew ?_ | refine blk_alloc ?_ _)); exact BK357.out⟩, ⟨qb⟩⟩
 case round =>
  clear H'
  try clear zq3; try clear zq4; try clear zq5; try clear zq6; try clear zq7; try clear zq8; try clear zq66; try clear zq67; try clear zq68; try clear fq3; try clear fq4; try clear fq5; try clear fq6; try clear fq7; try clear fq8; try clear fq66; try clear fq67; try clear fq68
  obtain ⟨x20_1, x358002_1, u358002, rfl, HA, HK1, Oq2, BK355, BK356, BK357, HB⟩ := hrel
  cases gk with
  | zero => exact absurd HA.out (by simp [impl_Board_strike.l0])
  | succ k1 =>
   have H := HA.out
   clear HA
   simp only [impl_Board_strike.l0] at H
   by_cases c13 : x20_1 < (l0_2.length : Int)
   ·
    rw [if_pos c13] at H
    have c13b0 : decide (x20_1 < (l0_2.length : Int)) = true := decide_eq_true c13
    clear c13
    by_cases c14 : 0 ≤ x20_1
    ·
     rw [if_pos c14] at H
     have c14b0 : decide (0 ≤ x20_1) = true := decide_eq_true c14
     clear c14
     by_cases c15 : x20_1 < (l0_2.length : Int)
     ·
      rw [if_pos c15] at H
      have c15b0 : decide (x20_1 < (l0_2.length : Int)) = true := decide_eq_true c15
      clear c15
      by_cases c16 : x20_1 = a1
      ·
       rw [if_pos c16] at H
       have c16b0 : (x20_1 == a1) = true := beq_iff_eq.mpr c16
       have c16b1 : (x20_1 != a1) = false := bne_eq_false_iff_eq.mpr c16
       clear c16
       have H' := Aside0.mk H
       clear H
       have p358 : 0 ≤ (x20_1 : Int) := of_decide_eq_true Q2
       have q358 : x20_1 < (l0_2.length : Int) := of_decide_eq_true Q2
       obtain ⟨ad358, e358, hx358_0⟩ := Kd.at_int HR0_2.out x20_1 p358 q358
       cases e358
       replace hx358_0 := (HB.out.cell (World.block_lt_of_cell? w _ hx358_0)).trans hx358_0
       replace p358 := eq_true p358
       replace q358 := eq_true q358
       go_wp2
       go_roundg k1
       case measure => have := HK1.out; omega
       case rel => exact ⟨(wrap64 (x20_1 + 1)), (x358002_1), (u358002), Q3, H', ⟨Q55⟩, ⟨by (with_reducible repeat (first | apply Kd.R_alloc | apply Kd.R_drewN | apply Kd.R_drew)); exact Oq2.out⟩, ⟨by (with_reducible repeat (first | refine blk_drewN ?_ _ | refine blk_drew ?_ | refine blk_alloc ?_ _)); exact BK355.out⟩, ⟨by (with_reducible repeat (first | refine blk_drewN ?_ _ | refine blk_drew ?_ | refine blk_alloc ?_ _)); exact BK356.out⟩, ⟨by (with_reducible repeat (first | refine blk_drewN ?_ _ | refine blk_drew ?_ | refine blk_alloc ?_ _)); exact BK357.out⟩, ⟨qb⟩⟩
      ·
       rw [if_neg c16] at H
       have c16b0 : (x20_1 == a1) = false := beq_eq_false_iff_ne.mpr c16
       have c16b1 : (x20_1 != a1) = true := bne_iff_ne.mpr c16
       by_cases c17 : 0 ≤ a2
       ·
        rw [if_pos c17] at H
        have c17b0 := eq_true c17
        have c17b1 : decide (0 ≤ a2) = true := decide_eq_true c17
        clear c17
        obtain ⟨ji18, hji18⟩ : ∃ j_ : Int, (shl .i64 1 a2) = j_ := ⟨_, rfl⟩
        replace H : (if 0 ≤ (wrap64 (a2 + 1)) then (if x358002_1.length < 17592186044416 then (impl_Board_strike.l0 k1 a1 a2 l0_2 (l0_2.length : Int) (wrap64 (x20_1 + 1)) (wrap64 (a0_0 - 1)) (wrap64 (a0_1 - 1)) (x358002_1 ++ [Go.bits .or .i64 (Go.bits .and .i64 (rd l0_2 x20_1) (wrap64 ((ji18) - 1))) (shl .i64 (shr .i64 (rd l0_2 x20_1) (wrap64 (a2 + 1))) a2)])) else (none)) else (none)) = some (r1, r2, r3) := by first | (rw [hji18] at H; exact H) | (simp only [hji18] at H ⊢; exact H)
        have hji18_ : (IntKind.i64.wrap (1 * 2 ^ min a2.toNat 64)) = ji18 := hji18
        have hji18z : a2 ≤ 64 → (IntKind.i64.wrap (1 * 2 ^ a2.toNat)) = ji18 := shl_small hji18
        have hji18u : (IntKind.i64.wrap (2 ^ min a2.toNat 64)) = ji18 := by have h_ := hji18_; rw [Int.one_mul] at h_; exact h_
        have hji18v : a2 ≤ 64 → (IntKind.i64.wrap (2 ^ a2.toNat)) = ji18 := fun hle_ => by have h_ := hji18z hle_; rw [Int.one_mul] at h_; exact h_
        have hji18y : (wrap64 (1 * 2 ^ min a2.toNat 64)) = ji18 := (i64_w _).symm.trans hji18_
        have hji18x : a2 ≤ 64 → (wrap64 (1 * 2 ^ a2.toNat)) = ji18 := fun h_ => (i64_w _).symm.trans (hji18z h_)
        obtain ⟨ji19, hji19⟩ : ∃ j_ : Int, (wrap64 (a2 + 1)) = j_ := ⟨_, rfl⟩
        replace H : (if 0 ≤ (ji19) then (if x358002_1.length < 17592186044416 then (impl_Board_strike.l0 k1 a1 a2 l0_2 (l0_2.length : Int) (wrap64 (x20_1 + 1)) (wrap64 (a0_0 - 1)) (wrap64 (a0_1 - 1)) (x358002_1 ++ [Go.bits .or .i64 (Go.bits .and .i64 (rd l0_2 x20_1) (wrap64 ((ji18) - 1))) (shl .i64 (shr .i64 (rd l0_2 x20_1) (ji19)) a2)])) else (none)) else (none)) = some (r1, r2, r3) := by first | (rw [hji19] at H; exact H) | (simp only [hji19] at H ⊢; exact H)
        have hji19w : (IntKind.i64.wrap (a2 + 1)) = ji19 := (i64_w _).trans hji19
        by_cases c20 : 0 ≤ (ji19)
        ·
         rw [if_pos c20] at H
         have c20b0 := eq_true c20
         have c20b1 : decide (0 ≤ (ji19)) = true := decide_eq_true c20
         clear c20
         obtain ⟨ji21, hji21⟩ : ∃ j_ : Int, (shr .i64 (rd l0_2 x20_1) (ji19)) = j_ := ⟨_, rfl⟩
         replace H : (if x358002_1.length < 17592186044416 then (impl_Board_strike.l0 k1 a1 a2 l0_2 (l0_2.length : Int) (wrap64 (x20_1 + 1)) (wrap64 (a0_0 - 1)) (wrap64 (a0_1 - 1)) (x358002_1 ++ [Go.bits .or .i64 (Go.bits .and .i64 (rd l0_2 x20_1) (wrap64 ((ji18) - 1))) (shl .i64 (ji21) a2)])) else (none)) = some (r1, r2, r3) := by first | (rw [hji21] at H; exact H) | (simp only [hji21] at H ⊢; exact H)
         have hji21_ : ((rd l0_2 x20_1) / 2 ^ min (ji19).toNat 64) = ji21 := hji21
         have hji21z : (ji19) ≤ 64 → ((rd l0_2 x20_1) / 2 ^ (ji19).toNat) = ji21 := shr_small hji21
         have c22b0 := eq_true (of_decide_eq_true Q2 : 0 ≤ a2)
         obtain ⟨ji23, hji23⟩ : ∃ j_ : Int, (shl .i64 (ji21) a2) = j_ := ⟨_, rfl⟩
         replace H : (if x358002_1.length < 17592186044416 then (impl_Board_strike.l0 k1 a1 a2 l0_2 (l0_2.length : Int) (wrap64 (x20_1 + 1)) (wrap64 (a0_0 - 1)) (wrap64 (a0_1 - 1)) (x358002_1 ++ [Go.bits .or .i64 (Go.bits .and .i64 (rd l0_2 x20_1) (wrap64 ((ji18) - 1))) (ji23)])) else (none)) = some (r1, r2, r3) := by first | (rw [hji23] at H; exact H) | (simp only [hji23] at H ⊢; exact H)
         have hji23_ : (IntKind.i64.wrap ((ji21) * 2 ^ min a2.toNat 64)) = ji23 := hji23
         have hji23z : a2 ≤ 64 → (IntKind.i64.wrap ((ji21) * 2 ^ a2.toNat)) = ji23 := shl_small hji23
         have hji23y : (wrap64 ((ji21) * 2 ^ min a2.toNat 64)) = ji23 := (i64_w _).symm.trans hji23_
         have hji23x : a2 ≤ 64 → (wrap64 ((ji21) * 2 ^ a2.toNat)) = ji23 := fun h_ => (i64_w _).symm.trans (hji23z h_)
         by_cases c24 : x358002_1.length < 17592186044416
         ·
          rw [if_pos c24] at H
          have LMc24 := Aside0.mk c24
          clear c24
          obtain ⟨y359, hy_⟩ : ∃ y_ : List Int, y_ = ((x358002_1 ++ [Go.bits .or .i64 (Go.bits .and .i64 (rd l0_2 x20_1) (wrap64 ((ji18) - 1))) (ji23)])) := ⟨_, rfl⟩
          replace H : (impl_Board_strike.l0 k1 a1 a2 l0_2 (l0_2.length : Int) (wrap64 (x20_1 + 1)) (wrap64 (a0_0 - 1)) (wrap64 (a0_1 - 1)) y359) = some (r1, r2, r3) := qH
          have Ny359 := Aside0.mk hy_
          clear hy_
          have H' := Aside0.mk H
          clear H
          have p358 : 0 ≤ (x20_1 : Int) := of_decide_eq_true Q2
          have q358 : x20_1 < (l0_2.length : Int) := of_decide_eq_true Q2
          obtain ⟨ad358, e358, hx358_0⟩ := Kd.at_int HR0_2.out x20_1 p358 q358
          cases e358
          replace hx358_0 := (HB.out.cell (World.block_lt_of_cell? w _ hx358_0)).trans hx358_0
          replace p358 := eq_true p358
          replace q358 := eq_true q358
          try go_wp2
          replace Oq2 := am (Kd.R_drew Oq2.out)
          replace BK355 := am (blk_drew BK355.out)
          replace BK356 := am (blk_drew BK356.out)
          replace BK357 := am (blk_drew BK357.out)
          replace HB := am (below_drew1 HB.out)
          refine start_ (n := 18) (S := fun w' => w'.cell? ⟨gb357, 0, none⟩ = some (.int .i64 (wrap64 (a0_0 - 1))) ∧ w'.cell? ⟨gb357, 1, none⟩ = some (.int .i64 (wrap64 (a0_1 - 1))) ∧ w'.cell? ⟨gb357, 2, none⟩ = some (u358002)) (ds := [17]) #[false, false, false, false, false, false, false, false, false, false, false, false, false, false, false, false, false, false] (by kernel_rfl) rfl rfl ⟨sqc BK357 0, sqc BK357 1, sqc BK357 2⟩ (fun hHeld => ?_); refine with_tabW impl_Board_strike.tab6 impl_Board_strike.bits6 (fun HT_ HW_ => ?_)
          generalize wr.drew = w25 at Oq2 BK355 BK356 BK357 HB hHeld ⊢
          refine qp 0 (some 28) #[true, false, false, false, false, false, false, false, false, false, false, false, false, false, false, false, false, false] ?_
          refine qp 2 (some 30) #[true, false, true, false, false, false, false, false, false, false, false, false, false, false, false, false, false, false] ?_
          refine qp 3 (some 31) #[true, false, true, true, false, false, false, false, false, false, false, false, false, false, false, false, false, false] ?_
          refine qp 4 (some 32) #[true, false, true, true, true, false, false, false, false, false, false, false, false, false, false, false, false, false] ?_
          refine qp 5 (some 33) #[true, false, true, true, true, true, false, false, false, false, false, false, false, false, false, false, false, false] ?_
          refine qp 6 (some 34) #[true, false, true, true, true, true, true, false, false, false, false, false, false, false, false, false, false, false] ?_
          refine qp 7 (some 35) #[true, false, true, true, true, true, true, true, false, false, false, false, false, false, false, false, false, false] ?_
          refine qp 8 (some 36) #[true, false, true, true, true, true, true, true, true, false, false, false, false, false, false, false, false, false] ?_
          refine qp 9 (some 37) #[true, false, true, true, true, true, true, true, true, true, false, false, false, false, false, false, false, false] ?_
          refine qp 10 (some 38) #[true, false, true, true, true, true, true, true, true, true, true, false, false, false, false, false, false, false] ?_
          refine qp 11 (some 39) #[true, false, true, true, true, true, true, true, true, true, true, true, false, false, false, false, false, false] ?_
          refine qp 12 (some 40) #[true, false, true, true, true, true, true, true, true, true, true, true, true, false, false, false, false, false] ?_
          refine qp 13 (some 41) #[true, false, true, true, true, true, true, true, true, true, true, true, true, true, false, false, false, false] ?_
          refine take_ (i := 1) (N := some 29) (v := ?_) (a' := ?_) #[true, true, true, true, true, true, true, true, true, true, true, true, true, true, false, false, false, false] rfl rfl (take_ofW HT_.out HW_.out (by kernel_rfl)) (fun _ _ _ h => h) (Or.inl ⟨by rfl, ?_⟩) hHeld ?_ ?_
          rotate_left
          ·
           rintro w' ⟨s0, s1, s2⟩
           go_simp
           with_reducible rfl
          rotate_left
          ·
           simp only [Act.put, List.setIfInBounds_toArray, List.set_cons_zero, List.set_cons_succ, i64_w, i32_w]
           rfl
          refine one_ (i := 14) (N := some 42) #[true, true, true, true, true, true, true, true, true, true, true, true, true, true, true, false, false, false] rfl rfl (one_of HT_.out (by kernel_rfl)) (by decide) fun K hK => ?_
          refine value_ (w1 := ?_) (v := ?_) (by rfl) rfl ?_ ?_
          rotate_left 2
          ·
           go_simp
           constructor
           ·
            rfl
           ·
            rfl
          refine hK.out _ _ ⟨(blk_cell (blk_alloc BK357.out _) 0).trans rfl, (blk_cell (blk_alloc BK357.out _) 1).trans rfl, (blk_cell (blk_alloc BK357.out _) 2).trans rfl⟩ (fun hHeld => ?_)
          clear hK K
          refine qq (some 42) ?_
          refine one_ (i := 15) (N := some 43) #[true, true, true, true, true, true, true, true, true, true, true, true, true, true, true, true, false, false] rfl rfl (one_of HT_.out (by kernel_rfl)) (by decide) fun K hK => ?_
          refine Kd.R_append_step (Kd.int .i64) (w0 := w) w.heap.size (by rfl) (.tmp 29) (.tmp 42) 24 3 (.int .i64 0) 8 rfl Try.underlying24 info3 rfl (by decide) (by omega) u358002 x358002_1 (Go.bits .or .i64 (Go.bits .and .i64 (rd l0_2 x20_1) (wrap64 ((ji18) - 1))) (ji23)) [.int .i64 (Go.bits .or .i64 (Go.bits .and .i64 (rd l0_2 x20_1) (wrap64 ((ji18) - 1))) (ji23))] (fun _ => True) (fun _ => False) rfl rfl ?aP (fun _ hk => hk.elim) ?aF ?aO ?aB ?aS ?aL ?_
          (case aP => exact rfl)
          (case aB => exact qb)
          (case aF => exact (fun _ _ => trivial))
          (case aO => exact (sqr Oq2))
          (case aS => exact (below_size qb))
          (case aL => have := LMc24.out; omega)
          intro v360 w26 ho hb hg hat
          rw [← Ny359.out] at ho
          have Oq0 := am (ho)
          replace BK355 := am (blk_grown (g := gb355) (o := .cells #[.int .i64 a0_0, .int .i64 a0_1, .slice (some ad358) l0_2.length c0_2] 26 (0, 0)) (sqb BK355) hg (Kd.R_ne Oq2.out BK355.out (by decide)))
          replace BK356 := am (blk_grown (g := gb356) (o := .cells #[.int .i64 0, .int .i64 0, .slice none 0 0] 26 (0, 0)) (sqb BK356) hg (Kd.R_ne Oq2.out BK356.out (by decide)))
          replace BK357 := am (blk_grown (g := gb357) (o := .cells #[.int .i64 (wrap64 (a0_0 - 1)), .int .i64 (wrap64 (a0_1 - 1)), u358002] 26 (0, 0)) (sqb BK357) hg (Kd.R_ne Oq2.out BK357.out (by decide)))
          replace HB := am hb
          clear Oq2
          clear ho hb hg hat
          obtain ⟨Ao27, co27, eo27⟩ := Kd.R_slice Oq0.out
          (first | subst eo27 | (injection eo27 with f1_ f2_ f3_; have f4_ := f1_.symm; have f5_ := f3_.symm; clear f1_ f2_ f3_; subst f4_; subst f5_))
          refine hK.out _ _ ⟨sqc BK357 0, sqc BK357 1, sqc BK357 2⟩ (fun hHeld => ?_)
          clear hK K
          refine qq (some 43) ?_
          refine qp 16 (some 44) #[true, true, true, true, true, true, true, true, true, true, true, true, true, true, true, true, true, false] ?_
          refine last_ (i := 17) (N := none) #[true, true, true, true, true, true, true, true, true, true, true, true, true, true, true, true, true, true] rfl rfl (one_of HT_.out (by kernel_rfl)) (by decide) fun K hK => ?_
          have hs28 : w26.cell? ⟨gb357, 2, none⟩ = some (u358002) := sqc BK357 2
          have hfs28 := blk_frozen BK357.out 2
          have hq0 := Nq1.out
          have hq1 := Nq3.out
          have hms28_0 := Nq4.out
          have hms28_1 := Nq5.out
          refine skip_ (w1 := ?_) (by rfl) rfl ?_ ?_
          rotate_left
          ·
           go_simp
           rfl
          refine hK.out _ _ ?_
          clear hK K
          refine done_ (done_of HT_.out (by kernel_rfl)) ?_
          try go_wp2
          go_roundg k1
          case measure => have := HK1.out; omega
          case rel => exact ⟨(wrap64 (x20_1 + 1)), (y359), (.slice Ao27 y359.length co27), Q3, H', ⟨Q55⟩, ⟨by (with_reducible repeat (first | apply Kd.R_alloc | apply Kd.R_drewN | apply Kd.R_drew)); exact Kd.R_mono (Kd.R_far (p := ⟨gb357, 2, none⟩) (Kd.R_types Oq0.out BK357.out (by decide)) (fun _ hk => hk.2) (.slice Ao27 y359.length co27)) (fun _ hk => trivial)⟩, ⟨by (with_reducible repeat (first | refine blk_drewN ?_ _ | refine blk_drew ?_ | refine blk_alloc ?_ _)); refine blk_far ?_ Nq1.out _; (with_reducible repeat (first | refine blk_drewN ?_ _ | refine blk_drew ?_ | refine blk_alloc ?_ _)); exact BK355.out⟩, ⟨by (with_reducible repeat (first | refine blk_drewN ?_ _ | refine blk_drew ?_ | refine blk_alloc ?_ _)); refine blk_far ?_ Nq3.out _; (with_reducible repeat (first | refine blk_drewN ?_ _ | refine blk_drew ?_ | refine blk_alloc ?_ _)); exact BK356.out⟩, ⟨by (with_reducible repeat (first | refine blk_drewN ?_ _ | refine blk_drew ?_ | refine blk_alloc ?_ _)); refine blk_put (cs := #[.int .i64 (wrap64 (a0_0 - 1)), .int .i64 (wrap64 (a0_1 - 1)), u358002]) ?_ 2 _ rfl; (with_reducible repeat (first | refine blk_drewN ?_ _ | refine blk_drew ?_ | refine blk_alloc ?_ _)); exact BK357.out⟩, ⟨qb⟩⟩
         ·
          rw [if_neg c24] at H
          exact absurd H (by simp)
        ·
         rw [if_neg c20] at H
         exact absurd H (by simp)
       ·
        rw [if_neg c17] at H
        exact absurd H (by simp)
     ·
      rw [if_neg c15] at H
      exact absurd H (by simp)
    ·
     rw [if_neg c14] at H
     exact absurd H (by simp)
   ·
    rw [if_neg c13] at H
    have c13b0 : decide (x20_1 < (l0_2.length : Int)) = false := decide_eq_false c13
    clear c13
    simp only [Option.some.injEq, Prod.mk.injEq] at H
    obtain ⟨rfl, rfl, rfl⟩ := H
    have bq3 := Nq4.out
    have cq3 := Nq1.out
    have bq4 := Nq5.out
    have cq4 := Nq3.out
    obtain ⟨zq33, zq34, zq35, fq33, fq34, fq35⟩ := qd BK357
    have bq6 := Nq2.out
    have cq6 := Nq0.out
    obtain ⟨zq39, zq40, zq41, fq39, fq40, fq41⟩ := qd BK356
    obtain ⟨Ao34, co34, eo34⟩ := Kd.R_slice Oq2.out
    subst eo34
    go_wp2
    refine bodyPost_ret (results_cell_row rfl _ _ gb356 26 #[.int .i64 (wrap64 (a0_0 - 1)), .int .i64 (wrap64 (a0_1 - 1)), .slice Ao34 x358002_1.length co34] (0, 0) _ rfl (by (with_reducible repeat (first | refine blk_drewN ?_ _ | refine blk_drew ?_ | refine blk_alloc ?_ _)); refine blk_put (cs := #[.int .i64 (wrap64 (a0_0 - 1)), .int .i64 (wrap64 (a0_1 - 1)), .slice none 0 0]) ?_ 2 _ rfl; (with_reducible repeat (first | refine blk_drewN ?_ _ | refine blk_drew ?_ | refine blk_alloc ?_ _)); refine blk_put (cs := #[.int .i64 (wrap64 (a0_0 - 1)), .int .i64 0, .slice none 0 0]) ?_ 1 _ rfl; (with_reducible repeat (first | refine blk_drewN ?_ _ | refine blk_drew ?_ | refine blk_alloc ?_ _)); refine blk_put (cs := #[.int .i64 0, .int .i64 0, .slice none 0 0]) ?_ 0 _ rfl; (with_reducible repeat (first | refine blk_drewN ?_ _ | refine blk_drew ?_ | refine blk_alloc ?_ _)); exact BK356.out) Try.underlying26 rfl (by kernel_rfl)) rfl ?_
    exact ⟨_, Q1, by (with_reducible repeat (first | apply Kd.R_alloc | apply Kd.R_drewN | apply Kd.R_drew)); exact Kd.R_mono (Kd.R_far (p := ⟨gb356, 2, none⟩) (Kd.R_far (p := ⟨gb356, 1, none⟩) (Kd.R_far (p := ⟨gb356, 0, none⟩) (Kd.R_types Oq2.out BK356.out (by decide)) (fun _ hk => hk.2) (.int .i64 (wrap64 (a0_0 - 1)))) (fun _ hk => hk.2) (.int .i64 (wrap64 (a0_1 - 1)))) (fun _ hk => hk.2) (.slice Ao34 x358002_1.length co34)) (fun _ hk => trivial), qb⟩

/-! ### impl_StrikeCell: function 17 -/
def impl_StrikeCell.f (k : Nat) (a0_0 : Int) (a0_1 : Int) (l0_2 : List Int) (a1 : Int) (a2 : Int) : Option (Int × Int × List Int × Bool) := (impl_IsBoard.f a0_0 a0_1 l0_2).bind fun t364 => (if t364 = true then ((impl_Board_place.f a0_0 a0_1 l0_2 a1 a2).bind fun t365 => (if t365 = true then (if a0_0 = 1 then (some (0, 0, ([] : List Int), false)) else (if a0_1 = 1 then (some (0, 0, ([] : List Int), false)) else ((impl_Board_strike.f k a0_0 a0_1 l0_2 a1 a2).bind fun bt366 => (some (bt366.1, bt366.2.1, bt366.2.2, true))))) else (some (0, 0, ([] : List Int), false)))) else (some (0, 0, ([] : List Int), false)))
set_option maxHeartbeats 8000000 in
set_option maxRecDepth 100000 in
theorem impl_StrikeCell.calls (k : Nat) (a0_0 : Int) (a0_1 : Int) (A0_2 : Option Addr) (c0_2 : Nat) (l0_2 : List Int) (a1 : Int) (a2 : Int) (r1 : Int) (r2 : Int) (r3 : List Int) (r4 : Bool) (w : World) (hr0_2 : Kd.C (Kd.int .i64) w A0_2 l0_2.length l0_2) (hc0_2 : l0_2.length ≤ c0_2) (h : impl_StrikeCell.f k a0_0 a0_1 l0_2 a1 a2 = some (r1, r2, r3, r4)) :
  Calls Try.prog 17 #[.agg #[.int .i64 a0_0, .int .i64 a0_1, .slice A0_2 l0_2.length c0_2], .int .i64 a1, .int .i64 a2] w fun e w' => ∃ v2_ : Value, e = .returned (.tuple #[.agg #[.int .i64 r1, .int .i64 r2, v2_], .bool r4]) ∧ Kd.R (Kd.int .i64) 3 w' w.heap.size (fun _ => True) v2_ r3 ∧ Below w.heap.size w w' := by
 have hu26 := Try.underlying26
 have HR0_2 := Aside0.mk hr0_2
 have HC0_2 := Aside0.mk hc0_2
 clear hr0_2 hc0_2
 have HB := am (Below.refl w.heap.size w)
 have H : ((impl_IsBoard.f a0_0 a0_1 l0_2).bind fun t364 => (if t364 = true then ((impl_Board_place.f a0_0 a0_1 l0_2 a1 a2).bind fun t365 => (if t365 = true then (if a0_0 = 1 then (some (0, 0, ([] : List Int), false)) else (if a0_1 = 1 then (some (0, 0, ([] : List Int), false)) else ((impl_Board_strike.f k a0_0 a0_1 l0_2 a1 a2).bind fun bt366 => (some (bt366.1, bt366.2.1, bt366.2.2, true))))) else (some (0, 0, ([] : List Int), false)))) else (some (0, 0, ([] : List Int), false)))) = some (r1, r2, r3, r4) := h
 clear h
 replace H := qE H
 obtain ⟨t364, A4, H⟩ := H
 replace H : (if t364 = true then ((impl_Board_place.f a0_0 a0_1 l0_2 a1 a2).bind fun t365 => (if t365 = true then (if a0_0 = 1 then (some (0, 0, ([] : List Int), false)) else (if a0_1 = 1 then (some (0, 0, ([] : List Int), false)) else ((impl_Board_strike.f k a0_0 a0_1 l0_2 a1 a2).bind fun bt366 => (some (bt366.1, bt366.2.1, bt366.2.2, true))))) else (some (0, 0, ([] : List Int), false)))) else (some (0, 0, ([] : List Int), false))) = some (r1, r2, r3, r4) := H
 by_cases c5 : t364 = true
 ·
  subst c5
  have H1 : ((impl_Board_place.f a0_0 a0_1 l0_2 a1 a2).bind fun t365 => (if t365 = true then (if a0_0 = 1 then (some (0, 0, ([] : List Int), false)) else (if a0_1 = 1 then (some (0, 0, ([] : List Int), false)) else ((impl_Board_strike.f k a0_0 a0_1 l0_2 a1 a2).bind fun bt366 => (some (bt366.1, bt366.2.1, bt366.2.2, true))))) else (some (0, 0, ([] : List Int), false)))) = some (r1, r2, r3, r4) := by first | (rw [if_pos rfl] at H; exact H) | rfl
  clear H
  have H := H1
  clear H1
  replace H := qE H
  obtain ⟨t365, A6, H⟩ := H
  replace H : (if t365 = true then (if a0_0 = 1 then (some (0, 0, ([] : List Int), false)) else (if a0_1 = 1 then (some (0, 0, ([] : List Int), false)) else ((impl_Board_strike.f k a0_0 a0_1 l0_2 a1 a2).bind fun bt366 => (some (bt366.1, bt366.2.1, bt366.2.2, true))))) else (some (0, 0, ([] : List Int), false))) = some (r1, r2, r3, r4) := H
  by_cases c7 : t365 = true
  ·
   subst c7
   have H1 : (if a0_0 = 1 then (some (0, 0, ([] : List Int), false)) else (if a0_1 = 1 then (some (0, 0, ([] : List Int), false)) else ((impl_Board_strike.f k a0_0 a0_1 l0_2 a1 a2).bind fun bt366 => (some (bt366.1, bt366.2.1, bt366.2.2, true))))) = some (r1, r2, r3, r4) := by first | (rw [if_pos rfl] at H; exact H) | rfl
   clear H
   have H := H1
   clear H1
   by_cases c8 : a0_0 = 1
   ·
    rw [if_pos c8] at H
    have c8b0 : (a0_0 == 1) = true := beq_iff_eq.mpr c8
    have c8b1 : (a0_0 != 1) = false := bne_eq_false_iff_eq.mpr c8
    clear c8
    simp only [Option.some.injEq, Prod.mk.injEq] at H
    obtain ⟨rfl, rfl, rfl, rfl⟩ := H
    go_enter Try.func17, Try.ntmps17
    go_wp2_with (first | ((with_reducible refine gate_dst (N := 3) rfl ?_); refine qv 3 #[.int .i64 a0_0, .int .i64 a0_1, .slice A0_2 l0_2.length c0_2] 26 ?_; intro gb362 hg w9 hbox hb; have BK362 := am hbox; have GW362 := qw hg; have GE362 := qw hg; replace HB := qs hb; clear hb hbox hg) | ((with_reducible refine gate_dst (N := 6) rfl ?_); refine qv 6 #[.int .i64 0, .int .i64 0, .slice none 0 0] 26 ?_; intro gb363 hg w10 hbox hb; have BK363 := am hbox; have GW363 := qw hg; have GE363 := qw hg; have Nq6 := qn hg BK362; have Nq7 := qN hg BK362; replace BK362 := sqB BK362 hb; replace HB := qs hb; clear hb hbox hg; have bq1 := Nq6.out; have cq1 := Nq7.out; obtain ⟨zq6, zq7, zq8, fq6, fq7, fq8⟩ := qd BK362) | ((with_reducible refine gate_callee (f := 66) rfl ?_); refine qg (some 9) Try.func66 #[.agg #[.int .i64 a0_0, .int .i64 a0_1, .slice A0_2 l0_2.length c0_2]] ?_; (with_reducible refine (impl_IsBoard.calls a0_0 a0_1 _ _ l0_2 true _ ?side1 HC0_2.out A4.out).mono ?_); (case side1 => exact Q0); rintro e w13 ⟨rfl, hb⟩; refine ⟨_, rfl, ?_⟩; replace BK362 := sqB BK362 hb; replace BK363 := sqB BK363 hb; replace HB := qs hb; (try clear hb); obtain ⟨zq9, zq10, zq11, fq9, fq10, fq11⟩ := qd BK362) | (go_at_call 67; (with_reducible refine (impl_Board_place.calls a0_0 a0_1 _ _ l0_2 a1 a2 true _ ?side1 HC0_2.out A6.out).mono ?_); (case side1 => exact Q0); rintro e w15 ⟨rfl, hb⟩; replace BK362 := sqB BK362 hb; replace BK363 := sqB BK363 hb; replace HB := qs hb; (try clear hb); obtain ⟨zq12, zq13, zq14, fq12, fq13, fq14⟩ := qd BK362; obtain ⟨zq15, zq16, zq17, fq15, fq16, fq17⟩ := qd BK363))
    refine bodyPost_ret (results_ct rfl _ _ gb363 26 #[.int .i64 0, .int .i64 0, .slice none 0 0] (0, 0) _ rfl Q7 Try.underlying26 rfl (by kernel_rfl)) rfl ?_
    exact ⟨_, Q1, Q11, qb⟩
   ·
    rw [if_neg c8] at H
    have c8b0 : (a0_0 == 1) = false := beq_eq_false_iff_ne.mpr c8
    have c8b1 : (a0_0 != 1) = true := bne_iff_ne.mpr c8
    by_cases c18 : a0_1 = 1
    ·
     rw [if_pos c18] at H
     have c18b0 : (a0_1 == 1) = true := beq_iff_eq.mpr c18
     have c18b1 : (a0_1 != 1) = false := bne_eq_false_iff_eq.mpr c18
     clear c18
     simp only [Option.some.injEq, Prod.mk.injEq] at H
     obtain ⟨rfl, rfl, rfl, rfl⟩ := H
     go_enter Try.func17, Try.ntmps17
     go_wp2_with (first | ((with_reducible refine gate_dst (N := 3) rfl ?_); refine qv 3 #[.int .i64 a0_0, .int .i64 a0_1, .slice A0_2 l0_2.length c0_2] 26 ?_; intro gb362 hg w19 hbox hb; have BK362 := am hbox; have GW362 := qw hg; have GE362 := qw hg; replace HB := qs hb; clear hb hbox hg) | ((with_reducible refine gate_dst (N := 6) rfl ?_); refine qv 6 #[.int .i64 0, .int .i64 0, .slice none 0 0] 26 ?_; intro gb363 hg w20 hbox hb; have BK363 := am hbox; have GW363 := qw hg; have GE363 := qw hg; have Nq6 := qn hg BK362; have Nq7 := qN hg BK362; replace BK362 := sqB BK362 hb; replace HB := qs hb; clear hb hbox hg; have bq2 := Nq6.out; have cq2 := Nq7.out; obtain ⟨zq21, zq22, zq23, fq21, fq22, fq23⟩ := qd BK362) | ((with_reducible refine gate_callee (f := 66) rfl ?_); refine qg (some 9) Try.func66 #[.agg #[.int .i64 a0_0, .int .i64 a0_1, .slice A0_2 l0_2.length c0_2]] ?_; (with_reducible refine (impl_IsBoard.calls a0_0 a0_1 _ _ l0_2 true _ ?side1 HC0_2.out A4.out).mono ?_); (case side1 => exact Q0); rintro e w23 ⟨rfl, hb⟩; refine ⟨_, rfl, ?_⟩; replace BK362 := sqB BK362 hb; replace BK363 := sqB BK363 hb; replace HB := qs hb; (try clear hb); obtain ⟨zq24, zq25, zq26, fq24, fq25, fq26⟩ := qd BK362) | (go_at_call 67; (with_reducible refine (impl_Board_place.calls a0_0 a0_1 _ _ l0_2 a1 a2 true _ ?side1 HC0_2.out A6.out).mono ?_); (case side1 => exact Q0); rintro e w25 ⟨rfl, hb⟩; replace BK362 := sqB BK362 hb; replace BK363 := sqB BK363 hb; replace HB := qs hb; (try clear hb); obtain ⟨zq27, zq28, zq29, fq27, fq28, fq29⟩ := qd BK362; obtain ⟨zq30, zq31, zq32, fq30, fq31, fq32⟩ := qd BK363))
     refine bodyPost_ret (results_ct rfl _ _ gb363 26 #[.int .i64 0, .int .i64 0, .slice none 0 0] (0, 0) _ rfl Q7 Try.underlying26 rfl (by kernel_rfl)) rfl ?_
     exact ⟨_, Q1, Q11, qb⟩
    ·
     rw [if_neg c18] at H
     have c18b0 : (a0_1 == 1) = false := beq_eq_false_iff_ne.mpr c18
     have c18b1 : (a0_1 != 1) = true := bne_iff_ne.mpr c18
     replace H := qE H
     obtain ⟨⟨t366, t367, t368⟩, A28, H⟩ := H
     replace H : (some (t366, t367, t368, true)) = some (r1, r2, r3, r4) := H
     simp only [Option.some.injEq, Prod.mk.injEq] at H
     obtain ⟨rfl, rfl, rfl, rfl⟩ := H
     go_enter Try.func17, Try.ntmps17
     go_wp2_with (first | ((with_reducible refine gate_dst (N := 3) rfl ?_); refine qv 3 #[.int .i64 a0_0, .int .i64 a0_1, .slice A0_2 l0_2.length c0_2] 26 ?_; intro gb362 hg w29 hbox hb; have BK362 := am hbox; have GW362 := qw hg; have GE362 := qw hg; replace HB := qs hb; clear hb hbox hg) | ((with_reducible refine gate_dst (N := 6) rfl ?_); refine qv 6 #[.int .i64 0, .int .i64 0, .slice none 0 0] 26 ?_; intro gb363 hg w30 hbox hb; have BK363 := am hbox; have GW363 := qw hg; have GE363 := qw hg; have Nq6 := qn hg BK362; have Nq7 := qN hg BK362; replace BK362 := sqB BK362 hb; replace HB := qs hb; clear hb hbox hg; have bq5 := Nq6.out; have cq5 := Nq7.out; obtain ⟨zq36, zq37, zq38, fq36, fq37, fq38⟩ := qd BK362) | ((with_reducible refine gate_callee (f := 66) rfl ?_); refine qg (some 9) Try.func66 #[.agg #[.int .i64 a0_0, .int .i64 a0_1, .slice A0_2 l0_2.length c0_2]] ?_; (with_reducible refine (impl_IsBoard.calls a0_0 a0_1 _ _ l0_2 true _ ?side1 HC0_2.out A4.out).mono ?_); (case side1 => exact Q0); rintro e w33 ⟨rfl, hb⟩; refine ⟨_, rfl, ?_⟩; replace BK362 := sqB BK362 hb; replace BK363 := sqB BK363 hb; replace HB := qs hb; (try clear hb); obtain ⟨zq42, zq43, zq44, fq42, fq43, fq44⟩ := qd BK362) | (go_at_call 67; (with_reducible refine (impl_Board_place.calls a0_0 a0_1 _ _ l0_2 a1 a2 true _ ?side1 HC0_2.out A6.out).mono ?_); (case side1 => exact Q0); rintro e w35 ⟨rfl, hb⟩; replace BK362 := sqB BK362 hb; replace BK363 := sqB BK363 hb; replace HB := qs hb; (try clear hb); obtain ⟨zq45, zq46, zq47, fq45, fq46, fq47⟩ := qd BK362) | ((with_reducible refine gate_callee (f := 68) rfl ?_); refine qg (some 32) Try.func68 #[.agg #[.int .i64 a0_0, .int .i64 a0_1, .slice A0_2 l0_2.length c0_2], .int .i64 a1, .int .i64 a2] ?_; (with_reducible refine (impl_Board_strike.calls k a0_0 a0_1 _ _ l0_2 a1 a2 t366 t367 t368 _ ?side1 HC0_2.out A28.out).mono ?_); (case side1 => exact Q0); rintro e w37 ⟨v369, rfl, ho0, hb⟩; refine ⟨_, rfl, ?_⟩; have Oq1 := ql ho0; replace BK362 := sqB BK362 hb; replace BK363 := sqB BK363 hb; replace HB := qs hb; (try clear hb ho0); obtain ⟨zq48, zq49, zq50, fq48, fq49, fq50⟩ := qd BK363; obtain ⟨Ao39, co39, eo39⟩ := Kd.R_slice Oq1.out; subst eo39))
     refine bodyPost_ret (results_ct rfl _ _ gb363 26 #[.int .i64 t366, .int .i64 t367, .slice Ao39 t368.length co39] (0, 0) _ rfl (by (with_reducible repeat (first | refine blk_drewN ?_ _ | refine blk_drew ?_ | refine blk_alloc ?_ _)); refine blk_put (cs := #[.int .i64 t366, .int .i64 t367, .slice none 0 0]) ?_ 2 _ rfl; (with_reducible repeat (first | refine blk_drewN ?_ _ | refine blk_drew ?_ | refine blk_alloc ?_ _)); refine blk_put (cs := #[.int .i64 t366, .int .i64 0, .slice none 0 0]) ?_ 1 _ rfl; (with_reducible repeat (first | refine blk_drewN ?_ _ | refine blk_drew ?_ | refine blk_alloc ?_ _)); refine blk_put (cs := #[.int .i64 0, .int .i64 0, .slice none 0 0]) ?_ 0 _ rfl; (with_reducible repeat (first | refine blk_drewN ?_ _ | refine blk_drew ?_ | refine blk_alloc ?_ _)); exact BK363.out) Try.underlying26 rfl (by kernel_rfl)) rfl ?_
     exact ⟨_, Q1, by (with_reducible repeat (first | apply Kd.R_alloc | apply Kd.R_drewN | apply Kd.R_drew)); exact Kd.R_mono (Kd.R_far (p := ⟨gb363, 2, none⟩) (Kd.R_far (p := ⟨gb363, 1, none⟩) (Kd.R_far (p := ⟨gb363, 0, none⟩) (Kd.R_types Oq1.out BK363.out (by decide)) (fun _ hk => hk.2) (.int .i64 t366)) (fun _ hk => hk.2) (.int .i64 t367)) (fun _ hk => hk.2) (.slice Ao39 t368.length co39)) (fun _ hk => trivial), qb⟩
  ·
   replace c7 := Bool.eq_false_iff.mpr c7
   subst c7
   have H1 : (some (0, 0, ([] : List Int), false)) = some (r1, r2, r3, r4) := by first | (rw [if_neg (show ¬ (false = true) by decide)] at H; exact H) | rfl
   clear H
   have H := H1
   clear H1
   simp only [Option.some.injEq, Prod.mk.injEq] at H
   obtain ⟨rfl, rfl, rfl, rfl⟩ := H
   go_enter Try.func17, Try.ntmps17
   go_wp2_with (first | ((with_reducible refine gate_dst (N := 3) rfl ?_); refine qv 3 #[.int .i64 a0_0, .int .i64 a0_1, .slice A0_2 l0_2.length c0_2] 26 ?_; intro gb362 hg w40 hbox hb; have BK362 := am hbox; have GW362 := qw hg; have GE362 := qw hg; replace HB := qs hb; clear hb hbox hg) | ((with_reducible refine gate_dst (N := 6) rfl ?_); refine qv 6 #[.int .i64 0, .int .i64 0, .slice none 0 0] 26 ?_; intro gb363 hg w41 hbox hb; have BK363 := am hbox; have GW363 := qw hg; have GE363 := qw hg; have Nq6 := qn hg BK362; have Nq7 := qN hg BK362; replace BK362 := sqB BK362 hb; replace HB := qs hb; clear hb hbox hg; have bq7 := Nq6.out; have cq7 := Nq7.out; obtain ⟨zq51, zq52, zq53, fq51, fq52, fq53⟩ := qd BK362) | ((with_reducible refine gate_callee (f := 66) rfl ?_); refine qg (some 9) Try.func66 #[.agg #[.int .i64 a0_0, .int .i64 a0_1, .slice A0_2 l0_2.length c0_2]] ?_; (with_reducible refine (impl_IsBoard.calls a0_0 a0_1 _ _ l0_2 true _ ?side1 HC0_2.out A4.out).mono ?_); (case side1 => exact Q0); rintro e w44 ⟨rfl, hb⟩; refine ⟨_, rfl, ?_⟩; replace BK362 := sqB BK362 hb; replace BK363 := sqB BK363 hb; replace HB := qs hb; (try clear hb); obtain ⟨zq54, zq55, zq56, fq54, fq55, fq56⟩ := qd BK362) | (go_at_call 67; (with_reducible refine (impl_Board_place.calls a0_0 a0_1 _ _ l0_2 a1 a2 false _ ?side1 HC0_2.out A6.out).mono ?_); (case side1 => exact Q0); rintro e w46 ⟨rfl, hb⟩; replace BK362 := sqB BK362 hb; replace BK363 := sqB BK363 hb; replace HB := qs hb; (try clear hb); obtain ⟨zq57, zq58, zq59, fq57, fq58, fq59⟩ := qd BK363))
   refine bodyPost_ret (results_ct rfl _ _ gb363 26 #[.int .i64 0, .int .i64 0, .slice none 0 0] (0, 0) _ rfl Q7 Try.underlying26 rfl (by kernel_rfl)) rfl ?_
   exact ⟨_, Q1, Q11, qb⟩
 ·
  replace c5 := Bool.eq_false_iff.mpr c5
  subst c5
  have H1 : (some (0, 0, ([] : List Int), false)) = some (r1, r2, r3, r4) := by first | (rw [if_neg (show ¬ (false = true) by decide)] at H; exact H) | rfl
  clear H
  have H := H1
  clear H1
  simp only [Option.some.injEq, Prod.mk.injEq] at H
  obtain ⟨rfl, rfl, rfl, rfl⟩ := H
  go_enter Try.func17, Try.ntmps17
  go_wp2_with (first | ((with_reducible refine gate_dst (N := 3) rfl ?_); refine qv 3 #[.int .i64 a0_0, .int .i64 a0_1, .slice A0_2 l0_2.length c0_2] 26 ?_; intro gb362 hg w48 hbox hb; have BK362 := am hbox; have GW362 := qw hg; have GE362 := qw hg; replace HB := qs hb; clear hb hbox hg) | ((with_reducible refine gate_dst (N := 6) rfl ?_); refine qv 6 #[.int .i64 0, .int .i64 0, .slice none 0 0] 26 ?_; intro gb363 hg w49 hbox hb; have BK363 := am hbox; have GW363 := qw hg; have GE363 := qw hg; have Nq6 := qn hg BK362; have Nq7 := qN hg BK362; replace BK362 := sqB BK362 hb; replace HB := qs hb; clear hb hbox hg; have bq8 := Nq6.out; have cq8 := Nq7.out; obtain ⟨zq60, zq61, zq62, fq60, fq61, fq62⟩ := qd BK362) | ((with_reducible refine gate_callee (f := 66) rfl ?_); refine qg (some 9) Try.func66 #[.agg #[.int .i64 a0_0, .int .i64 a0_1, .slice A0_2 l0_2.length c0_2]] ?_; (with_reducible refine (impl_IsBoard.calls a0_0 a0_1 _ _ l0_2 false _ ?side1 HC0_2.out A4.out).mono ?_); (case side1 => exact Q0); rintro e w52 ⟨rfl, hb⟩; refine ⟨_, rfl, ?_⟩; replace BK362 := sqB BK362 hb; replace BK363 := sqB BK363 hb; replace HB := qs hb; (try clear hb); obtain ⟨zq63, zq64, zq65, fq63, fq64, fq65⟩ := qd BK363))
  refine bodyPost_ret (results_ct rfl _ _ gb363 26 #[.int .i64 0, .int .i64 0, .slice none 0 0] (0, 0) _ rfl Q7 Try.underlying26 rfl (by kernel_rfl)) rfl ?_
  exact ⟨_, Q1, Q11, qb⟩

/-! ### spec_boPlace: function 69 -/
def spec_boPlace.f (k : Nat) (a0_0 : Int) (a0_1 : Int) (l0_2 : List Int) (a1 : Int) (a2 : Int) : Option (Bool) := (spec_boGood.f k a0_0 a0_1 l0_2).bind fun t372 => (if t372 = true then ((spec_l1In.f a1 0 (wrap64 (a0_0 - 1))).bind fun t373 => (if t373 = true then ((spec_l1In.f a2 0 (wrap64 (a0_1 - 1))).bind fun t374 => (some t374)) else (some false))) else (some false))
set_option maxHeartbeats 8000000 in
set_option maxRecDepth 100000 in
theorem spec_boPlace.calls (k : Nat) (a0_0 : Int) (a0_1 : Int) (A0_2 : Option Addr) (c0_2 : Nat) (l0_2 : List Int) (a1 : Int) (a2 : Int) (r : Bool) (w : World) (hr0_2 : Kd.C (Kd.int .i64) w A0_2 l0_2.length l0_2) (hc0_2 : l0_2.length ≤ c0_2) (h : spec_boPlace.f k a0_0 a0_1 l0_2 a1 a2 = some r) :
  Calls Try.prog 69 #[.agg #[.int .i64 a0_0, .int .i64 a0_1, .slice A0_2 l0_2.length c0_2], .int .i64 a1, .int .i64 a2] w fun e w' => e = .returned (.bool r) ∧ Below w.heap.size w w' := by
 have hu26 := Try.underlying26
 have HR0_2 := Aside0.mk hr0_2
 have HC0_2 := Aside0.mk hc0_2
 clear hr0_2 hc0_2
 have HB := am (Below.refl w.heap.size w)
 have H : ((spec_boGood.f k a0_0 a0_1 l0_2).bind fun t372 => (if t372 = true then ((spec_l1In.f a1 0 (wrap64 (a0_0 - 1))).bind fun t373 => (if t373 = true then ((spec_l1In.f a2 0 (wrap64 (a0_1 - 1))).bind fun t374 => (some t374)) else (some false))) else (some false))) = some r := h
 clear h
 replace H := qE H
 obtain ⟨t372, A4, H⟩ := H
 replace H : (if t372 = true then ((spec_l1In.f a1 0 (wrap64 (a0_0 - 1))).bind fun t373 => (if t373 = true then ((spec_l1In.f a2 0 (wrap64 (a0_1 - 1))).bind fun t374 => (some t374)) else (some false))) else (some false)) = some r := H
 by_cases c5 : t372 = true
 ·
  subst c5
  have H1 : ((spec_l1In.f a1 0 (wrap64 (a0_0 - 1))).bind fun t373 => (if t373 = true then ((spec_l1In.f a2 0 (wrap64 (a0_1 - 1))).bind fun t374 => (some t374)) else (some false))) = some r := by first | (rw [if_pos rfl] at H; exact H) | rfl
  clear H
  have H := H1
  clear H1
  replace H := qE H
  obtain ⟨t373, A6, H⟩ := H
  replace H : (if t373 = true then ((spec_l1In.f a2 0 (wrap64 (a0_1 - 1))).bind fun t374 => (some t374)) else (some false)) = some r := H
  by_cases c7 : t373 = true
  ·
   subst c7
   have H1 : ((spec_l1In.f a2 0 (wrap64 (a0_1 - 1))).bind fun t374 => (some t374)) = some r := by first | (rw [if_pos rfl] at H; exact H) | rfl
   clear H
   have H := H1
   clear H1
   replace H := qE H
   obtain ⟨t374, A8, H⟩ := H
   replace H : (some t374) = some r := H
   obtain rfl := Option.some.inj H
   go_enter Try.func69, Try.ntmps69
   go_wp2_with (first | ((with_reducible refine gate_dst (N := 3) rfl ?_); refine qv 3 #[.int .i64 a0_0, .int .i64 a0_1, .slice A0_2 l0_2.length c0_2] 26 ?_; intro gb371 hg w9 hbox hb; have BK371 := am hbox; have GW371 := qw hg; have GE371 := qw hg; replace HB := qs hb; clear hb hbox hg; obtain ⟨zq0, zq1, zq2, fq0, fq1, fq2⟩ := qd BK371) | ((with_reducible refine gate_callee (f := 60) rfl ?_); refine qg (some 8) Try.func60 #[.agg #[.int .i64 a0_0, .int .i64 a0_1, .slice A0_2 l0_2.length c0_2]] ?_; (with_reducible refine (spec_boGood.calls k a0_0 a0_1 _ _ l0_2 true _ ?side1 HC0_2.out A4.out).mono ?_); (case side1 => exact Q0); rintro e w11 ⟨rfl, hb⟩; refine ⟨_, rfl, ?_⟩; replace BK371 := sqB BK371 hb; replace HB := qs hb; (try clear hb); obtain ⟨zq6, zq7, zq8, fq6, fq7, fq8⟩ := qd BK371) | (go_at_call 104; (with_reducible refine (spec_l1In.calls a1 0 (wrap64 (a0_0 - 1)) true _ A6.out).mono ?_); rintro e w' ⟨rfl, ⟨nd, rfl⟩⟩) | (go_at_call 104; (with_reducible refine (spec_l1In.calls a2 0 (wrap64 (a0_1 - 1)) t374 _ A8.out).mono ?_); rintro e w' ⟨rfl, ⟨nd, rfl⟩⟩))
   go_ret
   exact ⟨Q1, qb⟩
  ·
   replace c7 := Bool.eq_false_iff.mpr c7
   subst c7
   have H1 : (some false) = some r := by first | (rw [if_neg (show ¬ (false = true) by decide)] at H; exact H) | rfl
   clear H
   have H := H1
   clear H1
   obtain rfl := Option.some.inj H
   go_enter Try.func69, Try.ntmps69
   go_wp2_with (first | ((with_reducible refine gate_dst (N := 3) rfl ?_); refine qv 3 #[.int .i64 a0_0, .int .i64 a0_1, .slice A0_2 l0_2.length c0_2] 26 ?_; intro gb371 hg w13 hbox hb; have BK371 := am hbox; have GW371 := qw hg; have GE371 := qw hg; replace HB := qs hb; clear hb hbox hg; obtain ⟨zq9, zq10, zq11, fq9, fq10, fq11⟩ := qd BK371) | ((with_reducible refine gate_callee (f := 60) rfl ?_); refine qg (some 8) Try.func60 #[.agg #[.int .i64 a0_0, .int .i64 a0_1, .slice A0_2 l0_2.length c0_2]] ?_; (with_reducible refine (spec_boGood.calls k a0_0 a0_1 _ _ l0_2 true _ ?side1 HC0_2.out A4.out).mono ?_); (case side1 => exact Q0); rintro e w15 ⟨rfl, hb⟩; refine ⟨_, rfl, ?_⟩; replace BK371 := sqB BK371 hb; replace HB := qs hb; (try clear hb); obtain ⟨zq12, zq13, zq14, fq12, fq13, fq14⟩ := qd BK371) | (go_at_call 104; (with_reducible refine (spec_l1In.calls a1 0 (wrap64 (a0_0 - 1)) false _ A6.out).mono ?_); rintro e w' ⟨rfl, ⟨nd, rfl⟩⟩))
   go_ret
   exact ⟨Q1, qb⟩
 ·
  replace c5 := Bool.eq_false_iff.mpr c5
  subst c5
  have H1 : (some false) = some r := by first | (rw [if_neg (show ¬ (false = true) by decide)] at H; exact H) | rfl
  clear H
  have H := H1
  clear H1
  obtain rfl := Option.some.inj H
  go_enter Try.func69, Try.ntmps69
  go_wp2_with (first | ((with_reducible refine gate_dst (N := 3) rfl ?_); refine qv 3 #[.int .i64 a0_0, .int .i64 a0_1, .slice A0_2 l0_2.length c0_2] 26 ?_; intro gb371 hg w17 hbox hb; have BK371 := am hbox; have GW371 := qw hg; have GE371 := qw hg; replace HB := qs hb; clear hb hbox hg; obtain ⟨zq18, zq19, zq20, fq18, fq19, fq20⟩ := qd BK371) | ((with_reducible refine gate_callee (f := 60) rfl ?_); refine qg (some 8) Try.func60 #[.agg #[.int .i64 a0_0, .int .i64 a0_1, .slice A0_2 l0_2.length c0_2]] ?_; (with_reducible refine (spec_boGood.calls k a0_0 a0_1 _ _ l0_2 false _ ?side1 HC0_2.out A4.out).mono ?_); (case side1 => exact Q0); rintro e w19 ⟨rfl, hb⟩; refine ⟨_, rfl, ?_⟩; replace BK371 := sqB BK371 hb; replace HB := qs hb; (try clear hb)))
  go_ret
  exact ⟨Q1, qb⟩

end Go.Proofs.Ytllhofdgbpnkkaa.PFnBoardsJoined
