-- Printed for this claim by wip/pp.py over the kit's printer; Lean checks it.
import Derived.Test.YtllhofdgbpnkkaaDoorPFnBoardsTurnedx0
import Derived.Test.YtllhofdgbpnkkaaDoorPFnBoardsTurnedx3
namespace Go.Proofs.YtllhofdgbpnkkaaDoor.PFnBoardsTurned
open Go.RowKit Go.Proofs.YtllhofdgbpnkkaaDoorW.PrintWords Go.Proofs.YtllhofdgbpnkkaaDoorW.PrintLast Go.Proofs.YtllhofdgbpnkkaaDoorW.PrintMore
attribute [local go_sem] max2_int min2_int max_two min_two max_three min_three max_four min_four   -- for this text's walks alone
set_option linter.unusedVariables false
set_option linter.unusedSimpArgs false

/-! ### impl_newBoard: function 53 -/
def impl_newBoard.f (a0 : Int) (a1 : Int) : Option (Int × Int × List Int) := if 0 ≤ a0 then (if (a0 : Int).toNat ≤ 35184372088832 then (some (a0, a1, (List.replicate (a0 : Int).toNat 0))) else (none)) else (none)
set_option maxHeartbeats 8000000 in
set_option maxRecDepth 100000 in
theorem impl_newBoard.calls (a0 : Int) (a1 : Int) (r1 : Int) (r2 : Int) (r3 : List Int) (w : World) (h : impl_newBoard.f a0 a1 = some (r1, r2, r3)) :
  Calls Tryd.prog 53 #[.int .i64 a0, .int .i64 a1] w fun e w' => ∃ v2_ : Value, e = .returned (.agg #[.int .i64 r1, .int .i64 r2, v2_]) ∧ Kd.R (Kd.int .i64) 3 w' w.heap.size (fun _ => True) v2_ r3 ∧ Below w.heap.size w w' := by
 have hu26 := Tryd.underlying26
 have HB := am (Below.refl w.heap.size w)
 have H : (if 0 ≤ a0 then (if (a0 : Int).toNat ≤ 35184372088832 then (some (a0, a1, (List.replicate (a0 : Int).toNat 0))) else (none)) else (none)) = some (r1, r2, r3) := h
 clear h
 by_cases c3 : 0 ≤ a0
 ·
  rw [if_pos c3] at H
  have c3b0 := eq_true c3
  have c3b1 : decide (0 ≤ a0) = true := decide_eq_true c3
  clear c3
  by_cases c4 : (a0 : Int).toNat ≤ 35184372088832
  ·
   rw [if_pos c4] at H
   have c4b0 := eq_true c4
   have c4b1 : decide ((a0 : Int).toNat ≤ 35184372088832) = true := decide_eq_true c4
   clear c4
   obtain ⟨y205, hy_⟩ : ∃ y_ : List Int, y_ = ((List.replicate (a0 : Int).toNat 0)) := ⟨_, rfl⟩
   replace H : (some (a0, a1, y205)) = some (r1, r2, r3) := qH
   have Ny205 := Aside0.mk hy_
   clear hy_
   simp only [Option.some.injEq, Prod.mk.injEq] at H
   obtain ⟨rfl, rfl, rfl⟩ := H
   go_enter Tryd.func53, Tryd.ntmps53
   go_wp2_with (first | ((with_reducible refine gate_dst (N := 4) rfl ?_); refine qv 4 #[.int .i64 0, .int .i64 0, .slice none 0 0] 26 ?_; intro gb204 hg w5 hbox hb; have BK204 := am hbox; have GW204 := qw hg; have GE204 := qw hg; replace HB := qs hb; clear hb hbox hg) | ((with_reducible refine gate_dst (N := 8) rfl ?_); refine Kd.R_make (Kd.int .i64) _ 3 rfl (N := 8) rfl 24 _ _ rfl a0 rfl rfl Tryd.underlying24 (.int .i64 0) 8 info3 rfl (by decide) (by omega) 0 (ok := fun _ => True) (okp := fun _ => True) rfl (fun _ hk => hk) trivial (of_decide_eq_true Q0) (Nat.le_trans (Nat.mul_le_mul_right _ (of_decide_eq_true Q0 : a0.toNat ≤ 35184372088832)) (by omega)) (Below.refl _ _) (Nat.le_refl _) ?_; intro v206 w6 ho7 hb hg_ hnew_; clear hg_ hnew_; (first | rw [← Ny205.out] at ho7 | (simp only [Int.reduceToNat] at ho7; rw [← Ny205.out] at ho7)); have Oq0 := ql ho7; replace BK204 := sqB BK204 hb; replace HB := qs hb; clear hb ho7; obtain ⟨Ao8, co8, eo8⟩ := Kd.R_slice Oq0.out; subst eo8; obtain ⟨zq39, zq40, zq41, fq39, fq40, fq41⟩ := qd BK204))
   refine bodyPost_ret (results_cell_row rfl _ _ gb204 26 #[.int .i64 a0, .int .i64 a1, .slice Ao8 y205.length co8] (0, 0) _ rfl (by (with_reducible repeat (first | refine blk_drewN ?_ _ | refine blk_drew ?_ | refine blk_alloc ?_ _)); refine blk_put (cs := #[.int .i64 a0, .int .i64 a1, .slice none 0 0]) ?_ 2 _ rfl; (with_reducible repeat (first | refine blk_drewN ?_ _ | refine blk_drew ?_ | refine blk_alloc ?_ _)); refine blk_put (cs := #[.int .i64 a0, .int .i64 0, .slice none 0 0]) ?_ 1 _ rfl; (with_reducible repeat (first | refine blk_drewN ?_ _ | refine blk_drew ?_ | refine blk_alloc ?_ _)); refine blk_put (cs := #[.int .i64 0, .int .i64 0, .slice none 0 0]) ?_ 0 _ rfl; (with_reducible repeat (first | refine blk_drewN ?_ _ | refine blk_drew ?_ | refine blk_alloc ?_ _)); exact BK204.out) Tryd.underlying26 rfl (by kernel_rfl)) rfl ?_
   exact ⟨_, Q1, by (with_reducible repeat (first | apply Kd.R_alloc | apply Kd.R_drewN | apply Kd.R_drew)); exact Kd.R_mono (Kd.R_far (p := ⟨gb204, 2, none⟩) (Kd.R_far (p := ⟨gb204, 1, none⟩) (Kd.R_far (p := ⟨gb204, 0, none⟩) (Kd.R_types Oq0.out BK204.out (by decide)) (fun _ hk => hk.2) (.int .i64 a0)) (fun _ hk => hk.2) (.int .i64 a1)) (fun _ hk => hk.2) (.slice Ao8 y205.length co8)) (fun _ hk => trivial), qb⟩
  ·
   rw [if_neg c4] at H
   exact absurd H (by simp)
 ·
  rw [if_neg c3] at H
  exact absurd H (by simp)

/-! ### impl_Board_turned: function 27 -/
mutual
def impl_Board_turned.l0 : Nat → Int → Int → Int → Int → List Int → Int → Int → List Int → Option (Int × Int × List Int)
 | 0, _, _, _, _, _, _, _, _ => none
 | k + 1, x12, x13, x209000, x209001, x209002, x216000, x216001, x216002 => if x13 < x12 then (impl_Board_turned.l1 k x13 x12 x13 x209001 0 x209000 x209001 x209002 x216000 x216001 x216002) else (some (x216000, x216001, x216002))
def impl_Board_turned.l1 : Nat → Int → Int → Int → Int → Int → Int → Int → List Int → Int → Int → List Int → Option (Int × Int × List Int)
 | 0, _, _, _, _, _, _, _, _, _, _, _ => none
 | k + 1, x4, x12, x13, x17, x18, x209000, x209001, x209002, x216000, x216001, x216002 => if x18 < x17 then ((impl_Board_has.f x209000 x209001 x209002 x4 x18).bind fun t216 => (if t216 = true then (if 0 ≤ x18 then (if x18 < (x216002.length : Int) then (if 0 ≤ x4 then (impl_Board_turned.l1 k x4 x12 x13 x17 (wrap64 (x18 + 1)) x209000 x209001 x209002 x216000 x216001 (x216002.set (x18 : Int).toNat (Go.bits .or .i64 (rd x216002 x18) (shl .i64 1 x4)))) else (none)) else (none)) else (none)) else (impl_Board_turned.l1 k x4 x12 x13 x17 (wrap64 (x18 + 1)) x209000 x209001 x209002 x216000 x216001 x216002))) else (impl_Board_turned.l0 k x12 (wrap64 (x13 + 1)) x209000 x209001 x209002 x216000 x216001 x216002)
end
def impl_Board_turned.f (k : Nat) (a0_0 : Int) (a0_1 : Int) (l0_2 : List Int) : Option (Int × Int × List Int) := (impl_newBoard.f a0_1 a0_0).bind fun bt210 => (impl_Board_turned.l0 k a0_0 0 a0_0 a0_1 l0_2 bt210.1 bt210.2.1 bt210.2.2)
def impl_Board_turned.T9 : Bool × List (List Nat × List Nat) := (true, [([], []), ([0], [0]), ([], []), ([1, 2], [1, 2]), ([3], [3]), ([], []), ([5], [5]), ([4, 6], [4, 6]), ([1, 2, 0, 1, 2, 3, 4, 5, 6, 7], [1, 2]), ([8, 7, 0, 1, 2, 3, 4, 5, 6, 7], [7, 8])])
def impl_Board_turned.B9 : List Nat := [0, 1, 0, 7, 15, 0, 32, 127, 255, 511]
theorem impl_Board_turned.tab9 : rtab .any (opsOf Tryd.f27 9) = impl_Board_turned.T9 := by kernel_rfl
theorem impl_Board_turned.bits9 : waitsOk impl_Board_turned.T9.2 impl_Board_turned.B9 = true := by kernel_rfl
set_option maxHeartbeats 8000000 in
set_option maxRecDepth 100000 in
theorem impl_Board_turned.calls (k : Nat) (a0_0 : Int) (a0_1 : Int) (A0_2 : Option Addr) (c0_2 : Nat) (l0_2 : List Int) (r1 : Int) (r2 : Int) (r3 : List Int) (w : World) (hr0_2 : Kd.C (Kd.int .i64) w A0_2 l0_2.length l0_2) (hc0_2 : l0_2.length ≤ c0_2) (h : impl_Board_turned.f k a0_0 a0_1 l0_2 = some (r1, r2, r3)) :
  Calls Tryd.prog 27 #[.agg #[.int .i64 a0_0, .int .i64 a0_1, .slice A0_2 l0_2.length c0_2]] w fun e w' => ∃ v2_ : Value, e = .returned (.agg #[.int .i64 r1, .int .i64 r2, v2_]) ∧ Kd.R (Kd.int .i64) 3 w' w.heap.size (fun _ => True) v2_ r3 ∧ Below w.heap.size w w' := by
 have hu26 := Tryd.underlying26
 have HR0_2 := Aside0.mk hr0_2
 have HC0_2 := Aside0.mk hc0_2
 clear hr0_2 hc0_2
 have HB := am (Below.refl w.heap.size w)
 have H : ((impl_newBoard.f a0_1 a0_0).bind fun bt210 => (impl_Board_turned.l0 k a0_0 0 a0_0 a0_1 l0_2 bt210.1 bt210.2.1 bt210.2.2)) = some (r1, r2, r3) := h
 clear h
 replace H := qE H
 obtain ⟨⟨t210, t211, t212⟩, A2, H⟩ := H
 replace H : (impl_Board_turned.l0 k a0_0 0 a0_0 a0_1 l0_2 t210 t211 t212) = some (r1, r2, r3) := H
 have H' := Aside0.mk H
 clear H
 go_enter Tryd.func27, Tryd.ntmps27
 go_wp2_with (first | ((with_reducible refine gate_dst (N := 1) rfl ?_); refine qv 1 #[.int .i64 a0_0, .int .i64 a0_1, .slice A0_2 l0_2.length c0_2] 26 ?_; intro gb208 hg w3 hbox hb; have BK208 := am hbox; have GW208 := qw hg; have GE208 := qw hg; replace HB := qs hb; clear hb hbox hg) | ((with_reducible refine gate_dst (N := 2) rfl ?_); refine qv 2 #[.int .i64 0, .int .i64 0, .slice none 0 0] 26 ?_; intro gb209 hg w4 hbox hb; have BK209 := am hbox; have GW209 := qw hg; have GE209 := qw hg; have Nq0 := qn hg BK208; have Nq2 := qN hg BK208; replace BK208 := sqB BK208 hb; replace HB := qs hb; clear hb hbox hg; have bq10 := Nq0.out; have cq10 := Nq2.out; obtain ⟨zq33, zq34, zq35, fq33, fq34, fq35⟩ := qd BK208) | ((with_reducible refine gate_callee (f := 53) rfl ?_); refine qg (some 10) Tryd.func53 #[.int .i64 a0_1, .int .i64 a0_0] ?_; (with_reducible refine (impl_newBoard.calls a0_1 a0_0 t210 t211 t212 _ A2.out).mono ?_); rintro e w7 ⟨v213, rfl, ho0, hb⟩; refine ⟨_, rfl, ?_⟩; have Oq1 := ql ho0; replace BK208 := sqB BK208 hb; replace BK209 := sqB BK209 hb; replace HB := qs hb; (try clear hb ho0)) | ((with_reducible refine gate_dst (N := 3) rfl ?_); refine qv 3 #[.int .i64 0, .int .i64 0, .slice none 0 0] 26 ?_; intro gb215 hg w8 hbox hb; have BK215 := am hbox; have GW215 := qw hg; have GE215 := qw hg; have Nq1 := qn hg BK208; have Nq4 := qN hg BK208; have Nq3 := qn hg BK209; have Nq5 := qN hg BK209; replace Oq1 := sqR Oq1 hb; replace BK208 := sqB BK208 hb; replace BK209 := sqB BK209 hb; replace HB := qs hb; clear hb hbox hg; have bq12 := Nq4.out; have cq12 := Nq1.out; have bq0 := Nq5.out; have cq0 := Nq3.out; obtain ⟨zq3, zq4, zq5, fq3, fq4, fq5⟩ := qd BK215; obtain ⟨Ao12, co12, eo12⟩ := Kd.R_slice Oq1.out; subst eo12; obtain ⟨zq9, zq10, zq11, fq9, fq10, fq11⟩ := qd BK208))
 go_loopg [13] k (fun kq v13 w' => ∃ (x13_1 : Int) (x216002_1 : List Int) (u216002 : Value), v13 = .int .i64 x13_1 ∧ Aside0 (impl_Board_turned.l0 kq a0_0 x13_1 a0_0 a0_1 l0_2 t210 t211 x216002_1 = some (r1, r2, r3)) ∧ Aside0 (kq ≤ k) ∧ Aside0 (Kd.R (Kd.int .i64) 3 w' w.heap.size (fun _ => True) u216002 x216002_1) ∧ Aside0 (w'.heap[gb208]? = some (.cells #[.int .i64 a0_0, .int .i64 a0_1, (.slice A0_2 l0_2.length c0_2)] 26 (0, 0))) ∧ Aside0 (w'.heap[gb209]? = some (.cells #[.int .i64 0, .int .i64 0, (.slice none 0 0)] 26 (0, 0))) ∧ Aside0 (w'.heap[gb215]? = some (.cells #[.int .i64 t210, .int .i64 t211, u216002] 26 (0, 0))) ∧ Aside0 (Below w.heap.size w w'))
 case atStart => exact ⟨(0), (t212), (.slice Ao12 t212.length co12), Q2, H', ⟨Nat.le_refl _⟩, ⟨by (with_reducible repeat (first | apply Kd.R_alloc | apply Kd.R_drewN | apply Kd.R_drew)); exact Kd.R_mono (Kd.R_far (p := ⟨gb215, 2, none⟩) (Kd.R_far (p := ⟨gb215, 1, none⟩) (Kd.R_far (p := ⟨gb215, 0, none⟩) (Kd.R_types Oq1.out BK215.out (by decide)) (fun _ hk => hk.2) (.int .i64 t210)) (fun _ hk => hk.2) (.int .i64 t211)) (fun _ hk => hk.2) (.slice Ao12 t212.length co12)) (fun _ hk => trivial)⟩, ⟨by (with_reducible repeat (first | refine blk_drewN ?_ _ | refine blk_drew ?_ | refine blk_alloc ?_ _)); refine blk_far ?_ Nq1.out _; (with_reducible repeat (first | refine blk_drewN ?_ _ | refine blk_drew ?_ | refine blk_alloc ?_ _)); refine blk_far ?_ Nq1.out _; (with_reducible repeat (first | refine blk_drewN ?_ _ | refine blk_drew ?_ | refine blk_alloc ?_ _)); refine blk_far ?_ Nq1.out _; (with_reducible repeat (first | refine blk_drewN ?_ _ | refine blk_drew ?_ | refine blk_alloc ?_ _)); exact BK208.out⟩, ⟨by (with_reducible repeat (first | refine blk_drewN ?_ _ | refine blk_drew ?_ | refine blk_alloc ?_ _)); refine blk_far ?_ Nq3.out _; (with_reducible repeat (first | refine blk_drewN ?_ _ | refine blk_drew ?_ | refine blk_alloc ?_ _)); refine blk_far ?_ Nq3.out _; (with_reducible repeat (first | refine blk_drewN ?_ _ | refine blk_drew ?_ | refine blk_alloc ?_ _)); refine blk_far ?_ Nq3.out _; (with_reducible repeat (first | refine blk_drewN ?_ _ | refine blk_drew ?_ | refine blk_alloc ?_ _)); exact BK209.out⟩, ⟨by (with_reducible repeat (first | refine blk_drewN ?_ _ | refine blk_drew ?_ | refine blk_alloc ?_ _)); refine blk_put (cs := #[.int .i64 t210, .int .i64 t211, .slice none 0 0]) ?_ 2 _ rfl; (with_reducible repeat (first | refine blk_drewN ?_ _ | refine blk_drew ?_ | refine blk_alloc ?_ _)); refine blk_put (cs := #[.int .i64 t210, .int .i64 0, .slice none 0 0]) ?_ 1 _ rfl; (with_reducible repeat (first | refine blk_drewN ?_ _ | refine blk_drew ?_ | refine blk_alloc ?_ _)); refine blk_put (cs := #[.int .i64 0, .int .i64 0, .slice none 0 0]) ?_ 0 _ rfl; (with_reducible repeat (first | refine blk_drewN ?_ _ | refine blk_drew ?_ | refine blk_alloc ?_ _)); exact BK215.out⟩, ⟨qb⟩⟩
 case round =>
  clear H'
  try clear zq3; try clear zq4; try clear zq5; try clear zq9; try clear zq10; try clear zq11; try clear zq33; try clear zq34; try clear zq35; try clear fq3; try clear fq4; try clear fq5; try clear fq9; try clear fq10; try clear fq11; try clear fq33; try clear fq34; try clear fq35
  obtain ⟨x13_1, x216002_1, u216002, rfl, HA, HK1, Oq3, BK208, BK209, BK215, HB⟩ := hrel
  cases gk with
  | zero => exact absurd HA.out (by simp [impl_Board_turned.l0])
  | succ k1 =>
   have H := HA.out
   clear HA
   simp only [impl_Board_turned.l0] at H
   by_cases c14 : x13_1 < a0_0
   ·
    rw [if_pos c14] at H
    have c14b0 : decide (x13_1 < a0_0) = true := decide_eq_true c14
    clear c14
    have H' := Aside0.mk H
    clear H
    have bq1 := Nq0.out
    have cq1 := Nq2.out
    have bq2 := Nq1.out
    have cq2 := Nq4.out
    obtain ⟨zq15, zq16, zq17, fq15, fq16, fq17⟩ := qd BK208
    go_wp2
    go_loopg [18] k1 (fun kq v18 w' => ∃ (x18_2 : Int) (x216002_2 : List Int) (u216002 : Value), v18 = .int .i64 x18_2 ∧ Aside0 (impl_Board_turned.l1 kq x13_1 a0_0 x13_1 a0_1 x18_2 a0_0 a0_1 l0_2 t210 t211 x216002_2 = some (r1, r2, r3)) ∧ Aside0 (kq ≤ k1) ∧ Aside0 (Kd.R (Kd.int .i64) 3 w' w.heap.size (fun _ => True) u216002 x216002_2) ∧ Aside0 (w'.heap[gb208]? = some (.cells #[.int .i64 a0_0, .int .i64 a0_1, (.slice A0_2 l0_2.length c0_2)] 26 (0, 0))) ∧ Aside0 (w'.heap[gb209]? = some (.cells #[.int .i64 0, .int .i64 0, (.slice none 0 0)] 26 (0, 0))) ∧ Aside0 (w'.heap[gb215]? = some (.cells #[.int .i64 t210, .int .i64 t211, u216002] 26 (0, 0))) ∧ Aside0 (Below w.heap.size w w'))
    case atStart => exact ⟨(0), (x216002_1), (u216002), Q2, H', ⟨Nat.le_refl _⟩, ⟨Q38⟩, ⟨Q58⟩, ⟨Q59⟩, ⟨Q60⟩, ⟨qb⟩⟩
    case round =>
     clear H'
     try clear c14; try clear c14b0; try clear zq3; try clear zq4; try clear zq5; try clear zq9; try clear zq10; try clear zq11; try clear zq15; try clear zq16; try clear zq17; try clear zq33; try clear zq34; try clear zq35; try clear fq3; try clear fq4; try clear fq5; try clear fq9; try clear fq10; try clear fq11; try clear fq15; try clear fq16; try clear fq17; try clear fq33; try clear fq34; try clear fq35
     obtain ⟨x18_2, x216002_2, u216002, rfl, HA, HK2, Oq3, BK208, BK209, BK215, HB⟩ := hrel
     cases gk with
     | zero => exact absurd HA.out (by simp [impl_Board_turned.l1])
     | succ k2 =>
      have H := HA.out
      clear HA
      simp only [impl_Board_turned.l1] at H
      by_cases c18 : x18_2 < a0_1
      ·
       rw [if_pos c18] at H
       have c18b0 : decide (x18_2 < a0_1) = true := decide_eq_true c18
       clear c18
       replace H := qE H
       obtain ⟨t216, A19, H⟩ := H
       replace H : (if t216 = true then (if 0 ≤ x18_2 then (if x18_2 < (x216002_2.length : Int) then (if 0 ≤ x13_1 then (impl_Board_turned.l1 k2 x13_1 a0_0 x13_1 a0_1 (wrap64 (x18_2 + 1)) a0_0 a0_1 l0_2 t210 t211 (x216002_2.set (x18_2 : Int).toNat (Go.bits .or .i64 (rd x216002_2 x18_2) (shl .i64 1 x13_1)))) else (none)) else (none)) else (none)) else (impl_Board_turned.l1 k2 x13_1 a0_0 x13_1 a0_1 (wrap64 (x18_2 + 1)) a0_0 a0_1 l0_2 t210 t211 x216002_2)) = some (r1, r2, r3) := H
       by_cases c20 : t216 = true
       ·
        subst c20
        have H1 : (if 0 ≤ x18_2 then (if x18_2 < (x216002_2.length : Int) then (if 0 ≤ x13_1 then (impl_Board_turned.l1 k2 x13_1 a0_0 x13_1 a0_1 (wrap64 (x18_2 + 1)) a0_0 a0_1 l0_2 t210 t211 (x216002_2.set (x18_2 : Int).toNat (Go.bits .or .i64 (rd x216002_2 x18_2) (shl .i64 1 x13_1)))) else (none)) else (none)) else (none)) = some (r1, r2, r3) := by first | (rw [if_pos rfl] at H; exact H) | rfl
        clear H
        have H := H1
        clear H1
        by_cases c21 : 0 ≤ x18_2
        ·
         rw [if_pos c21] at H
         have c21b0 : decide (0 ≤ x18_2) = true := decide_eq_true c21
         clear c21
         by_cases c22 : x18_2 < (x216002_2.length : Int)
         ·
          rw [if_pos c22] at H
          have c22b0 : decide (x18_2 < (x216002_2.length : Int)) = true := decide_eq_true c22
          clear c22
          by_cases c23 : 0 ≤ x13_1
          ·
           rw [if_pos c23] at H
           have c23b0 := eq_true c23
           have c23b1 : decide (0 ≤ x13_1) = true := decide_eq_true c23
           clear c23
           obtain ⟨ji24, hji24⟩ : ∃ j_ : Int, (shl .i64 1 x13_1) = j_ := ⟨_, rfl⟩
           replace H : (impl_Board_turned.l1 k2 x13_1 a0_0 x13_1 a0_1 (wrap64 (x18_2 + 1)) a0_0 a0_1 l0_2 t210 t211 (x216002_2.set (x18_2 : Int).toNat (Go.bits .or .i64 (rd x216002_2 x18_2) (ji24)))) = some (r1, r2, r3) := by first | (rw [hji24] at H; exact H) | (simp only [hji24] at H ⊢; exact H)
           (try rw [hji24] at A19)
           have hji24_ : (IntKind.i64.wrap (1 * 2 ^ min x13_1.toNat 64)) = ji24 := hji24
           have hji24z : x13_1 ≤ 64 → (IntKind.i64.wrap (1 * 2 ^ x13_1.toNat)) = ji24 := shl_small hji24
           have hji24u : (IntKind.i64.wrap (2 ^ min x13_1.toNat 64)) = ji24 := by have h_ := hji24_; rw [Int.one_mul] at h_; exact h_
           have hji24v : x13_1 ≤ 64 → (IntKind.i64.wrap (2 ^ x13_1.toNat)) = ji24 := fun hle_ => by have h_ := hji24z hle_; rw [Int.one_mul] at h_; exact h_
           have hji24y : (wrap64 (1 * 2 ^ min x13_1.toNat 64)) = ji24 := (i64_w _).symm.trans hji24_
           have hji24x : x13_1 ≤ 64 → (wrap64 (1 * 2 ^ x13_1.toNat)) = ji24 := fun h_ => (i64_w _).symm.trans (hji24z h_)
           obtain ⟨y218, hy_⟩ : ∃ y_ : List Int, y_ = ((x216002_2.set (x18_2 : Int).toNat (Go.bits .or .i64 (rd x216002_2 x18_2) (ji24)))) := ⟨_, rfl⟩
           replace H : (impl_Board_turned.l1 k2 x13_1 a0_0 x13_1 a0_1 (wrap64 (x18_2 + 1)) a0_0 a0_1 l0_2 t210 t211 y218) = some (r1, r2, r3) := qH
           have Ny218 := Aside0.mk hy_
           clear hy_
           have H' := Aside0.mk H
           clear H
           have bq3 := Nq0.out
           have cq3 := Nq2.out
           have bq4 := Nq1.out
           have cq4 := Nq4.out
           obtain ⟨zq21, zq22, zq23, fq21, fq22, fq23⟩ := qd BK208
           try go_wp2_with (first | ((with_reducible refine gate_callee (f := 32) rfl ?_); refine qg (some 24) Tryd.func32 #[.agg #[.int .i64 a0_0, .int .i64 a0_1, .slice A0_2 l0_2.length c0_2], .int .i64 x13_1, .int .i64 x18_2] ?_; (with_reducible refine (impl_Board_has.calls a0_0 a0_1 _ _ l0_2 x13_1 x18_2 true _ ?side1 HC0_2.out A19.out).mono ?_); (case side1 => exact Q3); rintro e w29 ⟨rfl, hb⟩; refine ⟨_, rfl, ?_⟩; replace Oq3 := sqR Oq3 hb; replace BK208 := sqB BK208 hb; replace BK209 := sqB BK209 hb; replace BK215 := sqB BK215 hb; replace HB := qs hb; (try clear hb)))
           replace Oq3 := am (Kd.R_drew Oq3.out)
           replace BK208 := am (blk_drew BK208.out)
           replace BK209 := am (blk_drew BK209.out)
           replace BK215 := am (blk_drew BK215.out)
           replace HB := am (below_drew1 HB.out)
           obtain ⟨Ao31, co31, eo31⟩ := Kd.R_slice Oq3.out
           (first | subst eo31 | (injection eo31 with f1_ f2_ f3_; have f4_ := f1_.symm; have f5_ := f3_.symm; clear f1_ f2_ f3_; subst f4_; subst f5_))
           have p217 : 0 ≤ (x18_2 : Int) := of_decide_eq_true Q0
           have q217 : x18_2 < (x216002_2.length : Int) := of_decide_eq_true Q0
           obtain ⟨ad217, e217, hx217_0⟩ := Kd.at_int (Kd.R_reads' Oq3.out).2.2 x18_2 p217 q217
           cases e217
           replace p217 := eq_true p217
           replace q217 := eq_true q217
           have p25 : 0 ≤ (x18_2 : Int) := of_decide_eq_true Q0
           have q25 : (x18_2 : Int) < ((x216002_2.length : Int) : Int) := of_decide_eq_true Q0
           obtain ⟨go25, co25, eo25, gb25, gl25, cl25, HG25⟩ := Kd.R_form Oq3.out (by omega)
           (first | cases eo25 | (injection eo25 with ea_ en_ ec_; (first | subst ea_ | (injection ea_ with ea_; subst ea_)); subst ec_; clear en_))
           have GB25 := Aside0.mk gb25
           have GG25 := Aside0.mk HG25
           clear gb25 gl25 HG25
           (first | simp only [add_plain] at hx217_0 | skip)
           obtain ⟨hx25_0, hf25_0⟩ := Kd.R_celln 0 Oq3.out (x18_2 : Int) p25 q25
           replace p25 := eq_true p25
           replace q25 := eq_true q25
           have HP32 := Kd.R_putn Oq3.out (x18_2 : Int) (Go.bits .or .i64 (rd x216002_2 x18_2) (ji24))
           rw [← Ny218.out] at HP32
           have HQ32 := Aside0.mk HP32
           clear HP32
           refine start_ (n := 10) (S := fun w' => w'.cell? ⟨gb215, 0, none⟩ = some (.int .i64 t210) ∧ w'.cell? ⟨gb215, 1, none⟩ = some (.int .i64 t211) ∧ w'.cell? ⟨gb215, 2, none⟩ = some (.slice (some ⟨go25, 0, none⟩) x216002_2.length co31) ∧ w'.cell? ⟨go25, (x18_2).toNat, none⟩ = some (.int .i64 (rd x216002_2 x18_2))) (ds := [9]) #[false, false, false, false, false, false, false, false, false, false] (by kernel_rfl) rfl rfl ⟨sqc BK215 0, sqc BK215 1, sqc BK215 2, hx217_0⟩ (fun hHeld => ?_); refine with_tabW impl_Board_turned.tab9 impl_Board_turned.bits9 (fun HT_ HW_ => ?_)
           generalize w29.drew = w30 at Oq3 BK208 BK209 BK215 HB GG25 HQ32 hf25_0 hx217_0 hx25_0 hHeld ⊢
           refine qp 0 (some 25) #[true, false, false, false, false, false, false, false, false, false] ?_
           refine qp 2 (some 27) #[true, false, true, false, false, false, false, false, false, false] ?_
           refine qp 5 (some 30) #[true, false, true, false, false, true, false, false, false, false] ?_
           refine qp 6 (some 31) #[true, false, true, false, false, true, true, false, false, false] ?_
           refine take_ (i := 1) (N := some 26) (v := ?_) (a' := ?_) #[true, true, true, false, false, true, true, false, false, false] rfl rfl (take_ofW HT_.out HW_.out (by kernel_rfl)) (fun _ _ _ h => h) (Or.inl ⟨by rfl, ?_⟩) hHeld ?_ ?_
           rotate_left
           ·
            rintro w' ⟨s0, s1, s2, s3⟩
            go_simp
            with_reducible rfl
           rotate_left
           ·
            simp only [Act.put, List.setIfInBounds_toArray, List.set_cons_zero, List.set_cons_succ, i64_w, i32_w]
            rfl
           refine qp 3 (some 28) #[true, true, true, true, false, true, true, false, false, false] ?_
           refine take_ (i := 4) (N := some 29) (v := ?_) (a' := ?_) #[true, true, true, true, true, true, true, false, false, false] rfl rfl (take_ofW HT_.out HW_.out (by kernel_rfl)) (fun _ _ _ h => h) (Or.inl ⟨by rfl, ?_⟩) hHeld ?_ ?_
           rotate_left
           ·
            rintro w' ⟨s0, s1, s2, s3⟩
            go_simp
            with_reducible rfl
           rotate_left
           ·
            simp only [Act.put, List.setIfInBounds_toArray, List.set_cons_zero, List.set_cons_succ, i64_w, i32_w]
            rfl
           refine qp 7 (some 32) #[true, true, true, true, true, true, true, true, false, false] ?_
           refine qp 8 (some 33) #[true, true, true, true, true, true, true, true, true, false] ?_
           refine last_ (i := 9) (N := none) #[true, true, true, true, true, true, true, true, true, true] rfl rfl (one_of HT_.out (by kernel_rfl)) (by decide) fun K hK => ?_
           refine skip_ (w1 := ?_) (by rfl) rfl ?_ ?_
           rotate_left
           ·
            go_simp
            rfl
           refine hK.out _ _ ?_
           clear hK K
           refine done_ (done_of HT_.out (by kernel_rfl)) ?_
           try go_wp2
           go_roundg k2
           case measure => have := HK1.out; have := HK2.out; omega
           case rel => exact ⟨(wrap64 (x18_2 + 1)), (y218), (.slice (some ⟨go25, 0, none⟩) x216002_2.length co31), Q2, H', ⟨Q32⟩, ⟨by (with_reducible repeat (first | apply Kd.R_alloc | apply Kd.R_drewN | apply Kd.R_drew)); exact HQ32.out⟩, ⟨by (with_reducible repeat (first | refine blk_drewN ?_ _ | refine blk_drew ?_ | refine blk_alloc ?_ _)); refine blk_far ?_ (by have h_ := Kd.R_ne Oq3.out BK208.out (by decide); intro e_; exact h_ (by rw [e_]; rfl)) _; (with_reducible repeat (first | refine blk_drewN ?_ _ | refine blk_drew ?_ | refine blk_alloc ?_ _)); exact BK208.out⟩, ⟨by (with_reducible repeat (first | refine blk_drewN ?_ _ | refine blk_drew ?_ | refine blk_alloc ?_ _)); refine blk_far ?_ (by have h_ := Kd.R_ne Oq3.out BK209.out (by decide); intro e_; exact h_ (by rw [e_]; rfl)) _; (with_reducible repeat (first | refine blk_drewN ?_ _ | refine blk_drew ?_ | refine blk_alloc ?_ _)); exact BK209.out⟩, ⟨by (with_reducible repeat (first | refine blk_drewN ?_ _ | refine blk_drew ?_ | refine blk_alloc ?_ _)); refine blk_far ?_ (by have h_ := Kd.R_ne Oq3.out BK215.out (by decide); intro e_; exact h_ (by rw [e_]; rfl)) _; (with_reducible repeat (first | refine blk_drewN ?_ _ | refine blk_drew ?_ | refine blk_alloc ?_ _)); exact BK215.out⟩, ⟨by repeat (first | (with_reducible first | exact HB.out | apply below_alloc | apply pw_below_drewN | apply below_drew1 | refine below_set ?_ GB25.out | refine below_set ?_ GE208.out | refine below_set ?_ GE209.out | refine below_set ?_ GE215.out) | exact HB.out)⟩⟩
          ·
           rw [if_neg c23] at H
           exact absurd H (by simp)
         ·
          rw [if_neg c22] at H
          exact absurd H (by simp)
        ·
         rw [if_neg c21] at H
         exact absurd H (by simp)
       ·
        replace c20 := Bool.eq_false_iff.mpr c20
        subst c20
        have H1 : (impl_Board_turned.l1 k2 x13_1 a0_0 x13_1 a0_1 (wrap64 (x18_2 + 1)) a0_0 a0_1 l0_2 t210 t211 x216002_2) = some (r1, r2, r3) := by first | (rw [if_neg (show ¬ (false = true) by decide)] at H; exact H) | rfl
        clear H
        have H := H1
        clear H1
        have H' := Aside0.mk H
        clear H
        have bq5 := Nq0.out
        have cq5 := Nq2.out
        have bq6 := Nq1.out
        have cq6 := Nq4.out
        obtain ⟨zq24, zq25, zq26, fq24, fq25, fq26⟩ := qd BK208
        go_wp2_with (first | ((with_reducible refine gate_callee (f := 32) rfl ?_); refine qg (some 24) Tryd.func32 #[.agg #[.int .i64 a0_0, .int .i64 a0_1, .slice A0_2 l0_2.length c0_2], .int .i64 x13_1, .int .i64 x18_2] ?_; (with_reducible refine (impl_Board_has.calls a0_0 a0_1 _ _ l0_2 x13_1 x18_2 false _ ?side1 HC0_2.out A19.out).mono ?_); (case side1 => exact Q3); rintro e w36 ⟨rfl, hb⟩; refine ⟨_, rfl, ?_⟩; replace Oq3 := sqR Oq3 hb; replace BK208 := sqB BK208 hb; replace BK209 := sqB BK209 hb; replace BK215 := sqB BK215 hb; replace HB := qs hb; (try clear hb)))
        go_roundg k2
        case measure => have := HK1.out; have := HK2.out; omega
        case rel => exact ⟨(wrap64 (x18_2 + 1)), (x216002_2), (u216002), Q2, H', ⟨Q32⟩, ⟨Q38⟩, ⟨Q58⟩, ⟨Q59⟩, ⟨Q60⟩, ⟨qb⟩⟩
      ·
       rw [if_neg c18] at H
       have c18b0 : decide (x18_2 < a0_1) = false := decide_eq_false c18
       clear c18
       have H' := Aside0.mk H
       clear H
       go_wp2
       go_roundg k2
       case measure => have := HK1.out; have := HK2.out; omega
       case rel => exact ⟨(wrap64 (x13_1 + 1)), (x216002_2), (u216002), Q2, H', ⟨Q32⟩, ⟨Q38⟩, ⟨Q58⟩, ⟨Q59⟩, ⟨Q60⟩, ⟨qb⟩⟩
   ·
    rw [if_neg c14] at H
    have c14b0 : decide (x13_1 < a0_0) = false := decide_eq_false c14
    clear c14
    simp only [Option.some.injEq, Prod.mk.injEq] at H
    obtain ⟨rfl, rfl, rfl⟩ := H
    have bq7 := Nq4.out
    have cq7 := Nq1.out
    have bq8 := Nq5.out
    have cq8 := Nq3.out
    obtain ⟨zq27, zq28, zq29, fq27, fq28, fq29⟩ := qd BK215
    have bq9 := Nq2.out
    have cq9 := Nq0.out
    obtain ⟨zq30, zq31, zq32, fq30, fq31, fq32⟩ := qd BK209
    obtain ⟨Ao42, co42, eo42⟩ := Kd.R_slice Oq3.out
    subst eo42
    go_wp2
    refine bodyPost_ret (results_cell_row rfl _ _ gb209 26 #[.int .i64 t210, .int .i64 t211, .slice Ao42 x216002_1.length co42] (0, 0) _ rfl (by (with_reducible repeat (first | refine blk_drewN ?_ _ | refine blk_drew ?_ | refine blk_alloc ?_ _)); refine blk_put (cs := #[.int .i64 t210, .int .i64 t211, .slice none 0 0]) ?_ 2 _ rfl; (with_reducible repeat (first | refine blk_drewN ?_ _ | refine blk_drew ?_ | refine blk_alloc ?_ _)); refine blk_put (cs := #[.int .i64 t210, .int .i64 0, .slice none 0 0]) ?_ 1 _ rfl; (with_reducible repeat (first | refine blk_drewN ?_ _ | refine blk_drew ?_ | refine blk_alloc ?_ _)); refine blk_put (cs := #[.int .i64 0, .int .i64 0, .slice none 0 0]) ?_ 0 _ rfl; (with_reducible repeat (first | refine blk_drewN ?_ _ | refine blk_drew ?_ | refine blk_alloc ?_ _)); exact BK209.out) Tryd.underlying26 rfl (by kernel_rfl)) rfl ?_
    exact ⟨_, Q1, by (with_reducible repeat (first | apply Kd.R_alloc | apply Kd.R_drewN | apply Kd.R_drew)); exact Kd.R_mono (Kd.R_far (p := ⟨gb209, 2, none⟩) (Kd.R_far (p := ⟨gb209, 1, none⟩) (Kd.R_far (p := ⟨gb209, 0, none⟩) (Kd.R_types Oq3.out BK209.out (by decide)) (fun _ hk => hk.2) (.int .i64 t210)) (fun _ hk => hk.2) (.int .i64 t211)) (fun _ hk => hk.2) (.slice Ao42 x216002_1.length co42)) (fun _ hk => trivial), qb⟩

/-! ### impl_TurnBoard: function 6 -/
def impl_TurnBoard.f (k : Nat) (a0_0 : Int) (a0_1 : Int) (l0_2 : List Int) : Option (Int × Int × List Int × Bool) := (impl_IsBoard.f a0_0 a0_1 l0_2).bind fun t221 => (if t221 = true then ((impl_Board_turned.f k a0_0 a0_1 l0_2).bind fun bt222 => (some (bt222.1, bt222.2.1, bt222.2.2, true))) else (some (0, 0, ([] : List Int), false)))
set_option maxHeartbeats 8000000 in
set_option maxRecDepth 100000 in
theorem impl_TurnBoard.calls (k : Nat) (a0_0 : Int) (a0_1 : Int) (A0_2 : Option Addr) (c0_2 : Nat) (l0_2 : List Int) (r1 : Int) (r2 : Int) (r3 : List Int) (r4 : Bool) (w : World) (hr0_2 : Kd.C (Kd.int .i64) w A0_2 l0_2.length l0_2) (hc0_2 : l0_2.length ≤ c0_2) (h : impl_TurnBoard.f k a0_0 a0_1 l0_2 = some (r1, r2, r3, r4)) :
  Calls Tryd.prog 6 #[.agg #[.int .i64 a0_0, .int .i64 a0_1, .slice A0_2 l0_2.length c0_2]] w fun e w' => ∃ v2_ : Value, e = .returned (.tuple #[.agg #[.int .i64 r1, .int .i64 r2, v2_], .bool r4]) ∧ Kd.R (Kd.int .i64) 3 w' w.heap.size (fun _ => True) v2_ r3 ∧ Below w.heap.size w w' := by
 have hu26 := Tryd.underlying26
 have HR0_2 := Aside0.mk hr0_2
 have HC0_2 := Aside0.mk hc0_2
 clear hr0_2 hc0_2
 have HB := am (Below.refl w.heap.size w)
 have H : ((impl_IsBoard.f a0_0 a0_1 l0_2).bind fun t221 => (if t221 = true then ((impl_Board_turned.f k a0_0 a0_1 l0_2).bind fun bt222 => (some (bt222.1, bt222.2.1, bt222.2.2, true))) else (some (0, 0, ([] : List Int), false)))) = some (r1, r2, r3, r4) := h
 clear h
 replace H := qE H
 obtain ⟨t221, A2, H⟩ := H
 replace H : (if t221 = true then ((impl_Board_turned.f k a0_0 a0_1 l0_2).bind fun bt222 => (some (bt222.1, bt222.2.1, bt222.2.2, true))) else (some (0, 0, ([] : List Int), false))) = some (r1, r2, r3, r4) := H
 by_cases c3 : t221 = true
 ·
  subst c3
  have H1 : ((impl_Board_turned.f k a0_0 a0_1 l0_2).bind fun bt222 => (some (bt222.1, bt222.2.1, bt222.2.2, true))) = some (r1, r2, r3, r4) := by first | (rw [if_pos rfl] at H; exact H) | rfl
  clear H
  have H := H1
  clear H1
  replace H := qE H
  obtain ⟨⟨t222, t223, t224⟩, A4, H⟩ := H
  replace H : (some (t222, t223, t224, true)) = some (r1, r2, r3, r4) := H
  simp only [Option.some.injEq, Prod.mk.injEq] at H
  obtain ⟨rfl, rfl, rfl, rfl⟩ := H
  go_enter Tryd.func6, Tryd.ntmps6
  go_wp2_with (first | ((with_reducible refine gate_dst (N := 1) rfl ?_); refine qv 1 #[.int .i64 a0_0, .int .i64 a0_1, .slice A0_2 l0_2.length c0_2] 26 ?_; intro gb219 hg w5 hbox hb; have BK219 := am hbox; have GW219 := qw hg; have GE219 := qw hg; replace HB := qs hb; clear hb hbox hg) | ((with_reducible refine gate_dst (N := 2) rfl ?_); refine qv 2 #[.int .i64 0, .int .i64 0, .slice none 0 0] 26 ?_; intro gb220 hg w6 hbox hb; have BK220 := am hbox; have GW220 := qw hg; have GE220 := qw hg; have Nq6 := qn hg BK219; have Nq7 := qN hg BK219; replace BK219 := sqB BK219 hb; replace HB := qs hb; clear hb hbox hg; have bq11 := Nq6.out; have cq11 := Nq7.out; obtain ⟨zq36, zq37, zq38, fq36, fq37, fq38⟩ := qd BK219) | ((with_reducible refine gate_callee (f := 26) rfl ?_); refine qg (some 5) Tryd.func26 #[.agg #[.int .i64 a0_0, .int .i64 a0_1, .slice A0_2 l0_2.length c0_2]] ?_; (with_reducible refine (impl_IsBoard.calls a0_0 a0_1 _ _ l0_2 true _ ?side1 HC0_2.out A2.out).mono ?_); (case side1 => exact Q3); rintro e w9 ⟨rfl, hb⟩; refine ⟨_, rfl, ?_⟩; replace BK219 := sqB BK219 hb; replace BK220 := sqB BK220 hb; replace HB := qs hb; (try clear hb); obtain ⟨zq0, zq1, zq2, fq0, fq1, fq2⟩ := qd BK219) | ((with_reducible refine gate_callee (f := 27) rfl ?_); refine qg (some 9) Tryd.func27 #[.agg #[.int .i64 a0_0, .int .i64 a0_1, .slice A0_2 l0_2.length c0_2]] ?_; (with_reducible refine (impl_Board_turned.calls k a0_0 a0_1 _ _ l0_2 t222 t223 t224 _ ?side1 HC0_2.out A4.out).mono ?_); (case side1 => exact Q3); rintro e w11 ⟨v225, rfl, ho0, hb⟩; refine ⟨_, rfl, ?_⟩; have Oq2 := ql ho0; replace BK219 := sqB BK219 hb; replace BK220 := sqB BK220 hb; replace HB := qs hb; (try clear hb ho0); obtain ⟨zq6, zq7, zq8, fq6, fq7, fq8⟩ := qd BK220; obtain ⟨Ao13, co13, eo13⟩ := Kd.R_slice Oq2.out; subst eo13))
  refine bodyPost_ret (results_ct rfl _ _ gb220 26 #[.int .i64 t222, .int .i64 t223, .slice Ao13 t224.length co13] (0, 0) _ rfl (by (with_reducible repeat (first | refine blk_drewN ?_ _ | refine blk_drew ?_ | refine blk_alloc ?_ _)); refine blk_put (cs := #[.int .i64 t222, .int .i64 t223, .slice none 0 0]) ?_ 2 _ rfl; (with_reducible repeat (first | refine blk_drewN ?_ _ | refine blk_drew ?_ | refine blk_alloc ?_ _)); refine blk_put (cs := #[.int .i64 t222, .int .i64 0, .slice none 0 0]) ?_ 1 _ rfl; (with_reducible repeat (first | refine blk_drewN ?_ _ | refine blk_drew ?_ | refine blk_alloc ?_ _)); refine blk_put (cs := #[.int .i64 0, .int .i64 0, .slice none 0 0]) ?_ 0 _ rfl; (with_reducible repeat (first | refine blk_drewN ?_ _ | refine blk_drew ?_ | refine blk_alloc ?_ _)); exact BK220.out) Tryd.underlying26 rfl (by kernel_rfl)) rfl ?_
  exact ⟨_, Q1, by (with_reducible repeat (first | apply Kd.R_alloc | apply Kd.R_drewN | apply Kd.R_drew)); exact Kd.R_mono (Kd.R_far (p := ⟨gb220, 2, none⟩) (Kd.R_far (p := ⟨gb220, 1, none⟩) (Kd.R_far (p := ⟨gb220, 0, none⟩) (Kd.R_types Oq2.out BK220.out (by decide)) (fun _ hk => hk.2) (.int .i64 t222)) (fun _ hk => hk.2) (.int .i64 t223)) (fun _ hk => hk.2) (.slice Ao13 t224.length co13)) (fun _ hk => trivial), qb⟩
 ·
  replace c3 := Bool.eq_false_iff.mpr c3
  subst c3
  have H1 : (some (0, 0, ([] : List Int), false)) = some (r1, r2, r3, r4) := by first | (rw [if_neg (show ¬ (false = true) by decide)] at H; exact H) | rfl
  clear H
  have H := H1
  clear H1
  simp only [Option.some.injEq, Prod.mk.injEq] at H
  obtain ⟨rfl, rfl, rfl, rfl⟩ := H
  go_enter Tryd.func6, Tryd.ntmps6
  go_wp2_with (first | ((with_reducible refine gate_dst (N := 1) rfl ?_); refine qv 1 #[.int .i64 a0_0, .int .i64 a0_1, .slice A0_2 l0_2.length c0_2] 26 ?_; intro gb219 hg w14 hbox hb; have BK219 := am hbox; have GW219 := qw hg; have GE219 := qw hg; replace HB := qs hb; clear hb hbox hg) | ((with_reducible refine gate_dst (N := 2) rfl ?_); refine qv 2 #[.int .i64 0, .int .i64 0, .slice none 0 0] 26 ?_; intro gb220 hg w15 hbox hb; have BK220 := am hbox; have GW220 := qw hg; have GE220 := qw hg; have Nq6 := qn hg BK219; have Nq7 := qN hg BK219; replace BK219 := sqB BK219 hb; replace HB := qs hb; clear hb hbox hg; have bq2 := Nq6.out; have cq2 := Nq7.out; obtain ⟨zq15, zq16, zq17, fq15, fq16, fq17⟩ := qd BK219) | ((with_reducible refine gate_callee (f := 26) rfl ?_); refine qg (some 5) Tryd.func26 #[.agg #[.int .i64 a0_0, .int .i64 a0_1, .slice A0_2 l0_2.length c0_2]] ?_; (with_reducible refine (impl_IsBoard.calls a0_0 a0_1 _ _ l0_2 false _ ?side1 HC0_2.out A2.out).mono ?_); (case side1 => exact Q3); rintro e w18 ⟨rfl, hb⟩; refine ⟨_, rfl, ?_⟩; replace BK219 := sqB BK219 hb; replace BK220 := sqB BK220 hb; replace HB := qs hb; (try clear hb); obtain ⟨zq18, zq19, zq20, fq18, fq19, fq20⟩ := qd BK220))
  refine bodyPost_ret (results_ct rfl _ _ gb220 26 #[.int .i64 0, .int .i64 0, .slice none 0 0] (0, 0) _ rfl (by (with_reducible repeat (first | refine blk_drewN ?_ _ | refine blk_drew ?_ | refine blk_alloc ?_ _)); refine blk_put (cs := #[.int .i64 0, .int .i64 0, .slice none 0 0]) ?_ 2 _ rfl; (with_reducible repeat (first | refine blk_drewN ?_ _ | refine blk_drew ?_ | refine blk_alloc ?_ _)); refine blk_put (cs := #[.int .i64 0, .int .i64 0, .slice none 0 0]) ?_ 1 _ rfl; (with_reducible repeat (first | refine blk_drewN ?_ _ | refine blk_drew ?_ | refine blk_alloc ?_ _)); refine blk_put (cs := #[.int .i64 0, .int .i64 0, .slice none 0 0]) ?_ 0 _ rfl; (with_reducible repeat (first | refine blk_drewN ?_ _ | refine blk_drew ?_ | refine blk_alloc ?_ _)); exact BK220.out) Tryd.underlying26 rfl (by kernel_rfl)) rfl ?_
  exact ⟨_, Q1, Q6, qb⟩

/-! ### spec_l1In: function 73 -/
def spec_l1In.f (a0 : Int) (a1 : Int) (a2 : Int) : Option (Bool) := if a0 ≥ a1 then (some (decide (a0 ≤ a2))) else (some false)
set_option maxHeartbeats 8000000 in
set_option maxRecDepth 100000 in
theorem spec_l1In.calls (a0 : Int) (a1 : Int) (a2 : Int) (r : Bool) (w : World) (h : spec_l1In.f a0 a1 a2 = some r) :
  Calls Tryd.prog 73 #[.int .i64 a0, .int .i64 a1, .int .i64 a2] w fun e w' => e = .returned (.bool r) ∧ Drawn0 w w' := by
 have H : (if a0 ≥ a1 then (some (decide (a0 ≤ a2))) else (some false)) = some r := h
 clear h
 by_cases c4 : a0 ≥ a1
 ·
  rw [if_pos c4] at H
  have c4b0 : decide (a1 ≤ a0) = true := decide_eq_true c4
  clear c4
  obtain rfl := Option.some.inj H
  go_enter Tryd.func73, Tryd.ntmps73
  go_wp2
  go_ret
  exact ⟨Q2, Q5⟩
 ·
  rw [if_neg c4] at H
  have c4b0 : decide (a1 ≤ a0) = false := decide_eq_false c4
  clear c4
  obtain rfl := Option.some.inj H
  go_enter Tryd.func73, Tryd.ntmps73
  go_wp2
  go_ret
  exact ⟨Q2, Q5⟩

/-! ### spec_boSide: function 56 -/
def spec_boSide.f (a0 : Int) : Option (Bool) := (spec_l1In.f a0 1 6).bind fun t227 => (some t227)
set_option maxHeartbeats 8000000 in
set_option maxRecDepth 100000 in
theorem spec_boSide.calls (a0 : Int) (r : Bool) (w : World) (h : spec_boSide.f a0 = some r) :
  Calls Tryd.prog 56 #[.int .i64 a0] w fun e w' => e = .returned (.bool r) ∧ Drawn0 w w' := by
 have H : ((spec_l1In.f a0 1 6).bind fun t227 => (some t227)) = some r := h
 clear h
 replace H := qE H
 obtain ⟨t227, A2, H⟩ := H
 replace H : (some t227) = some r := H
 obtain rfl := Option.some.inj H
 go_enter Tryd.func56, Tryd.ntmps56
 go_wp2_with (first | ((with_reducible refine gate_callee (f := 73) rfl ?_); refine qg (some 4) Tryd.func73 #[.int .i64 a0, .int .i64 1, .int .i64 6] ?_; (with_reducible refine (spec_l1In.calls a0 1 6 t227 _ A2.out).mono ?_); rintro e w' ⟨rfl, ⟨nd, rfl⟩⟩; refine ⟨_, rfl, ?_⟩))
 go_ret
 exact ⟨Q2, Q5⟩

/-! ### spec_l1All: function 63 -/
def spec_l1All.l0 : Nat → Int → Int → List Int → Int → Int → Option (Bool)
 | 0, _, _, _, _, _ => none
 | k + 1, x1, x2, x9, x10, x11 => if x11 < x10 then (if 0 ≤ x11 then (if x11 < (x9.length : Int) then ((spec_l1In.f (rd x9 x11) x1 x2).bind fun t229 => (if t229 = true then (spec_l1All.l0 k x1 x2 x9 x10 (wrap64 (x11 + 1))) else (some false))) else (none)) else (none)) else (some true)
def spec_l1All.f (k : Nat) (l0 : List Int) (a1 : Int) (a2 : Int) : Option (Bool) := spec_l1All.l0 k a1 a2 l0 (l0.length : Int) 0
set_option maxHeartbeats 8000000 in
set_option maxRecDepth 100000 in
theorem spec_l1All.calls (k : Nat) (A0 : Option Addr) (c0 : Nat) (l0 : List Int) (a1 : Int) (a2 : Int) (r : Bool) (w : World) (hr0 : Kd.C (Kd.int .i64) w A0 l0.length l0) (hc0 : l0.length ≤ c0) (h : spec_l1All.f k l0 a1 a2 = some r) :
  Calls Tryd.prog 63 #[.slice A0 l0.length c0, .int .i64 a1, .int .i64 a2] w fun e w' => e = .returned (.bool r) ∧ Drawn0 w w' := by
 have HR0 := Aside0.mk hr0
 have HC0 := Aside0.mk hc0
 clear hr0 hc0
 have H : (spec_l1All.l0 k a1 a2 l0 (l0.length : Int) 0) = some r := h
 clear h
 have H' := Aside0.mk H
 clear H
 go_enter Tryd.func63, Tryd.ntmps63
 go_wp2
 go_loopg [11] k (fun kq v11 w' => ∃ (x11_1 : Int), v11 = .int .i64 x11_1 ∧ Aside0 (spec_l1All.l0 kq a1 a2 l0 (l0.length : Int) x11_1 = some r) ∧ Aside0 (kq ≤ k) ∧ Drawn0 w w')
 case atStart => exact ⟨(0), Q2, H', ⟨Nat.le_refl _⟩, Q5⟩
 case round =>
  clear H'
  try clear p2
  obtain ⟨x11_1, rfl, HA, HK1, ⟨m1, rfl⟩⟩ := hrel
  cases gk with
  | zero => exact absurd HA.out (by simp [spec_l1All.l0])
  | succ k1 =>
   have H := HA.out
   clear HA
   simp only [spec_l1All.l0] at H
   by_cases c4 : x11_1 < (l0.length : Int)
   ·
    rw [if_pos c4] at H
    have c4b0 : decide (x11_1 < (l0.length : Int)) = true := decide_eq_true c4
    clear c4
    by_cases c5 : 0 ≤ x11_1
    ·
     rw [if_pos c5] at H
     have c5b0 : decide (0 ≤ x11_1) = true := decide_eq_true c5
     clear c5
     by_cases c6 : x11_1 < (l0.length : Int)
     ·
      rw [if_pos c6] at H
      have c6b0 : decide (x11_1 < (l0.length : Int)) = true := decide_eq_true c6
      clear c6
      replace H := qE H
      obtain ⟨t229, A7, H⟩ := H
      replace H : (if t229 = true then (spec_l1All.l0 k1 a1 a2 l0 (l0.length : Int) (wrap64 (x11_1 + 1))) else (some false)) = some r := H
      by_cases c8 : t229 = true
      ·
       subst c8
       have H1 : (spec_l1All.l0 k1 a1 a2 l0 (l0.length : Int) (wrap64 (x11_1 + 1))) = some r := by first | (rw [if_pos rfl] at H; exact H) | rfl
       clear H
       have H := H1
       clear H1
       have H' := Aside0.mk H
       clear H
       have p228 : 0 ≤ (x11_1 : Int) := of_decide_eq_true Q0
       have q228 : x11_1 < (l0.length : Int) := of_decide_eq_true Q0
       obtain ⟨ad228, e228, hx228_0⟩ := Kd.at_int HR0.out x11_1 p228 q228
       cases e228
       replace p228 := eq_true p228
       replace q228 := eq_true q228
       go_wp2_with (first | ((with_reducible refine gate_callee (f := 73) rfl ?_); refine qg (some 18) Tryd.func73 #[.int .i64 (rd l0 x11_1), .int .i64 a1, .int .i64 a2] ?_; (with_reducible refine (spec_l1In.calls (rd l0 x11_1) a1 a2 true _ A7.out).mono ?_); rintro e w' ⟨rfl, ⟨nd, rfl⟩⟩; refine ⟨_, rfl, ?_⟩))
       go_roundg k1
       case measure => have := HK1.out; omega
       case rel => exact ⟨(wrap64 (x11_1 + 1)), Q2, H', ⟨Q61⟩, Q5⟩
      ·
       replace c8 := Bool.eq_false_iff.mpr c8
       subst c8
       have H1 : (some false) = some r := by first | (rw [if_neg (show ¬ (false = true) by decide)] at H; exact H) | rfl
       clear H
       have H := H1
       clear H1
       obtain rfl := Option.some.inj H
       have p228 : 0 ≤ (x11_1 : Int) := of_decide_eq_true Q0
       have q228 : x11_1 < (l0.length : Int) := of_decide_eq_true Q0
       obtain ⟨ad228, e228, hx228_0⟩ := Kd.at_int HR0.out x11_1 p228 q228
       cases e228
       replace p228 := eq_true p228
       replace q228 := eq_true q228
       go_wp2_with (first | ((with_reducible refine gate_callee (f := 73) rfl ?_); refine qg (some 18) Tryd.func73 #[.int .i64 (rd l0 x11_1), .int .i64 a1, .int .i64 a2] ?_; (with_reducible refine (spec_l1In.calls (rd l0 x11_1) a1 a2 false _ A7.out).mono ?_); rintro e w' ⟨rfl, ⟨nd, rfl⟩⟩; refine ⟨_, rfl, ?_⟩))
       go_ret
       exact ⟨Q2, Q5⟩
     ·
      rw [if_neg c6] at H
      exact absurd H (by simp)
    ·
     rw [if_neg c5] at H
     exact absurd H (by simp)
   ·
    rw [if_neg c4] at H
    have c4b0 : decide (x11_1 < (l0.length : Int)) = false := decide_eq_false c4
    clear c4
    obtain rfl := Option.some.inj H
    go_wp2
    go_ret
    exact ⟨Q2, Q5⟩

/-! ### spec_boGood: function 28 -/
def spec_boGood.f (k : Nat) (a0_0 : Int) (a0_1 : Int) (l0_2 : List Int) : Option (Bool) := (spec_boSide.f a0_0).bind fun t231 => (if t231 = true then ((spec_boSide.f a0_1).bind fun t232 => (if t232 = true then (if (l0_2.length : Int) = a0_0 then (if 0 ≤ a0_1 then ((spec_l1All.f k l0_2 0 (wrap64 ((shl .i64 1 a0_1) - 1))).bind fun t233 => (some t233)) else (none)) else (some false)) else (some false))) else (some false))
set_option maxHeartbeats 8000000 in
set_option maxRecDepth 100000 in
theorem spec_boGood.calls (k : Nat) (a0_0 : Int) (a0_1 : Int) (A0_2 : Option Addr) (c0_2 : Nat) (l0_2 : List Int) (r : Bool) (w : World) (hr0_2 : Kd.C (Kd.int .i64) w A0_2 l0_2.length l0_2) (hc0_2 : l0_2.length ≤ c0_2) (h : spec_boGood.f k a0_0 a0_1 l0_2 = some r) :
  Calls Tryd.prog 28 #[.agg #[.int .i64 a0_0, .int .i64 a0_1, .slice A0_2 l0_2.length c0_2]] w fun e w' => e = .returned (.bool r) ∧ Below w.heap.size w w' := by
 have hu26 := Tryd.underlying26
 have HR0_2 := Aside0.mk hr0_2
 have HC0_2 := Aside0.mk hc0_2
 clear hr0_2 hc0_2
 have HB := am (Below.refl w.heap.size w)
 have H : ((spec_boSide.f a0_0).bind fun t231 => (if t231 = true then ((spec_boSide.f a0_1).bind fun t232 => (if t232 = true then (if (l0_2.length : Int) = a0_0 then (if 0 ≤ a0_1 then ((spec_l1All.f k l0_2 0 (wrap64 ((shl .i64 1 a0_1) - 1))).bind fun t233 => (some t233)) else (none)) else (some false)) else (some false))) else (some false))) = some r := h
 clear h
 replace H := qE H
 obtain ⟨t231, A2, H⟩ := H
 replace H : (if t231 = true then ((spec_boSide.f a0_1).bind fun t232 => (if t232 = true then (if (l0_2.length : Int) = a0_0 then (if 0 ≤ a0_1 then ((spec_l1All.f k l0_2 0 (wrap64 ((shl .i64 1 a0_1) - 1))).bind fun t233 => (some t233)) else (none)) else (some false)) else (some false))) else (some false)) = some r := H
 by_cases c3 : t231 = true
 ·
  subst c3
  have H1 : ((spec_boSide.f a0_1).bind fun t232 => (if t232 = true then (if (l0_2.length : Int) = a0_0 then (if 0 ≤ a0_1 then ((spec_l1All.f k l0_2 0 (wrap64 ((shl .i64 1 a0_1) - 1))).bind fun t233 => (some t233)) else (none)) else (some false)) else (some false))) = some r := by first | (rw [if_pos rfl] at H; exact H) | rfl
  clear H
  have H := H1
  clear H1
  replace H := qE H
  obtain ⟨t232, A4, H⟩ := H
  replace H : (if t232 = true then (if (l0_2.length : Int) = a0_0 then (if 0 ≤ a0_1 then ((spec_l1All.f k l0_2 0 (wrap64 ((shl .i64 1 a0_1) - 1))).bind fun t233 => (some t233)) else (none)) else (some false)) else (some false)) = some r := H
  by_cases c5 : t232 = true
  ·
   subst c5
   have H1 : (if (l0_2.length : Int) = a0_0 then (if 0 ≤ a0_1 then ((spec_l1All.f k l0_2 0 (wrap64 ((shl .i64 1 a0_1) - 1))).bind fun t233 => (some t233)) else (none)) else (some false)) = some r := by first | (rw [if_pos rfl] at H; exact H) | rfl
   clear H
   have H := H1
   clear H1
   by_cases c6 : (l0_2.length : Int) = a0_0
   ·
    rw [if_pos c6] at H
    have c6b0 : ((l0_2.length : Int) == a0_0) = true := beq_iff_eq.mpr c6
    have c6b1 : ((l0_2.length : Int) != a0_0) = false := bne_eq_false_iff_eq.mpr c6
    clear c6
    by_cases c7 : 0 ≤ a0_1
    ·
     rw [if_pos c7] at H
     have c7b0 := eq_true c7
     have c7b1 : decide (0 ≤ a0_1) = true := decide_eq_true c7
     clear c7
     obtain ⟨ji8, hji8⟩ : ∃ j_ : Int, (shl .i64 1 a0_1) = j_ := ⟨_, rfl⟩
     replace H : ((spec_l1All.f k l0_2 0 (wrap64 ((ji8) - 1))).bind fun t233 => (some t233)) = some r := by first | (rw [hji8] at H; exact H) | (simp only [hji8] at H ⊢; exact H)
     (try rw [hji8] at A2)
     (try rw [hji8] at A4)
     have hji8_ : (IntKind.i64.wrap (1 * 2 ^ min a0_1.toNat 64)) = ji8 := hji8
     have hji8z : a0_1 ≤ 64 → (IntKind.i64.wrap (1 * 2 ^ a0_1.toNat)) = ji8 := shl_small hji8
     have hji8u : (IntKind.i64.wrap (2 ^ min a0_1.toNat 64)) = ji8 := by have h_ := hji8_; rw [Int.one_mul] at h_; exact h_
     have hji8v : a0_1 ≤ 64 → (IntKind.i64.wrap (2 ^ a0_1.toNat)) = ji8 := fun hle_ => by have h_ := hji8z hle_; rw [Int.one_mul] at h_; exact h_
     have hji8y : (wrap64 (1 * 2 ^ min a0_1.toNat 64)) = ji8 := (i64_w _).symm.trans hji8_
     have hji8x : a0_1 ≤ 64 → (wrap64 (1 * 2 ^ a0_1.toNat)) = ji8 := fun h_ => (i64_w _).symm.trans (hji8z h_)
     replace H := qE H
     obtain ⟨t233, A9, H⟩ := H
     replace H : (some t233) = some r := H
     obtain rfl := Option.some.inj H
     go_enter Tryd.func28, Tryd.ntmps28
     go_wp2_with (first | ((with_reducible refine gate_dst (N := 1) rfl ?_); (try (refine gate_guard (by rfl) ?_; dsimp only)); refine qv 1 #[.int .i64 a0_0, .int .i64 a0_1, .slice A0_2 l0_2.length c0_2] 26 ?_; intro gb230 hg w10 hbox hb; have BK230 := am hbox; have GW230 := qw hg; have GE230 := qw hg; replace HB := qs hb; clear hb hbox hg; obtain ⟨zq3, zq4, zq5, fq3, fq4, fq5⟩ := qd BK230) | (go_at_call 56; (with_reducible refine (spec_boSide.calls a0_0 true _ A2.out).mono ?_); rintro e w' ⟨rfl, ⟨nd, rfl⟩⟩; (try first | exact ⟨rfl, _, World.drewN_drewN _ _ _⟩ | exact ⟨rfl, _, Eq.trans (World.drewN_drewN _ _ _) (congrArg (World.drewN _) (Nat.add_assoc _ _ _))⟩)) | (go_at_call 56; (with_reducible refine (spec_boSide.calls a0_1 true _ A4.out).mono ?_); rintro e w' ⟨rfl, ⟨nd, rfl⟩⟩; (try first | exact ⟨rfl, _, World.drewN_drewN _ _ _⟩ | exact ⟨rfl, _, Eq.trans (World.drewN_drewN _ _ _) (congrArg (World.drewN _) (Nat.add_assoc _ _ _))⟩)) | (go_at_call 63; (with_reducible refine (spec_l1All.calls k _ _ l0_2 0 (wrap64 ((ji8) - 1)) t233 _ ?side1 HC0_2.out A9.out).mono ?_); (case side1 => exact Q48); rintro e w' ⟨rfl, ⟨nd, rfl⟩⟩; (try first | exact ⟨rfl, _, World.drewN_drewN _ _ _⟩ | exact ⟨rfl, _, Eq.trans (World.drewN_drewN _ _ _) (congrArg (World.drewN _) (Nat.add_assoc _ _ _))⟩)))
     repeat (go_quiet (first | ((with_reducible refine gate_dst (N := 1) rfl ?_); (try (refine gate_guard (by rfl) ?_; dsimp only)); refine qv 1 #[.int .i64 a0_0, .int .i64 a0_1, .slice A0_2 l0_2.length c0_2] 26 ?_; intro gb230 hg w10 hbox hb; have BK230 := am hbox; have GW230 := qw hg; have GE230 := qw hg; replace HB := qs hb; clear hb hbox hg; obtain ⟨zq3, zq4, zq5, fq3, fq4, fq5⟩ := qd BK230) | (go_at_call 56; (with_reducible refine (spec_boSide.calls a0_0 true _ A2.out).mono ?_); rintro e w' ⟨rfl, ⟨nd, rfl⟩⟩; (try first | exact ⟨rfl, _, World.drewN_drewN _ _ _⟩ | exact ⟨rfl, _, Eq.trans (World.drewN_drewN _ _ _) (congrArg (World.drewN _) (Nat.add_assoc _ _ _))⟩)) | (go_at_call 56; (with_reducible refine (spec_boSide.calls a0_1 true _ A4.out).mono ?_); rintro e w' ⟨rfl, ⟨nd, rfl⟩⟩; (try first | exact ⟨rfl, _, World.drewN_drewN _ _ _⟩ | exact ⟨rfl, _, Eq.trans (World.drewN_drewN _ _ _) (congrArg (World.drewN _) (Nat.add_assoc _ _ _))⟩)) | (go_at_call 63; (with_reducible refine (spec_l1All.calls k _ _ l0_2 0 (wrap64 ((ji8) - 1)) t233 _ ?side1 HC0_2.out A9.out).mono ?_); (case side1 => exact Q48); rintro e w' ⟨rfl, ⟨nd, rfl⟩⟩; (try first | exact ⟨rfl, _, World.drewN_drewN _ _ _⟩ | exact ⟨rfl, _, Eq.trans (World.drewN_drewN _ _ _) (congrArg (World.drewN _) (Nat.add_assoc _ _ _))⟩))); try go_wp2_with (first | ((with_reducible refine gate_dst (N := 1) rfl ?_); (try (refine gate_guard (by rfl) ?_; dsimp only)); refine qv 1 #[.int .i64 a0_0, .int .i64 a0_1, .slice A0_2 l0_2.length c0_2] 26 ?_; intro gb230 hg w10 hbox hb; have n0_ := qs hb; have n1_ := am hbox; have n2_ := qw hg; have n3_ := qw hg; clear HB; have HB := n0_; have BK230 := n1_; have GW230 := n2_; have GE230 := n3_; clear n0_ n1_ n2_ n3_; clear hb hbox hg; have zq3 : w10.cell? ⟨gb230, 0, none⟩ = some (.int .i64 a0_0) := sqc BK230 0; have zq4 : w10.cell? ⟨gb230, 1, none⟩ = some (.int .i64 a0_1) := sqc BK230 1; have zq5 : w10.cell? ⟨gb230, 2, none⟩ = some (.slice A0_2 l0_2.length c0_2) := sqc BK230 2; have fq3 := blk_frozen BK230.out 0; have fq4 := blk_frozen BK230.out 1; have fq5 := blk_frozen BK230.out 2) | (go_at_call 56; (with_reducible refine (spec_boSide.calls a0_0 true _ A2.out).mono ?_); rintro e w' ⟨rfl, ⟨nd, rfl⟩⟩; (try first | exact ⟨rfl, _, World.drewN_drewN _ _ _⟩ | exact ⟨rfl, _, Eq.trans (World.drewN_drewN _ _ _) (congrArg (World.drewN _) (Nat.add_assoc _ _ _))⟩)) | (go_at_call 56; (with_reducible refine (spec_boSide.calls a0_1 true _ A4.out).mono ?_); rintro e w' ⟨rfl, ⟨nd, rfl⟩⟩; (try first | exact ⟨rfl, _, World.drewN_drewN _ _ _⟩ | exact ⟨rfl, _, Eq.trans (World.drewN_drewN _ _ _) (congrArg (World.drewN _) (Nat.add_assoc _ _ _))⟩)) | (go_at_call 63; (with_reducible refine (spec_l1All.calls k _ _ l0_2 0 (wrap64 ((ji8) - 1)) t233 _ ?side1 HC0_2.out A9.out).mono ?_); (case side1 => exact Q48); rintro e w' ⟨rfl, ⟨nd, rfl⟩⟩; (try first | exact ⟨rfl, _, World.drewN_drewN _ _ _⟩ | exact ⟨rfl, _, Eq.trans (World.drewN_drewN _ _ _) (congrArg (World.drewN _) (Nat.add_assoc _ _ _))⟩))))
     go_ret
     exact ⟨by first | rfl | (simp [errW_none, errW_some] <;> rfl) | (simp only [← hji8]; first | rfl | (simp [errW_none, errW_some] <;> rfl)) | (simp [*, errW_none, errW_some] <;> rfl), qb⟩
    ·
     rw [if_neg c7] at H
     exact absurd H (by simp)
   ·
    rw [if_neg c6] at H
    have c6b0 : ((l0_2.length : Int) == a0_0) = false := beq_eq_false_iff_ne.mpr c6
    have c6b1 : ((l0_2.length : Int) != a0_0) = true := bne_iff_ne.mpr c6
    obtain rfl := Option.some.inj H
    go_enter Tryd.func28, Tryd.ntmps28
    go_wp2_with (first | ((with_reducible refine gate_dst (N := 1) rfl ?_); (try (refine gate_guard (by rfl) ?_; dsimp only)); refine qv 1 #[.int .i64 a0_0, .int .i64 a0_1, .slice A0_2 l0_2.length c0_2] 26 ?_; intro gb230 hg w12 hbox hb; have BK230 := am hbox; have GW230 := qw hg; have GE230 := qw hg; replace HB := qs hb; clear hb hbox hg; obtain ⟨zq9, zq10, zq11, fq9, fq10, fq11⟩ := qd BK230) | (go_at_call 56; (with_reducible refine (spec_boSide.calls a0_0 true _ A2.out).mono ?_); rintro e w' ⟨rfl, ⟨nd, rfl⟩⟩; (try first | exact ⟨rfl, _, World.drewN_drewN _ _ _⟩ | exact ⟨rfl, _, Eq.trans (World.drewN_drewN _ _ _) (congrArg (World.drewN _) (Nat.add_assoc _ _ _))⟩)) | (go_at_call 56; (with_reducible refine (spec_boSide.calls a0_1 true _ A4.out).mono ?_); rintro e w' ⟨rfl, ⟨nd, rfl⟩⟩; (try first | exact ⟨rfl, _, World.drewN_drewN _ _ _⟩ | exact ⟨rfl, _, Eq.trans (World.drewN_drewN _ _ _) (congrArg (World.drewN _) (Nat.add_assoc _ _ _))⟩)))
    repeat (go_quiet (first | ((with_reducible refine gate_dst (N := 1) rfl ?_); (try (refine gate_guard (by rfl) ?_; dsimp only)); refine qv 1 #[.int .i64 a0_0, .int .i64 a0_1, .slice A0_2 l0_2.length c0_2] 26 ?_; intro gb230 hg w12 hbox hb; have BK230 := am hbox; have GW230 := qw hg; have GE230 := qw hg; replace HB := qs hb; clear hb hbox hg; obtain ⟨zq9, zq10, zq11, fq9, fq10, fq11⟩ := qd BK230) | (go_at_call 56; (with_reducible refine (spec_boSide.calls a0_0 true _ A2.out).mono ?_); rintro e w' ⟨rfl, ⟨nd, rfl⟩⟩; (try first | exact ⟨rfl, _, World.drewN_drewN _ _ _⟩ | exact ⟨rfl, _, Eq.trans (World.drewN_drewN _ _ _) (congrArg (World.drewN _) (Nat.add_assoc _ _ _))⟩)) | (go_at_call 56; (with_reducible refine (spec_boSide.calls a0_1 true _ A4.out).mono ?_); rintro e w' ⟨rfl, ⟨nd, rfl⟩⟩; (try first | exact ⟨rfl, _, World.drewN_drewN _ _ _⟩ | exact ⟨rfl, _, Eq.trans (World.drewN_drewN _ _ _) (congrArg (World.drewN _) (Nat.add_assoc _ _ _))⟩))); try go_wp2_with (first | ((with_reducible refine gate_dst (N := 1) rfl ?_); (try (refine gate_guard (by rfl) ?_; dsimp only)); refine qv 1 #[.int .i64 a0_0, .int .i64 a0_1, .slice A0_2 l0_2.length c0_2] 26 ?_; intro gb230 hg w12 hbox hb; have n0_ := qs hb; have n1_ := am hbox; have n2_ := qw hg; have n3_ := qw hg; clear HB; have HB := n0_; have BK230 := n1_; have GW230 := n2_; have GE230 := n3_; clear n0_ n1_ n2_ n3_; clear hb hbox hg; have zq9 : w12.cell? ⟨gb230, 0, none⟩ = some (.int .i64 a0_0) := sqc BK230 0; have zq10 : w12.cell? ⟨gb230, 1, none⟩ = some (.int .i64 a0_1) := sqc BK230 1; have zq11 : w12.cell? ⟨gb230, 2, none⟩ = some (.slice A0_2 l0_2.length c0_2) := sqc BK230 2; have fq9 := blk_frozen BK230.out 0; have fq10 := blk_frozen BK230.out 1; have fq11 := blk_frozen BK230.out 2) | (go_at_call 56; (with_reducible refine (spec_boSide.calls a0_0 true _ A2.out).mono ?_); rintro e w' ⟨rfl, ⟨nd, rfl⟩⟩; (try first | exact ⟨rfl, _, World.drewN_drewN _ _ _⟩ | exact ⟨rfl, _, Eq.trans (World.drewN_drewN _ _ _) (congrArg (World.drewN _) (Nat.add_assoc _ _ _))⟩)) | (go_at_call 56; (with_reducible refine (spec_boSide.calls a0_1 true _ A4.out).mono ?_); rintro e w' ⟨rfl, ⟨nd, rfl⟩⟩; (try first | exact ⟨rfl, _, World.drewN_drewN _ _ _⟩ | exact ⟨rfl, _, Eq.trans (World.drewN_drewN _ _ _) (congrArg (World.drewN _) (Nat.add_assoc _ _ _))⟩))))
    go_ret
    exact ⟨Q1, qb⟩
  ·
   replace c5 := Bool.eq_false_iff.mpr c5
   subst c5
   have H1 : (some false) = some r := by first | (rw [if_neg (show ¬ (false = true) by decide)] at H; exact H) | rfl
   clear H
   have H := H1
   clear H1
   obtain rfl := Option.some.inj H
   go_enter Tryd.func28, Tryd.ntmps28
   go_wp2_with (first | ((with_reducible refine gate_dst (N := 1) rfl ?_); (try (refine gate_guard (by rfl) ?_; dsimp only)); refine qv 1 #[.int .i64 a0_0, .int .i64 a0_1, .slice A0_2 l0_2.length c0_2] 26 ?_; intro gb230 hg w14 hbox hb; have BK230 := am hbox; have GW230 := qw hg; have GE230 := qw hg; replace HB := qs hb; clear hb hbox hg; obtain ⟨zq12, zq13, zq14, fq12, fq13, fq14⟩ := qd BK230) | (go_at_call 56; (with_reducible refine (spec_boSide.calls a0_0 true _ A2.out).mono ?_); rintro e w' ⟨rfl, ⟨nd, rfl⟩⟩; (try first | exact ⟨rfl, _, World.drewN_drewN _ _ _⟩ | exact ⟨rfl, _, Eq.trans (World.drewN_drewN _ _ _) (congrArg (World.drewN _) (Nat.add_assoc _ _ _))⟩)) | (go_at_call 56; (with_reducible refine (spec_boSide.calls a0_1 false _ A4.out).mono ?_); rintro e w' ⟨rfl, ⟨nd, rfl⟩⟩; (try first | exact ⟨rfl, _, World.drewN_drewN _ _ _⟩ | exact ⟨rfl, _, Eq.trans (World.drewN_drewN _ _ _) (congrArg (World.drewN _) (Nat.add_assoc _ _ _))⟩)))
   repeat (go_quiet (first | ((with_reducible refine gate_dst (N := 1) rfl ?_); (try (refine gate_guard (by rfl) ?_; dsimp only)); refine qv 1 #[.int .i64 a0_0, .int .i64 a0_1, .slice A0_2 l0_2.length c0_2] 26 ?_; intro gb230 hg w14 hbox hb; have BK230 := am hbox; have GW230 := qw hg; have GE230 := qw hg; replace HB := qs hb; clear hb hbox hg; obtain ⟨zq12, zq13, zq14, fq12, fq13, fq14⟩ := qd BK230) | (go_at_call 56; (with_reducible refine (spec_boSide.calls a0_0 true _ A2.out).mono ?_); rintro e w' ⟨rfl, ⟨nd, rfl⟩⟩; (try first | exact ⟨rfl, _, World.drewN_drewN _ _ _⟩ | exact ⟨rfl, _, Eq.trans (World.drewN_drewN _ _ _) (congrArg (World.drewN _) (Nat.add_assoc _ _ _))⟩)) | (go_at_call 56; (with_reducible refine (spec_boSide.calls a0_1 false _ A4.out).mono ?_); rintro e w' ⟨rfl, ⟨nd, rfl⟩⟩; (try first | exact ⟨rfl, _, World.drewN_drewN _ _ _⟩ | exact ⟨rfl, _, Eq.trans (World.drewN_drewN _ _ _) (congrArg (World.drewN _) (Nat.add_assoc _ _ _))⟩))); try go_wp2_with (first | ((with_reducible refine gate_dst (N := 1) rfl ?_); (try (refine gate_guard (by rfl) ?_; dsimp only)); refine qv 1 #[.int .i64 a0_0, .int .i64 a0_1, .slice A0_2 l0_2.length c0_2] 26 ?_; intro gb230 hg w14 hbox hb; have n0_ := qs hb; have n1_ := am hbox; have n2_ := qw hg; have n3_ := qw hg; clear HB; have HB := n0_; have BK230 := n1_; have GW230 := n2_; have GE230 := n3_; clear n0_ n1_ n2_ n3_; clear hb hbox hg; have zq12 : w14.cell? ⟨gb230, 0, none⟩ = some (.int .i64 a0_0) := sqc BK230 0; have zq13 : w14.cell? ⟨gb230, 1, none⟩ = some (.int .i64 a0_1) := sqc BK230 1; have zq14 : w14.cell? ⟨gb230, 2, none⟩ = some (.slice A0_2 l0_2.length c0_2) := sqc BK230 2; have fq12 := blk_frozen BK230.out 0; have fq13 := blk_frozen BK230.out 1; have fq14 := blk_frozen BK230.out 2) | (go_at_call 56; (with_reducible refine (spec_boSide.calls a0_0 true _ A2.out).mono ?_); rintro e w' ⟨rfl, ⟨nd, rfl⟩⟩; (try first | exact ⟨rfl, _, World.drewN_drewN _ _ _⟩ | exact ⟨rfl, _, Eq.trans (World.drewN_drewN _ _ _) (congrArg (World.drewN _) (Nat.add_assoc _ _ _))⟩)) | (go_at_call 56; (with_reducible refine (spec_boSide.calls a0_1 false _ A4.out).mono ?_); rintro e w' ⟨rfl, ⟨nd, rfl⟩⟩; (try first | exact ⟨rfl, _, World.drewN_drewN _ _ _⟩ | exact ⟨rfl, _, Eq.trans (World.drewN_drewN _ _ _) (congrArg (World.drewN _) (Nat.add_assoc _ _ _))⟩))))
   go_ret
   exact ⟨Q1, qb⟩
 ·
  replace c3 := Bool.eq_false_iff.mpr c3
  subst c3
  have H1 : (some false) = some r := by first | (rw [if_neg (show ¬ (false = true) by decide)] at H; exact H) | rfl
  clear H
  have H := H1
  clear H1
  obtain rfl := Option.some.inj H
  go_enter Tryd.func28, Tryd.ntmps28
  go_wp2_with (first | ((with_reducible refine gate_dst (N := 1) rfl ?_); (try (refine gate_guard (by rfl) ?_; dsimp only)); refine qv 1 #[.int .i64 a0_0, .int .i64 a0_1, .slice A0_2 l0_2.length c0_2] 26 ?_; intro gb230 hg w16 hbox hb; have BK230 := am hbox; have GW230 := qw hg; have GE230 := qw hg; replace HB := qs hb; clear hb hbox hg; obtain ⟨zq15, zq16, zq17, fq15, fq16, fq17⟩ := qd BK230) | (go_at_call 56; (with_reducible refine (spec_boSide.calls a0_0 false _ A2.out).mono ?_); rintro e w' ⟨rfl, ⟨nd, rfl⟩⟩; (try first | exact ⟨rfl, _, World.drewN_drewN _ _ _⟩ | exact ⟨rfl, _, Eq.trans (World.drewN_drewN _ _ _) (congrArg (World.drewN _) (Nat.add_assoc _ _ _))⟩)))
  repeat (go_quiet (first | ((with_reducible refine gate_dst (N := 1) rfl ?_); (try (refine gate_guard (by rfl) ?_; dsimp only)); refine qv 1 #[.int .i64 a0_0, .int .i64 a0_1, .slice A0_2 l0_2.length c0_2] 26 ?_; intro gb230 hg w16 hbox hb; have BK230 := am hbox; have GW230 := qw hg; have GE230 := qw hg; replace HB := qs hb; clear hb hbox hg; obtain ⟨zq15, zq16, zq17, fq15, fq16, fq17⟩ := qd BK230) | (go_at_call 56; (with_reducible refine (spec_boSide.calls a0_0 false _ A2.out).mono ?_); rintro e w' ⟨rfl, ⟨nd, rfl⟩⟩; (try first | exact ⟨rfl, _, World.drewN_drewN _ _ _⟩ | exact ⟨rfl, _, Eq.trans (World.drewN_drewN _ _ _) (congrArg (World.drewN _) (Nat.add_assoc _ _ _))⟩))); try go_wp2_with (first | ((with_reducible refine gate_dst (N := 1) rfl ?_); (try (refine gate_guard (by rfl) ?_; dsimp only)); refine qv 1 #[.int .i64 a0_0, .int .i64 a0_1, .slice A0_2 l0_2.length c0_2] 26 ?_; intro gb230 hg w16 hbox hb; have n0_ := qs hb; have n1_ := am hbox; have n2_ := qw hg; have n3_ := qw hg; clear HB; have HB := n0_; have BK230 := n1_; have GW230 := n2_; have GE230 := n3_; clear n0_ n1_ n2_ n3_; clear hb hbox hg; have zq15 : w16.cell? ⟨gb230, 0, none⟩ = some (.int .i64 a0_0) := sqc BK230 0; have zq16 : w16.cell? ⟨gb230, 1, none⟩ = some (.int .i64 a0_1) := sqc BK230 1; have zq17 : w16.cell? ⟨gb230, 2, none⟩ = some (.slice A0_2 l0_2.length c0_2) := sqc BK230 2; have fq15 := blk_frozen BK230.out 0; have fq16 := blk_frozen BK230.out 1; have fq17 := blk_frozen BK230.out 2) | (go_at_call 56; (with_reducible refine (spec_boSide.calls a0_0 false _ A2.out).mono ?_); rintro e w' ⟨rfl, ⟨nd, rfl⟩⟩; (try first | exact ⟨rfl, _, World.drewN_drewN _ _ _⟩ | exact ⟨rfl, _, Eq.trans (World.drewN_drewN _ _ _) (congrArg (World.drewN _) (Nat.add_assoc _ _ _))⟩))))
  go_ret
  exact ⟨Q1, qb⟩

/-! ### spec_boHas: function 64 -/
def spec_boHas.f (a0_0 : Int) (a0_1 : Int) (l0_2 : List Int) (a1 : Int) (a2 : Int) : Option (Bool) := if 0 ≤ a1 then (if a1 < (l0_2.length : Int) then (if 0 ≤ a2 then (some ((Int.tmod (shr .i64 (rd l0_2 a1) a2) 2) == 1)) else (none)) else (none)) else (none)
set_option maxHeartbeats 8000000 in
set_option maxRecDepth 100000 in
theorem spec_boHas.calls (a0_0 : Int) (a0_1 : Int) (A0_2 : Option Addr) (c0_2 : Nat) (l0_2 : List Int) (a1 : Int) (a2 : Int) (r : Bool) (w : World) (hr0_2 : Kd.C (Kd.int .i64) w A0_2 l0_2.length l0_2) (hc0_2 : l0_2.length ≤ c0_2) (h : spec_boHas.f a0_0 a0_1 l0_2 a1 a2 = some r) :
  Calls Tryd.prog 64 #[.agg #[.int .i64 a0_0, .int .i64 a0_1, .slice A0_2 l0_2.length c0_2], .int .i64 a1, .int .i64 a2] w fun e w' => e = .returned (.bool r) ∧ Below w.heap.size w w' := by
 have hu26 := Tryd.underlying26
 have HR0_2 := Aside0.mk hr0_2
 have HC0_2 := Aside0.mk hc0_2
 clear hr0_2 hc0_2
 have HB := am (Below.refl w.heap.size w)
 have H : (if 0 ≤ a1 then (if a1 < (l0_2.length : Int) then (if 0 ≤ a2 then (some ((Int.tmod (shr .i64 (rd l0_2 a1) a2) 2) == 1)) else (none)) else (none)) else (none)) = some r := h
 clear h
 by_cases c4 : 0 ≤ a1
 ·
  rw [if_pos c4] at H
  have c4b0 : decide (0 ≤ a1) = true := decide_eq_true c4
  clear c4
  by_cases c5 : a1 < (l0_2.length : Int)
  ·
   rw [if_pos c5] at H
   have c5b0 : decide (a1 < (l0_2.length : Int)) = true := decide_eq_true c5
   clear c5
   by_cases c6 : 0 ≤ a2
   ·
    rw [if_pos c6] at H
    have c6b0 := eq_true c6
    have c6b1 : decide (0 ≤ a2) = true := decide_eq_true c6
    clear c6
    obtain ⟨ji7, hji7⟩ : ∃ j_ : Int, (shr .i64 (rd l0_2 a1) a2) = j_ := ⟨_, rfl⟩
    replace H : (some ((Int.tmod (ji7) 2) == 1)) = some r := by first | (rw [hji7] at H; exact H) | (simp only [hji7] at H ⊢; exact H)
    have hji7_ : ((rd l0_2 a1) / 2 ^ min a2.toNat 64) = ji7 := hji7
    have hji7z : a2 ≤ 64 → ((rd l0_2 a1) / 2 ^ a2.toNat) = ji7 := shr_small hji7
    obtain rfl := Option.some.inj H
    go_enter Tryd.func64, Tryd.ntmps64
    go_wp2_with (first | ((with_reducible refine gate_dst (N := 3) rfl ?_); refine qv 3 #[.int .i64 a0_0, .int .i64 a0_1, .slice A0_2 l0_2.length c0_2] 26 ?_; intro gb234 hg w8 hbox hb; have BK234 := am hbox; have GW234 := qw hg; have GE234 := qw hg; replace HB := qs hb; clear hb hbox hg; obtain ⟨zq39, zq40, zq41, fq39, fq40, fq41⟩ := qd BK234; have p235 : 0 ≤ (a1 : Int) := of_decide_eq_true Q0; have q235 : a1 < (l0_2.length : Int) := of_decide_eq_true Q0; obtain ⟨ad235, e235, hx235_0⟩ := Kd.at_int HR0_2.out a1 p235 q235; cases e235; replace hx235_0 := (HB.out.cell (World.block_lt_of_cell? w _ hx235_0)).trans hx235_0; replace p235 := eq_true p235; replace q235 := eq_true q235))
    go_ret
    exact ⟨Q62, qb⟩
   ·
    rw [if_neg c6] at H
    exact absurd H (by simp)
  ·
   rw [if_neg c5] at H
   exact absurd H (by simp)
 ·
  rw [if_neg c4] at H
  exact absurd H (by simp)

end Go.Proofs.YtllhofdgbpnkkaaDoor.PFnBoardsTurned
