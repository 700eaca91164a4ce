-- Printed for this claim by wip/pp.py over the kit's printer; Lean checks it.
import Derived.Test.YtllhofdgbpnkkaaDoorPFnBoardsTurnedx0
import Derived.Test.YtllhofdgbpnkkaaDoorPFnBoardsTurnedx1
namespace Go.Proofs.YtllhofdgbpnkkaaDoor.PFnBoardsTurned
open Go.RowKit Go.Proofs.YtllhofdgbpnkkaaDoorW.PrintWords Go.Proofs.YtllhofdgbpnkkaaDoorW.PrintLast Go.Proofs.YtllhofdgbpnkkaaDoorW.PrintMore
attribute [local go_sem] max2_int min2_int max_two min_two max_three min_three max_four min_four   -- for this text's walks alone
set_option linter.unusedVariables false
set_option linter.unusedSimpArgs false

/-! ### spec_l1Cur_boardOf: function 48 -/
def spec_l1Cur_boardOf.l0 : Nat → Int → Int → Int → List Int → Int → Int → Int → Int → List Int → Option (Int × Int × List Int × Int × Int)
 | 0, _, _, _, _, _, _, _, _, _ => none
 | k + 1, x2, x14, x15, x1000, x1001, x1002, x122000, x122001, x122002 => if x15 < x14 then (if 0 ≤ x2 then ((spec_l1Cur_pick.f x1000 x1001 x1002 (shl .i64 1 x2)).bind fun bt122 => (if 0 ≤ x15 then (if x15 < (x122002.length : Int) then ((some (x122002.set (x15 : Int).toNat bt122.1 : List Int)).bind fun y125 => ((spec_l1Cur_one.f x1000 bt122.2.1 bt122.2.2 3).bind fun bt126 => (if bt126.1 = true then ((spec_l1Cur_pick.f x1000 bt126.2.1 bt126.2.2 (wrap64 (x2 + 1))).bind fun bt129 => (if 0 ≤ bt129.1 then (spec_l1Cur_boardOf.l0 k x2 x14 (wrap64 (x15 + 1)) x1000 bt129.2.1 bt129.2.2 x122000 x122001 (y125.set (x15 : Int).toNat (wrap64 ((shl .i64 1 bt129.1) - 1)))) else (none))) else (spec_l1Cur_boardOf.l0 k x2 x14 (wrap64 (x15 + 1)) x1000 bt126.2.1 bt126.2.2 x122000 x122001 y125)))) else (none)) else (none))) else (none)) else (some (x122000, x122001, x122002, x1001, x1002))
def spec_l1Cur_boardOf.f (k : Nat) (s0_0 : List Int) (s0_1 : Int) (s0_2 : Int) (a1 : Int) (a2 : Int) : Option (Int × Int × List Int × Int × Int) := (spec_boEmpty.f a1 a2).bind fun bt116 => (spec_l1Cur_boardOf.l0 k a2 (bt116.2.2.length : Int) 0 s0_0 s0_1 s0_2 bt116.1 bt116.2.1 bt116.2.2)
def spec_l1Cur_boardOf.T5 : Bool × List (List Nat × List Nat) := (true, [([], []), ([0], [0]), ([], []), ([], []), ([], []), ([4], [4]), ([3, 5], [3, 5]), ([1, 2, 0, 1, 2, 3, 4, 5, 6], [1, 2]), ([7, 6, 6, 0, 1, 2, 3, 4, 5, 6], [6, 7])])
def spec_l1Cur_boardOf.B5 : List Nat := [0, 1, 0, 0, 0, 16, 56, 127, 255]
theorem spec_l1Cur_boardOf.tab5 : rtab .any (opsOf Tryd.f48 5) = spec_l1Cur_boardOf.T5 := by kernel_rfl
theorem spec_l1Cur_boardOf.bits5 : waitsOk spec_l1Cur_boardOf.T5.2 spec_l1Cur_boardOf.B5 = true := by kernel_rfl
def spec_l1Cur_boardOf.T7 : Bool × List (List Nat × List Nat) := (true, [([], []), ([0], [0]), ([], []), ([], []), ([], []), ([4], [4]), ([3, 5], [3, 5]), ([6], [6]), ([7], [7]), ([1, 2, 0, 1, 2, 3, 4, 5, 6, 7, 8], [1, 2]), ([9, 8, 6, 0, 1, 2, 3, 4, 5, 6, 7, 8], [8, 9])])
def spec_l1Cur_boardOf.B7 : List Nat := [0, 1, 0, 0, 0, 16, 56, 120, 248, 511, 1023]
theorem spec_l1Cur_boardOf.tab7 : rtab .any (opsOf Tryd.f48 7) = spec_l1Cur_boardOf.T7 := by kernel_rfl
theorem spec_l1Cur_boardOf.bits7 : waitsOk spec_l1Cur_boardOf.T7.2 spec_l1Cur_boardOf.B7 = true := by kernel_rfl
set_option maxHeartbeats 8000000 in
set_option maxRecDepth 100000 in
theorem spec_l1Cur_boardOf.calls (k : Nat) (g : Nat) (s0_0 : List Int) (s0_1 : Int) (s0_2 : Int) (a1 : Int) (a2 : Int) (r1 : Int) (r2 : Int) (r3 : List Int) (r4 : Int) (r5 : Int) (w0 w : World) (hI : IsS57 w0 w g s0_0 s0_1 s0_2) (hB : Below w0.heap.size w0 w) (h : spec_l1Cur_boardOf.f k s0_0 s0_1 s0_2 a1 a2 = some (r1, r2, r3, r4, r5)) :
  Calls Tryd.prog 48 #[.pointer (some ⟨g, 0, none⟩), .int .i64 a1, .int .i64 a2] w fun e w' => ∃ v2_ : Value, e = .returned (.agg #[.int .i64 r1, .int .i64 r2, v2_]) ∧ Kd.R (Kd.int .i64) 3 w' w.heap.size (fun _ => True) v2_ r3 ∧ IsS57 w0 w' g s0_0 r4 r5 ∧ Below w0.heap.size w0 w' ∧ KeepBut w w' g none := by
 have hu26 := Tryd.underlying26
 have HI0 := Aside0.mk hI
 have HK := am (KeepBut.refl w g none)
 have HL := Aside0.mk hB.size
 clear hI
 have HW0 := Aside0.mk hB.size
 have HB := Aside0.mk hB
 clear hB
 have H : ((spec_boEmpty.f a1 a2).bind fun bt116 => (spec_l1Cur_boardOf.l0 k a2 (bt116.2.2.length : Int) 0 s0_0 s0_1 s0_2 bt116.1 bt116.2.1 bt116.2.2)) = some (r1, r2, r3, r4, r5) := h
 clear h
 replace H := qE H
 obtain ⟨⟨t116, t117, t118⟩, A4, H⟩ := H
 replace H : (spec_l1Cur_boardOf.l0 k a2 (t118.length : Int) 0 s0_0 s0_1 s0_2 t116 t117 t118) = some (r1, r2, r3, r4, r5) := H
 have H' := Aside0.mk H
 clear H
 go_enter Tryd.func48, Tryd.ntmps48
 go_wp2_with (first | ((with_reducible refine gate_dst (N := 6) rfl ?_); refine qv 6 #[.int .i64 0, .int .i64 0, .slice none 0 0] 26 ?_; intro gb115 hg w5 hbox hb; have BK115 := am hbox; have GW115 := qx hg; have GE115 := qy HW0 (qx hg); have Nq0 := qo hg g; have Nq2 := qO hg g; replace HK := qU hb; replace HB := qt hb; replace HI0 := qj hb; clear hb hbox hg) | ((with_reducible refine gate_callee (f := 33) rfl ?_); refine qg (some 11) Tryd.func33 #[.int .i64 a1, .int .i64 a2] ?_; (with_reducible refine (spec_boEmpty.calls a1 a2 t116 t117 t118 _ A4.out).mono ?_); rintro e w6 ⟨v119, rfl, ho0, hb⟩; refine ⟨_, rfl, ?_⟩; have Oq0 := qm ho0; replace BK115 := sqB BK115 hb; replace HK := qU hb; replace HB := qt hb; replace HI0 := qj hb; (try clear hb ho0)) | ((with_reducible refine gate_dst (N := 7) rfl ?_); refine qv 7 #[.int .i64 0, .int .i64 0, .slice none 0 0] 26 ?_; intro gb121 hg w7 hbox hb; have BK121 := am hbox; have GW121 := qx hg; have GE121 := qy HW0 (qx hg); have Nq3 := qn hg BK115; have Nq5 := qN hg BK115; have Nq1 := qo hg g; have Nq4 := qO hg g; replace Oq0 := sqR Oq0 hb; replace BK115 := sqB BK115 hb; replace HK := qU hb; replace HB := qt hb; replace HI0 := qj hb; clear hb hbox hg; have bq3 := Nq5.out; have cq3 := Nq3.out; have bq4 := Nq4.out; have cq4 := Nq1.out; obtain ⟨zq0, zq1, zq2, fq0, fq1, fq2⟩ := qd BK121; obtain ⟨Ao11, co11, eo11⟩ := Kd.R_slice Oq0.out; subst eo11))
 go_loopg [15] k (fun kq v15 w' => ∃ (x15_1 : Int) (x1001_1 : Int) (x1002_1 : Int) (x122002_1 : List Int) (u122002 : Value), v15 = .int .i64 x15_1 ∧ Aside0 (spec_l1Cur_boardOf.l0 kq a2 (t118.length : Int) x15_1 s0_0 x1001_1 x1002_1 t116 t117 x122002_1 = some (r1, r2, r3, r4, r5)) ∧ Aside0 (kq ≤ k) ∧ Aside0 (Kd.R (Kd.int .i64) 3 w' w.heap.size (fun _ => True) u122002 x122002_1) ∧ Aside0 (w'.heap[gb115]? = some (.cells #[.int .i64 0, .int .i64 0, (.slice none 0 0)] 26 (0, 0))) ∧ Aside0 (w'.heap[gb121]? = some (.cells #[.int .i64 t116, .int .i64 t117, u122002] 26 (0, 0))) ∧ Aside0 (IsS57 w0 w' g s0_0 x1001_1 x1002_1) ∧ Aside0 (KeepBut w w' g none) ∧ Aside0 (Below w0.heap.size w0 w'))
 case atStart => exact ⟨(0), (s0_1), (s0_2), (t118), (.slice Ao11 t118.length co11), Q2, H', ⟨Nat.le_refl _⟩, ⟨by (with_reducible repeat (first | apply Kd.R_alloc | apply Kd.R_drewN | apply Kd.R_drew)); exact Kd.R_mono (Kd.R_far (p := ⟨gb121, 2, none⟩) (Kd.R_far (p := ⟨gb121, 1, none⟩) (Kd.R_far (p := ⟨gb121, 0, none⟩) (Kd.R_types Oq0.out BK121.out (by decide)) (fun _ hk => hk.2) (.int .i64 t116)) (fun _ hk => hk.2) (.int .i64 t117)) (fun _ hk => hk.2) (.slice Ao11 t118.length co11)) (fun _ hk => trivial)⟩, ⟨by (with_reducible repeat (first | refine blk_drewN ?_ _ | refine blk_drew ?_ | refine blk_alloc ?_ _)); refine blk_far ?_ Nq3.out _; (with_reducible repeat (first | refine blk_drewN ?_ _ | refine blk_drew ?_ | refine blk_alloc ?_ _)); refine blk_far ?_ Nq3.out _; (with_reducible repeat (first | refine blk_drewN ?_ _ | refine blk_drew ?_ | refine blk_alloc ?_ _)); refine blk_far ?_ Nq3.out _; (with_reducible repeat (first | refine blk_drewN ?_ _ | refine blk_drew ?_ | refine blk_alloc ?_ _)); exact BK115.out⟩, ⟨by (with_reducible repeat (first | refine blk_drewN ?_ _ | refine blk_drew ?_ | refine blk_alloc ?_ _)); refine blk_put (cs := #[.int .i64 t116, .int .i64 t117, .slice none 0 0]) ?_ 2 _ rfl; (with_reducible repeat (first | refine blk_drewN ?_ _ | refine blk_drew ?_ | refine blk_alloc ?_ _)); refine blk_put (cs := #[.int .i64 t116, .int .i64 0, .slice none 0 0]) ?_ 1 _ rfl; (with_reducible repeat (first | refine blk_drewN ?_ _ | refine blk_drew ?_ | refine blk_alloc ?_ _)); refine blk_put (cs := #[.int .i64 0, .int .i64 0, .slice none 0 0]) ?_ 0 _ rfl; (with_reducible repeat (first | refine blk_drewN ?_ _ | refine blk_drew ?_ | refine blk_alloc ?_ _)); exact BK121.out⟩, ⟨qi⟩, ⟨qk⟩, ⟨qc⟩⟩
 case round =>
  clear H'
  try clear zq0; try clear zq1; try clear zq2; try clear fq0; try clear fq1; try clear fq2
  obtain ⟨x15_1, x1001_1, x1002_1, x122002_1, u122002, rfl, HA, HK1, Oq1, BK115, BK121, HI0, HK, HB⟩ := hrel
  cases gk with
  | zero => exact absurd HA.out (by simp [spec_l1Cur_boardOf.l0])
  | succ k1 =>
   have H := HA.out
   clear HA
   simp only [spec_l1Cur_boardOf.l0] at H
   by_cases c12 : x15_1 < (t118.length : Int)
   ·
    rw [if_pos c12] at H
    have c12b0 : decide (x15_1 < (t118.length : Int)) = true := decide_eq_true c12
    clear c12
    by_cases c13 : 0 ≤ a2
    ·
     rw [if_pos c13] at H
     have c13b0 := eq_true c13
     have c13b1 : decide (0 ≤ a2) = true := decide_eq_true c13
     clear c13
     obtain ⟨ji14, hji14⟩ : ∃ j_ : Int, (shl .i64 1 a2) = j_ := ⟨_, rfl⟩
     replace H : ((spec_l1Cur_pick.f s0_0 x1001_1 x1002_1 (ji14)).bind fun bt122 => (if 0 ≤ x15_1 then (if x15_1 < (x122002_1.length : Int) then ((some (x122002_1.set (x15_1 : Int).toNat bt122.1 : List Int)).bind fun y125 => ((spec_l1Cur_one.f s0_0 bt122.2.1 bt122.2.2 3).bind fun bt126 => (if bt126.1 = true then ((spec_l1Cur_pick.f s0_0 bt126.2.1 bt126.2.2 (wrap64 (a2 + 1))).bind fun bt129 => (if 0 ≤ bt129.1 then (spec_l1Cur_boardOf.l0 k1 a2 (t118.length : Int) (wrap64 (x15_1 + 1)) s0_0 bt129.2.1 bt129.2.2 t116 t117 (y125.set (x15_1 : Int).toNat (wrap64 ((shl .i64 1 bt129.1) - 1)))) else (none))) else (spec_l1Cur_boardOf.l0 k1 a2 (t118.length : Int) (wrap64 (x15_1 + 1)) s0_0 bt126.2.1 bt126.2.2 t116 t117 y125)))) else (none)) else (none))) = some (r1, r2, r3, r4, r5) := by first | (rw [hji14] at H; exact H) | (simp only [hji14] at H ⊢; exact H)
     have hji14_ : (IntKind.i64.wrap (1 * 2 ^ min a2.toNat 64)) = ji14 := hji14
     have hji14z : a2 ≤ 64 → (IntKind.i64.wrap (1 * 2 ^ a2.toNat)) = ji14 := shl_small hji14
     have hji14u : (IntKind.i64.wrap (2 ^ min a2.toNat 64)) = ji14 := by have h_ := hji14_; rw [Int.one_mul] at h_; exact h_
     have hji14v : a2 ≤ 64 → (IntKind.i64.wrap (2 ^ a2.toNat)) = ji14 := fun hle_ => by have h_ := hji14z hle_; rw [Int.one_mul] at h_; exact h_
     have hji14y : (wrap64 (1 * 2 ^ min a2.toNat 64)) = ji14 := (i64_w _).symm.trans hji14_
     have hji14x : a2 ≤ 64 → (wrap64 (1 * 2 ^ a2.toNat)) = ji14 := fun h_ => (i64_w _).symm.trans (hji14z h_)
     replace H := qE H
     obtain ⟨⟨t122, t123, t124⟩, A15, H⟩ := H
     replace H : (if 0 ≤ x15_1 then (if x15_1 < (x122002_1.length : Int) then ((some (x122002_1.set (x15_1 : Int).toNat t122 : List Int)).bind fun y125 => ((spec_l1Cur_one.f s0_0 t123 t124 3).bind fun bt126 => (if bt126.1 = true then ((spec_l1Cur_pick.f s0_0 bt126.2.1 bt126.2.2 (wrap64 (a2 + 1))).bind fun bt129 => (if 0 ≤ bt129.1 then (spec_l1Cur_boardOf.l0 k1 a2 (t118.length : Int) (wrap64 (x15_1 + 1)) s0_0 bt129.2.1 bt129.2.2 t116 t117 (y125.set (x15_1 : Int).toNat (wrap64 ((shl .i64 1 bt129.1) - 1)))) else (none))) else (spec_l1Cur_boardOf.l0 k1 a2 (t118.length : Int) (wrap64 (x15_1 + 1)) s0_0 bt126.2.1 bt126.2.2 t116 t117 y125)))) else (none)) else (none)) = some (r1, r2, r3, r4, r5) := H
     by_cases c16 : 0 ≤ x15_1
     ·
      rw [if_pos c16] at H
      have c16b0 : decide (0 ≤ x15_1) = true := decide_eq_true c16
      clear c16
      by_cases c17 : x15_1 < (x122002_1.length : Int)
      ·
       rw [if_pos c17] at H
       have c17b0 : decide (x15_1 < (x122002_1.length : Int)) = true := decide_eq_true c17
       clear c17
       obtain ⟨y125, hy_⟩ : ∃ y_ : List Int, y_ = ((x122002_1.set (x15_1 : Int).toNat t122)) := ⟨_, rfl⟩
       replace H : ((spec_l1Cur_one.f s0_0 t123 t124 3).bind fun bt126 => (if bt126.1 = true then ((spec_l1Cur_pick.f s0_0 bt126.2.1 bt126.2.2 (wrap64 (a2 + 1))).bind fun bt129 => (if 0 ≤ bt129.1 then (spec_l1Cur_boardOf.l0 k1 a2 (t118.length : Int) (wrap64 (x15_1 + 1)) s0_0 bt129.2.1 bt129.2.2 t116 t117 (y125.set (x15_1 : Int).toNat (wrap64 ((shl .i64 1 bt129.1) - 1)))) else (none))) else (spec_l1Cur_boardOf.l0 k1 a2 (t118.length : Int) (wrap64 (x15_1 + 1)) s0_0 bt126.2.1 bt126.2.2 t116 t117 y125))) = some (r1, r2, r3, r4, r5) := qH
       have Ny125 := Aside0.mk hy_
       clear hy_
       replace H := qE H
       obtain ⟨⟨t126, t127, t128⟩, A19, H⟩ := H
       replace H : (if t126 = true then ((spec_l1Cur_pick.f s0_0 t127 t128 (wrap64 (a2 + 1))).bind fun bt129 => (if 0 ≤ bt129.1 then (spec_l1Cur_boardOf.l0 k1 a2 (t118.length : Int) (wrap64 (x15_1 + 1)) s0_0 bt129.2.1 bt129.2.2 t116 t117 (y125.set (x15_1 : Int).toNat (wrap64 ((shl .i64 1 bt129.1) - 1)))) else (none))) else (spec_l1Cur_boardOf.l0 k1 a2 (t118.length : Int) (wrap64 (x15_1 + 1)) s0_0 t127 t128 t116 t117 y125)) = some (r1, r2, r3, r4, r5) := H
       by_cases c20 : t126 = true
       ·
        subst c20
        have H1 : ((spec_l1Cur_pick.f s0_0 t127 t128 (wrap64 (a2 + 1))).bind fun bt129 => (if 0 ≤ bt129.1 then (spec_l1Cur_boardOf.l0 k1 a2 (t118.length : Int) (wrap64 (x15_1 + 1)) s0_0 bt129.2.1 bt129.2.2 t116 t117 (y125.set (x15_1 : Int).toNat (wrap64 ((shl .i64 1 bt129.1) - 1)))) else (none))) = some (r1, r2, r3, r4, r5) := by first | (rw [if_pos rfl] at H; exact H) | rfl
        clear H
        have H := H1
        clear H1
        replace H := qE H
        obtain ⟨⟨t129, t130, t131⟩, A21, H⟩ := H
        replace H : (if 0 ≤ t129 then (spec_l1Cur_boardOf.l0 k1 a2 (t118.length : Int) (wrap64 (x15_1 + 1)) s0_0 t130 t131 t116 t117 (y125.set (x15_1 : Int).toNat (wrap64 ((shl .i64 1 t129) - 1)))) else (none)) = some (r1, r2, r3, r4, r5) := H
        by_cases c22 : 0 ≤ t129
        ·
         rw [if_pos c22] at H
         have c22b0 := eq_true c22
         have c22b1 : decide (0 ≤ t129) = true := decide_eq_true c22
         clear c22
         obtain ⟨ji23, hji23⟩ : ∃ j_ : Int, (shl .i64 1 t129) = j_ := ⟨_, rfl⟩
         replace H : (spec_l1Cur_boardOf.l0 k1 a2 (t118.length : Int) (wrap64 (x15_1 + 1)) s0_0 t130 t131 t116 t117 (y125.set (x15_1 : Int).toNat (wrap64 ((ji23) - 1)))) = some (r1, r2, r3, r4, r5) := by first | (rw [hji23] at H; exact H) | (simp only [hji23] at H ⊢; exact H)
         (try rw [hji23] at A15)
         (try rw [hji23] at A19)
         (try rw [hji23] at A21)
         have hji23_ : (IntKind.i64.wrap (1 * 2 ^ min t129.toNat 64)) = ji23 := hji23
         have hji23z : t129 ≤ 64 → (IntKind.i64.wrap (1 * 2 ^ t129.toNat)) = ji23 := shl_small hji23
         have hji23u : (IntKind.i64.wrap (2 ^ min t129.toNat 64)) = ji23 := by have h_ := hji23_; rw [Int.one_mul] at h_; exact h_
         have hji23v : t129 ≤ 64 → (IntKind.i64.wrap (2 ^ t129.toNat)) = ji23 := fun hle_ => by have h_ := hji23z hle_; rw [Int.one_mul] at h_; exact h_
         have hji23y : (wrap64 (1 * 2 ^ min t129.toNat 64)) = ji23 := (i64_w _).symm.trans hji23_
         have hji23x : t129 ≤ 64 → (wrap64 (1 * 2 ^ t129.toNat)) = ji23 := fun h_ => (i64_w _).symm.trans (hji23z h_)
         obtain ⟨y132, hy_⟩ : ∃ y_ : List Int, y_ = ((y125.set (x15_1 : Int).toNat (wrap64 ((ji23) - 1)))) := ⟨_, rfl⟩
         replace H : (spec_l1Cur_boardOf.l0 k1 a2 (t118.length : Int) (wrap64 (x15_1 + 1)) s0_0 t130 t131 t116 t117 y132) = some (r1, r2, r3, r4, r5) := qH
         have Ny132 := Aside0.mk hy_
         clear hy_
         have H' := Aside0.mk H
         clear H
         try go_wp2
         replace Oq1 := am (Kd.R_drew Oq1.out)
         replace BK115 := am (blk_drew BK115.out)
         replace BK121 := am (blk_drew BK121.out)
         replace HI0 := am (IsS57.drew HI0.out)
         replace HK := am (keep_drew HK.out)
         replace HB := am (below_drew1 HB.out)
         refine start_ (n := 9) (S := fun w' => w'.cell? ⟨gb121, 0, none⟩ = some (.int .i64 t116) ∧ w'.cell? ⟨gb121, 1, none⟩ = some (.int .i64 t117) ∧ w'.cell? ⟨gb121, 2, none⟩ = some (u122002)) (ds := [8]) #[false, false, false, false, false, false, false, false, false] (by kernel_rfl) rfl rfl ⟨sqc BK121 0, sqc BK121 1, sqc BK121 2⟩ (fun hHeld => ?_); refine with_tabW spec_l1Cur_boardOf.tab5 spec_l1Cur_boardOf.bits5 (fun HT_ HW_ => ?_)
         generalize wr.drew = w25 at Oq1 BK115 BK121 HI0 HK HB hHeld ⊢
         refine qp 0 (some 18) #[true, false, false, false, false, false, false, false, false] ?_
         refine qp 2 (some 20) #[true, false, true, false, false, false, false, false, false] ?_
         refine qp 3 (some 21) #[true, false, true, true, false, false, false, false, false] ?_
         refine qp 4 (some 22) #[true, false, true, true, true, false, false, false, false] ?_
         refine qp 5 (some 23) #[true, false, true, true, true, true, false, false, false] ?_
         refine take_ (i := 1) (N := some 19) (v := ?_) (a' := ?_) #[true, true, true, true, true, true, false, false, false] rfl rfl (take_ofW HT_.out HW_.out (by kernel_rfl)) (fun _ _ _ h => h) (Or.inl ⟨by rfl, ?_⟩) hHeld ?_ ?_
         rotate_left
         ·
          rintro w' ⟨s0, s1, s2⟩
          go_simp
          with_reducible rfl
         rotate_left
         ·
          simp only [Act.put, List.setIfInBounds_toArray, List.set_cons_zero, List.set_cons_succ, i64_w, i32_w]
          rfl
         refine one_ (i := 6) (N := some 24) #[true, true, true, true, true, true, true, false, false] rfl rfl (one_of HT_.out (by kernel_rfl)) (by decide) fun K hK => ?_
         refine goes_ Tryd.func40 (by kernel_rfl) rfl #[.pointer (some ⟨g, 0, none⟩), .int .i64 ji14] (by rfl) rfl rfl Q66 ?_
         with_reducible refine (spec_l1Cur_pick.calls g s0_0 x1001_1 x1002_1 ji14 t122 t123 t124 w0 _ ?side1 ?side2 A15.out).mono ?_
         (case side1 => exact qi)
         (case side2 => exact qc)
         rintro e w26 ⟨rfl, hi, hb, hk⟩
         refine ⟨_, rfl, ?_⟩
         replace Oq1 := qR Oq1 hk
         replace BK115 := qK BK115 hk Nq2
         replace BK121 := qK BK121 hk Nq4
         replace HK := qT hk
         replace HB := am hb
         replace HI0 := am hi
         (try clear hb hk hi)
         have p18 : 0 ≤ (x15_1 : Int) := of_decide_eq_true Q0
         have q18 : (x15_1 : Int) < ((x122002_1.length : Int) : Int) := of_decide_eq_true Q0
         obtain ⟨go18, co18, eo18, gb18, gl18, cl18, HG18⟩ := Kd.R_form Oq1.out (by omega)
         (first | cases eo18 | (injection eo18 with ea_ en_ ec_; (first | subst ea_ | (injection ea_ with ea_; subst ea_)); subst ec_; clear en_))
         have GB18 := Aside0.mk gb18
         have GG18 := Aside0.mk HG18
         clear gb18 gl18 HG18
         obtain ⟨hx18_0, hf18_0⟩ := Kd.R_celln 0 Oq1.out (x15_1 : Int) p18 q18
         replace p18 := eq_true p18
         replace q18 := eq_true q18
         have HN0_go18 := am (show g ≠ go18 from by have h_ := IsS57.own_ne HI0.out Oq1.out (by decide); intro e_; exact h_ (by rw [e_]; rfl))
         have HP27 := Kd.R_putn Oq1.out (x15_1 : Int) t122
         rw [← Ny125.out] at HP27
         have HQ27 := Aside0.mk HP27
         clear HP27
         refine hK.out _ _ ⟨sqc BK121 0, sqc BK121 1, sqc BK121 2⟩ (fun hHeld => ?_)
         clear hK K
         refine qq (some 24) ?_
         refine qp 7 (some 25) #[true, true, true, true, true, true, true, true, false] ?_
         refine last_ (i := 8) (N := none) #[true, true, true, true, true, true, true, true, true] rfl rfl (one_of HT_.out (by kernel_rfl)) (by decide) fun K hK => ?_
         refine skip_ (w1 := ?_) (by rfl) rfl ?_ ?_
         rotate_left
         ·
          go_simp
          rfl
         refine hK.out _ _ ?_
         clear hK K
         refine done_ (done_of HT_.out (by kernel_rfl)) ?_
         try go_wp2_with (first | ((with_reducible refine gate_callee (f := 42) rfl ?_); refine qg (some 27) Tryd.func42 #[.pointer (some ⟨g, 0, none⟩), .int .i64 3] ?_; (with_reducible refine (spec_l1Cur_one.calls g s0_0 t123 t124 3 true t127 t128 w0 _ ?side1 ?side2 A19.out).mono ?_); (case side1 => exact qi); (case side2 => exact qc); rintro e w28 ⟨rfl, hi, hb, hk⟩; refine ⟨_, rfl, ?_⟩; replace BK115 := am (KeepBut.blk hk (g' := gb115) (o := .cells #[.int .i64 0, .int .i64 0, .slice none 0 0] 26 (0, 0)) Q18 Nq2.out (by simp)); replace BK121 := am (KeepBut.blk hk (g' := gb121) (o := .cells #[.int .i64 t116, .int .i64 t117, .slice (some ⟨go18, 0, none⟩) x122002_1.length co18] 26 (0, 0)) Q19 Nq4.out (by simp)); replace Oq1 := qR HQ27 hk; replace HK := qT hk; replace HB := am hb; replace HI0 := am hi; (try clear hb hk hi)))
         replace Oq1 := am (Kd.R_drew Oq1.out)
         replace BK115 := am (blk_drew BK115.out)
         replace BK121 := am (blk_drew BK121.out)
         replace HI0 := am (IsS57.drew HI0.out)
         replace HK := am (keep_drew HK.out)
         replace HB := am (below_drew1 HB.out)
         refine start_ (n := 11) (S := fun w' => w'.cell? ⟨gb121, 0, none⟩ = some (.int .i64 t116) ∧ w'.cell? ⟨gb121, 1, none⟩ = some (.int .i64 t117) ∧ w'.cell? ⟨gb121, 2, none⟩ = some (.slice (some ⟨go18, 0, none⟩) x122002_1.length co18)) (ds := [10]) #[false, false, false, false, false, false, false, false, false, false, false] (by kernel_rfl) rfl rfl ⟨sqc BK121 0, sqc BK121 1, sqc BK121 2⟩ (fun hHeld => ?_); refine with_tabW spec_l1Cur_boardOf.tab7 spec_l1Cur_boardOf.bits7 (fun HT_ HW_ => ?_)
         generalize w28.drew = w29 at Oq1 BK115 BK121 HI0 HK HB hHeld ⊢
         refine qp 0 (some 28) #[true, false, false, false, false, false, false, false, false, false, false] ?_
         refine qp 2 (some 30) #[true, false, true, false, false, false, false, false, false, false, false] ?_
         refine qp 3 (some 31) #[true, false, true, true, false, false, false, false, false, false, false] ?_
         refine qp 4 (some 32) #[true, false, true, true, true, false, false, false, false, false, false] ?_
         refine qp 5 (some 33) #[true, false, true, true, true, true, false, false, false, false, false] ?_
         refine take_ (i := 1) (N := some 29) (v := ?_) (a' := ?_) #[true, true, true, true, true, true, false, false, false, false, false] rfl rfl (take_ofW HT_.out HW_.out (by kernel_rfl)) (fun _ _ _ h => h) (Or.inl ⟨by rfl, ?_⟩) hHeld ?_ ?_
         rotate_left
         ·
          rintro w' ⟨s0, s1, s2⟩
          go_simp
          with_reducible rfl
         rotate_left
         ·
          simp only [Act.put, List.setIfInBounds_toArray, List.set_cons_zero, List.set_cons_succ, i64_w, i32_w]
          rfl
         refine one_ (i := 6) (N := some 34) #[true, true, true, true, true, true, true, false, false, false, false] rfl rfl (one_of HT_.out (by kernel_rfl)) (by decide) fun K hK => ?_
         refine qG Tryd.func40 #[.pointer (some ⟨g, 0, none⟩), .int .i64 (wrap64 (a2 + 1))] ?_
         with_reducible refine (spec_l1Cur_pick.calls g s0_0 t127 t128 (wrap64 (a2 + 1)) t129 t130 t131 w0 _ ?side1 ?side2 A21.out).mono ?_
         (case side1 => exact qi)
         (case side2 => exact qc)
         rintro e w30 ⟨rfl, hi, hb, hk⟩
         refine ⟨_, rfl, ?_⟩
         replace Oq1 := qR Oq1 hk
         replace BK115 := qK BK115 hk Nq2
         replace BK121 := qK BK121 hk Nq4
         replace HK := qT hk
         replace HB := am hb
         replace HI0 := am hi
         (try clear hb hk hi)
         have p24 : 0 ≤ (x15_1 : Int) := of_decide_eq_true Q0
         have q24 : (x15_1 : Int) < ((x122002_1.length : Int) : Int) := of_decide_eq_true Q0
         obtain ⟨hx24_0, hf24_0⟩ := Kd.R_celln 0 Oq1.out (x15_1 : Int) p24 q24
         replace p24 := eq_true p24
         replace q24 := eq_true q24
         have HN0_go18 := am (show g ≠ go18 from by have h_ := IsS57.own_ne HI0.out Oq1.out (by decide); intro e_; exact h_ (by rw [e_]; rfl))
         have HP31 := Kd.R_putn Oq1.out (x15_1 : Int) (wrap64 ((ji23) - 1))
         rw [← Ny132.out] at HP31
         have HQ31 := Aside0.mk HP31
         clear HP31
         refine hK.out _ _ ⟨sqc BK121 0, sqc BK121 1, sqc BK121 2⟩ (fun hHeld => ?_)
         clear hK K
         refine qq (some 34) ?_
         refine qp 7 (some 35) #[true, true, true, true, true, true, true, true, false, false, false] ?_
         refine qp 8 (some 36) #[true, true, true, true, true, true, true, true, true, false, false] ?_
         refine qp 9 (some 37) #[true, true, true, true, true, true, true, true, true, true, false] ?_
         refine last_ (i := 10) (N := none) #[true, true, true, true, true, true, true, true, true, true, true] rfl rfl (one_of HT_.out (by kernel_rfl)) (by decide) fun K hK => ?_
         refine skip_ (w1 := ?_) (by rfl) rfl ?_ ?_
         rotate_left
         ·
          go_simp
          rfl
         refine hK.out _ _ ?_
         clear hK K
         refine done_ (done_of HT_.out (by kernel_rfl)) ?_
         try go_wp2
         go_roundg k1
         case measure => have := HK1.out; omega
         case rel => exact ⟨(wrap64 (x15_1 + 1)), (t130), (t131), (y132), (.slice (some ⟨go18, 0, none⟩) x122002_1.length co18), Q2, H', ⟨Q61⟩, ⟨by (with_reducible repeat (first | apply Kd.R_alloc | apply Kd.R_drewN | apply Kd.R_drew)); exact HQ31.out⟩, ⟨Q18⟩, ⟨Q19⟩, ⟨qi⟩, ⟨qk⟩, ⟨qc⟩⟩
        ·
         rw [if_neg c22] at H
         exact absurd H (by simp)
       ·
        replace c20 := Bool.eq_false_iff.mpr c20
        subst c20
        have H1 : (spec_l1Cur_boardOf.l0 k1 a2 (t118.length : Int) (wrap64 (x15_1 + 1)) s0_0 t127 t128 t116 t117 y125) = some (r1, r2, r3, r4, r5) := by first | (rw [if_neg (show ¬ (false = true) by decide)] at H; exact H) | rfl
        clear H
        have H := H1
        clear H1
        have H' := Aside0.mk H
        clear H
        try go_wp2
        replace Oq1 := am (Kd.R_drew Oq1.out)
        replace BK115 := am (blk_drew BK115.out)
        replace BK121 := am (blk_drew BK121.out)
        replace HI0 := am (IsS57.drew HI0.out)
        replace HK := am (keep_drew HK.out)
        replace HB := am (below_drew1 HB.out)
        refine start_ (n := 9) (S := fun w' => w'.cell? ⟨gb121, 0, none⟩ = some (.int .i64 t116) ∧ w'.cell? ⟨gb121, 1, none⟩ = some (.int .i64 t117) ∧ w'.cell? ⟨gb121, 2, none⟩ = some (u122002)) (ds := [8]) #[false, false, false, false, false, false, false, false, false] (by kernel_rfl) rfl rfl ⟨sqc BK121 0, sqc BK121 1, sqc BK121 2⟩ (fun hHeld => ?_); refine with_tabW spec_l1Cur_boardOf.tab5 spec_l1Cur_boardOf.bits5 (fun HT_ HW_ => ?_)
        generalize wr.drew = w32 at Oq1 BK115 BK121 HI0 HK HB hHeld ⊢
        refine qp 0 (some 18) #[true, false, false, false, false, false, false, false, false] ?_
        refine qp 2 (some 20) #[true, false, true, false, false, false, false, false, false] ?_
        refine qp 3 (some 21) #[true, false, true, true, false, false, false, false, false] ?_
        refine qp 4 (some 22) #[true, false, true, true, true, false, false, false, false] ?_
        refine qp 5 (some 23) #[true, false, true, true, true, true, false, false, false] ?_
        refine take_ (i := 1) (N := some 19) (v := ?_) (a' := ?_) #[true, true, true, true, true, true, false, false, false] rfl rfl (take_ofW HT_.out HW_.out (by kernel_rfl)) (fun _ _ _ h => h) (Or.inl ⟨by rfl, ?_⟩) hHeld ?_ ?_
        rotate_left
        ·
         rintro w' ⟨s0, s1, s2⟩
         go_simp
         with_reducible rfl
        rotate_left
        ·
         simp only [Act.put, List.setIfInBounds_toArray, List.set_cons_zero, List.set_cons_succ, i64_w, i32_w]
         rfl
        refine one_ (i := 6) (N := some 24) #[true, true, true, true, true, true, true, false, false] rfl rfl (one_of HT_.out (by kernel_rfl)) (by decide) fun K hK => ?_
        refine goes_ Tryd.func40 (by kernel_rfl) rfl #[.pointer (some ⟨g, 0, none⟩), .int .i64 ji14] (by rfl) rfl rfl Q66 ?_
        with_reducible refine (spec_l1Cur_pick.calls g s0_0 x1001_1 x1002_1 ji14 t122 t123 t124 w0 _ ?side1 ?side2 A15.out).mono ?_
        (case side1 => exact qi)
        (case side2 => exact qc)
        rintro e w33 ⟨rfl, hi, hb, hk⟩
        refine ⟨_, rfl, ?_⟩
        replace Oq1 := qR Oq1 hk
        replace BK115 := qK BK115 hk Nq2
        replace BK121 := qK BK121 hk Nq4
        replace HK := qT hk
        replace HB := am hb
        replace HI0 := am hi
        (try clear hb hk hi)
        have p18 : 0 ≤ (x15_1 : Int) := of_decide_eq_true Q0
        have q18 : (x15_1 : Int) < ((x122002_1.length : Int) : Int) := of_decide_eq_true Q0
        obtain ⟨go18, co18, eo18, gb18, gl18, cl18, HG18⟩ := Kd.R_form Oq1.out (by omega)
        (first | cases eo18 | (injection eo18 with ea_ en_ ec_; (first | subst ea_ | (injection ea_ with ea_; subst ea_)); subst ec_; clear en_))
        have GB18 := Aside0.mk gb18
        have GG18 := Aside0.mk HG18
        clear gb18 gl18 HG18
        obtain ⟨hx18_0, hf18_0⟩ := Kd.R_celln 0 Oq1.out (x15_1 : Int) p18 q18
        replace p18 := eq_true p18
        replace q18 := eq_true q18
        have HN0_go18 := am (show g ≠ go18 from by have h_ := IsS57.own_ne HI0.out Oq1.out (by decide); intro e_; exact h_ (by rw [e_]; rfl))
        have HP34 := Kd.R_putn Oq1.out (x15_1 : Int) t122
        rw [← Ny125.out] at HP34
        have HQ34 := Aside0.mk HP34
        clear HP34
        refine hK.out _ _ ⟨sqc BK121 0, sqc BK121 1, sqc BK121 2⟩ (fun hHeld => ?_)
        clear hK K
        refine qq (some 24) ?_
        refine qp 7 (some 25) #[true, true, true, true, true, true, true, true, false] ?_
        refine last_ (i := 8) (N := none) #[true, true, true, true, true, true, true, true, true] rfl rfl (one_of HT_.out (by kernel_rfl)) (by decide) fun K hK => ?_
        refine skip_ (w1 := ?_) (by rfl) rfl ?_ ?_
        rotate_left
        ·
         go_simp
         rfl
        refine hK.out _ _ ?_
        clear hK K
        refine done_ (done_of HT_.out (by kernel_rfl)) ?_
        try go_wp2_with (first | ((with_reducible refine gate_callee (f := 42) rfl ?_); refine qg (some 27) Tryd.func42 #[.pointer (some ⟨g, 0, none⟩), .int .i64 3] ?_; (with_reducible refine (spec_l1Cur_one.calls g s0_0 t123 t124 3 false t127 t128 w0 _ ?side1 ?side2 A19.out).mono ?_); (case side1 => exact qi); (case side2 => exact qc); rintro e w35 ⟨rfl, hi, hb, hk⟩; refine ⟨_, rfl, ?_⟩; replace BK115 := am (KeepBut.blk hk (g' := gb115) (o := .cells #[.int .i64 0, .int .i64 0, .slice none 0 0] 26 (0, 0)) Q18 Nq2.out (by simp)); replace BK121 := am (KeepBut.blk hk (g' := gb121) (o := .cells #[.int .i64 t116, .int .i64 t117, .slice (some ⟨go18, 0, none⟩) x122002_1.length co18] 26 (0, 0)) Q19 Nq4.out (by simp)); replace Oq1 := qR HQ34 hk; replace HK := qT hk; replace HB := am hb; replace HI0 := am hi; (try clear hb hk hi)))
        go_roundg k1
        case measure => have := HK1.out; omega
        case rel => exact ⟨(wrap64 (x15_1 + 1)), (t127), (t128), (y125), (.slice (some ⟨go18, 0, none⟩) x122002_1.length co18), Q2, H', ⟨Q61⟩, ⟨Q74⟩, ⟨by (with_reducible repeat (first | refine blk_drewN ?_ _ | refine blk_drew ?_ | refine blk_alloc ?_ _)); exact BK115.out⟩, ⟨by (with_reducible repeat (first | refine blk_drewN ?_ _ | refine blk_drew ?_ | refine blk_alloc ?_ _)); exact BK121.out⟩, ⟨qi⟩, ⟨qk⟩, ⟨qc⟩⟩
      ·
       rw [if_neg c17] at H
       exact absurd H (by simp)
     ·
      rw [if_neg c16] at H
      exact absurd H (by simp)
    ·
     rw [if_neg c13] at H
     exact absurd H (by simp)
   ·
    rw [if_neg c12] at H
    have c12b0 : decide (x15_1 < (t118.length : Int)) = false := decide_eq_false c12
    clear c12
    simp only [Option.some.injEq, Prod.mk.injEq] at H
    obtain ⟨rfl, rfl, rfl, rfl, rfl⟩ := H
    have bq0 := Nq5.out
    have cq0 := Nq3.out
    have bq1 := Nq4.out
    have cq1 := Nq1.out
    obtain ⟨zq3, zq4, zq5, fq3, fq4, fq5⟩ := qd BK121
    have bq2 := Nq2.out
    have cq2 := Nq0.out
    obtain ⟨zq6, zq7, zq8, fq6, fq7, fq8⟩ := qd BK115
    obtain ⟨Ao41, co41, eo41⟩ := Kd.R_slice Oq1.out
    subst eo41
    go_wp2
    refine bodyPost_ret (results_cell_row rfl _ _ gb115 26 #[.int .i64 t116, .int .i64 t117, .slice Ao41 x122002_1.length co41] (0, 0) _ rfl (by (with_reducible repeat (first | refine blk_drewN ?_ _ | refine blk_drew ?_ | refine blk_alloc ?_ _)); refine blk_put (cs := #[.int .i64 t116, .int .i64 t117, .slice none 0 0]) ?_ 2 _ rfl; (with_reducible repeat (first | refine blk_drewN ?_ _ | refine blk_drew ?_ | refine blk_alloc ?_ _)); refine blk_put (cs := #[.int .i64 t116, .int .i64 0, .slice none 0 0]) ?_ 1 _ rfl; (with_reducible repeat (first | refine blk_drewN ?_ _ | refine blk_drew ?_ | refine blk_alloc ?_ _)); refine blk_put (cs := #[.int .i64 0, .int .i64 0, .slice none 0 0]) ?_ 0 _ rfl; (with_reducible repeat (first | refine blk_drewN ?_ _ | refine blk_drew ?_ | refine blk_alloc ?_ _)); exact BK115.out) Tryd.underlying26 rfl (by kernel_rfl)) rfl ?_
    exact ⟨_, Q1, by (with_reducible repeat (first | apply Kd.R_alloc | apply Kd.R_drewN | apply Kd.R_drew)); exact Kd.R_mono (Kd.R_far (p := ⟨gb115, 2, none⟩) (Kd.R_far (p := ⟨gb115, 1, none⟩) (Kd.R_far (p := ⟨gb115, 0, none⟩) (Kd.R_types Oq1.out BK115.out (by decide)) (fun _ hk => hk.2) (.int .i64 t116)) (fun _ hk => hk.2) (.int .i64 t117)) (fun _ hk => hk.2) (.slice Ao41 x122002_1.length co41)) (fun _ hk => trivial), qi, qc, qk⟩

/-! ### spec_l1Cur_sides: function 49 -/
def spec_l1Cur_sides.f (s0_0 : List Int) (s0_1 : Int) (s0_2 : Int) : Option (Int × Int × Int) := (spec_l1Cur_one.f s0_0 s0_1 s0_2 8).bind fun bt133 => (if bt133.1 = true then (some (6, bt133.2.1, bt133.2.2)) else ((spec_l1Cur_pick.f s0_0 bt133.2.1 bt133.2.2 5).bind fun bt136 => (some (wrap64 (1 + bt136.1), bt136.2.1, bt136.2.2))))
set_option maxHeartbeats 8000000 in
set_option maxRecDepth 100000 in
theorem spec_l1Cur_sides.calls (g : Nat) (s0_0 : List Int) (s0_1 : Int) (s0_2 : Int) (r1 : Int) (r2 : Int) (r3 : Int) (w0 w : World) (hI : IsS57 w0 w g s0_0 s0_1 s0_2) (hB : Below w0.heap.size w0 w) (h : spec_l1Cur_sides.f s0_0 s0_1 s0_2 = some (r1, r2, r3)) :
  Calls Tryd.prog 49 #[.pointer (some ⟨g, 0, none⟩)] w fun e w' => e = .returned (.int .i64 r1) ∧ IsS57 w0 w' g s0_0 r2 r3 ∧ Below w0.heap.size w0 w' ∧ KeepBut w w' g none := by
 have HI0 := Aside0.mk hI
 have HK := am (KeepBut.refl w g none)
 have HL := Aside0.mk hB.size
 clear hI
 have HW0 := Aside0.mk hB.size
 have HB := Aside0.mk hB
 clear hB
 have H : ((spec_l1Cur_one.f s0_0 s0_1 s0_2 8).bind fun bt133 => (if bt133.1 = true then (some (6, bt133.2.1, bt133.2.2)) else ((spec_l1Cur_pick.f s0_0 bt133.2.1 bt133.2.2 5).bind fun bt136 => (some (wrap64 (1 + bt136.1), bt136.2.1, bt136.2.2))))) = some (r1, r2, r3) := h
 clear h
 replace H := qE H
 obtain ⟨⟨t133, t134, t135⟩, A2, H⟩ := H
 replace H : (if t133 = true then (some (6, t134, t135)) else ((spec_l1Cur_pick.f s0_0 t134 t135 5).bind fun bt136 => (some (wrap64 (1 + bt136.1), bt136.2.1, bt136.2.2)))) = some (r1, r2, r3) := H
 by_cases c3 : t133 = true
 ·
  subst c3
  have H1 : (some (6, t134, t135)) = some (r1, r2, r3) := by first | (rw [if_pos rfl] at H; exact H) | rfl
  clear H
  have H := H1
  clear H1
  simp only [Option.some.injEq, Prod.mk.injEq] at H
  obtain ⟨rfl, rfl, rfl⟩ := H
  go_enter Tryd.func49, Tryd.ntmps49
  go_wp2_with (first | ((with_reducible refine gate_callee (f := 42) rfl ?_); refine qg (some 4) Tryd.func42 #[.pointer (some ⟨g, 0, none⟩), .int .i64 8] ?_; (with_reducible refine (spec_l1Cur_one.calls g s0_0 s0_1 s0_2 8 true t134 t135 w0 _ ?side1 ?side2 A2.out).mono ?_); (case side1 => exact qi); (case side2 => exact qc); rintro e w4 ⟨rfl, hi, hb, hk⟩; refine ⟨_, rfl, ?_⟩; replace HK := qT hk; replace HB := am hb; replace HI0 := am hi; (try clear hb hk hi)))
  go_ret
  exact ⟨Q1, qi, qc, qk⟩
 ·
  replace c3 := Bool.eq_false_iff.mpr c3
  subst c3
  have H1 : ((spec_l1Cur_pick.f s0_0 t134 t135 5).bind fun bt136 => (some (wrap64 (1 + bt136.1), bt136.2.1, bt136.2.2))) = some (r1, r2, r3) := by first | (rw [if_neg (show ¬ (false = true) by decide)] at H; exact H) | rfl
  clear H
  have H := H1
  clear H1
  replace H := qE H
  obtain ⟨⟨t136, t137, t138⟩, A5, H⟩ := H
  replace H : (some (wrap64 (1 + t136), t137, t138)) = some (r1, r2, r3) := H
  simp only [Option.some.injEq, Prod.mk.injEq] at H
  obtain ⟨rfl, rfl, rfl⟩ := H
  go_enter Tryd.func49, Tryd.ntmps49
  go_wp2_with (first | ((with_reducible refine gate_callee (f := 42) rfl ?_); refine qg (some 4) Tryd.func42 #[.pointer (some ⟨g, 0, none⟩), .int .i64 8] ?_; (with_reducible refine (spec_l1Cur_one.calls g s0_0 s0_1 s0_2 8 false t134 t135 w0 _ ?side1 ?side2 A2.out).mono ?_); (case side1 => exact qi); (case side2 => exact qc); rintro e w6 ⟨rfl, hi, hb, hk⟩; refine ⟨_, rfl, ?_⟩; replace HK := qT hk; replace HB := am hb; replace HI0 := am hi; (try clear hb hk hi)) | ((with_reducible refine gate_callee (f := 40) rfl ?_); refine qg (some 6) Tryd.func40 #[.pointer (some ⟨g, 0, none⟩), .int .i64 5] ?_; (with_reducible refine (spec_l1Cur_pick.calls g s0_0 t134 t135 5 t136 t137 t138 w0 _ ?side1 ?side2 A5.out).mono ?_); (case side1 => exact qi); (case side2 => exact qc); rintro e w7 ⟨rfl, hi, hb, hk⟩; refine ⟨_, rfl, ?_⟩; replace HK := qT hk; replace HB := am hb; replace HI0 := am hi; (try clear hb hk hi)))
  go_ret
  exact ⟨Q1, qi, qc, qk⟩

/-! ### spec_l1Cur_among: function 65 -/
def spec_l1Cur_among.f (s0_0 : List Int) (s0_1 : Int) (s0_2 : Int) (l1 : List Int) : Option (Int × Int × Int) := (spec_l1Cur_pick.f s0_0 s0_1 s0_2 (l1.length : Int)).bind fun bt139 => (if 0 ≤ bt139.1 then (if bt139.1 < (l1.length : Int) then (some (rd l1 bt139.1, bt139.2.1, bt139.2.2)) else (none)) else (none))
set_option maxHeartbeats 8000000 in
set_option maxRecDepth 100000 in
theorem spec_l1Cur_among.calls (g : Nat) (s0_0 : List Int) (s0_1 : Int) (s0_2 : Int) (A1 : Option Addr) (c1 : Nat) (l1 : List Int) (r1 : Int) (r2 : Int) (r3 : Int) (w0 w : World) (hI : IsS57 w0 w g s0_0 s0_1 s0_2) (hB : Below w0.heap.size w0 w) (hr1 : Kd.C (Kd.int .i64) w A1 l1.length l1) (hc1 : l1.length ≤ c1) (hf1 : ∀ ad, A1 = some ad → 0 < l1.length → ad.block ≠ g) (h : spec_l1Cur_among.f s0_0 s0_1 s0_2 l1 = some (r1, r2, r3)) :
  Calls Tryd.prog 65 #[.pointer (some ⟨g, 0, none⟩), .slice A1 l1.length c1] w fun e w' => e = .returned (.int .i64 r1) ∧ IsS57 w0 w' g s0_0 r2 r3 ∧ Below w0.heap.size w0 w' ∧ KeepBut w w' g none := by
 have HR1 := Aside0.mk hr1
 have HC1 := Aside0.mk hc1
 clear hr1 hc1
 have HI0 := Aside0.mk hI
 have HK := am (KeepBut.refl w g none)
 have HL := Aside0.mk hB.size
 clear hI
 have HW0 := Aside0.mk hB.size
 have HB := Aside0.mk hB
 clear hB
 have H : ((spec_l1Cur_pick.f s0_0 s0_1 s0_2 (l1.length : Int)).bind fun bt139 => (if 0 ≤ bt139.1 then (if bt139.1 < (l1.length : Int) then (some (rd l1 bt139.1, bt139.2.1, bt139.2.2)) else (none)) else (none))) = some (r1, r2, r3) := h
 clear h
 replace H := qE H
 obtain ⟨⟨t139, t140, t141⟩, A3, H⟩ := H
 replace H : (if 0 ≤ t139 then (if t139 < (l1.length : Int) then (some (rd l1 t139, t140, t141)) else (none)) else (none)) = some (r1, r2, r3) := H
 by_cases c4 : 0 ≤ t139
 ·
  rw [if_pos c4] at H
  have c4b0 : decide (0 ≤ t139) = true := decide_eq_true c4
  clear c4
  by_cases c5 : t139 < (l1.length : Int)
  ·
   rw [if_pos c5] at H
   have c5b0 : decide (t139 < (l1.length : Int)) = true := decide_eq_true c5
   clear c5
   simp only [Option.some.injEq, Prod.mk.injEq] at H
   obtain ⟨rfl, rfl, rfl⟩ := H
   go_enter Tryd.func65, Tryd.ntmps65
   go_wp2_with (first | ((with_reducible refine gate_callee (f := 40) rfl ?_); refine qg (some 9) Tryd.func40 #[.pointer (some ⟨g, 0, none⟩), .int .i64 (l1.length : Int)] ?_; (with_reducible refine (spec_l1Cur_pick.calls g s0_0 s0_1 s0_2 (l1.length : Int) t139 t140 t141 w0 _ ?side1 ?side2 A3.out).mono ?_); (case side1 => exact qi); (case side2 => exact qc); rintro e w6 ⟨rfl, hi, hb, hk⟩; refine ⟨_, rfl, ?_⟩; replace HK := qT hk; replace HB := am hb; replace HI0 := am hi; (try clear hb hk hi); have p142 : 0 ≤ (t139 : Int) := of_decide_eq_true Q0; have q142 : t139 < (l1.length : Int) := of_decide_eq_true Q0; obtain ⟨ad142, e142, hx142_0⟩ := Kd.at_int HR1.out t139 p142 q142; cases e142; replace hx142_0 := keep_cell HK.out hx142_0 (by first | (rw [add_block]; exact hf1 _ rfl (by omega)) | exact hf1 _ rfl (by omega) | exact hf1 ad142 rfl (by omega)); replace p142 := eq_true p142; replace q142 := eq_true q142))
   go_ret
   exact ⟨Q1, qi, qc, qk⟩
  ·
   rw [if_neg c5] at H
   exact absurd H (by simp)
 ·
  rw [if_neg c4] at H
  exact absurd H (by simp)

end Go.Proofs.YtllhofdgbpnkkaaDoor.PFnBoardsTurned
