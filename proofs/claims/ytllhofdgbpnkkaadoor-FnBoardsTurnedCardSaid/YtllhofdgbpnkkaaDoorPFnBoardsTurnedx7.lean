-- Printed for this claim by wip/pp.py over the kit's printer; Lean checks it.
import Derived.Test.YtllhofdgbpnkkaaDoorPFnBoardsTurnedx0
import Derived.Test.YtllhofdgbpnkkaaDoorPFnBoardsTurnedx1
import Derived.Test.YtllhofdgbpnkkaaDoorPFnBoardsTurnedx3
import Derived.Test.YtllhofdgbpnkkaaDoorPFnBoardsTurnedx4
import Derived.Test.YtllhofdgbpnkkaaDoorPFnBoardsTurnedx6
namespace Go.Proofs.YtllhofdgbpnkkaaDoor.PFnBoardsTurned
open Go.RowKit Go.Proofs.YtllhofdgbpnkkaaDoorW.PrintWords Go.Proofs.YtllhofdgbpnkkaaDoorW.PrintLast Go.Proofs.YtllhofdgbpnkkaaDoorW.PrintMore
attribute [local go_sem] max2_int min2_int max_two min_two max_three min_three max_four min_four   -- for this text's walks alone
set_option linter.unusedVariables false
set_option linter.unusedSimpArgs false

/-! ### spec_boOther: function 36 -/
def spec_boOther.l0 : Nat → Int → Int → Int → Int → List Int → Int → Int → List Int → Option (Int × Int × List Int)
 | 0, _, _, _, _, _, _, _, _ => none
 | k + 1, x9, x10, x297000, x297001, x297002, x304000, x304001, x304002 => if x10 < x9 then (if 0 ≤ x297001 then (if 0 ≤ x10 then (if x10 < (x297002.length : Int) then (if x10 < (x304002.length : Int) then (spec_boOther.l0 k x9 (wrap64 (x10 + 1)) x297000 x297001 x297002 x304000 x304001 (x304002.set (x10 : Int).toNat (wrap64 ((wrap64 ((shl .i64 1 x297001) - 1)) - (rd x297002 x10))))) else (none)) else (none)) else (none)) else (none)) else (some (x304000, x304001, x304002))
def spec_boOther.f (k : Nat) (a0_0 : Int) (a0_1 : Int) (l0_2 : List Int) : Option (Int × Int × List Int) := (spec_boOwn.f a0_0 a0_1 l0_2).bind fun bt298 => (spec_boOther.l0 k (bt298.2.2.length : Int) 0 a0_0 a0_1 l0_2 bt298.1 bt298.2.1 bt298.2.2)
def spec_boOther.T5 : Bool × List (List Nat × List Nat) := (true, [([], []), ([0], [0]), ([], []), ([], []), ([3], [3]), ([4], [4]), ([5], [5]), ([], []), ([7], [7]), ([], []), ([8, 9], [8, 9]), ([10], [10]), ([6, 11], [6, 11]), ([1, 2, 0, 1, 2, 3, 4, 5, 6, 7, 8, 9, 10, 11, 12], [1, 2]), ([13, 12, 0, 1, 2, 3, 4, 5, 6, 7, 8, 9, 10, 11, 12], [12, 13])])
def spec_boOther.B5 : List Nat := [0, 1, 0, 0, 8, 24, 56, 0, 128, 0, 896, 1920, 4088, 8191, 16383]
theorem spec_boOther.tab5 : rtab .any (opsOf Tryd.f36 5) = spec_boOther.T5 := by kernel_rfl
theorem spec_boOther.bits5 : waitsOk spec_boOther.T5.2 spec_boOther.B5 = true := by kernel_rfl
set_option maxHeartbeats 8000000 in
set_option maxRecDepth 100000 in
theorem spec_boOther.calls (k : Nat) (a0_0 : Int) (a0_1 : Int) (A0_2 : Option Addr) (c0_2 : Nat) (l0_2 : List Int) (r1 : Int) (r2 : Int) (r3 : List Int) (w : World) (hr0_2 : Kd.C (Kd.int .i64) w A0_2 l0_2.length l0_2) (hc0_2 : l0_2.length ≤ c0_2) (h : spec_boOther.f k a0_0 a0_1 l0_2 = some (r1, r2, r3)) :
  Calls Tryd.prog 36 #[.agg #[.int .i64 a0_0, .int .i64 a0_1, .slice A0_2 l0_2.length c0_2]] w fun e w' => ∃ v2_ : Value, e = .returned (.agg #[.int .i64 r1, .int .i64 r2, v2_]) ∧ Kd.R (Kd.int .i64) 3 w' w.heap.size (fun _ => True) v2_ r3 ∧ Below w.heap.size w w' := by
 have hu26 := Tryd.underlying26
 have HR0_2 := Aside0.mk hr0_2
 have HC0_2 := Aside0.mk hc0_2
 clear hr0_2 hc0_2
 have HB := am (Below.refl w.heap.size w)
 have H : ((spec_boOwn.f a0_0 a0_1 l0_2).bind fun bt298 => (spec_boOther.l0 k (bt298.2.2.length : Int) 0 a0_0 a0_1 l0_2 bt298.1 bt298.2.1 bt298.2.2)) = some (r1, r2, r3) := h
 clear h
 replace H := qE H
 obtain ⟨⟨t298, t299, t300⟩, A2, H⟩ := H
 replace H : (spec_boOther.l0 k (t300.length : Int) 0 a0_0 a0_1 l0_2 t298 t299 t300) = some (r1, r2, r3) := H
 have H' := Aside0.mk H
 clear H
 go_enter Tryd.func36, Tryd.ntmps36
 go_wp2_with (first | ((with_reducible refine gate_dst (N := 1) rfl ?_); refine qv 1 #[.int .i64 a0_0, .int .i64 a0_1, .slice A0_2 l0_2.length c0_2] 26 ?_; intro gb296 hg w3 hbox hb; have BK296 := am hbox; have GW296 := qw hg; have GE296 := qw hg; replace HB := qs hb; clear hb hbox hg) | ((with_reducible refine gate_dst (N := 2) rfl ?_); refine qv 2 #[.int .i64 0, .int .i64 0, .slice none 0 0] 26 ?_; intro gb297 hg w4 hbox hb; have BK297 := am hbox; have GW297 := qw hg; have GE297 := qw hg; have Nq0 := qn hg BK296; have Nq2 := qN hg BK296; replace BK296 := sqB BK296 hb; replace HB := qs hb; clear hb hbox hg; have bq14 := Nq0.out; have cq14 := Nq2.out; obtain ⟨zq51, zq52, zq53, fq51, fq52, fq53⟩ := qd BK296) | ((with_reducible refine gate_callee (f := 46) rfl ?_); refine qg (some 6) Tryd.func46 #[.agg #[.int .i64 a0_0, .int .i64 a0_1, .slice A0_2 l0_2.length c0_2]] ?_; (with_reducible refine (spec_boOwn.calls a0_0 a0_1 _ _ l0_2 t298 t299 t300 _ ?side1 HC0_2.out A2.out).mono ?_); (case side1 => exact Q3); rintro e w7 ⟨v301, rfl, ho0, hb⟩; refine ⟨_, rfl, ?_⟩; have Oq0 := ql ho0; replace BK296 := sqB BK296 hb; replace BK297 := sqB BK297 hb; replace HB := qs hb; (try clear hb ho0)) | ((with_reducible refine gate_dst (N := 3) rfl ?_); refine qv 3 #[.int .i64 0, .int .i64 0, .slice none 0 0] 26 ?_; intro gb303 hg w8 hbox hb; have BK303 := am hbox; have GW303 := qw hg; have GE303 := qw hg; have Nq1 := qn hg BK296; have Nq4 := qN hg BK296; have Nq3 := qn hg BK297; have Nq5 := qN hg BK297; replace Oq0 := sqR Oq0 hb; replace BK296 := sqB BK296 hb; replace BK297 := sqB BK297 hb; replace HB := qs hb; clear hb hbox hg; have bq17 := Nq4.out; have cq17 := Nq1.out; have bq0 := Nq5.out; have cq0 := Nq3.out; obtain ⟨zq3, zq4, zq5, fq3, fq4, fq5⟩ := qd BK303; obtain ⟨Ao12, co12, eo12⟩ := Kd.R_slice Oq0.out; subst eo12))
 go_loopg [10] k (fun kq v10 w' => ∃ (x10_1 : Int) (x304002_1 : List Int) (u304002 : Value), v10 = .int .i64 x10_1 ∧ Aside0 (spec_boOther.l0 kq (t300.length : Int) x10_1 a0_0 a0_1 l0_2 t298 t299 x304002_1 = some (r1, r2, r3)) ∧ Aside0 (kq ≤ k) ∧ Aside0 (Kd.R (Kd.int .i64) 3 w' w.heap.size (fun _ => True) u304002 x304002_1) ∧ Aside0 (w'.heap[gb296]? = some (.cells #[.int .i64 a0_0, .int .i64 a0_1, (.slice A0_2 l0_2.length c0_2)] 26 (0, 0))) ∧ Aside0 (w'.heap[gb297]? = some (.cells #[.int .i64 0, .int .i64 0, (.slice none 0 0)] 26 (0, 0))) ∧ Aside0 (w'.heap[gb303]? = some (.cells #[.int .i64 t298, .int .i64 t299, u304002] 26 (0, 0))) ∧ Aside0 (Below w.heap.size w w'))
 case atStart => exact ⟨(0), (t300), (.slice Ao12 t300.length co12), Q2, H', ⟨Nat.le_refl _⟩, ⟨by (with_reducible repeat (first | apply Kd.R_alloc | apply Kd.R_drewN | apply Kd.R_drew)); exact Kd.R_mono (Kd.R_far (p := ⟨gb303, 2, none⟩) (Kd.R_far (p := ⟨gb303, 1, none⟩) (Kd.R_far (p := ⟨gb303, 0, none⟩) (Kd.R_types Oq0.out BK303.out (by decide)) (fun _ hk => hk.2) (.int .i64 t298)) (fun _ hk => hk.2) (.int .i64 t299)) (fun _ hk => hk.2) (.slice Ao12 t300.length co12)) (fun _ hk => trivial)⟩, ⟨by (with_reducible repeat (first | refine blk_drewN ?_ _ | refine blk_drew ?_ | refine blk_alloc ?_ _)); refine blk_far ?_ Nq1.out _; (with_reducible repeat (first | refine blk_drewN ?_ _ | refine blk_drew ?_ | refine blk_alloc ?_ _)); refine blk_far ?_ Nq1.out _; (with_reducible repeat (first | refine blk_drewN ?_ _ | refine blk_drew ?_ | refine blk_alloc ?_ _)); refine blk_far ?_ Nq1.out _; (with_reducible repeat (first | refine blk_drewN ?_ _ | refine blk_drew ?_ | refine blk_alloc ?_ _)); exact BK296.out⟩, ⟨by (with_reducible repeat (first | refine blk_drewN ?_ _ | refine blk_drew ?_ | refine blk_alloc ?_ _)); refine blk_far ?_ Nq3.out _; (with_reducible repeat (first | refine blk_drewN ?_ _ | refine blk_drew ?_ | refine blk_alloc ?_ _)); refine blk_far ?_ Nq3.out _; (with_reducible repeat (first | refine blk_drewN ?_ _ | refine blk_drew ?_ | refine blk_alloc ?_ _)); refine blk_far ?_ Nq3.out _; (with_reducible repeat (first | refine blk_drewN ?_ _ | refine blk_drew ?_ | refine blk_alloc ?_ _)); exact BK297.out⟩, ⟨by (with_reducible repeat (first | refine blk_drewN ?_ _ | refine blk_drew ?_ | refine blk_alloc ?_ _)); refine blk_put (cs := #[.int .i64 t298, .int .i64 t299, .slice none 0 0]) ?_ 2 _ rfl; (with_reducible repeat (first | refine blk_drewN ?_ _ | refine blk_drew ?_ | refine blk_alloc ?_ _)); refine blk_put (cs := #[.int .i64 t298, .int .i64 0, .slice none 0 0]) ?_ 1 _ rfl; (with_reducible repeat (first | refine blk_drewN ?_ _ | refine blk_drew ?_ | refine blk_alloc ?_ _)); refine blk_put (cs := #[.int .i64 0, .int .i64 0, .slice none 0 0]) ?_ 0 _ rfl; (with_reducible repeat (first | refine blk_drewN ?_ _ | refine blk_drew ?_ | refine blk_alloc ?_ _)); exact BK303.out⟩, ⟨qb⟩⟩
 case round =>
  clear H'
  try clear zq3; try clear zq4; try clear zq5; try clear zq51; try clear zq52; try clear zq53; try clear fq3; try clear fq4; try clear fq5; try clear fq51; try clear fq52; try clear fq53
  obtain ⟨x10_1, x304002_1, u304002, rfl, HA, HK1, Oq7, BK296, BK297, BK303, HB⟩ := hrel
  cases gk with
  | zero => exact absurd HA.out (by simp [spec_boOther.l0])
  | succ k1 =>
   have H := HA.out
   clear HA
   simp only [spec_boOther.l0] at H
   by_cases c13 : x10_1 < (t300.length : Int)
   ·
    rw [if_pos c13] at H
    have c13b0 : decide (x10_1 < (t300.length : Int)) = true := decide_eq_true c13
    clear c13
    by_cases c14 : 0 ≤ a0_1
    ·
     rw [if_pos c14] at H
     have c14b0 := eq_true c14
     have c14b1 : decide (0 ≤ a0_1) = true := decide_eq_true c14
     clear c14
     obtain ⟨ji15, hji15⟩ : ∃ j_ : Int, (shl .i64 1 a0_1) = j_ := ⟨_, rfl⟩
     replace H : (if 0 ≤ x10_1 then (if x10_1 < (l0_2.length : Int) then (if x10_1 < (x304002_1.length : Int) then (spec_boOther.l0 k1 (t300.length : Int) (wrap64 (x10_1 + 1)) a0_0 a0_1 l0_2 t298 t299 (x304002_1.set (x10_1 : Int).toNat (wrap64 ((wrap64 ((ji15) - 1)) - (rd l0_2 x10_1))))) else (none)) else (none)) else (none)) = some (r1, r2, r3) := by first | (rw [hji15] at H; exact H) | (simp only [hji15] at H ⊢; exact H)
     have hji15_ : (IntKind.i64.wrap (1 * 2 ^ min a0_1.toNat 64)) = ji15 := hji15
     have hji15z : a0_1 ≤ 64 → (IntKind.i64.wrap (1 * 2 ^ a0_1.toNat)) = ji15 := shl_small hji15
     have hji15u : (IntKind.i64.wrap (2 ^ min a0_1.toNat 64)) = ji15 := by have h_ := hji15_; rw [Int.one_mul] at h_; exact h_
     have hji15v : a0_1 ≤ 64 → (IntKind.i64.wrap (2 ^ a0_1.toNat)) = ji15 := fun hle_ => by have h_ := hji15z hle_; rw [Int.one_mul] at h_; exact h_
     have hji15y : (wrap64 (1 * 2 ^ min a0_1.toNat 64)) = ji15 := (i64_w _).symm.trans hji15_
     have hji15x : a0_1 ≤ 64 → (wrap64 (1 * 2 ^ a0_1.toNat)) = ji15 := fun h_ => (i64_w _).symm.trans (hji15z h_)
     by_cases c16 : 0 ≤ x10_1
     ·
      rw [if_pos c16] at H
      have c16b0 : decide (0 ≤ x10_1) = true := decide_eq_true c16
      clear c16
      by_cases c17 : x10_1 < (l0_2.length : Int)
      ·
       rw [if_pos c17] at H
       have c17b0 : decide (x10_1 < (l0_2.length : Int)) = true := decide_eq_true c17
       clear c17
       by_cases c18 : x10_1 < (x304002_1.length : Int)
       ·
        rw [if_pos c18] at H
        have c18b0 : decide (x10_1 < (x304002_1.length : Int)) = true := decide_eq_true c18
        clear c18
        obtain ⟨y305, hy_⟩ : ∃ y_ : List Int, y_ = ((x304002_1.set (x10_1 : Int).toNat (wrap64 ((wrap64 ((ji15) - 1)) - (rd l0_2 x10_1))))) := ⟨_, rfl⟩
        replace H : (spec_boOther.l0 k1 (t300.length : Int) (wrap64 (x10_1 + 1)) a0_0 a0_1 l0_2 t298 t299 y305) = some (r1, r2, r3) := qH
        have Ny305 := Aside0.mk hy_
        clear hy_
        have H' := Aside0.mk H
        clear H
        try go_wp2
        replace Oq7 := am (Kd.R_drew Oq7.out)
        replace BK296 := am (blk_drew BK296.out)
        replace BK297 := am (blk_drew BK297.out)
        replace BK303 := am (blk_drew BK303.out)
        replace HB := am (below_drew1 HB.out)
        have p304 : 0 ≤ (x10_1 : Int) := of_decide_eq_true Q0
        have q304 : x10_1 < (l0_2.length : Int) := of_decide_eq_true Q0
        obtain ⟨ad304, e304, hx304_0⟩ := Kd.at_int HR0_2.out x10_1 p304 q304
        have hw304_0 := hx304_0
        cases e304
        replace hx304_0 := (HB.out.cell (World.block_lt_of_cell? w _ hx304_0)).trans hx304_0
        replace p304 := eq_true p304
        replace q304 := eq_true q304
        have p19 : 0 ≤ (x10_1 : Int) := of_decide_eq_true Q0
        have q19 : (x10_1 : Int) < ((x304002_1.length : Int) : Int) := of_decide_eq_true Q0
        obtain ⟨go19, co19, eo19, gb19, gl19, cl19, HG19⟩ := Kd.R_form Oq7.out (by omega)
        (first | cases eo19 | (injection eo19 with ea_ en_ ec_; (first | subst ea_ | (injection ea_ with ea_; subst ea_)); subst ec_; clear en_))
        have GB19 := Aside0.mk gb19
        have GG19 := Aside0.mk HG19
        clear gb19 gl19 HG19
        obtain ⟨hx19_0, hf19_0⟩ := Kd.R_celln 0 Oq7.out (x10_1 : Int) p19 q19
        replace p19 := eq_true p19
        replace q19 := eq_true q19
        have HP21 := Kd.R_putn Oq7.out (x10_1 : Int) (wrap64 ((wrap64 ((ji15) - 1)) - (rd l0_2 x10_1)))
        rw [← Ny305.out] at HP21
        have HQ21 := Aside0.mk HP21
        clear HP21
        refine start_ (n := 15) (S := fun w' => w'.cell? ⟨gb303, 0, none⟩ = some (.int .i64 t298) ∧ w'.cell? ⟨gb303, 1, none⟩ = some (.int .i64 t299) ∧ w'.cell? ⟨gb303, 2, none⟩ = some (.slice (some ⟨go19, 0, none⟩) x304002_1.length co19) ∧ w'.cell? ⟨gb296, 0, none⟩ = some (.int .i64 a0_0) ∧ w'.cell? ⟨gb296, 1, none⟩ = some (.int .i64 a0_1) ∧ w'.cell? ⟨gb296, 2, none⟩ = some (.slice (some ad304) l0_2.length c0_2) ∧ w'.cell? (ad304.add (x10_1).toNat) = some (.int .i64 (rd l0_2 x10_1))) (ds := [14]) #[false, false, false, false, false, false, false, false, false, false, false, false, false, false, false] (by kernel_rfl) rfl rfl ⟨sqc BK303 0, sqc BK303 1, sqc BK303 2, sqc BK296 0, sqc BK296 1, sqc BK296 2, ((HB.out.cell (World.block_lt_of_cell? w _ hw304_0)).trans hw304_0)⟩ (fun hHeld => ?_); refine with_tabW spec_boOther.tab5 spec_boOther.bits5 (fun HT_ HW_ => ?_)
        generalize wr.drew = w20 at Oq7 BK296 BK297 BK303 HB GG19 HQ21 hf19_0 hx19_0 hx304_0 hHeld ⊢
        refine qp 0 (some 13) #[true, false, false, false, false, false, false, false, false, false, false, false, false, false, false] ?_
        refine qp 2 (some 15) #[true, false, true, false, false, false, false, false, false, false, false, false, false, false, false] ?_
        refine qp 3 (some 16) #[true, false, true, true, false, false, false, false, false, false, false, false, false, false, false] ?_
        refine qp 7 (some 20) #[true, false, true, true, false, false, false, true, false, false, false, false, false, false, false] ?_
        refine qp 9 (some 22) #[true, false, true, true, false, false, false, true, false, true, false, false, false, false, false] ?_
        refine take_ (i := 1) (N := some 14) (v := ?_) (a' := ?_) #[true, true, true, true, false, false, false, true, false, true, false, false, false, false, false] rfl rfl (take_ofW HT_.out HW_.out (by kernel_rfl)) (fun _ _ _ h => h) (Or.inl ⟨by rfl, ?_⟩) hHeld ?_ ?_
        rotate_left
        ·
         rintro w' ⟨s0, s1, s2, s3, s4, s5, s6⟩
         go_simp
         with_reducible rfl
        rotate_left
        ·
         simp only [Act.put, List.setIfInBounds_toArray, List.set_cons_zero, List.set_cons_succ, i64_w, i32_w]
         rfl
        refine take_ (i := 4) (N := some 17) (v := ?_) (a' := ?_) #[true, true, true, true, true, false, false, true, false, true, false, false, false, false, false] rfl rfl (take_ofW HT_.out HW_.out (by kernel_rfl)) (fun _ _ _ h => h) (Or.inl ⟨by rfl, ?_⟩) hHeld ?_ ?_
        rotate_left
        ·
         rintro w' ⟨s0, s1, s2, s3, s4, s5, s6⟩
         go_simp
         with_reducible rfl
        rotate_left
        ·
         simp only [Act.put, List.setIfInBounds_toArray, List.set_cons_zero, List.set_cons_succ, i64_w, i32_w]
         rfl
        refine qp 5 (some 18) #[true, true, true, true, true, true, false, true, false, true, false, false, false, false, false] ?_
        refine qp 6 (some 19) #[true, true, true, true, true, true, true, true, false, true, false, false, false, false, false] ?_
        refine take_ (i := 8) (N := some 21) (v := ?_) (a' := ?_) #[true, true, true, true, true, true, true, true, true, true, false, false, false, false, false] rfl rfl (take_ofW HT_.out HW_.out (by kernel_rfl)) (fun _ _ _ h => h) (Or.inl ⟨by rfl, ?_⟩) hHeld ?_ ?_
        rotate_left
        ·
         rintro w' ⟨s0, s1, s2, s3, s4, s5, s6⟩
         go_simp
         with_reducible rfl
        rotate_left
        ·
         simp only [Act.put, List.setIfInBounds_toArray, List.set_cons_zero, List.set_cons_succ, i64_w, i32_w]
         rfl
        refine qp 10 (some 23) #[true, true, true, true, true, true, true, true, true, true, true, false, false, false, false] ?_
        refine take_ (i := 11) (N := some 24) (v := ?_) (a' := ?_) #[true, true, true, true, true, true, true, true, true, true, true, true, false, false, false] rfl rfl (take_ofW HT_.out HW_.out (by kernel_rfl)) (fun _ _ _ h => h) (Or.inl ⟨by rfl, ?_⟩) hHeld ?_ ?_
        rotate_left
        ·
         rintro w' ⟨s0, s1, s2, s3, s4, s5, s6⟩
         go_simp
         with_reducible rfl
        rotate_left
        ·
         simp only [Act.put, List.setIfInBounds_toArray, List.set_cons_zero, List.set_cons_succ, i64_w, i32_w]
         rfl
        refine qp 12 (some 25) #[true, true, true, true, true, true, true, true, true, true, true, true, true, false, false] ?_
        refine qp 13 (some 26) #[true, true, true, true, true, true, true, true, true, true, true, true, true, true, false] ?_
        refine last_ (i := 14) (N := none) #[true, true, true, true, true, true, true, true, true, true, true, true, true, true, true] rfl rfl (one_of HT_.out (by kernel_rfl)) (by decide) fun K hK => ?_
        refine skip_ (w1 := ?_) (by rfl) rfl ?_ ?_
        rotate_left
        ·
         go_simp
         rfl
        refine hK.out _ _ ?_
        clear hK K
        refine done_ (done_of HT_.out (by kernel_rfl)) ?_
        try go_wp2
        go_roundg k1
        case measure => have := HK1.out; omega
        case rel => exact ⟨(wrap64 (x10_1 + 1)), (y305), (.slice (some ⟨go19, 0, none⟩) x304002_1.length co19), Q2, H', ⟨Q61⟩, ⟨by (with_reducible repeat (first | apply Kd.R_alloc | apply Kd.R_drewN | apply Kd.R_drew)); exact HQ21.out⟩, ⟨by (with_reducible repeat (first | refine blk_drewN ?_ _ | refine blk_drew ?_ | refine blk_alloc ?_ _)); refine blk_far ?_ (by have h_ := Kd.R_ne Oq7.out BK296.out (by decide); intro e_; exact h_ (by rw [e_]; rfl)) _; (with_reducible repeat (first | refine blk_drewN ?_ _ | refine blk_drew ?_ | refine blk_alloc ?_ _)); exact BK296.out⟩, ⟨by (with_reducible repeat (first | refine blk_drewN ?_ _ | refine blk_drew ?_ | refine blk_alloc ?_ _)); refine blk_far ?_ (by have h_ := Kd.R_ne Oq7.out BK297.out (by decide); intro e_; exact h_ (by rw [e_]; rfl)) _; (with_reducible repeat (first | refine blk_drewN ?_ _ | refine blk_drew ?_ | refine blk_alloc ?_ _)); exact BK297.out⟩, ⟨by (with_reducible repeat (first | refine blk_drewN ?_ _ | refine blk_drew ?_ | refine blk_alloc ?_ _)); refine blk_far ?_ (by have h_ := Kd.R_ne Oq7.out BK303.out (by decide); intro e_; exact h_ (by rw [e_]; rfl)) _; (with_reducible repeat (first | refine blk_drewN ?_ _ | refine blk_drew ?_ | refine blk_alloc ?_ _)); exact BK303.out⟩, ⟨by repeat (first | (with_reducible first | exact HB.out | apply below_alloc | apply pw_below_drewN | apply below_drew1 | refine below_set ?_ GB19.out | refine below_set ?_ GE296.out | refine below_set ?_ GE297.out | refine below_set ?_ GE303.out) | exact HB.out)⟩⟩
       ·
        rw [if_neg c18] at H
        exact absurd H (by simp)
      ·
       rw [if_neg c17] at H
       exact absurd H (by simp)
     ·
      rw [if_neg c16] at H
      exact absurd H (by simp)
    ·
     rw [if_neg c14] at H
     exact absurd H (by simp)
   ·
    rw [if_neg c13] at H
    have c13b0 : decide (x10_1 < (t300.length : Int)) = false := decide_eq_false c13
    clear c13
    simp only [Option.some.injEq, Prod.mk.injEq] at H
    obtain ⟨rfl, rfl, rfl⟩ := H
    have bq5 := Nq4.out
    have cq5 := Nq1.out
    have bq6 := Nq5.out
    have cq6 := Nq3.out
    obtain ⟨zq27, zq28, zq29, fq27, fq28, fq29⟩ := qd BK303
    have bq7 := Nq2.out
    have cq7 := Nq0.out
    obtain ⟨zq30, zq31, zq32, fq30, fq31, fq32⟩ := qd BK297
    obtain ⟨Ao27, co27, eo27⟩ := Kd.R_slice Oq7.out
    subst eo27
    go_wp2
    refine bodyPost_ret (results_cell_row rfl _ _ gb297 26 #[.int .i64 t298, .int .i64 t299, .slice Ao27 x304002_1.length co27] (0, 0) _ rfl (by (with_reducible repeat (first | refine blk_drewN ?_ _ | refine blk_drew ?_ | refine blk_alloc ?_ _)); refine blk_put (cs := #[.int .i64 t298, .int .i64 t299, .slice none 0 0]) ?_ 2 _ rfl; (with_reducible repeat (first | refine blk_drewN ?_ _ | refine blk_drew ?_ | refine blk_alloc ?_ _)); refine blk_put (cs := #[.int .i64 t298, .int .i64 0, .slice none 0 0]) ?_ 1 _ rfl; (with_reducible repeat (first | refine blk_drewN ?_ _ | refine blk_drew ?_ | refine blk_alloc ?_ _)); refine blk_put (cs := #[.int .i64 0, .int .i64 0, .slice none 0 0]) ?_ 0 _ rfl; (with_reducible repeat (first | refine blk_drewN ?_ _ | refine blk_drew ?_ | refine blk_alloc ?_ _)); exact BK297.out) Tryd.underlying26 rfl (by kernel_rfl)) rfl ?_
    exact ⟨_, Q1, by (with_reducible repeat (first | apply Kd.R_alloc | apply Kd.R_drewN | apply Kd.R_drew)); exact Kd.R_mono (Kd.R_far (p := ⟨gb297, 2, none⟩) (Kd.R_far (p := ⟨gb297, 1, none⟩) (Kd.R_far (p := ⟨gb297, 0, none⟩) (Kd.R_types Oq7.out BK297.out (by decide)) (fun _ hk => hk.2) (.int .i64 t298)) (fun _ hk => hk.2) (.int .i64 t299)) (fun _ hk => hk.2) (.slice Ao27 x304002_1.length co27)) (fun _ hk => trivial), qb⟩

/-! ### spec_ComplementOf: function 11 -/
def spec_ComplementOf.f (k : Nat) (a0_0 : Int) (a0_1 : Int) (l0_2 : List Int) : Option (Int × Int × List Int × Bool) := (spec_boGood.f k a0_0 a0_1 l0_2).bind fun t308 => (if t308 = true then ((spec_boOther.f k a0_0 a0_1 l0_2).bind fun bt309 => (some (bt309.1, bt309.2.1, bt309.2.2, true))) else (some (0, 0, ([] : List Int), false)))
set_option maxHeartbeats 8000000 in
set_option maxRecDepth 100000 in
theorem spec_ComplementOf.calls (k : Nat) (a0_0 : Int) (a0_1 : Int) (A0_2 : Option Addr) (c0_2 : Nat) (l0_2 : List Int) (r1 : Int) (r2 : Int) (r3 : List Int) (r4 : Bool) (w : World) (hr0_2 : Kd.C (Kd.int .i64) w A0_2 l0_2.length l0_2) (hc0_2 : l0_2.length ≤ c0_2) (h : spec_ComplementOf.f k a0_0 a0_1 l0_2 = some (r1, r2, r3, r4)) :
  Calls Tryd.prog 11 #[.agg #[.int .i64 a0_0, .int .i64 a0_1, .slice A0_2 l0_2.length c0_2]] w fun e w' => ∃ v2_ : Value, e = .returned (.tuple #[.agg #[.int .i64 r1, .int .i64 r2, v2_], .bool r4]) ∧ Kd.R (Kd.int .i64) 3 w' w.heap.size (fun _ => True) v2_ r3 ∧ Below w.heap.size w w' := by
 have hu26 := Tryd.underlying26
 have HR0_2 := Aside0.mk hr0_2
 have HC0_2 := Aside0.mk hc0_2
 clear hr0_2 hc0_2
 have HB := am (Below.refl w.heap.size w)
 have H : ((spec_boGood.f k a0_0 a0_1 l0_2).bind fun t308 => (if t308 = true then ((spec_boOther.f k a0_0 a0_1 l0_2).bind fun bt309 => (some (bt309.1, bt309.2.1, bt309.2.2, true))) else (some (0, 0, ([] : List Int), false)))) = some (r1, r2, r3, r4) := h
 clear h
 replace H := qE H
 obtain ⟨t308, A2, H⟩ := H
 replace H : (if t308 = true then ((spec_boOther.f k a0_0 a0_1 l0_2).bind fun bt309 => (some (bt309.1, bt309.2.1, bt309.2.2, true))) else (some (0, 0, ([] : List Int), false))) = some (r1, r2, r3, r4) := H
 by_cases c3 : t308 = true
 ·
  subst c3
  have H1 : ((spec_boOther.f k a0_0 a0_1 l0_2).bind fun bt309 => (some (bt309.1, bt309.2.1, bt309.2.2, true))) = some (r1, r2, r3, r4) := by first | (rw [if_pos rfl] at H; exact H) | rfl
  clear H
  have H := H1
  clear H1
  replace H := qE H
  obtain ⟨⟨t309, t310, t311⟩, A4, H⟩ := H
  replace H : (some (t309, t310, t311, true)) = some (r1, r2, r3, r4) := H
  simp only [Option.some.injEq, Prod.mk.injEq] at H
  obtain ⟨rfl, rfl, rfl, rfl⟩ := H
  go_enter Tryd.func11, Tryd.ntmps11
  go_wp2_with (first | ((with_reducible refine gate_dst (N := 1) rfl ?_); refine qv 1 #[.int .i64 a0_0, .int .i64 a0_1, .slice A0_2 l0_2.length c0_2] 26 ?_; intro gb306 hg w5 hbox hb; have BK306 := am hbox; have GW306 := qw hg; have GE306 := qw hg; replace HB := qs hb; clear hb hbox hg) | ((with_reducible refine gate_dst (N := 2) rfl ?_); refine qv 2 #[.int .i64 0, .int .i64 0, .slice none 0 0] 26 ?_; intro gb307 hg w6 hbox hb; have BK307 := am hbox; have GW307 := qw hg; have GE307 := qw hg; have Nq6 := qn hg BK306; have Nq7 := qN hg BK306; replace BK306 := sqB BK306 hb; replace HB := qs hb; clear hb hbox hg; have bq15 := Nq6.out; have cq15 := Nq7.out; obtain ⟨zq54, zq55, zq56, fq54, fq55, fq56⟩ := qd BK306) | ((with_reducible refine gate_callee (f := 28) rfl ?_); refine qg (some 5) Tryd.func28 #[.agg #[.int .i64 a0_0, .int .i64 a0_1, .slice A0_2 l0_2.length c0_2]] ?_; (with_reducible refine (spec_boGood.calls k a0_0 a0_1 _ _ l0_2 true _ ?side1 HC0_2.out A2.out).mono ?_); (case side1 => exact Q3); rintro e w9 ⟨rfl, hb⟩; refine ⟨_, rfl, ?_⟩; replace BK306 := sqB BK306 hb; replace BK307 := sqB BK307 hb; replace HB := qs hb; (try clear hb); obtain ⟨zq0, zq1, zq2, fq0, fq1, fq2⟩ := qd BK306) | ((with_reducible refine gate_callee (f := 36) rfl ?_); refine qg (some 9) Tryd.func36 #[.agg #[.int .i64 a0_0, .int .i64 a0_1, .slice A0_2 l0_2.length c0_2]] ?_; (with_reducible refine (spec_boOther.calls k a0_0 a0_1 _ _ l0_2 t309 t310 t311 _ ?side1 HC0_2.out A4.out).mono ?_); (case side1 => exact Q3); rintro e w11 ⟨v312, rfl, ho0, hb⟩; refine ⟨_, rfl, ?_⟩; have Oq1 := ql ho0; replace BK306 := sqB BK306 hb; replace BK307 := sqB BK307 hb; replace HB := qs hb; (try clear hb ho0); obtain ⟨zq6, zq7, zq8, fq6, fq7, fq8⟩ := qd BK307; obtain ⟨Ao13, co13, eo13⟩ := Kd.R_slice Oq1.out; subst eo13))
  refine bodyPost_ret (results_ct rfl _ _ gb307 26 #[.int .i64 t309, .int .i64 t310, .slice Ao13 t311.length co13] (0, 0) _ rfl (by (with_reducible repeat (first | refine blk_drewN ?_ _ | refine blk_drew ?_ | refine blk_alloc ?_ _)); refine blk_put (cs := #[.int .i64 t309, .int .i64 t310, .slice none 0 0]) ?_ 2 _ rfl; (with_reducible repeat (first | refine blk_drewN ?_ _ | refine blk_drew ?_ | refine blk_alloc ?_ _)); refine blk_put (cs := #[.int .i64 t309, .int .i64 0, .slice none 0 0]) ?_ 1 _ rfl; (with_reducible repeat (first | refine blk_drewN ?_ _ | refine blk_drew ?_ | refine blk_alloc ?_ _)); refine blk_put (cs := #[.int .i64 0, .int .i64 0, .slice none 0 0]) ?_ 0 _ rfl; (with_reducible repeat (first | refine blk_drewN ?_ _ | refine blk_drew ?_ | refine blk_alloc ?_ _)); exact BK307.out) Tryd.underlying26 rfl (by kernel_rfl)) rfl ?_
  exact ⟨_, Q1, by (with_reducible repeat (first | apply Kd.R_alloc | apply Kd.R_drewN | apply Kd.R_drew)); exact Kd.R_mono (Kd.R_far (p := ⟨gb307, 2, none⟩) (Kd.R_far (p := ⟨gb307, 1, none⟩) (Kd.R_far (p := ⟨gb307, 0, none⟩) (Kd.R_types Oq1.out BK307.out (by decide)) (fun _ hk => hk.2) (.int .i64 t309)) (fun _ hk => hk.2) (.int .i64 t310)) (fun _ hk => hk.2) (.slice Ao13 t311.length co13)) (fun _ hk => trivial), qb⟩
 ·
  replace c3 := Bool.eq_false_iff.mpr c3
  subst c3
  have H1 : (some (0, 0, ([] : List Int), false)) = some (r1, r2, r3, r4) := by first | (rw [if_neg (show ¬ (false = true) by decide)] at H; exact H) | rfl
  clear H
  have H := H1
  clear H1
  simp only [Option.some.injEq, Prod.mk.injEq] at H
  obtain ⟨rfl, rfl, rfl, rfl⟩ := H
  go_enter Tryd.func11, Tryd.ntmps11
  go_wp2_with (first | ((with_reducible refine gate_dst (N := 1) rfl ?_); refine qv 1 #[.int .i64 a0_0, .int .i64 a0_1, .slice A0_2 l0_2.length c0_2] 26 ?_; intro gb306 hg w14 hbox hb; have BK306 := am hbox; have GW306 := qw hg; have GE306 := qw hg; replace HB := qs hb; clear hb hbox hg) | ((with_reducible refine gate_dst (N := 2) rfl ?_); refine qv 2 #[.int .i64 0, .int .i64 0, .slice none 0 0] 26 ?_; intro gb307 hg w15 hbox hb; have BK307 := am hbox; have GW307 := qw hg; have GE307 := qw hg; have Nq6 := qn hg BK306; have Nq7 := qN hg BK306; replace BK306 := sqB BK306 hb; replace HB := qs hb; clear hb hbox hg; have bq2 := Nq6.out; have cq2 := Nq7.out; obtain ⟨zq15, zq16, zq17, fq15, fq16, fq17⟩ := qd BK306) | ((with_reducible refine gate_callee (f := 28) rfl ?_); refine qg (some 5) Tryd.func28 #[.agg #[.int .i64 a0_0, .int .i64 a0_1, .slice A0_2 l0_2.length c0_2]] ?_; (with_reducible refine (spec_boGood.calls k a0_0 a0_1 _ _ l0_2 false _ ?side1 HC0_2.out A2.out).mono ?_); (case side1 => exact Q3); rintro e w18 ⟨rfl, hb⟩; refine ⟨_, rfl, ?_⟩; replace BK306 := sqB BK306 hb; replace BK307 := sqB BK307 hb; replace HB := qs hb; (try clear hb); obtain ⟨zq18, zq19, zq20, fq18, fq19, fq20⟩ := qd BK307))
  refine bodyPost_ret (results_ct rfl _ _ gb307 26 #[.int .i64 0, .int .i64 0, .slice none 0 0] (0, 0) _ rfl (by (with_reducible repeat (first | refine blk_drewN ?_ _ | refine blk_drew ?_ | refine blk_alloc ?_ _)); refine blk_put (cs := #[.int .i64 0, .int .i64 0, .slice none 0 0]) ?_ 2 _ rfl; (with_reducible repeat (first | refine blk_drewN ?_ _ | refine blk_drew ?_ | refine blk_alloc ?_ _)); refine blk_put (cs := #[.int .i64 0, .int .i64 0, .slice none 0 0]) ?_ 1 _ rfl; (with_reducible repeat (first | refine blk_drewN ?_ _ | refine blk_drew ?_ | refine blk_alloc ?_ _)); refine blk_put (cs := #[.int .i64 0, .int .i64 0, .slice none 0 0]) ?_ 0 _ rfl; (with_reducible repeat (first | refine blk_drewN ?_ _ | refine blk_drew ?_ | refine blk_alloc ?_ _)); exact BK307.out) Tryd.underlying26 rfl (by kernel_rfl)) rfl ?_
  exact ⟨_, Q1, Q6, qb⟩

/-! ### laws_rSame: function 37 -/
def laws_rSame.l0 : Nat → List Int → List Int → Int → Int → Option (Bool)
 | 0, _, _, _, _ => none
 | k + 1, x0, x1, x12, x13 => if x13 < x12 then (if 0 ≤ x13 then (if x13 < (x0.length : Int) then (if x13 < (x1.length : Int) then (if (rd x0 x13) = (rd x1 x13) then (laws_rSame.l0 k x0 x1 x12 (wrap64 (x13 + 1))) else (some false)) else (none)) else (none)) else (none)) else (some true)
def laws_rSame.f (k : Nat) (l0 : List Int) (l1 : List Int) : Option (Bool) := if (l0.length : Int) = (l1.length : Int) then (laws_rSame.l0 k l0 l1 (l0.length : Int) 0) else (some false)
set_option maxHeartbeats 8000000 in
set_option maxRecDepth 100000 in
theorem laws_rSame.calls (k : Nat) (A0 : Option Addr) (c0 : Nat) (l0 : List Int) (A1 : Option Addr) (c1 : Nat) (l1 : List Int) (r : Bool) (w : World) (hr0 : Kd.C (Kd.int .i64) w A0 l0.length l0) (hc0 : l0.length ≤ c0) (hr1 : Kd.C (Kd.int .i64) w A1 l1.length l1) (hc1 : l1.length ≤ c1) (h : laws_rSame.f k l0 l1 = some r) :
  Calls Tryd.prog 37 #[.slice A0 l0.length c0, .slice A1 l1.length c1] w fun e w' => e = .returned (.bool r) ∧ Drawn0 w w' := by
 have HR0 := Aside0.mk hr0
 have HC0 := Aside0.mk hc0
 clear hr0 hc0
 have HR1 := Aside0.mk hr1
 have HC1 := Aside0.mk hc1
 clear hr1 hc1
 have H : (if (l0.length : Int) = (l1.length : Int) then (laws_rSame.l0 k l0 l1 (l0.length : Int) 0) else (some false)) = some r := h
 clear h
 by_cases c3 : (l0.length : Int) = (l1.length : Int)
 ·
  rw [if_pos c3] at H
  have c3b0 : ((l0.length : Int) == (l1.length : Int)) = true := beq_iff_eq.mpr c3
  have c3b1 : ((l0.length : Int) != (l1.length : Int)) = false := bne_eq_false_iff_eq.mpr c3
  have c3b2 : (l0.length == l1.length) = true := by first | simpa using c3 | (simp at c3 ⊢; omega)
  clear c3
  have H' := Aside0.mk H
  clear H
  go_enter Tryd.func37, Tryd.ntmps37
  go_wp2
  repeat (go_quiet (fail); try go_wp2)
  go_loopg [13] k (fun kq v13 w' => ∃ (x13_1 : Int), v13 = .int .i64 x13_1 ∧ Aside0 (laws_rSame.l0 kq l0 l1 (l0.length : Int) x13_1 = some r) ∧ Aside0 (kq ≤ k) ∧ Drawn0 w w')
  case atStart => exact ⟨(0), Q2, H', ⟨Nat.le_refl _⟩, Q5⟩
  case round =>
   clear H'
   try clear c3; try clear c3b0; try clear c3b1; try clear c3b2
   obtain ⟨x13_1, rfl, HA, HK1, ⟨m1, rfl⟩⟩ := hrel
   cases gk with
   | zero => exact absurd HA.out (by simp [laws_rSame.l0])
   | succ k1 =>
    have H := HA.out
    clear HA
    simp only [laws_rSame.l0] at H
    by_cases c4 : x13_1 < (l0.length : Int)
    ·
     rw [if_pos c4] at H
     have c4b0 : decide (x13_1 < (l0.length : Int)) = true := decide_eq_true c4
     clear c4
     by_cases c5 : 0 ≤ x13_1
     ·
      rw [if_pos c5] at H
      have c5b0 : decide (0 ≤ x13_1) = true := decide_eq_true c5
      clear c5
      by_cases c6 : x13_1 < (l0.length : Int)
      ·
       rw [if_pos c6] at H
       have c6b0 : decide (x13_1 < (l0.length : Int)) = true := decide_eq_true c6
       clear c6
       by_cases c7 : x13_1 < (l1.length : Int)
       ·
        rw [if_pos c7] at H
        have c7b0 : decide (x13_1 < (l1.length : Int)) = true := decide_eq_true c7
        clear c7
        by_cases c8 : (rd l0 x13_1) = (rd l1 x13_1)
        ·
         rw [if_pos c8] at H
         have c8b0 : ((rd l0 x13_1) == (rd l1 x13_1)) = true := beq_iff_eq.mpr c8
         have c8b1 : ((rd l0 x13_1) != (rd l1 x13_1)) = false := bne_eq_false_iff_eq.mpr c8
         clear c8
         have H' := Aside0.mk H
         clear H
         have p314 : 0 ≤ (x13_1 : Int) := of_decide_eq_true Q0
         have q314 : x13_1 < (l0.length : Int) := of_decide_eq_true Q0
         obtain ⟨ad314, e314, hx314_0⟩ := Kd.at_int HR0.out x13_1 p314 q314
         cases e314
         replace p314 := eq_true p314
         replace q314 := eq_true q314
         have p315 : 0 ≤ (x13_1 : Int) := of_decide_eq_true Q0
         have q315 : x13_1 < (l1.length : Int) := of_decide_eq_true Q0
         obtain ⟨ad315, e315, hx315_0⟩ := Kd.at_int HR1.out x13_1 p315 q315
         cases e315
         replace p315 := eq_true p315
         replace q315 := eq_true q315
         go_wp2
         repeat (go_quiet (fail); try go_wp2)
         go_roundg k1
         case measure => have := HK1.out; omega
         case rel => exact ⟨(wrap64 (x13_1 + 1)), Q2, H', ⟨Q61⟩, Q5⟩
        ·
         rw [if_neg c8] at H
         have c8b0 : ((rd l0 x13_1) == (rd l1 x13_1)) = false := beq_eq_false_iff_ne.mpr c8
         have c8b1 : ((rd l0 x13_1) != (rd l1 x13_1)) = true := bne_iff_ne.mpr c8
         obtain rfl := Option.some.inj H
         have p314 : 0 ≤ (x13_1 : Int) := of_decide_eq_true Q0
         have q314 : x13_1 < (l0.length : Int) := of_decide_eq_true Q0
         obtain ⟨ad314, e314, hx314_0⟩ := Kd.at_int HR0.out x13_1 p314 q314
         cases e314
         replace p314 := eq_true p314
         replace q314 := eq_true q314
         have p315 : 0 ≤ (x13_1 : Int) := of_decide_eq_true Q0
         have q315 : x13_1 < (l1.length : Int) := of_decide_eq_true Q0
         obtain ⟨ad315, e315, hx315_0⟩ := Kd.at_int HR1.out x13_1 p315 q315
         cases e315
         replace p315 := eq_true p315
         replace q315 := eq_true q315
         go_wp2
         repeat (go_quiet (fail); try go_wp2)
         go_ret
         exact ⟨Q2, Q5⟩
       ·
        rw [if_neg c7] at H
        exact absurd H (by simp)
      ·
       rw [if_neg c6] at H
       exact absurd H (by simp)
     ·
      rw [if_neg c5] at H
      exact absurd H (by simp)
    ·
     rw [if_neg c4] at H
     have c4b0 : decide (x13_1 < (l0.length : Int)) = false := decide_eq_false c4
     clear c4
     obtain rfl := Option.some.inj H
     go_wp2
     repeat (go_quiet (fail); try go_wp2)
     go_ret
     exact ⟨Q2, Q5⟩
 ·
  rw [if_neg c3] at H
  have c3b0 : ((l0.length : Int) == (l1.length : Int)) = false := beq_eq_false_iff_ne.mpr c3
  have c3b1 : ((l0.length : Int) != (l1.length : Int)) = true := bne_iff_ne.mpr c3
  have c3b2 : (l0.length == l1.length) = false := by first | simpa using c3 | (simp at c3 ⊢; omega)
  obtain rfl := Option.some.inj H
  go_enter Tryd.func37, Tryd.ntmps37
  go_wp2
  repeat (go_quiet (fail); try go_wp2)
  go_ret
  exact ⟨Q2, Q5⟩

/-! ### laws_rSameBoard: function 12 -/
def laws_rSameBoard.f (k : Nat) (a0_0 : Int) (a0_1 : Int) (l0_2 : List Int) (a1_0 : Int) (a1_1 : Int) (l1_2 : List Int) : Option (Bool) := if a0_0 = a1_0 then (if a0_1 = a1_1 then ((laws_rSame.f k l0_2 l1_2).bind fun t318 => (some t318)) else (some false)) else (some false)
set_option maxHeartbeats 8000000 in
set_option maxRecDepth 100000 in
theorem laws_rSameBoard.calls (k : Nat) (a0_0 : Int) (a0_1 : Int) (A0_2 : Option Addr) (c0_2 : Nat) (l0_2 : List Int) (a1_0 : Int) (a1_1 : Int) (A1_2 : Option Addr) (c1_2 : Nat) (l1_2 : List Int) (r : Bool) (w : World) (hr0_2 : Kd.C (Kd.int .i64) w A0_2 l0_2.length l0_2) (hc0_2 : l0_2.length ≤ c0_2) (hr1_2 : Kd.C (Kd.int .i64) w A1_2 l1_2.length l1_2) (hc1_2 : l1_2.length ≤ c1_2) (h : laws_rSameBoard.f k a0_0 a0_1 l0_2 a1_0 a1_1 l1_2 = some r) :
  Calls Tryd.prog 12 #[.agg #[.int .i64 a0_0, .int .i64 a0_1, .slice A0_2 l0_2.length c0_2], .agg #[.int .i64 a1_0, .int .i64 a1_1, .slice A1_2 l1_2.length c1_2]] w fun e w' => e = .returned (.bool r) ∧ Below w.heap.size w w' := by
 have hu26 := Tryd.underlying26
 have HR0_2 := Aside0.mk hr0_2
 have HC0_2 := Aside0.mk hc0_2
 clear hr0_2 hc0_2
 have HR1_2 := Aside0.mk hr1_2
 have HC1_2 := Aside0.mk hc1_2
 clear hr1_2 hc1_2
 have HB := am (Below.refl w.heap.size w)
 have H : (if a0_0 = a1_0 then (if a0_1 = a1_1 then ((laws_rSame.f k l0_2 l1_2).bind fun t318 => (some t318)) else (some false)) else (some false)) = some r := h
 clear h
 by_cases c3 : a0_0 = a1_0
 ·
  rw [if_pos c3] at H
  have c3b0 : (a0_0 == a1_0) = true := beq_iff_eq.mpr c3
  have c3b1 : (a0_0 != a1_0) = false := bne_eq_false_iff_eq.mpr c3
  clear c3
  by_cases c4 : a0_1 = a1_1
  ·
   rw [if_pos c4] at H
   have c4b0 : (a0_1 == a1_1) = true := beq_iff_eq.mpr c4
   have c4b1 : (a0_1 != a1_1) = false := bne_eq_false_iff_eq.mpr c4
   clear c4
   replace H := qE H
   obtain ⟨t318, A5, H⟩ := H
   replace H : (some t318) = some r := H
   obtain rfl := Option.some.inj H
   go_enter Tryd.func12, Tryd.ntmps12
   go_wp2_with (first | ((with_reducible refine gate_dst (N := 2) rfl ?_); refine qv 2 #[.int .i64 a0_0, .int .i64 a0_1, .slice A0_2 l0_2.length c0_2] 26 ?_; intro gb316 hg w6 hbox hb; have BK316 := am hbox; have GW316 := qw hg; have GE316 := qw hg; replace HB := qs hb; clear hb hbox hg) | ((with_reducible refine gate_dst (N := 3) rfl ?_); refine qv 3 #[.int .i64 a1_0, .int .i64 a1_1, .slice A1_2 l1_2.length c1_2] 26 ?_; intro gb317 hg w7 hbox hb; have BK317 := am hbox; have GW317 := qw hg; have GE317 := qw hg; have Nq8 := qn hg BK316; have Nq9 := qN hg BK316; replace BK316 := sqB BK316 hb; replace HB := qs hb; clear hb hbox hg; have bq16 := Nq8.out; have cq16 := Nq9.out; obtain ⟨zq57, zq58, zq59, fq57, fq58, fq59⟩ := qd BK316; obtain ⟨zq0, zq1, zq2, fq0, fq1, fq2⟩ := qd BK317) | (go_at_call 37; (with_reducible refine (laws_rSame.calls k _ _ l0_2 _ _ l1_2 t318 _ ?side1 HC0_2.out ?side3 HC1_2.out A5.out).mono ?_); (case side1 => exact Q3); (case side3 => repeat (first | exact (Kd.C_below HR1_2.out HB.out) | (with_reducible first | refine Kd.C_alloc ?_ _ | refine Kd.C_drewN ?_ _ | refine Kd.C_drew ?_))); rintro e w' ⟨rfl, ⟨nd, rfl⟩⟩))
   go_ret
   exact ⟨Q1, qb⟩
  ·
   rw [if_neg c4] at H
   have c4b0 : (a0_1 == a1_1) = false := beq_eq_false_iff_ne.mpr c4
   have c4b1 : (a0_1 != a1_1) = true := bne_iff_ne.mpr c4
   obtain rfl := Option.some.inj H
   go_enter Tryd.func12, Tryd.ntmps12
   go_wp2_with (first | ((with_reducible refine gate_dst (N := 2) rfl ?_); refine qv 2 #[.int .i64 a0_0, .int .i64 a0_1, .slice A0_2 l0_2.length c0_2] 26 ?_; intro gb316 hg w11 hbox hb; have BK316 := am hbox; have GW316 := qw hg; have GE316 := qw hg; replace HB := qs hb; clear hb hbox hg) | ((with_reducible refine gate_dst (N := 3) rfl ?_); refine qv 3 #[.int .i64 a1_0, .int .i64 a1_1, .slice A1_2 l1_2.length c1_2] 26 ?_; intro gb317 hg w12 hbox hb; have BK317 := am hbox; have GW317 := qw hg; have GE317 := qw hg; have Nq8 := qn hg BK316; have Nq9 := qN hg BK316; replace BK316 := sqB BK316 hb; replace HB := qs hb; clear hb hbox hg; have bq1 := Nq8.out; have cq1 := Nq9.out; obtain ⟨zq9, zq10, zq11, fq9, fq10, fq11⟩ := qd BK316; obtain ⟨zq12, zq13, zq14, fq12, fq13, fq14⟩ := qd BK317))
   go_ret
   exact ⟨Q1, qb⟩
 ·
  rw [if_neg c3] at H
  have c3b0 : (a0_0 == a1_0) = false := beq_eq_false_iff_ne.mpr c3
  have c3b1 : (a0_0 != a1_0) = true := bne_iff_ne.mpr c3
  obtain rfl := Option.some.inj H
  go_enter Tryd.func12, Tryd.ntmps12
  go_wp2_with (first | ((with_reducible refine gate_dst (N := 2) rfl ?_); refine qv 2 #[.int .i64 a0_0, .int .i64 a0_1, .slice A0_2 l0_2.length c0_2] 26 ?_; intro gb316 hg w16 hbox hb; have BK316 := am hbox; have GW316 := qw hg; have GE316 := qw hg; replace HB := qs hb; clear hb hbox hg) | ((with_reducible refine gate_dst (N := 3) rfl ?_); refine qv 3 #[.int .i64 a1_0, .int .i64 a1_1, .slice A1_2 l1_2.length c1_2] 26 ?_; intro gb317 hg w17 hbox hb; have BK317 := am hbox; have GW317 := qw hg; have GE317 := qw hg; have Nq8 := qn hg BK316; have Nq9 := qN hg BK316; replace BK316 := sqB BK316 hb; replace HB := qs hb; clear hb hbox hg; have bq3 := Nq8.out; have cq3 := Nq9.out; obtain ⟨zq18, zq19, zq20, fq18, fq19, fq20⟩ := qd BK316; obtain ⟨zq21, zq22, zq23, fq21, fq22, fq23⟩ := qd BK317))
  go_ret
  exact ⟨Q1, qb⟩

/-! ### spec_l1Least: function 39 -/
def spec_l1Least.f (a0 : Int) (a1 : Int) : Option (Int) := if a0 < a1 then (some a0) else (some a1)
set_option maxHeartbeats 8000000 in
set_option maxRecDepth 100000 in
theorem spec_l1Least.calls (a0 : Int) (a1 : Int) (r : Int) (w : World) (h : spec_l1Least.f a0 a1 = some r) :
  Calls Tryd.prog 39 #[.int .i64 a0, .int .i64 a1] w fun e w' => e = .returned (.int .i64 r) ∧ Drawn0 w w' := by
 have H : (if a0 < a1 then (some a0) else (some a1)) = some r := h
 clear h
 by_cases c3 : a0 < a1
 ·
  rw [if_pos c3] at H
  have c3b0 : decide (a0 < a1) = true := decide_eq_true c3
  clear c3
  obtain rfl := Option.some.inj H
  go_enter Tryd.func39, Tryd.ntmps39
  go_wp2
  go_ret
  exact ⟨Q2, Q5⟩
 ·
  rw [if_neg c3] at H
  have c3b0 : decide (a0 < a1) = false := decide_eq_false c3
  clear c3
  obtain rfl := Option.some.inj H
  go_enter Tryd.func39, Tryd.ntmps39
  go_wp2
  go_ret
  exact ⟨Q2, Q5⟩

/-! ### spec_DrawOrderRows: function 13 -/
def spec_DrawOrderRows.l0 : Nat → List Int → Int → List Int → Int → Int → Int → Int → List Int → Option (Int × Int × List Int × List Int)
 | 0, _, _, _, _, _, _, _, _ => none
 | k + 1, x6, x7, x321000, x321001, x321002, x329000, x329001, x329002 => (spec_l1Least.f x329000 8).bind fun t329 => (if x7 < t329 then ((spec_l1Cur_pick.f x321000 x321001 x321002 (wrap64 (x7 + 1))).bind fun bt330 => (if 0 ≤ bt330.1 then (if bt330.1 ≤ (x6.length : Int) then ((spec_l1Own.f (x6.take (bt330.1 : Int).toNat)).bind fun t337 => (if t337.length < 17592186044416 then ((some (t337 ++ [x7] : List Int)).bind fun y340 => ((some (x6.drop (bt330.1 : Int).toNat : List Int)).bind fun y343 => (if y340.length + y343.length < 17592186044416 then (spec_DrawOrderRows.l0 k (y340 ++ y343) (wrap64 (x7 + 1)) x321000 bt330.2.1 bt330.2.2 x329000 x329001 x329002) else (none)))) else (none))) else (none)) else (none))) else ((spec_l1Cur_one.f x321000 x321001 x321002 10).bind fun bt350 => (if bt350.1 = true then ((spec_l1Cur_pick.f x321000 bt350.2.1 bt350.2.2 4).bind fun bt353 => (if x6.length < 17592186044416 then (some (x329000, x329001, x329002, (x6 ++ [wrap64 (bt353.1 - 1)]))) else (none))) else (some (x329000, x329001, x329002, x6)))))
def spec_DrawOrderRows.f (k : Nat) (l0 : List Int) : Option (Int × Int × List Int × List Int) := (spec_l1Cur_board.f k l0 0 0).bind fun bt321 => (spec_DrawOrderRows.l0 k ([] : List Int) 0 l0 bt321.2.2.2.1 bt321.2.2.2.2 bt321.1 bt321.2.1 bt321.2.2.1)
set_option maxHeartbeats 8000000 in
set_option maxRecDepth 100000 in
theorem spec_DrawOrderRows.calls (k : Nat) (A0 : Option Addr) (c0 : Nat) (l0 : List Int) (r1 : Int) (r2 : Int) (r3 : List Int) (r4 : List Int) (w : World) (hr0 : Kd.C (Kd.int .u8) w A0 l0.length l0) (hc0 : l0.length ≤ c0) (h : spec_DrawOrderRows.f k l0 = some (r1, r2, r3, r4)) :
  Calls Tryd.prog 13 #[.slice A0 l0.length c0] w fun e w' => ∃ v2_ v3_ : Value, e = .returned (.tuple #[.agg #[.int .i64 r1, .int .i64 r2, v2_], v3_]) ∧ Kd.R (Kd.int .i64) 3 w' w.heap.size (fun k_ => some k_ ≠ (v3_ : Value).ownBlock) v2_ r3 ∧ Kd.R (Kd.int .i64) 3 w' w.heap.size (fun k_ => some k_ ≠ (v2_ : Value).ownBlock) v3_ r4 ∧ Below w.heap.size w w' := by
 have hu26 := Tryd.underlying26
 have hu57 := Tryd.underlying57
 have HR0 := Aside0.mk hr0
 have HC0 := Aside0.mk hc0
 clear hr0 hc0
 have HB := am (Below.refl w.heap.size w)
 have H : ((spec_l1Cur_board.f k l0 0 0).bind fun bt321 => (spec_DrawOrderRows.l0 k ([] : List Int) 0 l0 bt321.2.2.2.1 bt321.2.2.2.2 bt321.1 bt321.2.1 bt321.2.2.1)) = some (r1, r2, r3, r4) := h
 clear h
 replace H := qE H
 obtain ⟨⟨t321, t322, t323, t326, t327⟩, A2, H⟩ := H
 replace H : (spec_DrawOrderRows.l0 k ([] : List Int) 0 l0 t326 t327 t321 t322 t323) = some (r1, r2, r3, r4) := H
 have H' := Aside0.mk H
 clear H
 go_enter Tryd.func13, Tryd.ntmps13
 go_wp2_with (first | ((with_reducible refine gate_dst (N := 2) rfl ?_); refine qv 2 #[.int .i64 0, .int .i64 0, .slice none 0 0] 26 ?_; intro gb319 hg w3 hbox hb; have BK319 := am hbox; have GW319 := qw hg; have GE319 := qw hg; replace HB := qs hb; clear hb hbox hg) | ((with_reducible refine gate_dst (N := 12) rfl ?_); refine qv 12 #[.slice A0 l0.length c0, .int .i64 0, .int .u64 0] 57 ?_; intro gb320 hg w4 hbox hb; have HI320 := am ((show IsS57 w w4 gb320 l0 0 0 from ⟨_, _, hbox, (by rw [hg]; exact (below_size qb) : w.heap.size ≤ gb320), HR0.out⟩)); have GW320 := qw hg; have GE320 := qw hg; have Nq10 := qn hg BK319; have Nq12 := qN hg BK319; replace BK319 := sqB BK319 hb; replace HB := qs hb; clear hb hbox hg) | ((with_reducible refine gate_callee (f := 38) rfl ?_); refine qg (some 14) Tryd.func38 #[.pointer (some ⟨gb320, 0, none⟩)] ?_; (with_reducible refine (spec_l1Cur_board.calls k gb320 l0 0 0 t321 t322 t323 t326 t327 w _ ?side1 ?side2 A2.out).mono ?_); (case side1 => exact qi); (case side2 => exact qc); rintro e w5 ⟨v324, rfl, ho0, hi, hb, hk⟩; refine ⟨_, rfl, ?_⟩; have Oq2 := qL ho0; replace BK319 := qK BK319 hk Nq10; replace HB := am hb; replace HI320 := am hi; (try clear hb hk hi ho0)) | ((with_reducible refine gate_dst (N := 5) rfl ?_); refine qv 5 #[.int .i64 0, .int .i64 0, .slice none 0 0] 26 ?_; intro gb328 hg w6 hbox hb; have BK328 := am hbox; have GW328 := qW hg; have GE328 := qW hg; have Nq11 := qn hg BK319; have Nq14 := qN hg BK319; have Nq13 := qo hg gb320; have Nq15 := qO hg gb320; replace Oq2 := sqR Oq2 hb; replace BK319 := sqB BK319 hb; replace HB := qt hb; replace HI320 := qj hb; clear hb hbox hg; have bq15 := Nq14.out; have cq15 := Nq11.out; have bq16 := Nq15.out; have cq16 := Nq13.out; obtain ⟨zq57, zq58, zq59, fq57, fq58, fq59⟩ := qd BK328; obtain ⟨Ao10, co10, eo10⟩ := Kd.R_slice Oq2.out; subst eo10))
 go_loopg [6, 7] k (fun kq v6 v7 w' => ∃ (x6_1 : List Int) (x7_1 : Int) (x321001_1 : Int) (x321002_1 : Int), v7 = .int .i64 x7_1 ∧ Aside0 (spec_DrawOrderRows.l0 kq x6_1 x7_1 l0 x321001_1 x321002_1 t321 t322 t323 = some (r1, r2, r3, r4)) ∧ Aside0 (kq ≤ k) ∧ Aside0 (Kd.R (Kd.int .i64) 3 w' w.heap.size (fun k_ => some k_ ≠ ((.slice Ao10 t323.length co10) : Value).ownBlock) v6 x6_1) ∧ Aside0 (Kd.R (Kd.int .i64) 3 w' w.heap.size (fun k_ => some k_ ≠ (v6 : Value).ownBlock) (.slice Ao10 t323.length co10) t323) ∧ Aside0 (w'.heap[gb319]? = some (.cells #[.int .i64 0, .int .i64 0, (.slice none 0 0)] 26 (0, 0))) ∧ Aside0 (w'.heap[gb328]? = some (.cells #[.int .i64 t321, .int .i64 t322, (.slice Ao10 t323.length co10)] 26 (0, 0))) ∧ Aside0 (IsS57 w w' gb320 l0 x321001_1 x321002_1) ∧ Aside0 (Below w.heap.size w w'))
 case atStart => exact ⟨(([] : List Int)), (0), (t326), (t327), Q2, H', ⟨Nat.le_refl _⟩, ⟨Q6⟩, ⟨by (with_reducible repeat (first | apply Kd.R_alloc | apply Kd.R_drewN | apply Kd.R_drew)); exact Kd.R_mono (Kd.R_far (p := ⟨gb328, 2, none⟩) (Kd.R_far (p := ⟨gb328, 1, none⟩) (Kd.R_far (p := ⟨gb328, 0, none⟩) (Kd.R_types Oq2.out BK328.out (by decide)) (fun _ hk => hk.2) (.int .i64 t321)) (fun _ hk => hk.2) (.int .i64 t322)) (fun _ hk => hk.2) (.slice Ao10 t323.length co10)) (fun _ hk => (by simp [Value.ownBlock]))⟩, ⟨by (with_reducible repeat (first | refine blk_drewN ?_ _ | refine blk_drew ?_ | refine blk_alloc ?_ _)); refine blk_far ?_ Nq11.out _; (with_reducible repeat (first | refine blk_drewN ?_ _ | refine blk_drew ?_ | refine blk_alloc ?_ _)); refine blk_far ?_ Nq11.out _; (with_reducible repeat (first | refine blk_drewN ?_ _ | refine blk_drew ?_ | refine blk_alloc ?_ _)); refine blk_far ?_ Nq11.out _; (with_reducible repeat (first | refine blk_drewN ?_ _ | refine blk_drew ?_ | refine blk_alloc ?_ _)); exact BK319.out⟩, ⟨by (with_reducible repeat (first | refine blk_drewN ?_ _ | refine blk_drew ?_ | refine blk_alloc ?_ _)); refine blk_put (cs := #[.int .i64 t321, .int .i64 t322, .slice none 0 0]) ?_ 2 _ rfl; (with_reducible repeat (first | refine blk_drewN ?_ _ | refine blk_drew ?_ | refine blk_alloc ?_ _)); refine blk_put (cs := #[.int .i64 t321, .int .i64 0, .slice none 0 0]) ?_ 1 _ rfl; (with_reducible repeat (first | refine blk_drewN ?_ _ | refine blk_drew ?_ | refine blk_alloc ?_ _)); refine blk_put (cs := #[.int .i64 0, .int .i64 0, .slice none 0 0]) ?_ 0 _ rfl; (with_reducible repeat (first | refine blk_drewN ?_ _ | refine blk_drew ?_ | refine blk_alloc ?_ _)); exact BK328.out⟩, ⟨qi⟩, ⟨qc⟩⟩
 case round =>
  clear H'
  try clear zq57; try clear zq58; try clear zq59; try clear fq57; try clear fq58; try clear fq59
  obtain ⟨x6_1, x7_1, x321001_1, x321002_1, rfl, HA, HK1, Oq9, Oq8, BK319, BK328, HI320, HB⟩ := hrel
  cases gk with
  | zero => exact absurd HA.out (by simp [spec_DrawOrderRows.l0])
  | succ k1 =>
   have H := HA.out
   clear HA
   simp only [spec_DrawOrderRows.l0] at H
   replace H := qE H
   obtain ⟨t329, A11, H⟩ := H
   replace H : (if x7_1 < t329 then ((spec_l1Cur_pick.f l0 x321001_1 x321002_1 (wrap64 (x7_1 + 1))).bind fun bt330 => (if 0 ≤ bt330.1 then (if bt330.1 ≤ (x6_1.length : Int) then ((spec_l1Own.f (x6_1.take (bt330.1 : Int).toNat)).bind fun t337 => (if t337.length < 17592186044416 then ((some (t337 ++ [x7_1] : List Int)).bind fun y340 => ((some (x6_1.drop (bt330.1 : Int).toNat : List Int)).bind fun y343 => (if y340.length + y343.length < 17592186044416 then (spec_DrawOrderRows.l0 k1 (y340 ++ y343) (wrap64 (x7_1 + 1)) l0 bt330.2.1 bt330.2.2 t321 t322 t323) else (none)))) else (none))) else (none)) else (none))) else ((spec_l1Cur_one.f l0 x321001_1 x321002_1 10).bind fun bt350 => (if bt350.1 = true then ((spec_l1Cur_pick.f l0 bt350.2.1 bt350.2.2 4).bind fun bt353 => (if x6_1.length < 17592186044416 then (some (t321, t322, t323, (x6_1 ++ [wrap64 (bt353.1 - 1)]))) else (none))) else (some (t321, t322, t323, x6_1))))) = some (r1, r2, r3, r4) := H
   by_cases c12 : x7_1 < t329
   ·
    rw [if_pos c12] at H
    have c12b0 : decide (x7_1 < t329) = true := decide_eq_true c12
    clear c12
    replace H := qE H
    obtain ⟨⟨t330, t331, t332⟩, A13, H⟩ := H
    replace H : (if 0 ≤ t330 then (if t330 ≤ (x6_1.length : Int) then ((spec_l1Own.f (x6_1.take (t330 : Int).toNat)).bind fun t337 => (if t337.length < 17592186044416 then ((some (t337 ++ [x7_1] : List Int)).bind fun y340 => ((some (x6_1.drop (t330 : Int).toNat : List Int)).bind fun y343 => (if y340.length + y343.length < 17592186044416 then (spec_DrawOrderRows.l0 k1 (y340 ++ y343) (wrap64 (x7_1 + 1)) l0 t331 t332 t321 t322 t323) else (none)))) else (none))) else (none)) else (none)) = some (r1, r2, r3, r4) := H
    by_cases c14 : 0 ≤ t330
    ·
     rw [if_pos c14] at H
     have c14b0 := eq_true c14
     have c14b1 : decide (0 ≤ t330) = true := decide_eq_true c14
     clear c14
     by_cases c15 : t330 ≤ (x6_1.length : Int)
     ·
      rw [if_pos c15] at H
      have c15b0 := eq_true c15
      have c15b1 : decide (t330 ≤ (x6_1.length : Int)) = true := decide_eq_true c15
      clear c15
      obtain ⟨y333, hy_⟩ : ∃ y_ : List Int, y_ = ((x6_1.take (t330 : Int).toNat)) := ⟨_, rfl⟩
      replace H : ((spec_l1Own.f y333).bind fun t337 => (if t337.length < 17592186044416 then ((some (t337 ++ [x7_1] : List Int)).bind fun y340 => ((some (x6_1.drop (t330 : Int).toNat : List Int)).bind fun y343 => (if y340.length + y343.length < 17592186044416 then (spec_DrawOrderRows.l0 k1 (y340 ++ y343) (wrap64 (x7_1 + 1)) l0 t331 t332 t321 t322 t323) else (none)))) else (none))) = some (r1, r2, r3, r4) := qH
      have Ny333 := Aside0.mk hy_
      clear hy_
      replace H := qE H
      obtain ⟨t337, A16, H⟩ := H
      replace H : (if t337.length < 17592186044416 then ((some (t337 ++ [x7_1] : List Int)).bind fun y340 => ((some (x6_1.drop (t330 : Int).toNat : List Int)).bind fun y343 => (if y340.length + y343.length < 17592186044416 then (spec_DrawOrderRows.l0 k1 (y340 ++ y343) (wrap64 (x7_1 + 1)) l0 t331 t332 t321 t322 t323) else (none)))) else (none)) = some (r1, r2, r3, r4) := H
      by_cases c17 : t337.length < 17592186044416
      ·
       rw [if_pos c17] at H
       have LMc17 := Aside0.mk c17
       clear c17
       obtain ⟨y340, hy_⟩ : ∃ y_ : List Int, y_ = ((t337 ++ [x7_1])) := ⟨_, rfl⟩
       replace H : ((some (x6_1.drop (t330 : Int).toNat : List Int)).bind fun y343 => (if y340.length + y343.length < 17592186044416 then (spec_DrawOrderRows.l0 k1 (y340 ++ y343) (wrap64 (x7_1 + 1)) l0 t331 t332 t321 t322 t323) else (none))) = some (r1, r2, r3, r4) := qH
       have Ny340 := Aside0.mk hy_
       clear hy_
       have c18b0 := eq_true (of_decide_eq_true Q0 : 0 ≤ t330)
       have c19b0 := eq_true (of_decide_eq_true Q0 : t330 ≤ (x6_1.length : Int))
       obtain ⟨y343, hy_⟩ : ∃ y_ : List Int, y_ = ((x6_1.drop (t330 : Int).toNat)) := ⟨_, rfl⟩
       replace H : (if y340.length + y343.length < 17592186044416 then (spec_DrawOrderRows.l0 k1 (y340 ++ y343) (wrap64 (x7_1 + 1)) l0 t331 t332 t321 t322 t323) else (none)) = some (r1, r2, r3, r4) := qH
       have Ny343 := Aside0.mk hy_
       clear hy_
       by_cases c20 : y340.length + y343.length < 17592186044416
       ·
        rw [if_pos c20] at H
        have LMc20 := Aside0.mk c20
        clear c20
        obtain ⟨y347, hy_⟩ : ∃ y_ : List Int, y_ = ((y340 ++ y343)) := ⟨_, rfl⟩
        replace H : (spec_DrawOrderRows.l0 k1 y347 (wrap64 (x7_1 + 1)) l0 t331 t332 t321 t322 t323) = some (r1, r2, r3, r4) := qH
        have Ny347 := Aside0.mk hy_
        clear hy_
        have H' := Aside0.mk H
        clear H
        have bq4 := Nq14.out
        have cq4 := Nq11.out
        have bq5 := Nq15.out
        have cq5 := Nq13.out
        obtain ⟨zq24, zq25, zq26, fq24, fq25, fq26⟩ := qd BK328
        go_wp2_with (first | ((with_reducible refine gate_callee (f := 39) rfl ?_); refine qg (some 18) Tryd.func39 #[.int .i64 t321, .int .i64 8] ?_; (with_reducible refine (spec_l1Least.calls t321 8 t329 _ A11.out).mono ?_); rintro e w' ⟨rfl, ⟨nd, rfl⟩⟩; refine ⟨_, rfl, ?_⟩) | ((with_reducible refine gate_callee (f := 40) rfl ?_); refine qg (some 25) Tryd.func40 #[.pointer (some ⟨gb320, 0, none⟩), .int .i64 (wrap64 (x7_1 + 1))] ?_; (with_reducible refine (spec_l1Cur_pick.calls gb320 l0 x321001_1 x321002_1 (wrap64 (x7_1 + 1)) t330 t331 t332 w _ ?side1 ?side2 A13.out).mono ?_); (case side1 => exact qi); (case side2 => exact qc); rintro e w24 ⟨rfl, hi, hb, hk⟩; refine ⟨_, rfl, ?_⟩; replace Oq9 := qR Oq9 hk; replace Oq8 := qR Oq8 hk; replace BK319 := qK BK319 hk Nq10; replace BK328 := qK BK328 hk Nq15; replace HB := am hb; replace HI320 := am hi; (try clear hb hk hi); obtain ⟨Ao26, co26, eo26⟩ := Kd.R_slice Oq9.out; subst eo26; have q25 : (t330 : Int) ≤ ((x6_1.length : Int) : Int) := of_decide_eq_true Q0; obtain ⟨i025, hi025, _, hsz25, _⟩ := info_parts info3; have hroom25 : x6_1.length ≤ co26 := (Kd.R_reads' Oq9.out).2.1; have hC25 : Kd.C (Kd.int .i64) _ Ao26 x6_1.length x6_1 := (Kd.R_reads' Oq9.out).2.2; have hcut25 := cut_to (P := Tryd.prog) 24 3 .i64 Tryd.underlying24 hi025 Ao26 x6_1.length co26 t330 (of_decide_eq_true Q0) q25 hroom25; have hr25 := Kd.C_take (m := (t330 : Int).toNat) hC25 (by omega); have hy25 : y333.length = (t330 : Int).toNat := (by rw [Ny333.out, List.length_take]; omega); rw [← Ny333.out] at hr25; rw [← hy25] at hcut25; have HR336 := Aside0.mk hr25; have HC336 := am (show y333.length ≤ co26 from by omega); clear hr25 hC25 hroom25 hi025 hsz25; have KY25 := Aside0.mk hy25; clear hy25; have KL25 := am (show (t330 : Int).toNat ≤ x6_1.length from by omega); replace q25 := eq_true q25) | ((with_reducible refine gate_callee (f := 41) rfl ?_); refine qg (some 29) Tryd.func41 #[.slice Ao26 y333.length co26] ?_; (with_reducible refine (spec_l1Own.calls _ _ y333 t337 _ ?side1 HC336.out A16.out).mono ?_); (case side1 => repeat (first | exact (by repeat (first | (with_reducible exact HR336.out) | (with_reducible first | refine Kd.C_alloc ?_ _ | refine Kd.C_drewN ?_ _ | refine Kd.C_drew ?_) | exact HR336.out)) | (with_reducible first | refine Kd.C_alloc ?_ _ | refine Kd.C_drewN ?_ _ | refine Kd.C_drew ?_))); rintro e w27 ⟨v338, rfl, ho0, hb⟩; refine ⟨_, rfl, ?_⟩; have Oq3 := am (Kd.R_lower (Kd.R_new' (Kd.R_new' ho0 (sqL Oq9)) (sqL Oq8)) (below_size qc)); replace Oq9 := sqE Oq9 ho0 hb; replace Oq8 := sqE Oq8 ho0 hb; replace BK319 := sqB BK319 hb; replace BK328 := sqB BK328 hb; replace HR336 := qC HR336 hb; replace HB := qt hb; replace HI320 := qj hb; (try clear hb ho0)) | ((with_reducible refine gate_builtin (b := .append) (xs := #[.tmp 29, .tmp 31]) rfl ?_); at_builtin; refine Kd.R_append (Kd.int .i64) (w0 := w) w.heap.size rfl (.tmp 29) (.tmp 31) 24 3 (.int .i64 0) 8 rfl Tryd.underlying24 info3 rfl (by decide) (by omega) v338 t337 x7_1 [.int .i64 x7_1] (fun k_ => some k_ ≠ (.slice Ao26 x6_1.length co26 : Value).ownBlock ∧ some k_ ≠ (.slice Ao10 t323.length co10 : Value).ownBlock) (fun _ => False) rfl rfl ?aP (fun _ hk => hk.elim) ?aF ?aO ?aB ?aS ?aL ?_; (case aP => exact rfl); (case aB => exact qc); (case aF => exact (fun k_ hk => ⟨Kd.fresh' (sqL Oq9) k_ hk, Kd.fresh' (sqL Oq8) k_ hk⟩)); (case aO => exact (by exact sqm Oq3 (fun _ hk => ⟨hk.1.2, hk.2⟩))); (case aS => exact (below_size qc)); (case aL => have := LMc17.out; omega); intro v341 w28 ho hb hg hat; rw [← Ny340.out] at ho; have Oq4 := am (ho); replace Oq8 := am (Kd.R_after (ok := (fun k_ => some k_ ≠ (.slice Ao26 x6_1.length co26 : Value).ownBlock)) (sqr Oq8) hg hat); replace BK319 := am (blk_grown (g := gb319) (o := .cells #[.int .i64 0, .int .i64 0, .slice none 0 0] 26 (0, 0)) (sqb BK319) hg (Kd.R_ne Oq3.out BK319.out (by decide))); replace BK328 := am (blk_grown (g := gb328) (o := .cells #[.int .i64 t321, .int .i64 t322, .slice Ao10 t323.length co10] 26 (0, 0)) (sqb BK328) hg (Kd.R_ne Oq3.out BK328.out (by decide))); replace HI320 := am (IsS57.grown qi hg (IsS57.own_ne HI320.out Oq3.out (by decide))); replace HB := am hb; replace HR336 := am ((show Kd.C (Kd.int .i64) w28 Ao26 y333.length y333 from by rw [Ny333.out]; exact Kd.C_take (m := (t330 : Int).toNat) ((Kd.R_reads' (Kd.R_after (ok := (fun k_ => some k_ ≠ (.slice Ao10 t323.length co10 : Value).ownBlock)) (sqr Oq9) hg hat)).2.2) KL25.out)); replace Oq9 := am (Kd.R_after (ok := (fun k_ => some k_ ≠ (.slice Ao10 t323.length co10 : Value).ownBlock)) (sqr Oq9) hg hat); clear Oq3; clear ho hb hg hat; have q29 : (t330 : Int) ≤ ((x6_1.length : Int) : Int) := of_decide_eq_true Q0; obtain ⟨i029, hi029, _, hsz29, _⟩ := info_parts info3; have hroom29 : x6_1.length ≤ co26 := (Kd.R_reads' Oq9.out).2.1; have hC29 : Kd.C (Kd.int .i64) _ Ao26 x6_1.length x6_1 := (Kd.R_reads' Oq9.out).2.2; have q029 : (0 : Int) ≤ (t330 : Int) := of_decide_eq_true Q0; have hcut29 := cut_from (P := Tryd.prog) 24 3 .i64 Tryd.underlying24 hi029 1 hsz29 Ao26 x6_1.length co26 t330 q029 q29; have hr29 := Kd.C_drop (m := (t330 : Int).toNat) (c := co26) hC29 (by omega) hroom29; obtain ⟨A29, hA29⟩ : ∃ A1, A1 = (if co26 = (t330 : Int).toNat then Ao26 else (Ao26 : Option Addr).map (·.add ((t330 : Int).toNat * 1))) := ⟨_, rfl⟩; obtain ⟨c29, hc29⟩ : ∃ c1, c1 = co26 - (t330 : Int).toNat := ⟨_, rfl⟩; have hy29 : y343.length = x6_1.length - (t330 : Int).toNat := (by rw [Ny343.out, List.length_drop] <;> omega); rw [show (x6_1).drop (t330 : Int).toNat = y343 from Ny343.out.symm] at hr29; replace hr29 : Kd.C (Kd.int .i64) _ A29 y343.length y343 := (by rw [hA29]; exact hr29); rw [← hy29, ← hA29, ← hc29] at hcut29; have HR346 := Aside0.mk hr29; have HC346 := am (show y343.length ≤ c29 from by rw [hy29, hc29]; exact Nat.sub_le_sub_right hroom29 _); clear hr29 hC29 hroom29 hi029 hsz29 hc29; have KY29 := Aside0.mk hy29; have KA29 := Aside0.mk hA29; clear hy29 hA29; have KL29 := am (show (t330 : Int).toNat ≤ x6_1.length from by omega); replace q29 := eq_true q29) | ((with_reducible refine gate_builtin (b := .append) (xs := #[.tmp 33, .tmp 36]) rfl ?_); at_builtin; refine Kd.R_append_rows (Kd.int .i64) (w0 := w) w.heap.size rfl (.tmp 33) (.tmp 36) 24 3 (.int .i64 0) 8 rfl Tryd.underlying24 info3 rfl (by decide) (by omega) v341 y340 y343 _ _ _ (fun k_ => some k_ ≠ (.slice Ao26 x6_1.length co26 : Value).ownBlock ∧ some k_ ≠ (.slice Ao10 t323.length co10 : Value).ownBlock) (fun _ => False) rfl rfl ?aO ?aR (fun _ _ h => h) (fun _ h => h.elim) ?aF ?aB ?aS ?aL ?_; (case aR => repeat (first | exact (by repeat (first | (with_reducible exact HR346.out) | (with_reducible first | refine Kd.C_alloc ?_ _ | refine Kd.C_drewN ?_ _ | refine Kd.C_drew ?_) | exact HR346.out)) | (with_reducible first | refine Kd.C_alloc ?_ _ | refine Kd.C_drewN ?_ _ | refine Kd.C_drew ?_))); (case aB => exact qc); (case aF => exact (fun k_ hk => ⟨Kd.fresh' (sqL Oq9) k_ hk, Kd.fresh' (sqL Oq8) k_ hk⟩)); (case aO => exact (sqr Oq4)); (case aS => exact (below_size qc)); (case aL => have := LMc20.out; omega); intro v348 w30 ho hb hg hat; rw [← Ny347.out] at ho; have Oq5 := am (ho); replace Oq8 := am (Kd.R_after (ok := (fun k_ => some k_ ≠ (.slice Ao26 x6_1.length co26 : Value).ownBlock)) (sqr Oq8) hg hat); replace BK319 := am (blk_grown (g := gb319) (o := .cells #[.int .i64 0, .int .i64 0, .slice none 0 0] 26 (0, 0)) (sqb BK319) hg (Kd.R_ne Oq4.out BK319.out (by decide))); replace BK328 := am (blk_grown (g := gb328) (o := .cells #[.int .i64 t321, .int .i64 t322, .slice Ao10 t323.length co10] 26 (0, 0)) (sqb BK328) hg (Kd.R_ne Oq4.out BK328.out (by decide))); replace HI320 := am (IsS57.grown qi hg (IsS57.own_ne HI320.out Oq4.out (by decide))); replace HB := am hb; replace HR336 := am ((show Kd.C (Kd.int .i64) w30 Ao26 y333.length y333 from by rw [Ny333.out]; exact Kd.C_take (m := (t330 : Int).toNat) ((Kd.R_reads' (Kd.R_after (ok := (fun k_ => some k_ ≠ (.slice Ao10 t323.length co10 : Value).ownBlock)) (sqr Oq9) hg hat)).2.2) KL25.out)); replace HR346 := am ((show Kd.C (Kd.int .i64) w30 A29 y343.length y343 from by rw [Ny343.out, KA29.out]; exact Kd.C_drop (m := (t330 : Int).toNat) (c := co26) ((Kd.R_reads' (Kd.R_after (ok := (fun k_ => some k_ ≠ (.slice Ao10 t323.length co10 : Value).ownBlock)) (sqr Oq9) hg hat)).2.2) KL29.out ((Kd.R_reads' (Kd.R_after (ok := (fun k_ => some k_ ≠ (.slice Ao10 t323.length co10 : Value).ownBlock)) (sqr Oq9) hg hat)).2.1))); replace Oq9 := am (Kd.R_after (ok := (fun k_ => some k_ ≠ (.slice Ao10 t323.length co10 : Value).ownBlock)) (sqr Oq9) hg hat); clear Oq4; clear ho hb hg hat))
        go_roundg k1
        case measure => have := HK1.out; omega
        case rel => exact ⟨(y347), (wrap64 (x7_1 + 1)), (t331), (t332), Q2, H', ⟨Q61⟩, ⟨by exact sqm Oq5 (fun _ hk => hk.2)⟩, ⟨by exact sqm Oq8 (fun _ hk => hk.2)⟩, ⟨by (with_reducible repeat (first | refine blk_drewN ?_ _ | refine blk_drew ?_ | refine blk_alloc ?_ _)); exact BK319.out⟩, ⟨by (with_reducible repeat (first | refine blk_drewN ?_ _ | refine blk_drew ?_ | refine blk_alloc ?_ _)); exact BK328.out⟩, ⟨qi⟩, ⟨qc⟩⟩
       ·
        rw [if_neg c20] at H
        exact absurd H (by simp)
      ·
       rw [if_neg c17] at H
       exact absurd H (by simp)
     ·
      rw [if_neg c15] at H
      exact absurd H (by simp)
    ·
     rw [if_neg c14] at H
     exact absurd H (by simp)
   ·
    rw [if_neg c12] at H
    have c12b0 : decide (x7_1 < t329) = false := decide_eq_false c12
    clear c12
    replace H := qE H
    obtain ⟨⟨t350, t351, t352⟩, A31, H⟩ := H
    replace H : (if t350 = true then ((spec_l1Cur_pick.f l0 t351 t352 4).bind fun bt353 => (if x6_1.length < 17592186044416 then (some (t321, t322, t323, (x6_1 ++ [wrap64 (bt353.1 - 1)]))) else (none))) else (some (t321, t322, t323, x6_1))) = some (r1, r2, r3, r4) := H
    by_cases c32 : t350 = true
    ·
     subst c32
     have H1 : ((spec_l1Cur_pick.f l0 t351 t352 4).bind fun bt353 => (if x6_1.length < 17592186044416 then (some (t321, t322, t323, (x6_1 ++ [wrap64 (bt353.1 - 1)]))) else (none))) = some (r1, r2, r3, r4) := by first | (rw [if_pos rfl] at H; exact H) | rfl
     clear H
     have H := H1
     clear H1
     replace H := qE H
     obtain ⟨⟨t353, t354, t355⟩, A33, H⟩ := H
     replace H : (if x6_1.length < 17592186044416 then (some (t321, t322, t323, (x6_1 ++ [wrap64 (t353 - 1)]))) else (none)) = some (r1, r2, r3, r4) := H
     by_cases c34 : x6_1.length < 17592186044416
     ·
      rw [if_pos c34] at H
      have LMc34 := Aside0.mk c34
      clear c34
      obtain ⟨y356, hy_⟩ : ∃ y_ : List Int, y_ = ((x6_1 ++ [wrap64 (t353 - 1)])) := ⟨_, rfl⟩
      replace H : (some (t321, t322, t323, y356)) = some (r1, r2, r3, r4) := qH
      have Ny356 := Aside0.mk hy_
      clear hy_
      simp only [Option.some.injEq, Prod.mk.injEq] at H
      obtain ⟨rfl, rfl, rfl, rfl⟩ := H
      have bq8 := Nq14.out
      have cq8 := Nq11.out
      have bq9 := Nq15.out
      have cq9 := Nq13.out
      obtain ⟨zq33, zq34, zq35, fq33, fq34, fq35⟩ := qd BK328
      go_wp2_with (first | ((with_reducible refine gate_callee (f := 39) rfl ?_); refine qg (some 18) Tryd.func39 #[.int .i64 t321, .int .i64 8] ?_; (with_reducible refine (spec_l1Least.calls t321 8 t329 _ A11.out).mono ?_); rintro e w' ⟨rfl, ⟨nd, rfl⟩⟩; refine ⟨_, rfl, ?_⟩; (try (rw [drewN_self wr]; generalize hq_ : World.drewN wr _ = wr; have n0_ : Aside0 (Kd.R (Kd.int .i64) 3 wr w.heap.size (fun k_ => some k_ ≠ (u6 : Value).ownBlock) (.slice Ao10 t323.length co10) t323) := ⟨by rw [← hq_]; exact (sqr Oq8)⟩; have n1_ : Aside0 (Kd.R (Kd.int .i64) 3 wr w.heap.size (fun k_ => some k_ ≠ (.slice Ao10 t323.length co10 : Value).ownBlock) u6 x6_1) := ⟨by rw [← hq_]; exact (sqr Oq9)⟩; have n2_ : Aside0 (wr.heap[gb319]? = some (.cells #[.int .i64 0, .int .i64 0, .slice none 0 0] 26 (0, 0))) := ⟨by rw [← hq_]; exact (sqb BK319)⟩; have n3_ : Aside0 (wr.heap[gb328]? = some (.cells #[.int .i64 t321, .int .i64 t322, .slice Ao10 t323.length co10] 26 (0, 0))) := ⟨by rw [← hq_]; exact (sqb BK328)⟩; have n4_ : Aside0 (IsS57 w wr gb320 l0 x321001_1 x321002_1) := ⟨by rw [← hq_]; exact qi⟩; have n5_ : Aside0 (Below w.heap.size w wr) := ⟨by rw [← hq_]; exact qc⟩; clear Oq8 Oq9 BK319 BK328 HI320 HB hq_; have Oq8 := n0_; have Oq9 := n1_; have BK319 := n2_; have BK328 := n3_; have HI320 := n4_; have HB := n5_; clear n0_ n1_ n2_ n3_ n4_ n5_))) | ((with_reducible refine gate_callee (f := 42) rfl ?_); refine qg (some 39) Tryd.func42 #[.pointer (some ⟨gb320, 0, none⟩), .int .i64 10] ?_; (with_reducible refine (spec_l1Cur_one.calls gb320 l0 x321001_1 x321002_1 10 true t351 t352 w _ ?side1 ?side2 A31.out).mono ?_); (case side1 => exact qi); (case side2 => exact qc); rintro e w38 ⟨rfl, hi, hb, hk⟩; refine ⟨_, rfl, ?_⟩; replace Oq9 := qR Oq9 hk; replace Oq8 := qR Oq8 hk; replace BK319 := qK BK319 hk Nq10; replace BK328 := qK BK328 hk Nq15; replace HB := am hb; replace HI320 := am hi; (try clear hb hk hi)) | ((with_reducible refine gate_callee (f := 40) rfl ?_); refine qg (some 42) Tryd.func40 #[.pointer (some ⟨gb320, 0, none⟩), .int .i64 4] ?_; (with_reducible refine (spec_l1Cur_pick.calls gb320 l0 t351 t352 4 t353 t354 t355 w _ ?side1 ?side2 A33.out).mono ?_); (case side1 => exact qi); (case side2 => exact qc); rintro e w39 ⟨rfl, hi, hb, hk⟩; refine ⟨_, rfl, ?_⟩; replace Oq9 := qR Oq9 hk; replace Oq8 := qR Oq8 hk; replace BK319 := qK BK319 hk Nq10; replace BK328 := qK BK328 hk Nq15; replace HB := am hb; replace HI320 := am hi; (try clear hb hk hi)) | ((with_reducible refine gate_builtin (b := .append) (xs := #[.tmp 40, .tmp 44]) rfl ?_); at_builtin; refine Kd.R_append (Kd.int .i64) (w0 := w) w.heap.size rfl (.tmp 40) (.tmp 44) 24 3 (.int .i64 0) 8 rfl Tryd.underlying24 info3 rfl (by decide) (by omega) u6 x6_1 (wrap64 (t353 - 1)) [.int .i64 (wrap64 (t353 - 1))] (fun k_ => some k_ ≠ (.slice Ao10 t323.length co10 : Value).ownBlock) (fun _ => False) rfl rfl ?aP (fun _ hk => hk.elim) ?aF ?aO ?aB ?aS ?aL ?_; (case aP => exact rfl); (case aB => exact qc); (case aF => exact (fun k_ hk => Kd.fresh' (sqL Oq8) k_ hk)); (case aO => exact (sqr Oq9)); (case aS => exact (below_size qc)); (case aL => have := LMc34.out; omega); intro v357 w40 ho hb hg hat; rw [← Ny356.out] at ho; have Oq6 := am (ho); replace Oq8 := am (Kd.R_after (ok := (fun _ => True)) (by exact sqm Oq8 (fun _ hk => ⟨trivial, hk⟩)) hg hat); replace BK319 := am (blk_grown (g := gb319) (o := .cells #[.int .i64 0, .int .i64 0, .slice none 0 0] 26 (0, 0)) (sqb BK319) hg (Kd.R_ne Oq9.out BK319.out (by decide))); replace BK328 := am (blk_grown (g := gb328) (o := .cells #[.int .i64 t321, .int .i64 t322, .slice Ao10 t323.length co10] 26 (0, 0)) (sqb BK328) hg (Kd.R_ne Oq9.out BK328.out (by decide))); replace HI320 := am (IsS57.grown qi hg (IsS57.own_ne HI320.out Oq9.out (by decide))); replace HB := am hb; clear Oq9; clear ho hb hg hat; obtain ⟨zq36, zq37, zq38, fq36, fq37, fq38⟩ := qd BK328; have bq10 := Nq10.out; have cq10 := Nq12.out; obtain ⟨zq39, zq40, zq41, fq39, fq40, fq41⟩ := qd BK319))
      refine bodyPost_ret (results_ct rfl _ _ gb319 26 #[.int .i64 t321, .int .i64 t322, .slice Ao10 t323.length co10] (0, 0) _ rfl Q14 Tryd.underlying26 rfl (by kernel_rfl)) rfl ?_
      exact ⟨_, _, Q1, by (with_reducible repeat (first | apply Kd.R_alloc | apply Kd.R_drewN | apply Kd.R_drew)); exact Kd.R_mono (Kd.R_far (p := ⟨gb319, 2, none⟩) (Kd.R_far (p := ⟨gb319, 1, none⟩) (Kd.R_far (p := ⟨gb319, 0, none⟩) (Kd.R_types Oq8.out BK319.out (by decide)) (fun _ hk => hk.2) (.int .i64 t321)) (fun _ hk => hk.2) (.int .i64 t322)) (fun _ hk => hk.2) (.slice Ao10 t323.length co10)) (fun _ hk => hk.1.2), by (with_reducible repeat (first | apply Kd.R_alloc | apply Kd.R_drewN | apply Kd.R_drew)); exact Kd.R_mono (Kd.R_far (p := ⟨gb319, 2, none⟩) (Kd.R_far (p := ⟨gb319, 1, none⟩) (Kd.R_far (p := ⟨gb319, 0, none⟩) (Kd.R_types Oq6.out BK319.out (by decide)) (fun _ hk => hk.2) (.int .i64 t321)) (fun _ hk => hk.2) (.int .i64 t322)) (fun _ hk => hk.2) (.slice Ao10 t323.length co10)) (fun _ hk => hk.1), qc⟩
     ·
      rw [if_neg c34] at H
      exact absurd H (by simp)
    ·
     replace c32 := Bool.eq_false_iff.mpr c32
     subst c32
     have H1 : (some (t321, t322, t323, x6_1)) = some (r1, r2, r3, r4) := by first | (rw [if_neg (show ¬ (false = true) by decide)] at H; exact H) | rfl
     clear H
     have H := H1
     clear H1
     simp only [Option.some.injEq, Prod.mk.injEq] at H
     obtain ⟨rfl, rfl, rfl, rfl⟩ := H
     have bq11 := Nq14.out
     have cq11 := Nq11.out
     have bq12 := Nq15.out
     have cq12 := Nq13.out
     obtain ⟨zq42, zq43, zq44, fq42, fq43, fq44⟩ := qd BK328
     go_wp2_with (first | ((with_reducible refine gate_callee (f := 39) rfl ?_); refine qg (some 18) Tryd.func39 #[.int .i64 t321, .int .i64 8] ?_; (with_reducible refine (spec_l1Least.calls t321 8 t329 _ A11.out).mono ?_); rintro e w' ⟨rfl, ⟨nd, rfl⟩⟩; refine ⟨_, rfl, ?_⟩; (try (rw [drewN_self wr]; generalize hq_ : World.drewN wr _ = wr; have n0_ : Aside0 (Kd.R (Kd.int .i64) 3 wr w.heap.size (fun k_ => some k_ ≠ (u6 : Value).ownBlock) (.slice Ao10 t323.length co10) t323) := ⟨by rw [← hq_]; exact (sqr Oq8)⟩; have n1_ : Aside0 (Kd.R (Kd.int .i64) 3 wr w.heap.size (fun k_ => some k_ ≠ (.slice Ao10 t323.length co10 : Value).ownBlock) u6 x6_1) := ⟨by rw [← hq_]; exact (sqr Oq9)⟩; have n2_ : Aside0 (wr.heap[gb319]? = some (.cells #[.int .i64 0, .int .i64 0, .slice none 0 0] 26 (0, 0))) := ⟨by rw [← hq_]; exact (sqb BK319)⟩; have n3_ : Aside0 (wr.heap[gb328]? = some (.cells #[.int .i64 t321, .int .i64 t322, .slice Ao10 t323.length co10] 26 (0, 0))) := ⟨by rw [← hq_]; exact (sqb BK328)⟩; have n4_ : Aside0 (IsS57 w wr gb320 l0 x321001_1 x321002_1) := ⟨by rw [← hq_]; exact qi⟩; have n5_ : Aside0 (Below w.heap.size w wr) := ⟨by rw [← hq_]; exact qc⟩; clear Oq8 Oq9 BK319 BK328 HI320 HB hq_; have Oq8 := n0_; have Oq9 := n1_; have BK319 := n2_; have BK328 := n3_; have HI320 := n4_; have HB := n5_; clear n0_ n1_ n2_ n3_ n4_ n5_))) | ((with_reducible refine gate_callee (f := 42) rfl ?_); refine qg (some 39) Tryd.func42 #[.pointer (some ⟨gb320, 0, none⟩), .int .i64 10] ?_; (with_reducible refine (spec_l1Cur_one.calls gb320 l0 x321001_1 x321002_1 10 false t351 t352 w _ ?side1 ?side2 A31.out).mono ?_); (case side1 => exact qi); (case side2 => exact qc); rintro e w47 ⟨rfl, hi, hb, hk⟩; refine ⟨_, rfl, ?_⟩; replace Oq9 := qR Oq9 hk; replace Oq8 := qR Oq8 hk; replace BK319 := qK BK319 hk Nq10; replace BK328 := qK BK328 hk Nq15; replace HB := am hb; replace HI320 := am hi; (try clear hb hk hi); obtain ⟨zq45, zq46, zq47, fq45, fq46, fq47⟩ := qd BK328; have bq13 := Nq10.out; have cq13 := Nq12.out; obtain ⟨zq48, zq49, zq50, fq48, fq49, fq50⟩ := qd BK319))
     refine bodyPost_ret (results_ct rfl _ _ gb319 26 #[.int .i64 t321, .int .i64 t322, .slice Ao10 t323.length co10] (0, 0) _ rfl Q14 Tryd.underlying26 rfl (by kernel_rfl)) rfl ?_
     exact ⟨_, _, Q1, by (with_reducible repeat (first | apply Kd.R_alloc | apply Kd.R_drewN | apply Kd.R_drew)); exact Kd.R_mono (Kd.R_far (p := ⟨gb319, 2, none⟩) (Kd.R_far (p := ⟨gb319, 1, none⟩) (Kd.R_far (p := ⟨gb319, 0, none⟩) (Kd.R_types Oq8.out BK319.out (by decide)) (fun _ hk => hk.2) (.int .i64 t321)) (fun _ hk => hk.2) (.int .i64 t322)) (fun _ hk => hk.2) (.slice Ao10 t323.length co10)) (fun _ hk => hk.1), by (with_reducible repeat (first | apply Kd.R_alloc | apply Kd.R_drewN | apply Kd.R_drew)); exact Kd.R_mono (Kd.R_far (p := ⟨gb319, 2, none⟩) (Kd.R_far (p := ⟨gb319, 1, none⟩) (Kd.R_far (p := ⟨gb319, 0, none⟩) (Kd.R_types Oq9.out BK319.out (by decide)) (fun _ hk => hk.2) (.int .i64 t321)) (fun _ hk => hk.2) (.int .i64 t322)) (fun _ hk => hk.2) (.slice Ao10 t323.length co10)) (fun _ hk => hk.1), qc⟩

end Go.Proofs.YtllhofdgbpnkkaaDoor.PFnBoardsTurned
