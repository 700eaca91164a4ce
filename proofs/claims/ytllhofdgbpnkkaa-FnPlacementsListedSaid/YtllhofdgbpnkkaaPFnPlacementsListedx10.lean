-- Printed for this claim by wip/pp.py over the kit's printer; Lean checks it.
import Derived.Test.YtllhofdgbpnkkaaPFnPlacementsListedx0
import Derived.Test.YtllhofdgbpnkkaaPFnPlacementsListedx1
import Derived.Test.YtllhofdgbpnkkaaPFnPlacementsListedx2
import Derived.Test.YtllhofdgbpnkkaaPFnPlacementsListedx4
import Derived.Test.YtllhofdgbpnkkaaPFnPlacementsListedx5
import Derived.Test.YtllhofdgbpnkkaaPFnPlacementsListedx7
import Derived.Test.YtllhofdgbpnkkaaPFnPlacementsListedx8
import Derived.Test.YtllhofdgbpnkkaaPFnPlacementsListedx9
namespace Go.Proofs.Ytllhofdgbpnkkaa.PFnPlacementsListed
open Go.RowKit Go.Proofs.YtllhofdgbpnkkaaW.PrintWords Go.Proofs.YtllhofdgbpnkkaaW.PrintLast Go.Proofs.YtllhofdgbpnkkaaW.PrintMore
attribute [local go_sem] max2_int min2_int max_two min_two max_three min_three max_four min_four   -- for this text's walks alone
set_option linter.unusedVariables false
set_option linter.unusedSimpArgs false

/-! ### spec_PlacementWith: function 38 -/
def spec_PlacementWith.f (k : Nat) (a0_0 : Int) (a0_1 : Int) (l0_2 : List Int) (a1 : Int) (a2 : Int) : Option (List Int × Bool) := (spec_roAsked.f k a0_0 a0_1 l0_2 a1).bind fun t336 => (if t336 = true then ((spec_roOf.f k a0_0 a0_1 l0_2 a1).bind fun t337 => ((spec_l1In.f a2 0 (wrap64 (t337 - 1))).bind fun t338 => (if t338 = true then ((spec_roAll.f k a0_0 a0_1 l0_2 ([] : List Int) a1 (wrap64 (a2 + 1))).bind fun t339 => (if 0 ≤ a2 then (if a2 < (t339.length : Int) then (some (rd_L2 t339 a2, true)) else (none)) else (none))) else (some (([] : List Int), false))))) else (some (([] : List Int), false)))
set_option maxHeartbeats 8000000 in
set_option maxRecDepth 100000 in
theorem spec_PlacementWith.calls (k : Nat) (a0_0 : Int) (a0_1 : Int) (A0_2 : Option Addr) (c0_2 : Nat) (l0_2 : List Int) (a1 : Int) (a2 : Int) (r1 : List Int) (r2 : Bool) (w : World) (hr0_2 : Kd.C (Kd.int .i64) w A0_2 l0_2.length l0_2) (hc0_2 : l0_2.length ≤ c0_2) (h : spec_PlacementWith.f k a0_0 a0_1 l0_2 a1 a2 = some (r1, r2)) :
  Calls Try.prog 38 #[.agg #[.int .i64 a0_0, .int .i64 a0_1, .slice A0_2 l0_2.length c0_2], .int .i64 a1, .int .i64 a2] w fun e w' => ∃ v0_ : Value, e = .returned (.tuple #[v0_, .bool r2]) ∧ Kd.V (Kd.int .i64) 3 w' w.heap.size (fun k_ => (w.heap.size ≤ k_)) v0_ r1 ∧ Below w.heap.size w w' := by
 have hu26 := Try.underlying26
 have HR0_2 := Aside0.mk hr0_2
 have HC0_2 := Aside0.mk hc0_2
 clear hr0_2 hc0_2
 have HB := am (Below.refl w.heap.size w)
 have H : ((spec_roAsked.f k a0_0 a0_1 l0_2 a1).bind fun t336 => (if t336 = true then ((spec_roOf.f k a0_0 a0_1 l0_2 a1).bind fun t337 => ((spec_l1In.f a2 0 (wrap64 (t337 - 1))).bind fun t338 => (if t338 = true then ((spec_roAll.f k a0_0 a0_1 l0_2 ([] : List Int) a1 (wrap64 (a2 + 1))).bind fun t339 => (if 0 ≤ a2 then (if a2 < (t339.length : Int) then (some (rd_L2 t339 a2, true)) else (none)) else (none))) else (some (([] : List Int), false))))) else (some (([] : List Int), false)))) = some (r1, r2) := h
 clear h
 replace H := qE H
 obtain ⟨t336, A4, H⟩ := H
 replace H : (if t336 = true then ((spec_roOf.f k a0_0 a0_1 l0_2 a1).bind fun t337 => ((spec_l1In.f a2 0 (wrap64 (t337 - 1))).bind fun t338 => (if t338 = true then ((spec_roAll.f k a0_0 a0_1 l0_2 ([] : List Int) a1 (wrap64 (a2 + 1))).bind fun t339 => (if 0 ≤ a2 then (if a2 < (t339.length : Int) then (some (rd_L2 t339 a2, true)) else (none)) else (none))) else (some (([] : List Int), false))))) else (some (([] : List Int), false))) = some (r1, r2) := H
 by_cases c5 : t336 = true
 ·
  subst c5
  have H1 : ((spec_roOf.f k a0_0 a0_1 l0_2 a1).bind fun t337 => ((spec_l1In.f a2 0 (wrap64 (t337 - 1))).bind fun t338 => (if t338 = true then ((spec_roAll.f k a0_0 a0_1 l0_2 ([] : List Int) a1 (wrap64 (a2 + 1))).bind fun t339 => (if 0 ≤ a2 then (if a2 < (t339.length : Int) then (some (rd_L2 t339 a2, true)) else (none)) else (none))) else (some (([] : List Int), false))))) = some (r1, r2) := by first | (rw [if_pos rfl] at H; exact H) | rfl
  clear H
  have H := H1
  clear H1
  replace H := qE H
  obtain ⟨t337, A6, H⟩ := H
  replace H : ((spec_l1In.f a2 0 (wrap64 (t337 - 1))).bind fun t338 => (if t338 = true then ((spec_roAll.f k a0_0 a0_1 l0_2 ([] : List Int) a1 (wrap64 (a2 + 1))).bind fun t339 => (if 0 ≤ a2 then (if a2 < (t339.length : Int) then (some (rd_L2 t339 a2, true)) else (none)) else (none))) else (some (([] : List Int), false)))) = some (r1, r2) := H
  replace H := qE H
  obtain ⟨t338, A7, H⟩ := H
  replace H : (if t338 = true then ((spec_roAll.f k a0_0 a0_1 l0_2 ([] : List Int) a1 (wrap64 (a2 + 1))).bind fun t339 => (if 0 ≤ a2 then (if a2 < (t339.length : Int) then (some (rd_L2 t339 a2, true)) else (none)) else (none))) else (some (([] : List Int), false))) = some (r1, r2) := H
  by_cases c8 : t338 = true
  ·
   subst c8
   have H1 : ((spec_roAll.f k a0_0 a0_1 l0_2 ([] : List Int) a1 (wrap64 (a2 + 1))).bind fun t339 => (if 0 ≤ a2 then (if a2 < (t339.length : Int) then (some (rd_L2 t339 a2, true)) else (none)) else (none))) = some (r1, r2) := by first | (rw [if_pos rfl] at H; exact H) | rfl
   clear H
   have H := H1
   clear H1
   replace H := qE H
   obtain ⟨t339, A9, H⟩ := H
   replace H : (if 0 ≤ a2 then (if a2 < (t339.length : Int) then (some (rd_L2 t339 a2, true)) else (none)) else (none)) = some (r1, r2) := H
   by_cases c10 : 0 ≤ a2
   ·
    rw [if_pos c10] at H
    have c10b0 : decide (0 ≤ a2) = true := decide_eq_true c10
    clear c10
    by_cases c11 : a2 < (t339.length : Int)
    ·
     rw [if_pos c11] at H
     have c11b0 : decide (a2 < (t339.length : Int)) = true := decide_eq_true c11
     clear c11
     simp only [Option.some.injEq, Prod.mk.injEq] at H
     obtain ⟨rfl, rfl⟩ := H
     go_enter Try.func38, Try.ntmps38
     go_wp2_with (first | ((with_reducible refine gate_dst (N := 3) rfl ?_); refine qv 3 #[.int .i64 a0_0, .int .i64 a0_1, .slice A0_2 l0_2.length c0_2] 26 ?_; intro gb335 hg w12 hbox hb; have BK335 := am hbox; have GW335 := qw hg; have GE335 := qw hg; replace HB := qs hb; clear hb hbox hg; obtain ⟨zq3, zq4, zq5, fq3, fq4, fq5⟩ := qd BK335) | ((with_reducible refine gate_callee (f := 101) rfl ?_); refine qg (some 10) Try.func101 #[.agg #[.int .i64 a0_0, .int .i64 a0_1, .slice A0_2 l0_2.length c0_2], .int .i64 a1] ?_; (with_reducible refine (spec_roAsked.calls k a0_0 a0_1 _ _ l0_2 a1 true _ ?side1 HC0_2.out A4.out).mono ?_); (case side1 => exact Q0); rintro e w14 ⟨rfl, hb⟩; refine ⟨_, rfl, ?_⟩; replace BK335 := sqB BK335 hb; replace HB := qs hb; (try clear hb); obtain ⟨zq9, zq10, zq11, fq9, fq10, fq11⟩ := qd BK335) | (go_at_call 102; (with_reducible refine (spec_roOf.calls k a0_0 a0_1 _ _ l0_2 a1 t337 _ ?side1 HC0_2.out A6.out).mono ?_); (case side1 => exact Q0); rintro e w16 ⟨rfl, hb⟩; replace BK335 := sqB BK335 hb; replace HB := qs hb; (try clear hb)) | (go_at_call 104; (with_reducible refine (spec_l1In.calls a2 0 (wrap64 (t337 - 1)) true _ A7.out).mono ?_); rintro e w' ⟨rfl, ⟨nd, rfl⟩⟩; obtain ⟨zq15, zq16, zq17, fq15, fq16, fq17⟩ := qd BK335) | ((with_reducible refine gate_callee (f := 105) rfl ?_); refine qg (some 25) Try.func105 #[.agg #[.int .i64 a0_0, .int .i64 a0_1, .slice A0_2 l0_2.length c0_2], .slice none 0 0, .int .i64 a1, .int .i64 (wrap64 (a2 + 1))] ?_; (refine (spec_roAll.calls k a0_0 a0_1 _ _ l0_2 _ _ ([] : List Int) a1 (wrap64 (a2 + 1)) t339 _ ?side1 ?side2 ?side3 ?side4 A9.out).mono ?_); (case side1 => exact Q18); (case side2 => exact HC0_2.out); (case side3 => exact Kd.C_nil _ _); (case side4 => exact Nat.le_refl _); rintro e w18 ⟨v340, rfl, ho0, hb⟩; refine ⟨_, rfl, ?_⟩; have Oq0 := am (Kd.N_lower (Kd.N_mono (ok' := fun k_ => (w.heap.size ≤ k_) ∧ k_ ≠ gb335) ho0 (fun k_ hk_ => ⟨(Nat.le_trans (below_size qb) hk_), (Kd.freshB (g := gb335) (o := .cells #[.int .i64 a0_0, .int .i64 a0_1, .slice A0_2 l0_2.length c0_2] 26 (0, 0)) (sqb BK335) k_ hk_)⟩)) (below_size qb)); replace BK335 := sqB BK335 hb; replace HB := qs hb; (try clear hb ho0); obtain ⟨Ao19, co19, eo19⟩ := Kd.N_slice Oq0.out; subst eo19; have p342 : 0 ≤ (a2 : Int) := of_decide_eq_true Q1; have q342 : a2 < (t339.length : Int) := of_decide_eq_true Q1; obtain ⟨ad342, A342_0, c342_0, e342, hx342_0, hl342_0, hi342_0⟩ := at_L2 (Kd.N_reads' Oq0.out).2.2 a2 p342 q342; cases e342; obtain ⟨ce342, hce342, hMe342, hcc342⟩ := Kd.N_get Oq0.out [] a2 p342 (by first | exact q342 | exact of_decide_eq_true Q1 | (have e_ := (Kd.N_reads' Oq0.out).1; omega)); obtain ⟨ua342_0, uc342_0, rfl, ul342_0, ge342_0⟩ := Kd.FK_slice_open hMe342; have hv342_0 := hcc342 0 _ rfl; rw [Nat.add_zero, show ((Kd.slice 3 (Kd.int .i64))).sz = 1 from rfl, Nat.mul_one] at hv342_0; replace hv342_0 := Option.some.inj (hv342_0.symm.trans hx342_0); injection hv342_0 with hva_ hvn_ hvc_; rw [hva_] at ge342_0; rw [hvc_] at ul342_0; have HL342_0 := am (show Kd.V (Kd.int .i64) 3 _ w.heap.size _ _ (rd_L2 t339 a2) from Kd.V_mk ul342_0 ge342_0); clear hva_ hvn_ hvc_ ge342_0 ul342_0; clear hcc342 hce342; have HR342_0 := Aside0.mk hi342_0; have HC342_0 := Aside0.mk hl342_0; clear hi342_0 hl342_0; replace p342 := eq_true p342; replace q342 := eq_true q342))
     go_ret2
     exact ⟨_, Q2, by (with_reducible repeat (first | apply Kd.V_alloc | apply Kd.V_drewN | apply Kd.V_drew)); exact Kd.V_mono HL342_0.out (fun _ hk => hk.1.1), qb⟩
    ·
     rw [if_neg c11] at H
     exact absurd H (by simp)
   ·
    rw [if_neg c10] at H
    exact absurd H (by simp)
  ·
   replace c8 := Bool.eq_false_iff.mpr c8
   subst c8
   have H1 : (some (([] : List Int), false)) = some (r1, r2) := by first | (rw [if_neg (show ¬ (false = true) by decide)] at H; exact H) | rfl
   clear H
   have H := H1
   clear H1
   simp only [Option.some.injEq, Prod.mk.injEq] at H
   obtain ⟨rfl, rfl⟩ := H
   go_enter Try.func38, Try.ntmps38
   go_wp2_with (first | ((with_reducible refine gate_dst (N := 3) rfl ?_); refine qv 3 #[.int .i64 a0_0, .int .i64 a0_1, .slice A0_2 l0_2.length c0_2] 26 ?_; intro gb335 hg w20 hbox hb; have BK335 := am hbox; have GW335 := qw hg; have GE335 := qw hg; replace HB := qs hb; clear hb hbox hg; obtain ⟨zq21, zq22, zq23, fq21, fq22, fq23⟩ := qd BK335) | ((with_reducible refine gate_callee (f := 101) rfl ?_); refine qg (some 10) Try.func101 #[.agg #[.int .i64 a0_0, .int .i64 a0_1, .slice A0_2 l0_2.length c0_2], .int .i64 a1] ?_; (with_reducible refine (spec_roAsked.calls k a0_0 a0_1 _ _ l0_2 a1 true _ ?side1 HC0_2.out A4.out).mono ?_); (case side1 => exact Q0); rintro e w22 ⟨rfl, hb⟩; refine ⟨_, rfl, ?_⟩; replace BK335 := sqB BK335 hb; replace HB := qs hb; (try clear hb); obtain ⟨zq24, zq25, zq26, fq24, fq25, fq26⟩ := qd BK335) | (go_at_call 102; (with_reducible refine (spec_roOf.calls k a0_0 a0_1 _ _ l0_2 a1 t337 _ ?side1 HC0_2.out A6.out).mono ?_); (case side1 => exact Q0); rintro e w24 ⟨rfl, hb⟩; replace BK335 := sqB BK335 hb; replace HB := qs hb; (try clear hb)) | (go_at_call 104; (with_reducible refine (spec_l1In.calls a2 0 (wrap64 (t337 - 1)) false _ A7.out).mono ?_); rintro e w' ⟨rfl, ⟨nd, rfl⟩⟩))
   go_ret2
   exact ⟨_, Q2, Kd.R_V (base := w.heap.size) Q14, qb⟩
 ·
  replace c5 := Bool.eq_false_iff.mpr c5
  subst c5
  have H1 : (some (([] : List Int), false)) = some (r1, r2) := by first | (rw [if_neg (show ¬ (false = true) by decide)] at H; exact H) | rfl
  clear H
  have H := H1
  clear H1
  simp only [Option.some.injEq, Prod.mk.injEq] at H
  obtain ⟨rfl, rfl⟩ := H
  go_enter Try.func38, Try.ntmps38
  go_wp2_with (first | ((with_reducible refine gate_dst (N := 3) rfl ?_); refine qv 3 #[.int .i64 a0_0, .int .i64 a0_1, .slice A0_2 l0_2.length c0_2] 26 ?_; intro gb335 hg w25 hbox hb; have BK335 := am hbox; have GW335 := qw hg; have GE335 := qw hg; replace HB := qs hb; clear hb hbox hg; obtain ⟨zq27, zq28, zq29, fq27, fq28, fq29⟩ := qd BK335) | ((with_reducible refine gate_callee (f := 101) rfl ?_); refine qg (some 10) Try.func101 #[.agg #[.int .i64 a0_0, .int .i64 a0_1, .slice A0_2 l0_2.length c0_2], .int .i64 a1] ?_; (with_reducible refine (spec_roAsked.calls k a0_0 a0_1 _ _ l0_2 a1 false _ ?side1 HC0_2.out A4.out).mono ?_); (case side1 => exact Q0); rintro e w27 ⟨rfl, hb⟩; refine ⟨_, rfl, ?_⟩; replace BK335 := sqB BK335 hb; replace HB := qs hb; (try clear hb)))
  go_ret2
  exact ⟨_, Q2, Kd.R_V (base := w.heap.size) Q14, qb⟩

/-! ### spec_DrawPlacementsOf: function 39 -/
def spec_DrawPlacementsOf.f (k : Nat) (l0 : List Int) : Option (Int × Int × List Int × Int) := (spec_l1Cur_board.f k l0 0 0).bind fun bt345 => ((spec_l1Cur_rooks.f l0 bt345.2.2.2.1 bt345.2.2.2.2).bind fun bt352 => (some (bt345.1, bt345.2.1, bt345.2.2.1, bt352.1)))
set_option maxHeartbeats 8000000 in
set_option maxRecDepth 100000 in
theorem spec_DrawPlacementsOf.calls (k : Nat) (A0 : Option Addr) (c0 : Nat) (l0 : List Int) (r1 : Int) (r2 : Int) (r3 : List Int) (r4 : Int) (w : World) (hr0 : Kd.C (Kd.int .u8) w A0 l0.length l0) (hc0 : l0.length ≤ c0) (h : spec_DrawPlacementsOf.f k l0 = some (r1, r2, r3, r4)) :
  Calls Try.prog 39 #[.slice A0 l0.length c0] w fun e w' => ∃ v2_ : Value, e = .returned (.tuple #[.agg #[.int .i64 r1, .int .i64 r2, v2_], .int .i64 r4]) ∧ Kd.R (Kd.int .i64) 3 w' w.heap.size (fun _ => True) v2_ r3 ∧ Below w.heap.size w w' := by
 have hu26 := Try.underlying26
 have hu66 := Try.underlying66
 have HR0 := Aside0.mk hr0
 have HC0 := Aside0.mk hc0
 clear hr0 hc0
 have HB := am (Below.refl w.heap.size w)
 have H : ((spec_l1Cur_board.f k l0 0 0).bind fun bt345 => ((spec_l1Cur_rooks.f l0 bt345.2.2.2.1 bt345.2.2.2.2).bind fun bt352 => (some (bt345.1, bt345.2.1, bt345.2.2.1, bt352.1)))) = some (r1, r2, r3, r4) := h
 clear h
 replace H := qE H
 obtain ⟨⟨t345, t346, t347, t350, t351⟩, A2, H⟩ := H
 replace H : ((spec_l1Cur_rooks.f l0 t350 t351).bind fun bt352 => (some (t345, t346, t347, bt352.1))) = some (r1, r2, r3, r4) := H
 replace H := qE H
 obtain ⟨⟨t352, t353, t354⟩, A3, H⟩ := H
 replace H : (some (t345, t346, t347, t352)) = some (r1, r2, r3, r4) := H
 simp only [Option.some.injEq, Prod.mk.injEq] at H
 obtain ⟨rfl, rfl, rfl, rfl⟩ := H
 go_enter Try.func39, Try.ntmps39
 go_wp2_with (first | ((with_reducible refine gate_dst (N := 2) rfl ?_); refine qv 2 #[.int .i64 0, .int .i64 0, .slice none 0 0] 26 ?_; intro gb343 hg w4 hbox hb; have BK343 := am hbox; have GW343 := qw hg; have GE343 := qw hg; replace HB := qs hb; clear hb hbox hg) | ((with_reducible refine gate_dst (N := 7) rfl ?_); refine qv 7 #[.slice A0 l0.length c0, .int .i64 0, .int .u64 0] 66 ?_; intro gb344 hg w5 hbox hb; have HI344 := am ((show IsS66 w w5 gb344 l0 0 0 from ⟨_, _, hbox, (by rw [hg]; exact (below_size qb) : w.heap.size ≤ gb344), HR0.out⟩)); have GW344 := qw hg; have GE344 := qw hg; have Nq0 := qn hg BK343; have Nq1 := qN hg BK343; replace BK343 := sqB BK343 hb; replace HB := qs hb; clear hb hbox hg) | ((with_reducible refine gate_callee (f := 62) rfl ?_); refine qg (some 9) Try.func62 #[.pointer (some ⟨gb344, 0, none⟩)] ?_; (with_reducible refine (spec_l1Cur_board.calls k gb344 l0 0 0 t345 t346 t347 t350 t351 w _ ?side1 ?side2 A2.out).mono ?_); (case side1 => exact qi); (case side2 => exact qc); rintro e w6 ⟨v348, rfl, ho0, hi, hb, hk⟩; refine ⟨_, rfl, ?_⟩; have Oq1 := qL ho0; replace BK343 := qK BK343 hk Nq0; replace HB := am hb; replace HI344 := am hi; (try clear hb hk hi ho0)) | ((with_reducible refine gate_callee (f := 100) rfl ?_); refine qg (some 11) Try.func100 #[.pointer (some ⟨gb344, 0, none⟩)] ?_; (with_reducible refine (spec_l1Cur_rooks.calls gb344 l0 t350 t351 t352 t353 t354 w _ ?side1 ?side2 A3.out).mono ?_); (case side1 => exact qi); (case side2 => exact qc); rintro e w7 ⟨rfl, hi, hb, hk⟩; refine ⟨_, rfl, ?_⟩; replace BK343 := qK BK343 hk Nq0; replace Oq1 := qR Oq1 hk; replace HB := am hb; replace HI344 := am hi; (try clear hb hk hi); have bq0 := Nq0.out; have cq0 := Nq1.out; obtain ⟨zq33, zq34, zq35, fq33, fq34, fq35⟩ := qd BK343; obtain ⟨Ao10, co10, eo10⟩ := Kd.R_slice Oq1.out; subst eo10))
 refine bodyPost_ret (results_ct rfl _ _ gb343 26 #[.int .i64 t345, .int .i64 t346, .slice Ao10 t347.length co10] (0, 0) _ rfl (by (with_reducible repeat (first | refine blk_drewN ?_ _ | refine blk_drew ?_ | refine blk_alloc ?_ _)); refine blk_put (cs := #[.int .i64 t345, .int .i64 t346, .slice none 0 0]) ?_ 2 _ rfl; (with_reducible repeat (first | refine blk_drewN ?_ _ | refine blk_drew ?_ | refine blk_alloc ?_ _)); refine blk_put (cs := #[.int .i64 t345, .int .i64 0, .slice none 0 0]) ?_ 1 _ rfl; (with_reducible repeat (first | refine blk_drewN ?_ _ | refine blk_drew ?_ | refine blk_alloc ?_ _)); refine blk_put (cs := #[.int .i64 0, .int .i64 0, .slice none 0 0]) ?_ 0 _ rfl; (with_reducible repeat (first | refine blk_drewN ?_ _ | refine blk_drew ?_ | refine blk_alloc ?_ _)); exact BK343.out) Try.underlying26 rfl (by kernel_rfl)) rfl ?_
 exact ⟨_, Q2, by (with_reducible repeat (first | apply Kd.R_alloc | apply Kd.R_drewN | apply Kd.R_drew)); exact Kd.R_mono (Kd.R_far (p := ⟨gb343, 2, none⟩) (Kd.R_far (p := ⟨gb343, 1, none⟩) (Kd.R_far (p := ⟨gb343, 0, none⟩) (Kd.R_types Oq1.out BK343.out (by decide)) (fun _ hk => hk.2) (.int .i64 t345)) (fun _ hk => hk.2) (.int .i64 t346)) (fun _ hk => hk.2) (.slice Ao10 t347.length co10)) (fun _ hk => trivial), qc⟩

/-! ### impl_PlacementsOf: function 40 -/
def impl_PlacementsOf.j0 : Nat → Int → Bool → Int → Int → List Int → Option ((List (List Int)) × Bool)
 | 0, _, _, _, _, _ => none
 | k + 1, x1, x14, x356000, x356001, x356002 => if x14 = true then (some (([] : List (List Int)), false)) else ((impl_Board_with.f x356000 x356001 x356002 x1).bind fun t358 => (if (t358.length : Int) > 500 then (some (([] : List (List Int)), false)) else (some (t358, true))))
def impl_PlacementsOf.f (k : Nat) (a0_0 : Int) (a0_1 : Int) (l0_2 : List Int) (a1 : Int) : Option ((List (List Int)) × Bool) := (impl_IsBoard.f a0_0 a0_1 l0_2).bind fun t356 => (if t356 = true then ((impl_within.f a1 0 6).bind fun t357 => (impl_PlacementsOf.j0 k a1 (!t357) a0_0 a0_1 l0_2)) else (impl_PlacementsOf.j0 k a1 true a0_0 a0_1 l0_2))
set_option maxHeartbeats 8000000 in
set_option maxRecDepth 100000 in
theorem impl_PlacementsOf.calls (k : Nat) (a0_0 : Int) (a0_1 : Int) (A0_2 : Option Addr) (c0_2 : Nat) (l0_2 : List Int) (a1 : Int) (r1 : List (List Int)) (r2 : Bool) (w : World) (hr0_2 : Kd.C (Kd.int .i64) w A0_2 l0_2.length l0_2) (hc0_2 : l0_2.length ≤ c0_2) (h : impl_PlacementsOf.f k a0_0 a0_1 l0_2 a1 = some (r1, r2)) :
  Calls Try.prog 40 #[.agg #[.int .i64 a0_0, .int .i64 a0_1, .slice A0_2 l0_2.length c0_2], .int .i64 a1] w fun e w' => ∃ v0_ : Value, e = .returned (.tuple #[v0_, .bool r2]) ∧ Kd.S (Kd.slice 3 (Kd.int .i64)) 24 w' w.heap.size (fun _ => True) v0_ r1 ∧ Below w.heap.size w w' := by
 have hu26 := Try.underlying26
 have HR0_2 := Aside0.mk hr0_2
 have HC0_2 := Aside0.mk hc0_2
 clear hr0_2 hc0_2
 have HB := am (Below.refl w.heap.size w)
 have H : ((impl_IsBoard.f a0_0 a0_1 l0_2).bind fun t356 => (if t356 = true then ((impl_within.f a1 0 6).bind fun t357 => (impl_PlacementsOf.j0 k a1 (!t357) a0_0 a0_1 l0_2)) else (impl_PlacementsOf.j0 k a1 true a0_0 a0_1 l0_2))) = some (r1, r2) := h
 clear h
 have HC3 := Aside0.mk H
 clear H
 go_enter Try.func40, Try.ntmps40
 go_upto_region 1 with (first | ((with_reducible refine gate_dst (N := 2) rfl ?_); refine qv 2 #[.int .i64 a0_0, .int .i64 a0_1, .slice A0_2 l0_2.length c0_2] 26 ?_; intro gb355 hg w4 hbox hb; have BK355 := am hbox; have GW355 := qw hg; have GE355 := qw hg; replace HB := qs hb; clear hb hbox hg))
 (try simp only [Act.put, List.setIfInBounds_toArray, List.set_cons_zero, List.set_cons_succ])
 go_cut [14] (fun v14 wc => ∃ (kq : Nat) (x14_2 : Bool), v14 = .bool x14_2 ∧ Aside0 (impl_PlacementsOf.j0 kq a1 x14_2 a0_0 a0_1 l0_2 = some (r1, r2)) ∧ Aside0 (kq ≤ k) ∧ Aside0 (wc.heap[gb355]? = some (.cells #[.int .i64 a0_0, .int .i64 a0_1, (.slice A0_2 l0_2.length c0_2)] 26 (0, 0))) ∧ Aside0 (Below w.heap.size w wc))
 case first =>
  have H := HC3.out
  clear HC3
  replace H := qE H
  obtain ⟨t356, A5, H⟩ := H
  replace H : (if t356 = true then ((impl_within.f a1 0 6).bind fun t357 => (impl_PlacementsOf.j0 k a1 (!t357) a0_0 a0_1 l0_2)) else (impl_PlacementsOf.j0 k a1 true a0_0 a0_1 l0_2)) = some (r1, r2) := H
  by_cases c6 : t356 = true
  ·
   subst c6
   have H1 : ((impl_within.f a1 0 6).bind fun t357 => (impl_PlacementsOf.j0 k a1 (!t357) a0_0 a0_1 l0_2)) = some (r1, r2) := by first | (rw [if_pos rfl] at H; exact H) | rfl
   clear H
   have H := H1
   clear H1
   replace H := qE H
   obtain ⟨t357, A7, H⟩ := H
   replace H : (impl_PlacementsOf.j0 k a1 (!t357) a0_0 a0_1 l0_2) = some (r1, r2) := H
   have H' := Aside0.mk H
   clear H
   obtain ⟨zq30, zq31, zq32, fq30, fq31, fq32⟩ := qd BK355
   go_wp2_with (first | ((with_reducible refine gate_callee (f := 66) rfl ?_); refine qg (some 8) Try.func66 #[.agg #[.int .i64 a0_0, .int .i64 a0_1, .slice A0_2 l0_2.length c0_2]] ?_; (with_reducible refine (impl_IsBoard.calls a0_0 a0_1 _ _ l0_2 true _ ?side1 HC0_2.out A5.out).mono ?_); (case side1 => exact Q0); rintro e w9 ⟨rfl, hb⟩; refine ⟨_, rfl, ?_⟩; replace BK355 := sqB BK355 hb; replace HB := qs hb; (try clear hb)) | (go_at_call 79; (with_reducible refine (impl_within.calls a1 0 6 t357 _ A7.out).mono ?_); rintro e w' ⟨rfl, ⟨nd, rfl⟩⟩))
   go_meet
   case rel => exact ⟨_, (!t357), Q3, H', ⟨Q47⟩, ⟨by (with_reducible repeat (first | refine blk_drewN ?_ _ | refine blk_drew ?_ | refine blk_alloc ?_ _)); exact BK355.out⟩, ⟨qb⟩⟩
  ·
   replace c6 := Bool.eq_false_iff.mpr c6
   subst c6
   have H1 : (impl_PlacementsOf.j0 k a1 true a0_0 a0_1 l0_2) = some (r1, r2) := by first | (rw [if_neg (show ¬ (false = true) by decide)] at H; exact H) | rfl
   clear H
   have H := H1
   clear H1
   have H' := Aside0.mk H
   clear H
   obtain ⟨zq0, zq1, zq2, fq0, fq1, fq2⟩ := qd BK355
   go_wp2_with (first | ((with_reducible refine gate_callee (f := 66) rfl ?_); refine qg (some 8) Try.func66 #[.agg #[.int .i64 a0_0, .int .i64 a0_1, .slice A0_2 l0_2.length c0_2]] ?_; (with_reducible refine (impl_IsBoard.calls a0_0 a0_1 _ _ l0_2 false _ ?side1 HC0_2.out A5.out).mono ?_); (case side1 => exact Q0); rintro e w11 ⟨rfl, hb⟩; refine ⟨_, rfl, ?_⟩; replace BK355 := sqB BK355 hb; replace HB := qs hb; (try clear hb)))
   go_meet
   case rel => exact ⟨_, (true), Q3, H', ⟨Q47⟩, ⟨by (with_reducible repeat (first | refine blk_drewN ?_ _ | refine blk_drew ?_ | refine blk_alloc ?_ _)); exact BK355.out⟩, ⟨qb⟩⟩
 case rest =>
  clear HC3
  try clear c6; try clear zq0; try clear zq1; try clear zq2; try clear zq30; try clear zq31; try clear zq32; try clear fq0; try clear fq1; try clear fq2; try clear fq30; try clear fq31; try clear fq32
  obtain ⟨kq, x14_2, rfl, HA, HJ2, BK355, HB⟩ := hcut
  cases kq with
  | zero => exact absurd HA.out (by simp [impl_PlacementsOf.j0])
  | succ kj2 =>
   have H := HA.out
   clear HA
   simp only [impl_PlacementsOf.j0] at H
   by_cases c12 : x14_2 = true
   ·
    subst c12
    have H1 : (some (([] : List (List Int)), false)) = some (r1, r2) := by first | (rw [if_pos rfl] at H; exact H) | rfl
    clear H
    have H := H1
    clear H1
    simp only [Option.some.injEq, Prod.mk.injEq] at H
    obtain ⟨rfl, rfl⟩ := H
    go_wp2
    go_ret2
    exact ⟨_, Q2, Q21, qb⟩
   ·
    replace c12 := Bool.eq_false_iff.mpr c12
    subst c12
    have H1 : ((impl_Board_with.f a0_0 a0_1 l0_2 a1).bind fun t358 => (if (t358.length : Int) > 500 then (some (([] : List (List Int)), false)) else (some (t358, true)))) = some (r1, r2) := by first | (rw [if_neg (show ¬ (false = true) by decide)] at H; exact H) | rfl
    clear H
    have H := H1
    clear H1
    replace H := qE H
    obtain ⟨t358, A13, H⟩ := H
    replace H : (if (t358.length : Int) > 500 then (some (([] : List (List Int)), false)) else (some (t358, true))) = some (r1, r2) := H
    by_cases c14 : (t358.length : Int) > 500
    ·
     rw [if_pos c14] at H
     have c14b0 : decide (500 < (t358.length : Int)) = true := decide_eq_true c14
     have c14b1 : decide (500 < t358.length) = true := decide_eq_true (by omega)
     clear c14
     simp only [Option.some.injEq, Prod.mk.injEq] at H
     obtain ⟨rfl, rfl⟩ := H
     obtain ⟨zq9, zq10, zq11, fq9, fq10, fq11⟩ := qd BK355
     go_wp2_with (first | ((with_reducible refine gate_callee (f := 103) rfl ?_); refine qg (some 17) Try.func103 #[.agg #[.int .i64 a0_0, .int .i64 a0_1, .slice A0_2 l0_2.length c0_2], .int .i64 a1] ?_; (with_reducible refine (impl_Board_with.calls a0_0 a0_1 _ _ l0_2 a1 t358 _ ?side1 HC0_2.out A13.out).mono ?_); (case side1 => exact Q0); rintro e w16 ⟨v359, rfl, ho0, hb⟩; refine ⟨_, rfl, ?_⟩; have Oq2 := am (Kd.S_lower ho0 (below_size qb)); replace BK355 := sqB BK355 hb; replace HB := qs hb; (try clear hb ho0); obtain ⟨Ao17, co17, eo17⟩ := Kd.S_slice Oq2.out; subst eo17))
     go_ret2
     exact ⟨_, Q2, Q21, qb⟩
    ·
     rw [if_neg c14] at H
     have c14b0 : decide (500 < (t358.length : Int)) = false := decide_eq_false c14
     have c14b1 : decide (500 < t358.length) = false := decide_eq_false (by omega)
     clear c14
     simp only [Option.some.injEq, Prod.mk.injEq] at H
     obtain ⟨rfl, rfl⟩ := H
     obtain ⟨zq18, zq19, zq20, fq18, fq19, fq20⟩ := qd BK355
     go_wp2_with (first | ((with_reducible refine gate_callee (f := 103) rfl ?_); refine qg (some 17) Try.func103 #[.agg #[.int .i64 a0_0, .int .i64 a0_1, .slice A0_2 l0_2.length c0_2], .int .i64 a1] ?_; (with_reducible refine (impl_Board_with.calls a0_0 a0_1 _ _ l0_2 a1 t358 _ ?side1 HC0_2.out A13.out).mono ?_); (case side1 => exact Q0); rintro e w19 ⟨v359, rfl, ho0, hb⟩; refine ⟨_, rfl, ?_⟩; have Oq2 := am (Kd.S_lower ho0 (below_size qb)); replace BK355 := sqB BK355 hb; replace HB := qs hb; (try clear hb ho0); obtain ⟨Ao20, co20, eo20⟩ := Kd.S_slice Oq2.out; subst eo20))
     go_ret2
     exact ⟨_, Q2, by (with_reducible repeat (first | apply Kd.S_alloc | apply Kd.S_drewN | apply Kd.S_drew)); exact Oq2.out, qb⟩

/-! ### spec_PlacementsOf: function 41 -/
def spec_PlacementsOf.f (k : Nat) (a0_0 : Int) (a0_1 : Int) (l0_2 : List Int) (a1 : Int) : Option ((List (List Int)) × Bool) := (spec_roAsked.f k a0_0 a0_1 l0_2 a1).bind fun t362 => (if t362 = true then ((spec_roOf.f k a0_0 a0_1 l0_2 a1).bind fun t363 => (if t363 > 500 then (some (([] : List (List Int)), false)) else ((spec_roAll.f k a0_0 a0_1 l0_2 ([] : List Int) a1 500).bind fun t364 => (some (t364, true))))) else (some (([] : List (List Int)), false)))
set_option maxHeartbeats 8000000 in
set_option maxRecDepth 100000 in
theorem spec_PlacementsOf.calls (k : Nat) (a0_0 : Int) (a0_1 : Int) (A0_2 : Option Addr) (c0_2 : Nat) (l0_2 : List Int) (a1 : Int) (r1 : List (List Int)) (r2 : Bool) (w : World) (hr0_2 : Kd.C (Kd.int .i64) w A0_2 l0_2.length l0_2) (hc0_2 : l0_2.length ≤ c0_2) (h : spec_PlacementsOf.f k a0_0 a0_1 l0_2 a1 = some (r1, r2)) :
  Calls Try.prog 41 #[.agg #[.int .i64 a0_0, .int .i64 a0_1, .slice A0_2 l0_2.length c0_2], .int .i64 a1] w fun e w' => ∃ v0_ : Value, e = .returned (.tuple #[v0_, .bool r2]) ∧ Kd.N (Kd.slice 3 (Kd.int .i64)) 24 w' w.heap.size (fun k_ => (w.heap.size ≤ k_)) v0_ r1 ∧ Below w.heap.size w w' := by
 have hu26 := Try.underlying26
 have HR0_2 := Aside0.mk hr0_2
 have HC0_2 := Aside0.mk hc0_2
 clear hr0_2 hc0_2
 have HB := am (Below.refl w.heap.size w)
 have H : ((spec_roAsked.f k a0_0 a0_1 l0_2 a1).bind fun t362 => (if t362 = true then ((spec_roOf.f k a0_0 a0_1 l0_2 a1).bind fun t363 => (if t363 > 500 then (some (([] : List (List Int)), false)) else ((spec_roAll.f k a0_0 a0_1 l0_2 ([] : List Int) a1 500).bind fun t364 => (some (t364, true))))) else (some (([] : List (List Int)), false)))) = some (r1, r2) := h
 clear h
 replace H := qE H
 obtain ⟨t362, A3, H⟩ := H
 replace H : (if t362 = true then ((spec_roOf.f k a0_0 a0_1 l0_2 a1).bind fun t363 => (if t363 > 500 then (some (([] : List (List Int)), false)) else ((spec_roAll.f k a0_0 a0_1 l0_2 ([] : List Int) a1 500).bind fun t364 => (some (t364, true))))) else (some (([] : List (List Int)), false))) = some (r1, r2) := H
 by_cases c4 : t362 = true
 ·
  subst c4
  have H1 : ((spec_roOf.f k a0_0 a0_1 l0_2 a1).bind fun t363 => (if t363 > 500 then (some (([] : List (List Int)), false)) else ((spec_roAll.f k a0_0 a0_1 l0_2 ([] : List Int) a1 500).bind fun t364 => (some (t364, true))))) = some (r1, r2) := by first | (rw [if_pos rfl] at H; exact H) | rfl
  clear H
  have H := H1
  clear H1
  replace H := qE H
  obtain ⟨t363, A5, H⟩ := H
  replace H : (if t363 > 500 then (some (([] : List (List Int)), false)) else ((spec_roAll.f k a0_0 a0_1 l0_2 ([] : List Int) a1 500).bind fun t364 => (some (t364, true)))) = some (r1, r2) := H
  by_cases c6 : t363 > 500
  ·
   rw [if_pos c6] at H
   have c6b0 : decide (500 < t363) = true := decide_eq_true c6
   clear c6
   simp only [Option.some.injEq, Prod.mk.injEq] at H
   obtain ⟨rfl, rfl⟩ := H
   go_enter Try.func41, Try.ntmps41
   go_wp2_with (first | ((with_reducible refine gate_dst (N := 2) rfl ?_); refine qv 2 #[.int .i64 a0_0, .int .i64 a0_1, .slice A0_2 l0_2.length c0_2] 26 ?_; intro gb361 hg w7 hbox hb; have BK361 := am hbox; have GW361 := qw hg; have GE361 := qw hg; replace HB := qs hb; clear hb hbox hg; obtain ⟨zq30, zq31, zq32, fq30, fq31, fq32⟩ := qd BK361) | ((with_reducible refine gate_callee (f := 101) rfl ?_); refine qg (some 8) Try.func101 #[.agg #[.int .i64 a0_0, .int .i64 a0_1, .slice A0_2 l0_2.length c0_2], .int .i64 a1] ?_; (with_reducible refine (spec_roAsked.calls k a0_0 a0_1 _ _ l0_2 a1 true _ ?side1 HC0_2.out A3.out).mono ?_); (case side1 => exact Q0); rintro e w9 ⟨rfl, hb⟩; refine ⟨_, rfl, ?_⟩; replace BK361 := sqB BK361 hb; replace HB := qs hb; (try clear hb); obtain ⟨zq0, zq1, zq2, fq0, fq1, fq2⟩ := qd BK361) | (go_at_call 102; (with_reducible refine (spec_roOf.calls k a0_0 a0_1 _ _ l0_2 a1 t363 _ ?side1 HC0_2.out A5.out).mono ?_); (case side1 => exact Q0); rintro e w11 ⟨rfl, hb⟩; replace BK361 := sqB BK361 hb; replace HB := qs hb; (try clear hb)))
   go_ret2
   exact ⟨_, Q2, Q21, qb⟩
  ·
   rw [if_neg c6] at H
   have c6b0 : decide (500 < t363) = false := decide_eq_false c6
   clear c6
   replace H := qE H
   obtain ⟨t364, A12, H⟩ := H
   replace H : (some (t364, true)) = some (r1, r2) := H
   simp only [Option.some.injEq, Prod.mk.injEq] at H
   obtain ⟨rfl, rfl⟩ := H
   go_enter Try.func41, Try.ntmps41
   go_wp2_with (first | ((with_reducible refine gate_dst (N := 2) rfl ?_); refine qv 2 #[.int .i64 a0_0, .int .i64 a0_1, .slice A0_2 l0_2.length c0_2] 26 ?_; intro gb361 hg w13 hbox hb; have BK361 := am hbox; have GW361 := qw hg; have GE361 := qw hg; replace HB := qs hb; clear hb hbox hg; obtain ⟨zq6, zq7, zq8, fq6, fq7, fq8⟩ := qd BK361) | ((with_reducible refine gate_callee (f := 101) rfl ?_); refine qg (some 8) Try.func101 #[.agg #[.int .i64 a0_0, .int .i64 a0_1, .slice A0_2 l0_2.length c0_2], .int .i64 a1] ?_; (with_reducible refine (spec_roAsked.calls k a0_0 a0_1 _ _ l0_2 a1 true _ ?side1 HC0_2.out A3.out).mono ?_); (case side1 => exact Q0); rintro e w15 ⟨rfl, hb⟩; refine ⟨_, rfl, ?_⟩; replace BK361 := sqB BK361 hb; replace HB := qs hb; (try clear hb); obtain ⟨zq12, zq13, zq14, fq12, fq13, fq14⟩ := qd BK361) | (go_at_call 102; (with_reducible refine (spec_roOf.calls k a0_0 a0_1 _ _ l0_2 a1 t363 _ ?side1 HC0_2.out A5.out).mono ?_); (case side1 => exact Q0); rintro e w17 ⟨rfl, hb⟩; replace BK361 := sqB BK361 hb; replace HB := qs hb; (try clear hb); obtain ⟨zq18, zq19, zq20, fq18, fq19, fq20⟩ := qd BK361) | ((with_reducible refine gate_callee (f := 105) rfl ?_); refine qg (some 18) Try.func105 #[.agg #[.int .i64 a0_0, .int .i64 a0_1, .slice A0_2 l0_2.length c0_2], .slice none 0 0, .int .i64 a1, .int .i64 500] ?_; (refine (spec_roAll.calls k a0_0 a0_1 _ _ l0_2 _ _ ([] : List Int) a1 500 t364 _ ?side1 ?side2 ?side3 ?side4 A12.out).mono ?_); (case side1 => exact Q0); (case side2 => exact HC0_2.out); (case side3 => exact Kd.C_nil _ _); (case side4 => exact Nat.le_refl _); rintro e w19 ⟨v365, rfl, ho0, hb⟩; refine ⟨_, rfl, ?_⟩; have Oq3 := am (Kd.N_lower (Kd.N_mono (ok' := fun k_ => (w.heap.size ≤ k_) ∧ k_ ≠ gb361) ho0 (fun k_ hk_ => ⟨(Nat.le_trans (below_size qb) hk_), (Kd.freshB (g := gb361) (o := .cells #[.int .i64 a0_0, .int .i64 a0_1, .slice A0_2 l0_2.length c0_2] 26 (0, 0)) (sqb BK361) k_ hk_)⟩)) (below_size qb)); replace BK361 := sqB BK361 hb; replace HB := qs hb; (try clear hb ho0)))
   go_ret2
   exact ⟨_, Q2, by (with_reducible repeat (first | apply Kd.N_alloc | apply Kd.N_drewN | apply Kd.N_drew)); exact Kd.N_mono Oq3.out (fun _ hk => hk.1), qb⟩
 ·
  replace c4 := Bool.eq_false_iff.mpr c4
  subst c4
  have H1 : (some (([] : List (List Int)), false)) = some (r1, r2) := by first | (rw [if_neg (show ¬ (false = true) by decide)] at H; exact H) | rfl
  clear H
  have H := H1
  clear H1
  simp only [Option.some.injEq, Prod.mk.injEq] at H
  obtain ⟨rfl, rfl⟩ := H
  go_enter Try.func41, Try.ntmps41
  go_wp2_with (first | ((with_reducible refine gate_dst (N := 2) rfl ?_); refine qv 2 #[.int .i64 a0_0, .int .i64 a0_1, .slice A0_2 l0_2.length c0_2] 26 ?_; intro gb361 hg w20 hbox hb; have BK361 := am hbox; have GW361 := qw hg; have GE361 := qw hg; replace HB := qs hb; clear hb hbox hg; obtain ⟨zq21, zq22, zq23, fq21, fq22, fq23⟩ := qd BK361) | ((with_reducible refine gate_callee (f := 101) rfl ?_); refine qg (some 8) Try.func101 #[.agg #[.int .i64 a0_0, .int .i64 a0_1, .slice A0_2 l0_2.length c0_2], .int .i64 a1] ?_; (with_reducible refine (spec_roAsked.calls k a0_0 a0_1 _ _ l0_2 a1 false _ ?side1 HC0_2.out A3.out).mono ?_); (case side1 => exact Q0); rintro e w22 ⟨rfl, hb⟩; refine ⟨_, rfl, ?_⟩; replace BK361 := sqB BK361 hb; replace HB := qs hb; (try clear hb)))
  go_ret2
  exact ⟨_, Q2, Q21, qb⟩

/-! ### laws_rSameRows: function 42 -/
def laws_rSameRows.l0 : Nat → List (List Int) → List (List Int) → Int → Int → Option (Bool)
 | 0, _, _, _, _ => none
 | k + 1, x0, x1, x12, x13 => if x13 < x12 then (if 0 ≤ x13 then (if x13 < (x0.length : Int) then (if x13 < (x1.length : Int) then ((laws_rSame.f k (rd_L2 x0 x13) (rd_L2 x1 x13)).bind fun t369 => (if t369 = true then (laws_rSameRows.l0 k x0 x1 x12 (wrap64 (x13 + 1))) else (some false))) else (none)) else (none)) else (none)) else (some true)
def laws_rSameRows.f (k : Nat) (l0 : List (List Int)) (l1 : List (List Int)) : Option (Bool) := if (l0.length : Int) = (l1.length : Int) then (laws_rSameRows.l0 k l0 l1 (l0.length : Int) 0) else (some false)
set_option maxHeartbeats 8000000 in
set_option maxRecDepth 100000 in
theorem laws_rSameRows.calls (k : Nat) (A0 : Option Addr) (c0 : Nat) (l0 : List (List Int)) (A1 : Option Addr) (c1 : Nat) (l1 : List (List Int)) (r : Bool) (w : World) (hr0 : Kd.C (Kd.slice 3 (Kd.int .i64)) w A0 l0.length l0) (hc0 : l0.length ≤ c0) (hr1 : Kd.C (Kd.slice 3 (Kd.int .i64)) w A1 l1.length l1) (hc1 : l1.length ≤ c1) (h : laws_rSameRows.f k l0 l1 = some r) :
  Calls Try.prog 42 #[.slice A0 l0.length c0, .slice A1 l1.length c1] w fun e w' => e = .returned (.bool r) ∧ Drawn0 w w' := by
 have HR0 := Aside0.mk hr0
 have HC0 := Aside0.mk hc0
 clear hr0 hc0
 have HR1 := Aside0.mk hr1
 have HC1 := Aside0.mk hc1
 clear hr1 hc1
 have H : (if (l0.length : Int) = (l1.length : Int) then (laws_rSameRows.l0 k l0 l1 (l0.length : Int) 0) else (some false)) = some r := h
 clear h
 by_cases c3 : (l0.length : Int) = (l1.length : Int)
 ·
  rw [if_pos c3] at H
  have c3b0 : ((l0.length : Int) == (l1.length : Int)) = true := beq_iff_eq.mpr c3
  have c3b1 : ((l0.length : Int) != (l1.length : Int)) = false := bne_eq_false_iff_eq.mpr c3
  have c3b2 : (l0.length == l1.length) = true := by first | simpa using c3 | (simp at c3 ⊢; omega)
  clear c3
  have H' := Aside0.mk H
  clear H
  go_enter Try.func42, Try.ntmps42
  go_wp2
  repeat (go_quiet (fail); try go_wp2)
  go_loopg [13] k (fun kq v13 w' => ∃ (x13_1 : Int), v13 = .int .i64 x13_1 ∧ Aside0 (laws_rSameRows.l0 kq l0 l1 (l0.length : Int) x13_1 = some r) ∧ Aside0 (kq ≤ k) ∧ Drawn0 w w')
  case atStart => exact ⟨(0), Q3, H', ⟨Nat.le_refl _⟩, Q4⟩
  case round =>
   clear H'
   try clear c3; try clear c3b0; try clear c3b1; try clear c3b2
   obtain ⟨x13_1, rfl, HA, HK1, ⟨m1, rfl⟩⟩ := hrel
   cases gk with
   | zero => exact absurd HA.out (by simp [laws_rSameRows.l0])
   | succ k1 =>
    have H := HA.out
    clear HA
    simp only [laws_rSameRows.l0] at H
    by_cases c4 : x13_1 < (l0.length : Int)
    ·
     rw [if_pos c4] at H
     have c4b0 : decide (x13_1 < (l0.length : Int)) = true := decide_eq_true c4
     clear c4
     by_cases c5 : 0 ≤ x13_1
     ·
      rw [if_pos c5] at H
      have c5b0 : decide (0 ≤ x13_1) = true := decide_eq_true c5
      clear c5
      by_cases c6 : x13_1 < (l0.length : Int)
      ·
       rw [if_pos c6] at H
       have c6b0 : decide (x13_1 < (l0.length : Int)) = true := decide_eq_true c6
       clear c6
       by_cases c7 : x13_1 < (l1.length : Int)
       ·
        rw [if_pos c7] at H
        have c7b0 : decide (x13_1 < (l1.length : Int)) = true := decide_eq_true c7
        clear c7
        replace H := qE H
        obtain ⟨t369, A8, H⟩ := H
        replace H : (if t369 = true then (laws_rSameRows.l0 k1 l0 l1 (l0.length : Int) (wrap64 (x13_1 + 1))) else (some false)) = some r := H
        by_cases c9 : t369 = true
        ·
         subst c9
         have H1 : (laws_rSameRows.l0 k1 l0 l1 (l0.length : Int) (wrap64 (x13_1 + 1))) = some r := by first | (rw [if_pos rfl] at H; exact H) | rfl
         clear H
         have H := H1
         clear H1
         have H' := Aside0.mk H
         clear H
         have p367 : 0 ≤ (x13_1 : Int) := of_decide_eq_true Q1
         have q367 : x13_1 < (l0.length : Int) := of_decide_eq_true Q1
         obtain ⟨ad367, A367_0, c367_0, e367, hx367_0, hl367_0, hi367_0⟩ := at_L2 HR0.out x13_1 p367 q367
         cases e367
         have HR367_0 := Aside0.mk hi367_0
         have HC367_0 := Aside0.mk hl367_0
         clear hi367_0 hl367_0
         replace p367 := eq_true p367
         replace q367 := eq_true q367
         have p368 : 0 ≤ (x13_1 : Int) := of_decide_eq_true Q1
         have q368 : x13_1 < (l1.length : Int) := of_decide_eq_true Q1
         obtain ⟨ad368, A368_0, c368_0, e368, hx368_0, hl368_0, hi368_0⟩ := at_L2 HR1.out x13_1 p368 q368
         cases e368
         have HR368_0 := Aside0.mk hi368_0
         have HC368_0 := Aside0.mk hl368_0
         clear hi368_0 hl368_0
         replace p368 := eq_true p368
         replace q368 := eq_true q368
         go_wp2_with (first | (go_at_call 25; (with_reducible refine (laws_rSame.calls k1 _ _ (rd_L2 l0 x13_1) _ _ (rd_L2 l1 x13_1) true _ ?side1 HC367_0.out ?side3 HC368_0.out A8.out).mono ?_); (case side1 => exact Q27); (case side3 => exact Q28); rintro e w' ⟨rfl, ⟨nd, rfl⟩⟩; (try first | exact ⟨rfl, _, World.drewN_drewN _ _ _⟩ | exact ⟨rfl, _, Eq.trans (World.drewN_drewN _ _ _) (congrArg (World.drewN _) (Nat.add_assoc _ _ _))⟩)))
         repeat (go_quiet (first | (go_at_call 25; (with_reducible refine (laws_rSame.calls k1 _ _ (rd_L2 l0 x13_1) _ _ (rd_L2 l1 x13_1) true _ ?side1 HC367_0.out ?side3 HC368_0.out A8.out).mono ?_); (case side1 => exact Q27); (case side3 => exact Q28); rintro e w' ⟨rfl, ⟨nd, rfl⟩⟩; (try first | exact ⟨rfl, _, World.drewN_drewN _ _ _⟩ | exact ⟨rfl, _, Eq.trans (World.drewN_drewN _ _ _) (congrArg (World.drewN _) (Nat.add_assoc _ _ _))⟩))); try go_wp2_with (first | (go_at_call 25; (with_reducible refine (laws_rSame.calls k1 _ _ (rd_L2 l0 x13_1) _ _ (rd_L2 l1 x13_1) true _ ?side1 HC367_0.out ?side3 HC368_0.out A8.out).mono ?_); (case side1 => exact Q27); (case side3 => exact Q28); rintro e w' ⟨rfl, ⟨nd, rfl⟩⟩; (try first | exact ⟨rfl, _, World.drewN_drewN _ _ _⟩ | exact ⟨rfl, _, Eq.trans (World.drewN_drewN _ _ _) (congrArg (World.drewN _) (Nat.add_assoc _ _ _))⟩))))
         go_roundg k1
         case measure => have := HK1.out; omega
         case rel => exact ⟨(wrap64 (x13_1 + 1)), Q3, H', ⟨Q42⟩, Q4⟩
        ·
         replace c9 := Bool.eq_false_iff.mpr c9
         subst c9
         have H1 : (some false) = some r := by first | (rw [if_neg (show ¬ (false = true) by decide)] at H; exact H) | rfl
         clear H
         have H := H1
         clear H1
         obtain rfl := Option.some.inj H
         have p367 : 0 ≤ (x13_1 : Int) := of_decide_eq_true Q1
         have q367 : x13_1 < (l0.length : Int) := of_decide_eq_true Q1
         obtain ⟨ad367, A367_0, c367_0, e367, hx367_0, hl367_0, hi367_0⟩ := at_L2 HR0.out x13_1 p367 q367
         cases e367
         have HR367_0 := Aside0.mk hi367_0
         have HC367_0 := Aside0.mk hl367_0
         clear hi367_0 hl367_0
         replace p367 := eq_true p367
         replace q367 := eq_true q367
         have p368 : 0 ≤ (x13_1 : Int) := of_decide_eq_true Q1
         have q368 : x13_1 < (l1.length : Int) := of_decide_eq_true Q1
         obtain ⟨ad368, A368_0, c368_0, e368, hx368_0, hl368_0, hi368_0⟩ := at_L2 HR1.out x13_1 p368 q368
         cases e368
         have HR368_0 := Aside0.mk hi368_0
         have HC368_0 := Aside0.mk hl368_0
         clear hi368_0 hl368_0
         replace p368 := eq_true p368
         replace q368 := eq_true q368
         go_wp2_with (first | (go_at_call 25; (with_reducible refine (laws_rSame.calls k1 _ _ (rd_L2 l0 x13_1) _ _ (rd_L2 l1 x13_1) false _ ?side1 HC367_0.out ?side3 HC368_0.out A8.out).mono ?_); (case side1 => exact Q27); (case side3 => exact Q28); rintro e w' ⟨rfl, ⟨nd, rfl⟩⟩; (try first | exact ⟨rfl, _, World.drewN_drewN _ _ _⟩ | exact ⟨rfl, _, Eq.trans (World.drewN_drewN _ _ _) (congrArg (World.drewN _) (Nat.add_assoc _ _ _))⟩)))
         repeat (go_quiet (first | (go_at_call 25; (with_reducible refine (laws_rSame.calls k1 _ _ (rd_L2 l0 x13_1) _ _ (rd_L2 l1 x13_1) false _ ?side1 HC367_0.out ?side3 HC368_0.out A8.out).mono ?_); (case side1 => exact Q27); (case side3 => exact Q28); rintro e w' ⟨rfl, ⟨nd, rfl⟩⟩; (try first | exact ⟨rfl, _, World.drewN_drewN _ _ _⟩ | exact ⟨rfl, _, Eq.trans (World.drewN_drewN _ _ _) (congrArg (World.drewN _) (Nat.add_assoc _ _ _))⟩))); try go_wp2_with (first | (go_at_call 25; (with_reducible refine (laws_rSame.calls k1 _ _ (rd_L2 l0 x13_1) _ _ (rd_L2 l1 x13_1) false _ ?side1 HC367_0.out ?side3 HC368_0.out A8.out).mono ?_); (case side1 => exact Q27); (case side3 => exact Q28); rintro e w' ⟨rfl, ⟨nd, rfl⟩⟩; (try first | exact ⟨rfl, _, World.drewN_drewN _ _ _⟩ | exact ⟨rfl, _, Eq.trans (World.drewN_drewN _ _ _) (congrArg (World.drewN _) (Nat.add_assoc _ _ _))⟩))))
         go_ret
         exact ⟨Q3, Q4⟩
       ·
        rw [if_neg c7] at H
        exact absurd H (by simp)
      ·
       rw [if_neg c6] at H
       exact absurd H (by simp)
     ·
      rw [if_neg c5] at H
      exact absurd H (by simp)
    ·
     rw [if_neg c4] at H
     have c4b0 : decide (x13_1 < (l0.length : Int)) = false := decide_eq_false c4
     clear c4
     obtain rfl := Option.some.inj H
     go_wp2
     repeat (go_quiet (fail); try go_wp2)
     go_ret
     exact ⟨Q3, Q4⟩
 ·
  rw [if_neg c3] at H
  have c3b0 : ((l0.length : Int) == (l1.length : Int)) = false := beq_eq_false_iff_ne.mpr c3
  have c3b1 : ((l0.length : Int) != (l1.length : Int)) = true := bne_iff_ne.mpr c3
  have c3b2 : (l0.length == l1.length) = false := by first | simpa using c3 | (simp at c3 ⊢; omega)
  obtain rfl := Option.some.inj H
  go_enter Try.func42, Try.ntmps42
  go_wp2
  repeat (go_quiet (fail); try go_wp2)
  go_ret
  exact ⟨Q3, Q4⟩

/-! ### impl_CountRooks: function 43 (by hand) -/
/-- No place of a rook, and not -1. -/
def offR (m : Int) : Bool := !(decide (-1 ≤ m ∧ m ≤ 5))
def GoodR (l : List Int) : Prop := l.length ≤ 6 ∧ ∀ x ∈ l, -1 ≤ x ∧ x ≤ 5
instance (l : List Int) : Decidable (GoodR l) := by unfold GoodR; exact inferInstance
def impl_CountRooks.f (l0 : List Int) : Option (Int × Bool) := some (if GoodR l0 then (cntR l0, true) else (0, false))
-- (walk)
set_option maxHeartbeats 400000 in
theorem closR (m : Int) (w : World) : Calls Try.prog 106 #[.int .i64 m] w fun e w' => e = .returned (.bool (offR m)) ∧ Drawn0 w w' := by
 have hw : impl_within.f m (-1) 5 = some (decide (-1 ≤ m ∧ m ≤ 5)) := by
  unfold impl_within.f
  by_cases h : -1 ≤ m
  ·
   rw [if_pos h]; simp [h]
  ·
   rw [if_neg h]; simp [h]
 have HW := Aside0.mk hw
 clear hw
 go_enter Try.func106, Try.ntmps106
 go_wp2_with (first | (go_at_call 79; refine (impl_within.calls _ _ _ _ _ HW.out).mono ?_; rintro e w' ⟨rfl, ⟨nd, rfl⟩⟩))
 go_ret
 exact ⟨by unfold offR; simp [Bool.decide_and], Q4⟩
set_option maxHeartbeats 1000000 in
theorem impl_CountRooks.calls (A0 : Option Addr) (c0 : Nat) (l0 : List Int) (r1 : Int) (r2 : Bool) (w : World) (hr0 : Kd.C (Kd.int .i64) w A0 l0.length l0) (hc0 : l0.length ≤ c0) (h : impl_CountRooks.f l0 = some (r1, r2)) :
  Calls Try.prog 43 #[.slice A0 l0.length c0] w fun e w' => e = .returned (.tuple #[.int .i64 r1, .bool r2]) ∧ Drawn0 w w' := by
 have HR := Aside0.mk hr0
 have HM := Kd.C_max hr0
 clear hr0
 unfold impl_CountRooks.f at h
 by_cases hlen : l0.length ≤ 6
 ·
  have hgt : decide (6 < (l0.length : Int)) = false := decide_eq_false (by omega)
  have hgt2 : decide (6 < l0.length) = false := decide_eq_false (by omega)
  by_cases ha : l0.any offR = true
  ·
   have hg : ¬ GoodR l0 := fun g => by
    obtain ⟨x, hx, ho⟩ := List.any_eq_true.1 ha
    have := g.2 x hx
    simp [offR, this] at ho
   rw [if_neg hg] at h
   simp only [Option.some.injEq, Prod.mk.injEq] at h
   obtain ⟨rfl, rfl⟩ := h
   have HA := Aside0.mk ha
   clear ha hg
   go_enter Try.func43, Try.ntmps43
   go_wp2_with fail
   refine (containsFunc 106 #[] offR _ _ l0 _ ?c1 (by omega) (by omega) Try.call106 ?c2).mono ?_
   case c1 => (repeat (first | exact HR.out | apply Kd.C_drewN | apply Kd.C_drew | apply Kd.C_alloc))
   case c2 => exact fun n m => closR m _
   rintro e w' ⟨rfl, ⟨nd, rfl⟩⟩
   rw [HA.out]
   go_wp2
   go_ret2
   exact ⟨rfl, Q4⟩
  ·
   have hg : GoodR l0 := ⟨hlen, fun x hx => by
    have : offR x = false := by
     have := List.any_eq_false.1 (Bool.eq_false_iff.2 ha) x hx
     exact Bool.eq_false_iff.2 this
    simpa [offR] using this⟩
   rw [if_pos hg] at h
   simp only [Option.some.injEq, Prod.mk.injEq] at h
   obtain ⟨rfl, rfl⟩ := h
   have HA := am (Bool.eq_false_iff.2 ha)
   have HK := am (show impl_rooks.f l0 = some (cntR l0) from by unfold impl_rooks.f; rw [if_pos (by omega)])
   clear ha hg
   go_enter Try.func43, Try.ntmps43
   go_wp2_with fail
   refine (containsFunc 106 #[] offR _ _ l0 _ ?c1 (by omega) (by omega) Try.call106 ?c2).mono ?_
   case c1 => (repeat (first | exact HR.out | apply Kd.C_drewN | apply Kd.C_drew | apply Kd.C_alloc))
   case c2 => exact fun n m => closR m _
   rintro e w' ⟨rfl, ⟨nd, rfl⟩⟩
   rw [HA.out]
   go_wp2_with fail
   refine (impl_rooks.calls _ _ l0 _ _ ?d1 (by omega) HK.out).mono ?_
   case d1 => (repeat (first | exact HR.out | apply Kd.C_drewN | apply Kd.C_drew | apply Kd.C_alloc))
   rintro e w' ⟨rfl, ⟨nd2, rfl⟩⟩
   go_wp2
   go_ret2
   exact ⟨rfl, Q4⟩
 ·
  have hg : ¬ GoodR l0 := fun g => hlen g.1
  rw [if_neg hg] at h
  simp only [Option.some.injEq, Prod.mk.injEq] at h
  obtain ⟨rfl, rfl⟩ := h
  have hgt : decide (6 < (l0.length : Int)) = true := decide_eq_true (by omega)
  have hgt2 : decide (6 < l0.length) = true := decide_eq_true (by omega)
  clear hg
  go_enter Try.func43, Try.ntmps43
  go_wp2_with fail
  go_ret2
  exact ⟨rfl, Q4⟩

/-! ### impl_Board_place: function 67 -/
def impl_Board_place.f (a0_0 : Int) (a0_1 : Int) (l0_2 : List Int) (a1 : Int) (a2 : Int) : Option (Bool) := (impl_within.f a1 0 (wrap64 (a0_0 - 1))).bind fun t371 => (if t371 = true then ((impl_within.f a2 0 (wrap64 (a0_1 - 1))).bind fun t372 => (some t372)) else (some false))
set_option maxHeartbeats 8000000 in
set_option maxRecDepth 100000 in
theorem impl_Board_place.calls (a0_0 : Int) (a0_1 : Int) (A0_2 : Option Addr) (c0_2 : Nat) (l0_2 : List Int) (a1 : Int) (a2 : Int) (r : Bool) (w : World) (hr0_2 : Kd.C (Kd.int .i64) w A0_2 l0_2.length l0_2) (hc0_2 : l0_2.length ≤ c0_2) (h : impl_Board_place.f a0_0 a0_1 l0_2 a1 a2 = some r) :
  Calls Try.prog 67 #[.agg #[.int .i64 a0_0, .int .i64 a0_1, .slice A0_2 l0_2.length c0_2], .int .i64 a1, .int .i64 a2] w fun e w' => e = .returned (.bool r) ∧ Below w.heap.size w w' := by
 have hu26 := Try.underlying26
 have HR0_2 := Aside0.mk hr0_2
 have HC0_2 := Aside0.mk hc0_2
 clear hr0_2 hc0_2
 have HB := am (Below.refl w.heap.size w)
 have H : ((impl_within.f a1 0 (wrap64 (a0_0 - 1))).bind fun t371 => (if t371 = true then ((impl_within.f a2 0 (wrap64 (a0_1 - 1))).bind fun t372 => (some t372)) else (some false))) = some r := h
 clear h
 replace H := qE H
 obtain ⟨t371, A4, H⟩ := H
 replace H : (if t371 = true then ((impl_within.f a2 0 (wrap64 (a0_1 - 1))).bind fun t372 => (some t372)) else (some false)) = some r := H
 by_cases c5 : t371 = true
 ·
  subst c5
  have H1 : ((impl_within.f a2 0 (wrap64 (a0_1 - 1))).bind fun t372 => (some t372)) = some r := by first | (rw [if_pos rfl] at H; exact H) | rfl
  clear H
  have H := H1
  clear H1
  replace H := qE H
  obtain ⟨t372, A6, H⟩ := H
  replace H : (some t372) = some r := H
  obtain rfl := Option.some.inj H
  go_enter Try.func67, Try.ntmps67
  go_wp2_with (first | ((with_reducible refine gate_dst (N := 3) rfl ?_); refine qv 3 #[.int .i64 a0_0, .int .i64 a0_1, .slice A0_2 l0_2.length c0_2] 26 ?_; intro gb370 hg w7 hbox hb; have BK370 := am hbox; have GW370 := qw hg; have GE370 := qw hg; replace HB := qs hb; clear hb hbox hg; obtain ⟨zq30, zq31, zq32, fq30, fq31, fq32⟩ := qd BK370) | ((with_reducible refine gate_callee (f := 79) rfl ?_); refine qg (some 11) Try.func79 #[.int .i64 a1, .int .i64 0, .int .i64 (wrap64 (a0_0 - 1))] ?_; (with_reducible refine (impl_within.calls a1 0 (wrap64 (a0_0 - 1)) true _ A4.out).mono ?_); rintro e w' ⟨rfl, ⟨nd, rfl⟩⟩; refine ⟨_, rfl, ?_⟩) | (go_at_call 79; (with_reducible refine (impl_within.calls a2 0 (wrap64 (a0_1 - 1)) t372 _ A6.out).mono ?_); rintro e w' ⟨rfl, ⟨nd, rfl⟩⟩))
  go_ret
  exact ⟨Q2, qb⟩
 ·
  replace c5 := Bool.eq_false_iff.mpr c5
  subst c5
  have H1 : (some false) = some r := by first | (rw [if_neg (show ¬ (false = true) by decide)] at H; exact H) | rfl
  clear H
  have H := H1
  clear H1
  obtain rfl := Option.some.inj H
  go_enter Try.func67, Try.ntmps67
  go_wp2_with (first | ((with_reducible refine gate_dst (N := 3) rfl ?_); refine qv 3 #[.int .i64 a0_0, .int .i64 a0_1, .slice A0_2 l0_2.length c0_2] 26 ?_; intro gb370 hg w9 hbox hb; have BK370 := am hbox; have GW370 := qw hg; have GE370 := qw hg; replace HB := qs hb; clear hb hbox hg; obtain ⟨zq0, zq1, zq2, fq0, fq1, fq2⟩ := qd BK370) | ((with_reducible refine gate_callee (f := 79) rfl ?_); refine qg (some 11) Try.func79 #[.int .i64 a1, .int .i64 0, .int .i64 (wrap64 (a0_0 - 1))] ?_; (with_reducible refine (impl_within.calls a1 0 (wrap64 (a0_0 - 1)) false _ A4.out).mono ?_); rintro e w' ⟨rfl, ⟨nd, rfl⟩⟩; refine ⟨_, rfl, ?_⟩))
  go_ret
  exact ⟨Q2, qb⟩

/-! ### slices_Index_int_int: function 138 -/
def slices_Index_int_int.l0 : Nat → List Int → Int → Int → Int → Option (Int)
 | 0, _, _, _, _ => none
 | k + 1, x0, x1, x7, x8 => if x8 < x7 then (if 0 ≤ x8 then (if x8 < (x0.length : Int) then (if x1 = (rd x0 x8) then (some x8) else (slices_Index_int_int.l0 k x0 x1 x7 (wrap64 (x8 + 1)))) else (none)) else (none)) else (some (-1))
def slices_Index_int_int.f (k : Nat) (l0 : List Int) (a1 : Int) : Option (Int) := slices_Index_int_int.l0 k l0 a1 (l0.length : Int) 0
set_option maxHeartbeats 8000000 in
set_option maxRecDepth 100000 in
theorem slices_Index_int_int.calls (k : Nat) (A0 : Option Addr) (c0 : Nat) (l0 : List Int) (a1 : Int) (r : Int) (w : World) (hr0 : Kd.C (Kd.int .i64) w A0 l0.length l0) (hc0 : l0.length ≤ c0) (h : slices_Index_int_int.f k l0 a1 = some r) :
  Calls Try.prog 138 #[.slice A0 l0.length c0, .int .i64 a1] w fun e w' => e = .returned (.int .i64 r) ∧ Drawn0 w w' := by
 have HR0 := Aside0.mk hr0
 have HC0 := Aside0.mk hc0
 clear hr0 hc0
 have H : (slices_Index_int_int.l0 k l0 a1 (l0.length : Int) 0) = some r := h
 clear h
 have H' := Aside0.mk H
 clear H
 go_enter Try.func138, Try.ntmps138
 go_wp2
 go_loopg [8] k (fun kq v8 w' => ∃ (x8_1 : Int), v8 = .int .i64 x8_1 ∧ Aside0 (slices_Index_int_int.l0 kq l0 a1 (l0.length : Int) x8_1 = some r) ∧ Aside0 (kq ≤ k) ∧ Drawn0 w w')
 case atStart => exact ⟨(0), Q3, H', ⟨Nat.le_refl _⟩, Q4⟩
 case round =>
  clear H'
  obtain ⟨x8_1, rfl, HA, HK1, ⟨m1, rfl⟩⟩ := hrel
  cases gk with
  | zero => exact absurd HA.out (by simp [slices_Index_int_int.l0])
  | succ k1 =>
   have H := HA.out
   clear HA
   simp only [slices_Index_int_int.l0] at H
   by_cases c3 : x8_1 < (l0.length : Int)
   ·
    rw [if_pos c3] at H
    have c3b0 : decide (x8_1 < (l0.length : Int)) = true := decide_eq_true c3
    clear c3
    by_cases c4 : 0 ≤ x8_1
    ·
     rw [if_pos c4] at H
     have c4b0 : decide (0 ≤ x8_1) = true := decide_eq_true c4
     clear c4
     by_cases c5 : x8_1 < (l0.length : Int)
     ·
      rw [if_pos c5] at H
      have c5b0 : decide (x8_1 < (l0.length : Int)) = true := decide_eq_true c5
      clear c5
      by_cases c6 : a1 = (rd l0 x8_1)
      ·
       rw [if_pos c6] at H
       have c6b0 : (a1 == (rd l0 x8_1)) = true := beq_iff_eq.mpr c6
       have c6b1 : (a1 != (rd l0 x8_1)) = false := bne_eq_false_iff_eq.mpr c6
       clear c6
       obtain rfl := Option.some.inj H
       have p373 : 0 ≤ (x8_1 : Int) := of_decide_eq_true Q1
       have q373 : x8_1 < (l0.length : Int) := of_decide_eq_true Q1
       obtain ⟨ad373, e373, hx373_0⟩ := Kd.at_int HR0.out x8_1 p373 q373
       cases e373
       replace p373 := eq_true p373
       replace q373 := eq_true q373
       go_wp2
       go_ret
       exact ⟨Q3, Q4⟩
      ·
       rw [if_neg c6] at H
       have c6b0 : (a1 == (rd l0 x8_1)) = false := beq_eq_false_iff_ne.mpr c6
       have c6b1 : (a1 != (rd l0 x8_1)) = true := bne_iff_ne.mpr c6
       have H' := Aside0.mk H
       clear H
       have p373 : 0 ≤ (x8_1 : Int) := of_decide_eq_true Q1
       have q373 : x8_1 < (l0.length : Int) := of_decide_eq_true Q1
       obtain ⟨ad373, e373, hx373_0⟩ := Kd.at_int HR0.out x8_1 p373 q373
       cases e373
       replace p373 := eq_true p373
       replace q373 := eq_true q373
       go_wp2
       go_roundg k1
       case measure => have := HK1.out; omega
       case rel => exact ⟨(wrap64 (x8_1 + 1)), Q3, H', ⟨Q42⟩, Q4⟩
     ·
      rw [if_neg c5] at H
      exact absurd H (by simp)
    ·
     rw [if_neg c4] at H
     exact absurd H (by simp)
   ·
    rw [if_neg c3] at H
    have c3b0 : decide (x8_1 < (l0.length : Int)) = false := decide_eq_false c3
    clear c3
    obtain rfl := Option.some.inj H
    go_wp2
    go_ret
    exact ⟨Q3, Q4⟩

/-! ### slices_Contains_int_int: function 135 -/
def slices_Contains_int_int.f (k : Nat) (l0 : List Int) (a1 : Int) : Option (Bool) := (slices_Index_int_int.f k l0 a1).bind fun t374 => (some (decide (t374 ≥ 0)))
set_option maxHeartbeats 8000000 in
set_option maxRecDepth 100000 in
theorem slices_Contains_int_int.calls (k : Nat) (A0 : Option Addr) (c0 : Nat) (l0 : List Int) (a1 : Int) (r : Bool) (w : World) (hr0 : Kd.C (Kd.int .i64) w A0 l0.length l0) (hc0 : l0.length ≤ c0) (h : slices_Contains_int_int.f k l0 a1 = some r) :
  Calls Try.prog 135 #[.slice A0 l0.length c0, .int .i64 a1] w fun e w' => e = .returned (.bool r) ∧ Drawn0 w w' := by
 have HR0 := Aside0.mk hr0
 have HC0 := Aside0.mk hc0
 clear hr0 hc0
 have H : ((slices_Index_int_int.f k l0 a1).bind fun t374 => (some (decide (t374 ≥ 0)))) = some r := h
 clear h
 replace H := qE H
 obtain ⟨t374, A3, H⟩ := H
 replace H : (some (decide (t374 ≥ 0))) = some r := H
 obtain rfl := Option.some.inj H
 go_enter Try.func135, Try.ntmps135
 go_wp2_with (first | ((with_reducible refine gate_callee (f := 138) rfl ?_); refine qg (some 7) Try.func138 #[.slice A0 l0.length c0, .int .i64 a1] ?_; (with_reducible refine (slices_Index_int_int.calls k _ _ l0 a1 t374 _ ?side1 HC0.out A3.out).mono ?_); (case side1 => exact Q22); rintro e w' ⟨rfl, ⟨nd, rfl⟩⟩; refine ⟨_, rfl, ?_⟩))
 go_ret
 exact ⟨Q3, Q4⟩

end Go.Proofs.Ytllhofdgbpnkkaa.PFnPlacementsListed
