-- Printed for this claim by wip/pp.py over the kit's printer; Lean checks it.
import Derived.Test.YtllhofdgbpnkkaaPFnRookNumbersMultiplyx0
import Derived.Test.YtllhofdgbpnkkaaPFnRookNumbersMultiplyx1
import Derived.Test.YtllhofdgbpnkkaaPFnRookNumbersMultiplyx2
import Derived.Test.YtllhofdgbpnkkaaPFnRookNumbersMultiplyx3
import Derived.Test.YtllhofdgbpnkkaaPFnRookNumbersMultiplyx8
namespace Go.Proofs.Ytllhofdgbpnkkaa.PFnRookNumbersMultiply
open Go.RowKit Go.Proofs.YtllhofdgbpnkkaaW.PrintWords Go.Proofs.YtllhofdgbpnkkaaW.PrintLast Go.Proofs.YtllhofdgbpnkkaaW.PrintMore
attribute [local go_sem] max2_int min2_int max_two min_two max_three min_three max_four min_four   -- for this text's walks alone
set_option linter.unusedVariables false
set_option linter.unusedSimpArgs false

/-! ### spec_roNumbers: function 83 -/
def spec_roNumbers.f (k : Nat) (a0_0 : Int) (a0_1 : Int) (l0_2 : List Int) : Option (List Int) := (spec_roWays.f k a0_0 a0_1 l0_2 0 0).bind fun t293 => (some t293)
set_option maxHeartbeats 8000000 in
set_option maxRecDepth 100000 in
theorem spec_roNumbers.calls (k : Nat) (a0_0 : Int) (a0_1 : Int) (A0_2 : Option Addr) (c0_2 : Nat) (l0_2 : List Int) (r : List Int) (w : World) (hr0_2 : Kd.C (Kd.int .i64) w A0_2 l0_2.length l0_2) (hc0_2 : l0_2.length ≤ c0_2) (h : spec_roNumbers.f k a0_0 a0_1 l0_2 = some r) :
  Calls Try.prog 83 #[.agg #[.int .i64 a0_0, .int .i64 a0_1, .slice A0_2 l0_2.length c0_2]] w fun e w' => ∃ v0_ : Value, e = .returned (v0_) ∧ Kd.R (Kd.int .i64) 3 w' w.heap.size (fun _ => True) v0_ r ∧ Below w.heap.size w w' := by
 have hu26 := Try.underlying26
 have HR0_2 := Aside0.mk hr0_2
 have HC0_2 := Aside0.mk hc0_2
 clear hr0_2 hc0_2
 have HB := am (Below.refl w.heap.size w)
 have H : ((spec_roWays.f k a0_0 a0_1 l0_2 0 0).bind fun t293 => (some t293)) = some r := h
 clear h
 replace H := qE H
 obtain ⟨t293, A2, H⟩ := H
 replace H : (some t293) = some r := H
 obtain rfl := Option.some.inj H
 go_enter Try.func83, Try.ntmps83
 go_wp2_with (first | ((with_reducible refine gate_dst (N := 1) rfl ?_); refine qv 1 #[.int .i64 a0_0, .int .i64 a0_1, .slice A0_2 l0_2.length c0_2] 26 ?_; intro gb292 hg w3 hbox hb; have BK292 := am hbox; have GW292 := qw hg; have GE292 := qw hg; replace HB := qs hb; clear hb hbox hg; obtain ⟨zq3, zq4, zq5, fq3, fq4, fq5⟩ := qd BK292) | ((with_reducible refine gate_callee (f := 128) rfl ?_); refine qg (some 4) Try.func128 #[.agg #[.int .i64 a0_0, .int .i64 a0_1, .slice A0_2 l0_2.length c0_2], .int .i64 0, .int .i64 0] ?_; (with_reducible refine (spec_roWays.calls k a0_0 a0_1 _ _ l0_2 0 0 t293 _ ?side1 HC0_2.out A2.out).mono ?_); (case side1 => exact Q1); rintro e w5 ⟨v294, rfl, ho0, hb⟩; refine ⟨_, rfl, ?_⟩; have Oq0 := ql ho0; replace BK292 := sqB BK292 hb; replace HB := qs hb; (try clear hb ho0)))
 go_ret
 exact ⟨_, Q2, Q31, qb⟩

/-! ### spec_DrawMultiplyNumbers: function 27 -/
def spec_DrawMultiplyNumbers.f (k : Nat) (l0 : List Int) : Option (List Int × List Int) := (spec_l1Cur_pick.f l0 0 0 4).bind fun bt297 => ((spec_l1Cur_pick.f l0 bt297.2.1 bt297.2.2 4).bind fun bt300 => ((spec_l1Cur_boardOf.f k l0 bt300.2.1 bt300.2.2 (wrap64 (1 + bt297.1)) (wrap64 (1 + bt300.1))).bind fun bt303 => ((spec_roNumbers.f k bt303.1 bt303.2.1 bt303.2.2.1).bind fun t310 => ((spec_l1Cur_pick.f l0 bt303.2.2.2.1 bt303.2.2.2.2 4).bind fun bt313 => ((spec_l1Cur_pick.f l0 bt313.2.1 bt313.2.2 4).bind fun bt316 => ((spec_l1Cur_boardOf.f k l0 bt316.2.1 bt316.2.2 (wrap64 (1 + bt313.1)) (wrap64 (1 + bt316.1))).bind fun bt319 => ((spec_roNumbers.f k bt319.1 bt319.2.1 bt319.2.2.1).bind fun t326 => ((spec_l1Cur_pick.f l0 bt319.2.2.2.1 bt319.2.2.2.2 12).bind fun bt329 => (if bt329.1 = 0 then ((spec_l1Cur_among.f l0 bt329.2.1 bt329.2.2 (([(-1), 0, 100000, 100001] : List Int))).bind fun bt335 => (if 0 < (t310.length : Int) then (some ((t310.set (0 : Int).toNat bt335.1), t326)) else (none))) else (if bt329.1 = 1 then (some (t310, ([] : List Int))) else (if bt329.1 = 2 then ((spec_l1Cur_pick.f l0 bt329.2.1 bt329.2.2 2).bind fun bt339 => (if 0 ≤ (wrap64 (7 + bt339.1)) then (if (wrap64 (7 + bt339.1) : Int).toNat ≤ 35184372088832 then (some (t310, (List.replicate (wrap64 (7 + bt339.1) : Int).toNat 0))) else (none)) else (none))) else (some (t310, t326)))))))))))))
set_option maxHeartbeats 8000000 in
set_option maxRecDepth 100000 in
theorem spec_DrawMultiplyNumbers.calls (k : Nat) (A0 : Option Addr) (c0 : Nat) (l0 : List Int) (r1 : List Int) (r2 : List Int) (w : World) (hr0 : Kd.C (Kd.int .u8) w A0 l0.length l0) (hc0 : l0.length ≤ c0) (h : spec_DrawMultiplyNumbers.f k l0 = some (r1, r2)) :
  Calls Try.prog 27 #[.slice A0 l0.length c0] w fun e w' => ∃ v0_ v1_ : Value, e = .returned (.tuple #[v0_, v1_]) ∧ Kd.R (Kd.int .i64) 3 w' w.heap.size (fun k_ => some k_ ≠ (v1_ : Value).ownBlock) v0_ r1 ∧ Kd.R (Kd.int .i64) 3 w' w.heap.size (fun k_ => some k_ ≠ (v0_ : Value).ownBlock) v1_ r2 ∧ Below w.heap.size w w' := by
 have hu66 := Try.underlying66
 have HR0 := Aside0.mk hr0
 have HC0 := Aside0.mk hc0
 clear hr0 hc0
 have HB := am (Below.refl w.heap.size w)
 have H : ((spec_l1Cur_pick.f l0 0 0 4).bind fun bt297 => ((spec_l1Cur_pick.f l0 bt297.2.1 bt297.2.2 4).bind fun bt300 => ((spec_l1Cur_boardOf.f k l0 bt300.2.1 bt300.2.2 (wrap64 (1 + bt297.1)) (wrap64 (1 + bt300.1))).bind fun bt303 => ((spec_roNumbers.f k bt303.1 bt303.2.1 bt303.2.2.1).bind fun t310 => ((spec_l1Cur_pick.f l0 bt303.2.2.2.1 bt303.2.2.2.2 4).bind fun bt313 => ((spec_l1Cur_pick.f l0 bt313.2.1 bt313.2.2 4).bind fun bt316 => ((spec_l1Cur_boardOf.f k l0 bt316.2.1 bt316.2.2 (wrap64 (1 + bt313.1)) (wrap64 (1 + bt316.1))).bind fun bt319 => ((spec_roNumbers.f k bt319.1 bt319.2.1 bt319.2.2.1).bind fun t326 => ((spec_l1Cur_pick.f l0 bt319.2.2.2.1 bt319.2.2.2.2 12).bind fun bt329 => (if bt329.1 = 0 then ((spec_l1Cur_among.f l0 bt329.2.1 bt329.2.2 (([(-1), 0, 100000, 100001] : List Int))).bind fun bt335 => (if 0 < (t310.length : Int) then (some ((t310.set (0 : Int).toNat bt335.1), t326)) else (none))) else (if bt329.1 = 1 then (some (t310, ([] : List Int))) else (if bt329.1 = 2 then ((spec_l1Cur_pick.f l0 bt329.2.1 bt329.2.2 2).bind fun bt339 => (if 0 ≤ (wrap64 (7 + bt339.1)) then (if (wrap64 (7 + bt339.1) : Int).toNat ≤ 35184372088832 then (some (t310, (List.replicate (wrap64 (7 + bt339.1) : Int).toNat 0))) else (none)) else (none))) else (some (t310, t326)))))))))))))) = some (r1, r2) := h
 clear h
 replace H := qE H
 obtain ⟨⟨t297, t298, t299⟩, A2, H⟩ := H
 replace H : ((spec_l1Cur_pick.f l0 t298 t299 4).bind fun bt300 => ((spec_l1Cur_boardOf.f k l0 bt300.2.1 bt300.2.2 (wrap64 (1 + t297)) (wrap64 (1 + bt300.1))).bind fun bt303 => ((spec_roNumbers.f k bt303.1 bt303.2.1 bt303.2.2.1).bind fun t310 => ((spec_l1Cur_pick.f l0 bt303.2.2.2.1 bt303.2.2.2.2 4).bind fun bt313 => ((spec_l1Cur_pick.f l0 bt313.2.1 bt313.2.2 4).bind fun bt316 => ((spec_l1Cur_boardOf.f k l0 bt316.2.1 bt316.2.2 (wrap64 (1 + bt313.1)) (wrap64 (1 + bt316.1))).bind fun bt319 => ((spec_roNumbers.f k bt319.1 bt319.2.1 bt319.2.2.1).bind fun t326 => ((spec_l1Cur_pick.f l0 bt319.2.2.2.1 bt319.2.2.2.2 12).bind fun bt329 => (if bt329.1 = 0 then ((spec_l1Cur_among.f l0 bt329.2.1 bt329.2.2 (([(-1), 0, 100000, 100001] : List Int))).bind fun bt335 => (if 0 < (t310.length : Int) then (some ((t310.set (0 : Int).toNat bt335.1), t326)) else (none))) else (if bt329.1 = 1 then (some (t310, ([] : List Int))) else (if bt329.1 = 2 then ((spec_l1Cur_pick.f l0 bt329.2.1 bt329.2.2 2).bind fun bt339 => (if 0 ≤ (wrap64 (7 + bt339.1)) then (if (wrap64 (7 + bt339.1) : Int).toNat ≤ 35184372088832 then (some (t310, (List.replicate (wrap64 (7 + bt339.1) : Int).toNat 0))) else (none)) else (none))) else (some (t310, t326))))))))))))) = some (r1, r2) := H
 replace H := qE H
 obtain ⟨⟨t300, t301, t302⟩, A3, H⟩ := H
 replace H : ((spec_l1Cur_boardOf.f k l0 t301 t302 (wrap64 (1 + t297)) (wrap64 (1 + t300))).bind fun bt303 => ((spec_roNumbers.f k bt303.1 bt303.2.1 bt303.2.2.1).bind fun t310 => ((spec_l1Cur_pick.f l0 bt303.2.2.2.1 bt303.2.2.2.2 4).bind fun bt313 => ((spec_l1Cur_pick.f l0 bt313.2.1 bt313.2.2 4).bind fun bt316 => ((spec_l1Cur_boardOf.f k l0 bt316.2.1 bt316.2.2 (wrap64 (1 + bt313.1)) (wrap64 (1 + bt316.1))).bind fun bt319 => ((spec_roNumbers.f k bt319.1 bt319.2.1 bt319.2.2.1).bind fun t326 => ((spec_l1Cur_pick.f l0 bt319.2.2.2.1 bt319.2.2.2.2 12).bind fun bt329 => (if bt329.1 = 0 then ((spec_l1Cur_among.f l0 bt329.2.1 bt329.2.2 (([(-1), 0, 100000, 100001] : List Int))).bind fun bt335 => (if 0 < (t310.length : Int) then (some ((t310.set (0 : Int).toNat bt335.1), t326)) else (none))) else (if bt329.1 = 1 then (some (t310, ([] : List Int))) else (if bt329.1 = 2 then ((spec_l1Cur_pick.f l0 bt329.2.1 bt329.2.2 2).bind fun bt339 => (if 0 ≤ (wrap64 (7 + bt339.1)) then (if (wrap64 (7 + bt339.1) : Int).toNat ≤ 35184372088832 then (some (t310, (List.replicate (wrap64 (7 + bt339.1) : Int).toNat 0))) else (none)) else (none))) else (some (t310, t326)))))))))))) = some (r1, r2) := H
 replace H := qE H
 obtain ⟨⟨t303, t304, t305, t308, t309⟩, A4, H⟩ := H
 replace H : ((spec_roNumbers.f k t303 t304 t305).bind fun t310 => ((spec_l1Cur_pick.f l0 t308 t309 4).bind fun bt313 => ((spec_l1Cur_pick.f l0 bt313.2.1 bt313.2.2 4).bind fun bt316 => ((spec_l1Cur_boardOf.f k l0 bt316.2.1 bt316.2.2 (wrap64 (1 + bt313.1)) (wrap64 (1 + bt316.1))).bind fun bt319 => ((spec_roNumbers.f k bt319.1 bt319.2.1 bt319.2.2.1).bind fun t326 => ((spec_l1Cur_pick.f l0 bt319.2.2.2.1 bt319.2.2.2.2 12).bind fun bt329 => (if bt329.1 = 0 then ((spec_l1Cur_among.f l0 bt329.2.1 bt329.2.2 (([(-1), 0, 100000, 100001] : List Int))).bind fun bt335 => (if 0 < (t310.length : Int) then (some ((t310.set (0 : Int).toNat bt335.1), t326)) else (none))) else (if bt329.1 = 1 then (some (t310, ([] : List Int))) else (if bt329.1 = 2 then ((spec_l1Cur_pick.f l0 bt329.2.1 bt329.2.2 2).bind fun bt339 => (if 0 ≤ (wrap64 (7 + bt339.1)) then (if (wrap64 (7 + bt339.1) : Int).toNat ≤ 35184372088832 then (some (t310, (List.replicate (wrap64 (7 + bt339.1) : Int).toNat 0))) else (none)) else (none))) else (some (t310, t326))))))))))) = some (r1, r2) := H
 replace H := qE H
 obtain ⟨t310, A5, H⟩ := H
 replace H : ((spec_l1Cur_pick.f l0 t308 t309 4).bind fun bt313 => ((spec_l1Cur_pick.f l0 bt313.2.1 bt313.2.2 4).bind fun bt316 => ((spec_l1Cur_boardOf.f k l0 bt316.2.1 bt316.2.2 (wrap64 (1 + bt313.1)) (wrap64 (1 + bt316.1))).bind fun bt319 => ((spec_roNumbers.f k bt319.1 bt319.2.1 bt319.2.2.1).bind fun t326 => ((spec_l1Cur_pick.f l0 bt319.2.2.2.1 bt319.2.2.2.2 12).bind fun bt329 => (if bt329.1 = 0 then ((spec_l1Cur_among.f l0 bt329.2.1 bt329.2.2 (([(-1), 0, 100000, 100001] : List Int))).bind fun bt335 => (if 0 < (t310.length : Int) then (some ((t310.set (0 : Int).toNat bt335.1), t326)) else (none))) else (if bt329.1 = 1 then (some (t310, ([] : List Int))) else (if bt329.1 = 2 then ((spec_l1Cur_pick.f l0 bt329.2.1 bt329.2.2 2).bind fun bt339 => (if 0 ≤ (wrap64 (7 + bt339.1)) then (if (wrap64 (7 + bt339.1) : Int).toNat ≤ 35184372088832 then (some (t310, (List.replicate (wrap64 (7 + bt339.1) : Int).toNat 0))) else (none)) else (none))) else (some (t310, t326)))))))))) = some (r1, r2) := H
 replace H := qE H
 obtain ⟨⟨t313, t314, t315⟩, A6, H⟩ := H
 replace H : ((spec_l1Cur_pick.f l0 t314 t315 4).bind fun bt316 => ((spec_l1Cur_boardOf.f k l0 bt316.2.1 bt316.2.2 (wrap64 (1 + t313)) (wrap64 (1 + bt316.1))).bind fun bt319 => ((spec_roNumbers.f k bt319.1 bt319.2.1 bt319.2.2.1).bind fun t326 => ((spec_l1Cur_pick.f l0 bt319.2.2.2.1 bt319.2.2.2.2 12).bind fun bt329 => (if bt329.1 = 0 then ((spec_l1Cur_among.f l0 bt329.2.1 bt329.2.2 (([(-1), 0, 100000, 100001] : List Int))).bind fun bt335 => (if 0 < (t310.length : Int) then (some ((t310.set (0 : Int).toNat bt335.1), t326)) else (none))) else (if bt329.1 = 1 then (some (t310, ([] : List Int))) else (if bt329.1 = 2 then ((spec_l1Cur_pick.f l0 bt329.2.1 bt329.2.2 2).bind fun bt339 => (if 0 ≤ (wrap64 (7 + bt339.1)) then (if (wrap64 (7 + bt339.1) : Int).toNat ≤ 35184372088832 then (some (t310, (List.replicate (wrap64 (7 + bt339.1) : Int).toNat 0))) else (none)) else (none))) else (some (t310, t326))))))))) = some (r1, r2) := H
 replace H := qE H
 obtain ⟨⟨t316, t317, t318⟩, A7, H⟩ := H
 replace H : ((spec_l1Cur_boardOf.f k l0 t317 t318 (wrap64 (1 + t313)) (wrap64 (1 + t316))).bind fun bt319 => ((spec_roNumbers.f k bt319.1 bt319.2.1 bt319.2.2.1).bind fun t326 => ((spec_l1Cur_pick.f l0 bt319.2.2.2.1 bt319.2.2.2.2 12).bind fun bt329 => (if bt329.1 = 0 then ((spec_l1Cur_among.f l0 bt329.2.1 bt329.2.2 (([(-1), 0, 100000, 100001] : List Int))).bind fun bt335 => (if 0 < (t310.length : Int) then (some ((t310.set (0 : Int).toNat bt335.1), t326)) else (none))) else (if bt329.1 = 1 then (some (t310, ([] : List Int))) else (if bt329.1 = 2 then ((spec_l1Cur_pick.f l0 bt329.2.1 bt329.2.2 2).bind fun bt339 => (if 0 ≤ (wrap64 (7 + bt339.1)) then (if (wrap64 (7 + bt339.1) : Int).toNat ≤ 35184372088832 then (some (t310, (List.replicate (wrap64 (7 + bt339.1) : Int).toNat 0))) else (none)) else (none))) else (some (t310, t326)))))))) = some (r1, r2) := H
 replace H := qE H
 obtain ⟨⟨t319, t320, t321, t324, t325⟩, A8, H⟩ := H
 replace H : ((spec_roNumbers.f k t319 t320 t321).bind fun t326 => ((spec_l1Cur_pick.f l0 t324 t325 12).bind fun bt329 => (if bt329.1 = 0 then ((spec_l1Cur_among.f l0 bt329.2.1 bt329.2.2 (([(-1), 0, 100000, 100001] : List Int))).bind fun bt335 => (if 0 < (t310.length : Int) then (some ((t310.set (0 : Int).toNat bt335.1), t326)) else (none))) else (if bt329.1 = 1 then (some (t310, ([] : List Int))) else (if bt329.1 = 2 then ((spec_l1Cur_pick.f l0 bt329.2.1 bt329.2.2 2).bind fun bt339 => (if 0 ≤ (wrap64 (7 + bt339.1)) then (if (wrap64 (7 + bt339.1) : Int).toNat ≤ 35184372088832 then (some (t310, (List.replicate (wrap64 (7 + bt339.1) : Int).toNat 0))) else (none)) else (none))) else (some (t310, t326))))))) = some (r1, r2) := H
 replace H := qE H
 obtain ⟨t326, A9, H⟩ := H
 replace H : ((spec_l1Cur_pick.f l0 t324 t325 12).bind fun bt329 => (if bt329.1 = 0 then ((spec_l1Cur_among.f l0 bt329.2.1 bt329.2.2 (([(-1), 0, 100000, 100001] : List Int))).bind fun bt335 => (if 0 < (t310.length : Int) then (some ((t310.set (0 : Int).toNat bt335.1), t326)) else (none))) else (if bt329.1 = 1 then (some (t310, ([] : List Int))) else (if bt329.1 = 2 then ((spec_l1Cur_pick.f l0 bt329.2.1 bt329.2.2 2).bind fun bt339 => (if 0 ≤ (wrap64 (7 + bt339.1)) then (if (wrap64 (7 + bt339.1) : Int).toNat ≤ 35184372088832 then (some (t310, (List.replicate (wrap64 (7 + bt339.1) : Int).toNat 0))) else (none)) else (none))) else (some (t310, t326)))))) = some (r1, r2) := H
 replace H := qE H
 obtain ⟨⟨t329, t330, t331⟩, A10, H⟩ := H
 replace H : (if t329 = 0 then ((spec_l1Cur_among.f l0 t330 t331 (([(-1), 0, 100000, 100001] : List Int))).bind fun bt335 => (if 0 < (t310.length : Int) then (some ((t310.set (0 : Int).toNat bt335.1), t326)) else (none))) else (if t329 = 1 then (some (t310, ([] : List Int))) else (if t329 = 2 then ((spec_l1Cur_pick.f l0 t330 t331 2).bind fun bt339 => (if 0 ≤ (wrap64 (7 + bt339.1)) then (if (wrap64 (7 + bt339.1) : Int).toNat ≤ 35184372088832 then (some (t310, (List.replicate (wrap64 (7 + bt339.1) : Int).toNat 0))) else (none)) else (none))) else (some (t310, t326))))) = some (r1, r2) := H
 by_cases c11 : t329 = 0
 ·
  rw [if_pos c11] at H
  have c11b0 : (t329 == 0) = true := beq_iff_eq.mpr c11
  have c11b1 : (t329 != 0) = false := bne_eq_false_iff_eq.mpr c11
  clear c11
  obtain ⟨y332, hy_⟩ : ∃ y_ : List Int, y_ = ((([(-1), 0, 100000, 100001] : List Int))) := ⟨_, rfl⟩
  replace H : ((spec_l1Cur_among.f l0 t330 t331 y332).bind fun bt335 => (if 0 < (t310.length : Int) then (some ((t310.set (0 : Int).toNat bt335.1), t326)) else (none))) = some (r1, r2) := qH
  have Ny332 := Aside0.mk hy_
  clear hy_
  replace H := qE H
  obtain ⟨⟨t335, t336, t337⟩, A12, H⟩ := H
  replace H : (if 0 < (t310.length : Int) then (some ((t310.set (0 : Int).toNat t335), t326)) else (none)) = some (r1, r2) := H
  by_cases c13 : 0 < (t310.length : Int)
  ·
   rw [if_pos c13] at H
   have c13b0 : decide (0 < (t310.length : Int)) = true := decide_eq_true c13
   have c13b1 : decide (0 < t310.length) = true := decide_eq_true (by omega)
   clear c13
   obtain ⟨y338, hy_⟩ : ∃ y_ : List Int, y_ = ((t310.set (0 : Int).toNat t335)) := ⟨_, rfl⟩
   replace H : (some (y338, t326)) = some (r1, r2) := qH
   have Ny338 := Aside0.mk hy_
   clear hy_
   simp only [Option.some.injEq, Prod.mk.injEq] at H
   obtain ⟨rfl, rfl⟩ := H
   go_enter Try.func27, Try.ntmps27
   go_wp2_with (first | ((with_reducible refine gate_dst (N := 9) rfl ?_); refine qv 9 #[.slice A0 l0.length c0, .int .i64 0, .int .u64 0] 66 ?_; intro gb296 hg w15 hbox hb; have HI296 := am ((show IsS66 w w15 gb296 l0 0 0 from ⟨_, _, hbox, (by rw [hg]; exact (below_size qb) : w.heap.size ≤ gb296), HR0.out⟩)); have GW296 := qw hg; have GE296 := qw hg; replace HB := qs hb; clear hb hbox hg) | ((with_reducible refine gate_callee (f := 63) rfl ?_); refine qg (some 12) Try.func63 #[.pointer (some ⟨gb296, 0, none⟩), .int .i64 4] ?_; (with_reducible refine (spec_l1Cur_pick.calls gb296 l0 0 0 4 t297 t298 t299 w _ ?side1 ?side2 A2.out).mono ?_); (case side1 => exact qi); (case side2 => exact qc); rintro e w16 ⟨rfl, hi, hb, hk⟩; refine ⟨_, rfl, ?_⟩; replace HB := am hb; replace HI296 := am hi; (try clear hb hk hi)) | ((with_reducible refine gate_callee (f := 63) rfl ?_); refine qg (some 15) Try.func63 #[.pointer (some ⟨gb296, 0, none⟩), .int .i64 4] ?_; (with_reducible refine (spec_l1Cur_pick.calls gb296 l0 t298 t299 4 t300 t301 t302 w _ ?side1 ?side2 A3.out).mono ?_); (case side1 => exact qi); (case side2 => exact qc); rintro e w17 ⟨rfl, hi, hb, hk⟩; refine ⟨_, rfl, ?_⟩; replace HB := am hb; replace HI296 := am hi; (try clear hb hk hi)) | ((with_reducible refine gate_callee (f := 73) rfl ?_); refine qg (some 17) Try.func73 #[.pointer (some ⟨gb296, 0, none⟩), .int .i64 (wrap64 (1 + t297)), .int .i64 (wrap64 (1 + t300))] ?_; (with_reducible refine (spec_l1Cur_boardOf.calls k gb296 l0 t301 t302 (wrap64 (1 + t297)) (wrap64 (1 + t300)) t303 t304 t305 t308 t309 w _ ?side1 ?side2 A4.out).mono ?_); (case side1 => exact qi); (case side2 => exact qc); rintro e w18 ⟨v306, rfl, ho0, hi, hb, hk⟩; refine ⟨_, rfl, ?_⟩; have Oq1 := qL ho0; replace HB := am hb; replace HI296 := am hi; (try clear hb hk hi ho0); obtain ⟨Ao19, co19, eo19⟩ := Kd.R_slice Oq1.out; subst eo19) | ((with_reducible refine gate_callee (f := 83) rfl ?_); refine qg (some 18) Try.func83 #[.agg #[.int .i64 t303, .int .i64 t304, .slice Ao19 t305.length co19]] ?_; (with_reducible refine (spec_roNumbers.calls k t303 t304 _ _ t305 t310 _ ?side1 ?side2 A5.out).mono ?_); (case side1 => exact Q16); (case side2 => exact Q44); rintro e w20 ⟨v311, rfl, ho0, hb⟩; refine ⟨_, rfl, ?_⟩; have Oq2 := am (Kd.R_lower (Kd.R_new' ho0 (sqL Oq1)) (below_size qc)); replace Oq1 := sqE Oq1 ho0 hb; replace HB := qt hb; replace HI296 := qj hb; (try clear hb ho0)) | ((with_reducible refine gate_callee (f := 63) rfl ?_); refine qg (some 21) Try.func63 #[.pointer (some ⟨gb296, 0, none⟩), .int .i64 4] ?_; (with_reducible refine (spec_l1Cur_pick.calls gb296 l0 t308 t309 4 t313 t314 t315 w _ ?side1 ?side2 A6.out).mono ?_); (case side1 => exact qi); (case side2 => exact qc); rintro e w21 ⟨rfl, hi, hb, hk⟩; refine ⟨_, rfl, ?_⟩; replace Oq1 := qR Oq1 hk; replace Oq2 := qR Oq2 hk; replace HB := am hb; replace HI296 := am hi; (try clear hb hk hi)) | ((with_reducible refine gate_callee (f := 63) rfl ?_); refine qg (some 24) Try.func63 #[.pointer (some ⟨gb296, 0, none⟩), .int .i64 4] ?_; (with_reducible refine (spec_l1Cur_pick.calls gb296 l0 t314 t315 4 t316 t317 t318 w _ ?side1 ?side2 A7.out).mono ?_); (case side1 => exact qi); (case side2 => exact qc); rintro e w22 ⟨rfl, hi, hb, hk⟩; refine ⟨_, rfl, ?_⟩; replace Oq1 := qR Oq1 hk; replace Oq2 := qR Oq2 hk; replace HB := am hb; replace HI296 := am hi; (try clear hb hk hi)) | ((with_reducible refine gate_callee (f := 73) rfl ?_); refine qg (some 26) Try.func73 #[.pointer (some ⟨gb296, 0, none⟩), .int .i64 (wrap64 (1 + t313)), .int .i64 (wrap64 (1 + t316))] ?_; (with_reducible refine (spec_l1Cur_boardOf.calls k gb296 l0 t317 t318 (wrap64 (1 + t313)) (wrap64 (1 + t316)) t319 t320 t321 t324 t325 w _ ?side1 ?side2 A8.out).mono ?_); (case side1 => exact qi); (case side2 => exact qc); rintro e w23 ⟨v322, rfl, ho0, hi, hb, hk⟩; refine ⟨_, rfl, ?_⟩; have Oq3 := am (Kd.R_lower (Kd.R_new' (Kd.R_new' ho0 (sqL Oq1)) (sqL Oq2)) (below_size qc)); replace Oq1 := am (Kd.R_mono (Kd.R_told (Kd.R_oldK (IsS66.apart (show IsS66 w _ gb296 l0 t317 t318 from qi) (sqr Oq1) (by decide)) hk) (Kd.R_base ho0)) (fun _ h_ => h_.1)); replace Oq2 := am (Kd.R_mono (Kd.R_told (Kd.R_oldK (IsS66.apart (show IsS66 w _ gb296 l0 t317 t318 from qi) (sqr Oq2) (by decide)) hk) (Kd.R_base ho0)) (fun _ h_ => h_.1)); replace HB := am hb; replace HI296 := am hi; (try clear hb hk hi ho0); obtain ⟨Ao24, co24, eo24⟩ := Kd.R_slice Oq3.out; subst eo24) | ((with_reducible refine gate_callee (f := 83) rfl ?_); refine qg (some 27) Try.func83 #[.agg #[.int .i64 t319, .int .i64 t320, .slice Ao24 t321.length co24]] ?_; (with_reducible refine (spec_roNumbers.calls k t319 t320 _ _ t321 t326 _ ?side1 ?side2 A9.out).mono ?_); (case side1 => exact Q24); (case side2 => exact Q60); rintro e w25 ⟨v327, rfl, ho0, hb⟩; refine ⟨_, rfl, ?_⟩; have Oq4 := am (Kd.R_lower (Kd.R_new' (Kd.R_new' (Kd.R_new' ho0 (sqL Oq1)) (sqL Oq2)) (sqL Oq3)) (below_size qc)); replace Oq1 := sqE Oq1 ho0 hb; replace Oq2 := sqE Oq2 ho0 hb; replace Oq3 := sqE Oq3 ho0 hb; replace HB := qt hb; replace HI296 := qj hb; (try clear hb ho0)) | ((with_reducible refine gate_callee (f := 63) rfl ?_); refine qg (some 29) Try.func63 #[.pointer (some ⟨gb296, 0, none⟩), .int .i64 12] ?_; (with_reducible refine (spec_l1Cur_pick.calls gb296 l0 t324 t325 12 t329 t330 t331 w _ ?side1 ?side2 A10.out).mono ?_); (case side1 => exact qi); (case side2 => exact qc); rintro e w26 ⟨rfl, hi, hb, hk⟩; refine ⟨_, rfl, ?_⟩; replace Oq1 := qR Oq1 hk; replace Oq2 := qR Oq2 hk; replace Oq3 := qR Oq3 hk; replace Oq4 := qR Oq4 hk; replace HB := am hb; replace HI296 := am hi; (try clear hb hk hi)) | ((with_reducible refine gate_dst (N := 34) rfl ?_); refine Kd.R_lit (Kd.int .i64) _ 3 ?hg (N := 34) ?hd (xs := ([(-1), 0, 100000, 100001] : List Int)) (inner := [.int .i64 (-1), .int .i64 0, .int .i64 100000, .int .i64 100001]) (ok := fun _ => True) (okp := fun _ => True) ?hr ?hp (fun _ hk => hk) trivial (Below.refl _ _) (Nat.le_refl _) (by simp) ?_; (case hd => rfl); (case hg => rfl); (case hr => first | (go_simp; done) | (go_simp; rfl)); (case hp => exact (Reps.one (show Kd.M (Kd.int .i64) _ _ _ (-1) [.int .i64 (-1)] from rfl) (Reps.one (show Kd.M (Kd.int .i64) _ _ _ 0 [.int .i64 0] from rfl) (Reps.one (show Kd.M (Kd.int .i64) _ _ _ 100000 [.int .i64 100000] from rfl) (Reps.one (show Kd.M (Kd.int .i64) _ _ _ 100001 [.int .i64 100001] from rfl) (Reps.none _ _)))))); intro v333 w27 ho28 hb hg_ hnew_; clear hg_ hnew_; (first | rw [← Ny332.out] at ho28 | (simp only [Int.reduceToNat] at ho28; rw [← Ny332.out] at ho28)); have Oq5 := am (Kd.R_lower (Kd.R_new' (Kd.R_new' (Kd.R_new' (Kd.R_new' ho28 (sqL Oq1)) (sqL Oq2)) (sqL Oq3)) (sqL Oq4)) (below_size qc)); replace Oq1 := qe (sqr Oq1) ho28 hb; replace Oq2 := qe (sqr Oq2) ho28 hb; replace Oq3 := qe (sqr Oq3) ho28 hb; replace Oq4 := qe (sqr Oq4) ho28 hb; replace HB := qt hb; replace HI296 := qj hb; clear hb ho28; obtain ⟨Ao29, co29, eo29⟩ := Kd.R_slice Oq5.out; subst eo29) | ((with_reducible refine gate_callee (f := 84) rfl ?_); refine qg (some 35) Try.func84 #[.pointer (some ⟨gb296, 0, none⟩), .slice Ao29 y332.length co29] ?_; (with_reducible refine (spec_l1Cur_among.calls gb296 l0 t330 t331 _ _ y332 t335 t336 t337 w _ ?side1 ?side2 ?side3 ?side4 ?side5 A12.out).mono ?_); (case side1 => exact qi); (case side2 => exact qc); (case side3 => repeat (first | exact (Kd.R_reads' Oq5.out).2.2 | (with_reducible first | refine Kd.C_alloc ?_ _ | refine Kd.C_drewN ?_ _ | refine Kd.C_drew ?_))); (case side4 => exact (Kd.R_reads' Oq5.out).2.1); (case side5 => exact far_slice (IsS66.own_ne HI296.out Oq5.out (by decide))); rintro e w30 ⟨rfl, hi, hb, hk⟩; refine ⟨_, rfl, ?_⟩; replace Oq1 := qR Oq1 hk; replace Oq2 := qR Oq2 hk; replace Oq3 := qR Oq3 hk; replace Oq4 := qR Oq4 hk; replace Oq5 := qR Oq5 hk; replace HB := am hb; replace HI296 := am hi; (try clear hb hk hi); have p14 : 0 ≤ (0 : Int) := (by omega); have q14 : (0 : Int) < ((t310.length : Int) : Int) := of_decide_eq_true Q0; have qi14 : (0 < t310.length) = True := eq_true (by omega); obtain ⟨go14, co14, eo14, gb14, gl14, cl14, HG14⟩ := Kd.R_form Oq2.out (by omega); (first | cases eo14 | (injection eo14 with ea_ en_ ec_; (first | subst ea_ | (injection ea_ with ea_; subst ea_)); subst ec_; clear en_)); have GB14 := Aside0.mk gb14; have GG14 := Aside0.mk HG14; clear gb14 gl14 HG14; obtain ⟨hx14_0, hf14_0⟩ := Kd.R_celln 0 Oq2.out (0 : Int) p14 q14; (try rw [show ((0 : Int)).toNat = 0 from rfl] at hx14_0); (try simp only [Nat.reduceMul, Nat.zero_mul, Nat.zero_add, Nat.reduceAdd] at hx14_0); (try rw [show ((0 : Int)).toNat = 0 from rfl] at hf14_0); (try simp only [Nat.reduceMul, Nat.zero_mul, Nat.zero_add, Nat.reduceAdd] at hf14_0); replace p14 := eq_true p14; replace q14 := eq_true q14; have n_ := am (Kd.R_mono (ok' := (fun k_ => some k_ ≠ (.slice Ao19 t305.length co19 : Value).ownBlock ∧ some k_ ≠ (.slice Ao24 t321.length co24 : Value).ownBlock ∧ some k_ ≠ (v327 : Value).ownBlock ∧ some k_ ≠ (.slice Ao29 y332.length co29 : Value).ownBlock)) Oq2.out (fun k_ hk => ⟨hk.1.1.1.2, ⟨hk.1.1.2, ⟨hk.1.2, hk.2⟩⟩⟩)); clear Oq2; have Oq2 := n_; clear n_; obtain ⟨hy31_, hz31_⟩ := Kd.R_celln 0 Oq2.out (0 : Int) (by omega) (of_decide_eq_true Q0); (try simp only [Int.reduceToNat, Int.toNat_zero, Int.toNat_ofNat, Nat.reduceMul, Nat.zero_mul, Nat.zero_add] at hy31_ hz31_); (try rw [show ((0 : Int)).toNat = 0 from rfl] at hy31_); (try rw [show ((0 : Int)).toNat = 0 from rfl] at hz31_); have HP31 := Kd.R_putg Oq2.out (0 : Int) t335) | ((with_reducible refine gate_store (t := 3) (p := 36) rfl ?_); refine store_event (t := 3) (p := 36) (v := ?vo_w32) (w1 := (w30.setCell ⟨go14, (0 : Int).toNat, none⟩ (.int .i64 t335))) ?hg ?ho ?hn ?hr ?_; (case ho => rfl); (case hg => rfl); (case hn => rfl); (case hr => first | (go_simp; done) | (go_simp; rfl)); intro w32 hw; have hg : w30.grownBy w32 (some go14) := (by rw [hw]; exact HP31.2); have hp_ : Kd.R (Kd.int .i64) 3 w32 w.heap.size (fun k_ => some k_ ≠ (.slice Ao19 t305.length co19 : Value).ownBlock ∧ some k_ ≠ (.slice Ao24 t321.length co24 : Value).ownBlock ∧ some k_ ≠ (v327 : Value).ownBlock ∧ some k_ ≠ (.slice Ao29 y332.length co29 : Value).ownBlock) (.slice (some ⟨go14, 0, none⟩) t310.length co14) y338 := (by rw [hw, Ny338.out]; exact HP31.1); clear HP31; replace HI296 := am (IsS66.grown qi hg (IsS66.own_ne HI296.out Oq2.out (by decide))); replace Oq1 := am (Kd.R_after (v := (.slice (some ⟨go14, 0, none⟩) t310.length co14)) (v1 := (.slice (some ⟨go14, 0, none⟩) t310.length co14)) (ok := (fun k_ => some k_ ≠ (.slice Ao24 t321.length co24 : Value).ownBlock ∧ some k_ ≠ (v327 : Value).ownBlock ∧ some k_ ≠ (.slice Ao29 y332.length co29 : Value).ownBlock)) (by exact sqm Oq1 (fun _ hk => ⟨⟨hk.1.1.2, ⟨hk.1.2, hk.2⟩⟩, hk.1.1.1.2⟩)) hg (.inl rfl)); replace Oq2 := am (hp_); replace Oq3 := am (Kd.R_after (v := (.slice (some ⟨go14, 0, none⟩) t310.length co14)) (v1 := (.slice (some ⟨go14, 0, none⟩) t310.length co14)) (ok := (fun k_ => some k_ ≠ (.slice Ao19 t305.length co19 : Value).ownBlock ∧ some k_ ≠ (v327 : Value).ownBlock ∧ some k_ ≠ (.slice Ao29 y332.length co29 : Value).ownBlock)) (by exact sqm Oq3 (fun _ hk => ⟨⟨hk.1.1.1.2, ⟨hk.1.2, hk.2⟩⟩, hk.1.1.2⟩)) hg (.inl rfl)); replace Oq4 := am (Kd.R_after (v := (.slice (some ⟨go14, 0, none⟩) t310.length co14)) (v1 := (.slice (some ⟨go14, 0, none⟩) t310.length co14)) (ok := (fun k_ => some k_ ≠ (.slice Ao19 t305.length co19 : Value).ownBlock ∧ some k_ ≠ (.slice Ao24 t321.length co24 : Value).ownBlock ∧ some k_ ≠ (.slice Ao29 y332.length co29 : Value).ownBlock)) (by exact sqm Oq4 (fun _ hk => ⟨⟨hk.1.1.1.2, ⟨hk.1.2, hk.2⟩⟩, hk.1.1.2⟩)) hg (.inl rfl)); replace Oq5 := am (Kd.R_after (v := (.slice (some ⟨go14, 0, none⟩) t310.length co14)) (v1 := (.slice (some ⟨go14, 0, none⟩) t310.length co14)) (ok := (fun k_ => some k_ ≠ (.slice Ao19 t305.length co19 : Value).ownBlock ∧ some k_ ≠ (.slice Ao24 t321.length co24 : Value).ownBlock ∧ some k_ ≠ (v327 : Value).ownBlock)) (by exact sqm Oq5 (fun _ hk => ⟨⟨hk.1.1.1.2, ⟨hk.1.2, hk.2⟩⟩, hk.1.1.2⟩)) hg (.inl rfl)); replace HB := am ((by rw [hw]; exact below_set (HB.out) GB14.out : Below w.heap.size w w32)); clear hg hw hp_))
   go_ret2
   exact ⟨_, _, Q2, by exact sqm Oq2 (fun _ hk => hk.2.2.1), by exact sqm Oq4 (fun _ hk => hk.2), qc⟩
  ·
   rw [if_neg c13] at H
   exact absurd H (by simp)
 ·
  rw [if_neg c11] at H
  have c11b0 : (t329 == 0) = false := beq_eq_false_iff_ne.mpr c11
  have c11b1 : (t329 != 0) = true := bne_iff_ne.mpr c11
  by_cases c33 : t329 = 1
  ·
   rw [if_pos c33] at H
   have c33b0 : (t329 == 1) = true := beq_iff_eq.mpr c33
   have c33b1 : (t329 != 1) = false := bne_eq_false_iff_eq.mpr c33
   clear c33
   simp only [Option.some.injEq, Prod.mk.injEq] at H
   obtain ⟨rfl, rfl⟩ := H
   go_enter Try.func27, Try.ntmps27
   go_wp2_with (first | ((with_reducible refine gate_dst (N := 9) rfl ?_); refine qv 9 #[.slice A0 l0.length c0, .int .i64 0, .int .u64 0] 66 ?_; intro gb296 hg w34 hbox hb; have HI296 := am ((show IsS66 w w34 gb296 l0 0 0 from ⟨_, _, hbox, (by rw [hg]; exact (below_size qb) : w.heap.size ≤ gb296), HR0.out⟩)); have GW296 := qw hg; have GE296 := qw hg; replace HB := qs hb; clear hb hbox hg) | ((with_reducible refine gate_callee (f := 63) rfl ?_); refine qg (some 12) Try.func63 #[.pointer (some ⟨gb296, 0, none⟩), .int .i64 4] ?_; (with_reducible refine (spec_l1Cur_pick.calls gb296 l0 0 0 4 t297 t298 t299 w _ ?side1 ?side2 A2.out).mono ?_); (case side1 => exact qi); (case side2 => exact qc); rintro e w35 ⟨rfl, hi, hb, hk⟩; refine ⟨_, rfl, ?_⟩; replace HB := am hb; replace HI296 := am hi; (try clear hb hk hi)) | ((with_reducible refine gate_callee (f := 63) rfl ?_); refine qg (some 15) Try.func63 #[.pointer (some ⟨gb296, 0, none⟩), .int .i64 4] ?_; (with_reducible refine (spec_l1Cur_pick.calls gb296 l0 t298 t299 4 t300 t301 t302 w _ ?side1 ?side2 A3.out).mono ?_); (case side1 => exact qi); (case side2 => exact qc); rintro e w36 ⟨rfl, hi, hb, hk⟩; refine ⟨_, rfl, ?_⟩; replace HB := am hb; replace HI296 := am hi; (try clear hb hk hi)) | ((with_reducible refine gate_callee (f := 73) rfl ?_); refine qg (some 17) Try.func73 #[.pointer (some ⟨gb296, 0, none⟩), .int .i64 (wrap64 (1 + t297)), .int .i64 (wrap64 (1 + t300))] ?_; (with_reducible refine (spec_l1Cur_boardOf.calls k gb296 l0 t301 t302 (wrap64 (1 + t297)) (wrap64 (1 + t300)) t303 t304 t305 t308 t309 w _ ?side1 ?side2 A4.out).mono ?_); (case side1 => exact qi); (case side2 => exact qc); rintro e w37 ⟨v306, rfl, ho0, hi, hb, hk⟩; refine ⟨_, rfl, ?_⟩; have Oq1 := qL ho0; replace HB := am hb; replace HI296 := am hi; (try clear hb hk hi ho0); obtain ⟨Ao38, co38, eo38⟩ := Kd.R_slice Oq1.out; subst eo38) | ((with_reducible refine gate_callee (f := 83) rfl ?_); refine qg (some 18) Try.func83 #[.agg #[.int .i64 t303, .int .i64 t304, .slice Ao38 t305.length co38]] ?_; (with_reducible refine (spec_roNumbers.calls k t303 t304 _ _ t305 t310 _ ?side1 ?side2 A5.out).mono ?_); (case side1 => exact Q16); (case side2 => exact Q44); rintro e w39 ⟨v311, rfl, ho0, hb⟩; refine ⟨_, rfl, ?_⟩; have Oq2 := am (Kd.R_lower (Kd.R_new' ho0 (sqL Oq1)) (below_size qc)); replace Oq1 := sqE Oq1 ho0 hb; replace HB := qt hb; replace HI296 := qj hb; (try clear hb ho0)) | ((with_reducible refine gate_callee (f := 63) rfl ?_); refine qg (some 21) Try.func63 #[.pointer (some ⟨gb296, 0, none⟩), .int .i64 4] ?_; (with_reducible refine (spec_l1Cur_pick.calls gb296 l0 t308 t309 4 t313 t314 t315 w _ ?side1 ?side2 A6.out).mono ?_); (case side1 => exact qi); (case side2 => exact qc); rintro e w40 ⟨rfl, hi, hb, hk⟩; refine ⟨_, rfl, ?_⟩; replace Oq1 := qR Oq1 hk; replace Oq2 := qR Oq2 hk; replace HB := am hb; replace HI296 := am hi; (try clear hb hk hi)) | ((with_reducible refine gate_callee (f := 63) rfl ?_); refine qg (some 24) Try.func63 #[.pointer (some ⟨gb296, 0, none⟩), .int .i64 4] ?_; (with_reducible refine (spec_l1Cur_pick.calls gb296 l0 t314 t315 4 t316 t317 t318 w _ ?side1 ?side2 A7.out).mono ?_); (case side1 => exact qi); (case side2 => exact qc); rintro e w41 ⟨rfl, hi, hb, hk⟩; refine ⟨_, rfl, ?_⟩; replace Oq1 := qR Oq1 hk; replace Oq2 := qR Oq2 hk; replace HB := am hb; replace HI296 := am hi; (try clear hb hk hi)) | ((with_reducible refine gate_callee (f := 73) rfl ?_); refine qg (some 26) Try.func73 #[.pointer (some ⟨gb296, 0, none⟩), .int .i64 (wrap64 (1 + t313)), .int .i64 (wrap64 (1 + t316))] ?_; (with_reducible refine (spec_l1Cur_boardOf.calls k gb296 l0 t317 t318 (wrap64 (1 + t313)) (wrap64 (1 + t316)) t319 t320 t321 t324 t325 w _ ?side1 ?side2 A8.out).mono ?_); (case side1 => exact qi); (case side2 => exact qc); rintro e w42 ⟨v322, rfl, ho0, hi, hb, hk⟩; refine ⟨_, rfl, ?_⟩; have Oq3 := am (Kd.R_lower (Kd.R_new' (Kd.R_new' ho0 (sqL Oq1)) (sqL Oq2)) (below_size qc)); replace Oq1 := am (Kd.R_mono (Kd.R_told (Kd.R_oldK (IsS66.apart (show IsS66 w _ gb296 l0 t317 t318 from qi) (sqr Oq1) (by decide)) hk) (Kd.R_base ho0)) (fun _ h_ => h_.1)); replace Oq2 := am (Kd.R_mono (Kd.R_told (Kd.R_oldK (IsS66.apart (show IsS66 w _ gb296 l0 t317 t318 from qi) (sqr Oq2) (by decide)) hk) (Kd.R_base ho0)) (fun _ h_ => h_.1)); replace HB := am hb; replace HI296 := am hi; (try clear hb hk hi ho0); obtain ⟨Ao43, co43, eo43⟩ := Kd.R_slice Oq3.out; subst eo43) | ((with_reducible refine gate_callee (f := 83) rfl ?_); refine qg (some 27) Try.func83 #[.agg #[.int .i64 t319, .int .i64 t320, .slice Ao43 t321.length co43]] ?_; (with_reducible refine (spec_roNumbers.calls k t319 t320 _ _ t321 t326 _ ?side1 ?side2 A9.out).mono ?_); (case side1 => exact Q24); (case side2 => exact Q60); rintro e w44 ⟨v327, rfl, ho0, hb⟩; refine ⟨_, rfl, ?_⟩; have Oq4 := am (Kd.R_lower (Kd.R_new' (Kd.R_new' (Kd.R_new' ho0 (sqL Oq1)) (sqL Oq2)) (sqL Oq3)) (below_size qc)); replace Oq1 := sqE Oq1 ho0 hb; replace Oq2 := sqE Oq2 ho0 hb; replace Oq3 := sqE Oq3 ho0 hb; replace HB := qt hb; replace HI296 := qj hb; (try clear hb ho0)) | ((with_reducible refine gate_callee (f := 63) rfl ?_); refine qg (some 29) Try.func63 #[.pointer (some ⟨gb296, 0, none⟩), .int .i64 12] ?_; (with_reducible refine (spec_l1Cur_pick.calls gb296 l0 t324 t325 12 t329 t330 t331 w _ ?side1 ?side2 A10.out).mono ?_); (case side1 => exact qi); (case side2 => exact qc); rintro e w45 ⟨rfl, hi, hb, hk⟩; refine ⟨_, rfl, ?_⟩; replace Oq1 := qR Oq1 hk; replace Oq2 := qR Oq2 hk; replace Oq3 := qR Oq3 hk; replace Oq4 := qR Oq4 hk; replace HB := am hb; replace HI296 := am hi; (try clear hb hk hi)))
   go_ret2
   exact ⟨_, _, Q2, by exact sqm Oq2 (fun _ hk => (by simp [Value.ownBlock])), Q17, qc⟩
  ·
   rw [if_neg c33] at H
   have c33b0 : (t329 == 1) = false := beq_eq_false_iff_ne.mpr c33
   have c33b1 : (t329 != 1) = true := bne_iff_ne.mpr c33
   by_cases c46 : t329 = 2
   ·
    rw [if_pos c46] at H
    have c46b0 : (t329 == 2) = true := beq_iff_eq.mpr c46
    have c46b1 : (t329 != 2) = false := bne_eq_false_iff_eq.mpr c46
    clear c46
    replace H := qE H
    obtain ⟨⟨t339, t340, t341⟩, A47, H⟩ := H
    replace H : (if 0 ≤ (wrap64 (7 + t339)) then (if (wrap64 (7 + t339) : Int).toNat ≤ 35184372088832 then (some (t310, (List.replicate (wrap64 (7 + t339) : Int).toNat 0))) else (none)) else (none)) = some (r1, r2) := H
    obtain ⟨ji48, hji48⟩ : ∃ j_ : Int, (wrap64 (7 + t339)) = j_ := ⟨_, rfl⟩
    replace H : (if 0 ≤ (ji48) then (if (ji48 : Int).toNat ≤ 35184372088832 then (some (t310, (List.replicate (ji48 : Int).toNat 0))) else (none)) else (none)) = some (r1, r2) := by first | (rw [hji48] at H; exact H) | (simp only [hji48] at H ⊢; exact H)
    (try rw [hji48] at A2)
    (try rw [hji48] at A3)
    (try rw [hji48] at A4)
    (try rw [hji48] at A5)
    (try rw [hji48] at A6)
    (try rw [hji48] at A7)
    (try rw [hji48] at A8)
    (try rw [hji48] at A9)
    (try rw [hji48] at A10)
    (try rw [hji48] at A47)
    have hji48w : (IntKind.i64.wrap (7 + t339)) = ji48 := (i64_w _).trans hji48
    by_cases c49 : 0 ≤ (ji48)
    ·
     rw [if_pos c49] at H
     have c49b0 := eq_true c49
     have c49b1 : decide (0 ≤ (ji48)) = true := decide_eq_true c49
     clear c49
     by_cases c50 : (ji48 : Int).toNat ≤ 35184372088832
     ·
      rw [if_pos c50] at H
      have c50b0 := eq_true c50
      have c50b1 : decide ((ji48 : Int).toNat ≤ 35184372088832) = true := decide_eq_true c50
      clear c50
      obtain ⟨y342, hy_⟩ : ∃ y_ : List Int, y_ = ((List.replicate (ji48 : Int).toNat 0)) := ⟨_, rfl⟩
      replace H : (some (t310, y342)) = some (r1, r2) := qH
      have Ny342 := Aside0.mk hy_
      clear hy_
      simp only [Option.some.injEq, Prod.mk.injEq] at H
      obtain ⟨rfl, rfl⟩ := H
      go_enter Try.func27, Try.ntmps27
      go_wp2_with (first | ((with_reducible refine gate_dst (N := 9) rfl ?_); refine qv 9 #[.slice A0 l0.length c0, .int .i64 0, .int .u64 0] 66 ?_; intro gb296 hg w51 hbox hb; have HI296 := am ((show IsS66 w w51 gb296 l0 0 0 from ⟨_, _, hbox, (by rw [hg]; exact (below_size qb) : w.heap.size ≤ gb296), HR0.out⟩)); have GW296 := qw hg; have GE296 := qw hg; replace HB := qs hb; clear hb hbox hg) | ((with_reducible refine gate_callee (f := 63) rfl ?_); refine qg (some 12) Try.func63 #[.pointer (some ⟨gb296, 0, none⟩), .int .i64 4] ?_; (with_reducible refine (spec_l1Cur_pick.calls gb296 l0 0 0 4 t297 t298 t299 w _ ?side1 ?side2 A2.out).mono ?_); (case side1 => exact qi); (case side2 => exact qc); rintro e w52 ⟨rfl, hi, hb, hk⟩; refine ⟨_, rfl, ?_⟩; replace HB := am hb; replace HI296 := am hi; (try clear hb hk hi)) | ((with_reducible refine gate_callee (f := 63) rfl ?_); refine qg (some 15) Try.func63 #[.pointer (some ⟨gb296, 0, none⟩), .int .i64 4] ?_; (with_reducible refine (spec_l1Cur_pick.calls gb296 l0 t298 t299 4 t300 t301 t302 w _ ?side1 ?side2 A3.out).mono ?_); (case side1 => exact qi); (case side2 => exact qc); rintro e w53 ⟨rfl, hi, hb, hk⟩; refine ⟨_, rfl, ?_⟩; replace HB := am hb; replace HI296 := am hi; (try clear hb hk hi)) | ((with_reducible refine gate_callee (f := 73) rfl ?_); refine qg (some 17) Try.func73 #[.pointer (some ⟨gb296, 0, none⟩), .int .i64 (wrap64 (1 + t297)), .int .i64 (wrap64 (1 + t300))] ?_; (with_reducible refine (spec_l1Cur_boardOf.calls k gb296 l0 t301 t302 (wrap64 (1 + t297)) (wrap64 (1 + t300)) t303 t304 t305 t308 t309 w _ ?side1 ?side2 A4.out).mono ?_); (case side1 => exact qi); (case side2 => exact qc); rintro e w54 ⟨v306, rfl, ho0, hi, hb, hk⟩; refine ⟨_, rfl, ?_⟩; have Oq1 := qL ho0; replace HB := am hb; replace HI296 := am hi; (try clear hb hk hi ho0); obtain ⟨Ao55, co55, eo55⟩ := Kd.R_slice Oq1.out; subst eo55) | ((with_reducible refine gate_callee (f := 83) rfl ?_); refine qg (some 18) Try.func83 #[.agg #[.int .i64 t303, .int .i64 t304, .slice Ao55 t305.length co55]] ?_; (with_reducible refine (spec_roNumbers.calls k t303 t304 _ _ t305 t310 _ ?side1 ?side2 A5.out).mono ?_); (case side1 => exact Q16); (case side2 => exact Q44); rintro e w56 ⟨v311, rfl, ho0, hb⟩; refine ⟨_, rfl, ?_⟩; have Oq2 := am (Kd.R_lower (Kd.R_new' ho0 (sqL Oq1)) (below_size qc)); replace Oq1 := sqE Oq1 ho0 hb; replace HB := qt hb; replace HI296 := qj hb; (try clear hb ho0)) | ((with_reducible refine gate_callee (f := 63) rfl ?_); refine qg (some 21) Try.func63 #[.pointer (some ⟨gb296, 0, none⟩), .int .i64 4] ?_; (with_reducible refine (spec_l1Cur_pick.calls gb296 l0 t308 t309 4 t313 t314 t315 w _ ?side1 ?side2 A6.out).mono ?_); (case side1 => exact qi); (case side2 => exact qc); rintro e w57 ⟨rfl, hi, hb, hk⟩; refine ⟨_, rfl, ?_⟩; replace Oq1 := qR Oq1 hk; replace Oq2 := qR Oq2 hk; replace HB := am hb; replace HI296 := am hi; (try clear hb hk hi)) | ((with_reducible refine gate_callee (f := 63) rfl ?_); refine qg (some 24) Try.func63 #[.pointer (some ⟨gb296, 0, none⟩), .int .i64 4] ?_; (with_reducible refine (spec_l1Cur_pick.calls gb296 l0 t314 t315 4 t316 t317 t318 w _ ?side1 ?side2 A7.out).mono ?_); (case side1 => exact qi); (case side2 => exact qc); rintro e w58 ⟨rfl, hi, hb, hk⟩; refine ⟨_, rfl, ?_⟩; replace Oq1 := qR Oq1 hk; replace Oq2 := qR Oq2 hk; replace HB := am hb; replace HI296 := am hi; (try clear hb hk hi)) | ((with_reducible refine gate_callee (f := 73) rfl ?_); refine qg (some 26) Try.func73 #[.pointer (some ⟨gb296, 0, none⟩), .int .i64 (wrap64 (1 + t313)), .int .i64 (wrap64 (1 + t316))] ?_; (with_reducible refine (spec_l1Cur_boardOf.calls k gb296 l0 t317 t318 (wrap64 (1 + t313)) (wrap64 (1 + t316)) t319 t320 t321 t324 t325 w _ ?side1 ?side2 A8.out).mono ?_); (case side1 => exact qi); (case side2 => exact qc); rintro e w59 ⟨v322, rfl, ho0, hi, hb, hk⟩; refine ⟨_, rfl, ?_⟩; have Oq3 := am (Kd.R_lower (Kd.R_new' (Kd.R_new' ho0 (sqL Oq1)) (sqL Oq2)) (below_size qc)); replace Oq1 := am (Kd.R_mono (Kd.R_told (Kd.R_oldK (IsS66.apart (show IsS66 w _ gb296 l0 t317 t318 from qi) (sqr Oq1) (by decide)) hk) (Kd.R_base ho0)) (fun _ h_ => h_.1)); replace Oq2 := am (Kd.R_mono (Kd.R_told (Kd.R_oldK (IsS66.apart (show IsS66 w _ gb296 l0 t317 t318 from qi) (sqr Oq2) (by decide)) hk) (Kd.R_base ho0)) (fun _ h_ => h_.1)); replace HB := am hb; replace HI296 := am hi; (try clear hb hk hi ho0); obtain ⟨Ao60, co60, eo60⟩ := Kd.R_slice Oq3.out; subst eo60) | ((with_reducible refine gate_callee (f := 83) rfl ?_); refine qg (some 27) Try.func83 #[.agg #[.int .i64 t319, .int .i64 t320, .slice Ao60 t321.length co60]] ?_; (with_reducible refine (spec_roNumbers.calls k t319 t320 _ _ t321 t326 _ ?side1 ?side2 A9.out).mono ?_); (case side1 => exact Q24); (case side2 => exact Q60); rintro e w61 ⟨v327, rfl, ho0, hb⟩; refine ⟨_, rfl, ?_⟩; have Oq4 := am (Kd.R_lower (Kd.R_new' (Kd.R_new' (Kd.R_new' ho0 (sqL Oq1)) (sqL Oq2)) (sqL Oq3)) (below_size qc)); replace Oq1 := sqE Oq1 ho0 hb; replace Oq2 := sqE Oq2 ho0 hb; replace Oq3 := sqE Oq3 ho0 hb; replace HB := qt hb; replace HI296 := qj hb; (try clear hb ho0)) | ((with_reducible refine gate_callee (f := 63) rfl ?_); refine qg (some 29) Try.func63 #[.pointer (some ⟨gb296, 0, none⟩), .int .i64 12] ?_; (with_reducible refine (spec_l1Cur_pick.calls gb296 l0 t324 t325 12 t329 t330 t331 w _ ?side1 ?side2 A10.out).mono ?_); (case side1 => exact qi); (case side2 => exact qc); rintro e w62 ⟨rfl, hi, hb, hk⟩; refine ⟨_, rfl, ?_⟩; replace Oq1 := qR Oq1 hk; replace Oq2 := qR Oq2 hk; replace Oq3 := qR Oq3 hk; replace Oq4 := qR Oq4 hk; replace HB := am hb; replace HI296 := am hi; (try clear hb hk hi)) | ((with_reducible refine gate_callee (f := 63) rfl ?_); refine qg (some 42) Try.func63 #[.pointer (some ⟨gb296, 0, none⟩), .int .i64 2] ?_; (with_reducible refine (spec_l1Cur_pick.calls gb296 l0 t330 t331 2 t339 t340 t341 w _ ?side1 ?side2 A47.out).mono ?_); (case side1 => exact qi); (case side2 => exact qc); rintro e w63 ⟨rfl, hi, hb, hk⟩; refine ⟨_, rfl, ?_⟩; replace Oq1 := qR Oq1 hk; replace Oq2 := qR Oq2 hk; replace Oq3 := qR Oq3 hk; replace Oq4 := qR Oq4 hk; replace HB := am hb; replace HI296 := am hi; (try clear hb hk hi)) | ((with_reducible refine gate_dst (N := 44) rfl ?_); refine Kd.R_make (Kd.int .i64) _ 3 rfl (N := 44) rfl 24 _ _ rfl ji48 rfl rfl Try.underlying24 (.int .i64 0) 8 info3 rfl (by decide) (by omega) 0 (ok := fun _ => True) (okp := fun _ => True) rfl (fun _ hk => hk) trivial (of_decide_eq_true Q0) (Nat.le_trans (Nat.mul_le_mul_right _ (of_decide_eq_true Q0 : ji48.toNat ≤ 35184372088832)) (by omega)) (Below.refl _ _) (Nat.le_refl _) ?_; intro v343 w64 ho65 hb hg_ hnew_; clear hg_ hnew_; (first | rw [← Ny342.out] at ho65 | (simp only [Int.reduceToNat] at ho65; rw [← Ny342.out] at ho65)); have Oq6 := am (Kd.R_lower (Kd.R_new' (Kd.R_new' (Kd.R_new' (Kd.R_new' ho65 (sqL Oq1)) (sqL Oq2)) (sqL Oq3)) (sqL Oq4)) (below_size qc)); replace Oq1 := qe (sqr Oq1) ho65 hb; replace Oq2 := qe (sqr Oq2) ho65 hb; replace Oq3 := qe (sqr Oq3) ho65 hb; replace Oq4 := qe (sqr Oq4) ho65 hb; replace HB := qt hb; replace HI296 := qj hb; clear hb ho65))
      go_ret2
      exact ⟨_, _, by first | rfl | (simp [errW_none, errW_some] <;> rfl) | (simp only [← hji48]; first | rfl | (simp [errW_none, errW_some] <;> rfl)) | (simp [*, errW_none, errW_some] <;> rfl), by exact sqm Oq2 (fun _ hk => hk.2), by exact sqm Oq6 (fun _ hk => hk.1.1.2), qc⟩
     ·
      rw [if_neg c50] at H
      exact absurd H (by simp)
    ·
     rw [if_neg c49] at H
     exact absurd H (by simp)
   ·
    rw [if_neg c46] at H
    have c46b0 : (t329 == 2) = false := beq_eq_false_iff_ne.mpr c46
    have c46b1 : (t329 != 2) = true := bne_iff_ne.mpr c46
    simp only [Option.some.injEq, Prod.mk.injEq] at H
    obtain ⟨rfl, rfl⟩ := H
    go_enter Try.func27, Try.ntmps27
    go_wp2_with (first | ((with_reducible refine gate_dst (N := 9) rfl ?_); refine qv 9 #[.slice A0 l0.length c0, .int .i64 0, .int .u64 0] 66 ?_; intro gb296 hg w66 hbox hb; have HI296 := am ((show IsS66 w w66 gb296 l0 0 0 from ⟨_, _, hbox, (by rw [hg]; exact (below_size qb) : w.heap.size ≤ gb296), HR0.out⟩)); have GW296 := qw hg; have GE296 := qw hg; replace HB := qs hb; clear hb hbox hg) | ((with_reducible refine gate_callee (f := 63) rfl ?_); refine qg (some 12) Try.func63 #[.pointer (some ⟨gb296, 0, none⟩), .int .i64 4] ?_; (with_reducible refine (spec_l1Cur_pick.calls gb296 l0 0 0 4 t297 t298 t299 w _ ?side1 ?side2 A2.out).mono ?_); (case side1 => exact qi); (case side2 => exact qc); rintro e w67 ⟨rfl, hi, hb, hk⟩; refine ⟨_, rfl, ?_⟩; replace HB := am hb; replace HI296 := am hi; (try clear hb hk hi)) | ((with_reducible refine gate_callee (f := 63) rfl ?_); refine qg (some 15) Try.func63 #[.pointer (some ⟨gb296, 0, none⟩), .int .i64 4] ?_; (with_reducible refine (spec_l1Cur_pick.calls gb296 l0 t298 t299 4 t300 t301 t302 w _ ?side1 ?side2 A3.out).mono ?_); (case side1 => exact qi); (case side2 => exact qc); rintro e w68 ⟨rfl, hi, hb, hk⟩; refine ⟨_, rfl, ?_⟩; replace HB := am hb; replace HI296 := am hi; (try clear hb hk hi)) | ((with_reducible refine gate_callee (f := 73) rfl ?_); refine qg (some 17) Try.func73 #[.pointer (some ⟨gb296, 0, none⟩), .int .i64 (wrap64 (1 + t297)), .int .i64 (wrap64 (1 + t300))] ?_; (with_reducible refine (spec_l1Cur_boardOf.calls k gb296 l0 t301 t302 (wrap64 (1 + t297)) (wrap64 (1 + t300)) t303 t304 t305 t308 t309 w _ ?side1 ?side2 A4.out).mono ?_); (case side1 => exact qi); (case side2 => exact qc); rintro e w69 ⟨v306, rfl, ho0, hi, hb, hk⟩; refine ⟨_, rfl, ?_⟩; have Oq1 := qL ho0; replace HB := am hb; replace HI296 := am hi; (try clear hb hk hi ho0); obtain ⟨Ao70, co70, eo70⟩ := Kd.R_slice Oq1.out; subst eo70) | ((with_reducible refine gate_callee (f := 83) rfl ?_); refine qg (some 18) Try.func83 #[.agg #[.int .i64 t303, .int .i64 t304, .slice Ao70 t305.length co70]] ?_; (with_reducible refine (spec_roNumbers.calls k t303 t304 _ _ t305 t310 _ ?side1 ?side2 A5.out).mono ?_); (case side1 => exact Q16); (case side2 => exact Q44); rintro e w71 ⟨v311, rfl, ho0, hb⟩; refine ⟨_, rfl, ?_⟩; have Oq2 := am (Kd.R_lower (Kd.R_new' ho0 (sqL Oq1)) (below_size qc)); replace Oq1 := sqE Oq1 ho0 hb; replace HB := qt hb; replace HI296 := qj hb; (try clear hb ho0)) | ((with_reducible refine gate_callee (f := 63) rfl ?_); refine qg (some 21) Try.func63 #[.pointer (some ⟨gb296, 0, none⟩), .int .i64 4] ?_; (with_reducible refine (spec_l1Cur_pick.calls gb296 l0 t308 t309 4 t313 t314 t315 w _ ?side1 ?side2 A6.out).mono ?_); (case side1 => exact qi); (case side2 => exact qc); rintro e w72 ⟨rfl, hi, hb, hk⟩; refine ⟨_, rfl, ?_⟩; replace Oq1 := qR Oq1 hk; replace Oq2 := qR Oq2 hk; replace HB := am hb; replace HI296 := am hi; (try clear hb hk hi)) | ((with_reducible refine gate_callee (f := 63) rfl ?_); refine qg (some 24) Try.func63 #[.pointer (some ⟨gb296, 0, none⟩), .int .i64 4] ?_; (with_reducible refine (spec_l1Cur_pick.calls gb296 l0 t314 t315 4 t316 t317 t318 w _ ?side1 ?side2 A7.out).mono ?_); (case side1 => exact qi); (case side2 => exact qc); rintro e w73 ⟨rfl, hi, hb, hk⟩; refine ⟨_, rfl, ?_⟩; replace Oq1 := qR Oq1 hk; replace Oq2 := qR Oq2 hk; replace HB := am hb; replace HI296 := am hi; (try clear hb hk hi)) | ((with_reducible refine gate_callee (f := 73) rfl ?_); refine qg (some 26) Try.func73 #[.pointer (some ⟨gb296, 0, none⟩), .int .i64 (wrap64 (1 + t313)), .int .i64 (wrap64 (1 + t316))] ?_; (with_reducible refine (spec_l1Cur_boardOf.calls k gb296 l0 t317 t318 (wrap64 (1 + t313)) (wrap64 (1 + t316)) t319 t320 t321 t324 t325 w _ ?side1 ?side2 A8.out).mono ?_); (case side1 => exact qi); (case side2 => exact qc); rintro e w74 ⟨v322, rfl, ho0, hi, hb, hk⟩; refine ⟨_, rfl, ?_⟩; have Oq3 := am (Kd.R_lower (Kd.R_new' (Kd.R_new' ho0 (sqL Oq1)) (sqL Oq2)) (below_size qc)); replace Oq1 := am (Kd.R_mono (Kd.R_told (Kd.R_oldK (IsS66.apart (show IsS66 w _ gb296 l0 t317 t318 from qi) (sqr Oq1) (by decide)) hk) (Kd.R_base ho0)) (fun _ h_ => h_.1)); replace Oq2 := am (Kd.R_mono (Kd.R_told (Kd.R_oldK (IsS66.apart (show IsS66 w _ gb296 l0 t317 t318 from qi) (sqr Oq2) (by decide)) hk) (Kd.R_base ho0)) (fun _ h_ => h_.1)); replace HB := am hb; replace HI296 := am hi; (try clear hb hk hi ho0); obtain ⟨Ao75, co75, eo75⟩ := Kd.R_slice Oq3.out; subst eo75) | ((with_reducible refine gate_callee (f := 83) rfl ?_); refine qg (some 27) Try.func83 #[.agg #[.int .i64 t319, .int .i64 t320, .slice Ao75 t321.length co75]] ?_; (with_reducible refine (spec_roNumbers.calls k t319 t320 _ _ t321 t326 _ ?side1 ?side2 A9.out).mono ?_); (case side1 => exact Q24); (case side2 => exact Q60); rintro e w76 ⟨v327, rfl, ho0, hb⟩; refine ⟨_, rfl, ?_⟩; have Oq4 := am (Kd.R_lower (Kd.R_new' (Kd.R_new' (Kd.R_new' ho0 (sqL Oq1)) (sqL Oq2)) (sqL Oq3)) (below_size qc)); replace Oq1 := sqE Oq1 ho0 hb; replace Oq2 := sqE Oq2 ho0 hb; replace Oq3 := sqE Oq3 ho0 hb; replace HB := qt hb; replace HI296 := qj hb; (try clear hb ho0)) | ((with_reducible refine gate_callee (f := 63) rfl ?_); refine qg (some 29) Try.func63 #[.pointer (some ⟨gb296, 0, none⟩), .int .i64 12] ?_; (with_reducible refine (spec_l1Cur_pick.calls gb296 l0 t324 t325 12 t329 t330 t331 w _ ?side1 ?side2 A10.out).mono ?_); (case side1 => exact qi); (case side2 => exact qc); rintro e w77 ⟨rfl, hi, hb, hk⟩; refine ⟨_, rfl, ?_⟩; replace Oq1 := qR Oq1 hk; replace Oq2 := qR Oq2 hk; replace Oq3 := qR Oq3 hk; replace Oq4 := qR Oq4 hk; replace HB := am hb; replace HI296 := am hi; (try clear hb hk hi)))
    go_ret2
    exact ⟨_, _, Q2, by exact sqm Oq2 (fun _ hk => hk.2), by exact sqm Oq4 (fun _ hk => hk.1.2), qc⟩

/-! ### spec_l1In: function 104 -/
def spec_l1In.f (a0 : Int) (a1 : Int) (a2 : Int) : Option (Bool) := if a0 ≥ a1 then (some (decide (a0 ≤ a2))) else (some false)
set_option maxHeartbeats 8000000 in
set_option maxRecDepth 100000 in
theorem spec_l1In.calls (a0 : Int) (a1 : Int) (a2 : Int) (r : Bool) (w : World) (h : spec_l1In.f a0 a1 a2 = some r) :
  Calls Try.prog 104 #[.int .i64 a0, .int .i64 a1, .int .i64 a2] w fun e w' => e = .returned (.bool r) ∧ Drawn0 w w' := by
 have H : (if a0 ≥ a1 then (some (decide (a0 ≤ a2))) else (some false)) = some r := h
 clear h
 by_cases c4 : a0 ≥ a1
 ·
  rw [if_pos c4] at H
  have c4b0 : decide (a1 ≤ a0) = true := decide_eq_true c4
  clear c4
  obtain rfl := Option.some.inj H
  go_enter Try.func104, Try.ntmps104
  go_wp2
  go_ret
  exact ⟨Q3, Q7⟩
 ·
  rw [if_neg c4] at H
  have c4b0 : decide (a1 ≤ a0) = false := decide_eq_false c4
  clear c4
  obtain rfl := Option.some.inj H
  go_enter Try.func104, Try.ntmps104
  go_wp2
  go_ret
  exact ⟨Q3, Q7⟩

/-! ### spec_l1All: function 115 -/
def spec_l1All.l0 : Nat → Int → Int → List Int → Int → Int → Option (Bool)
 | 0, _, _, _, _, _ => none
 | k + 1, x1, x2, x9, x10, x11 => if x11 < x10 then (if 0 ≤ x11 then (if x11 < (x9.length : Int) then ((spec_l1In.f (rd x9 x11) x1 x2).bind fun t346 => (if t346 = true then (spec_l1All.l0 k x1 x2 x9 x10 (wrap64 (x11 + 1))) else (some false))) else (none)) else (none)) else (some true)
def spec_l1All.f (k : Nat) (l0 : List Int) (a1 : Int) (a2 : Int) : Option (Bool) := spec_l1All.l0 k a1 a2 l0 (l0.length : Int) 0
set_option maxHeartbeats 8000000 in
set_option maxRecDepth 100000 in
theorem spec_l1All.calls (k : Nat) (A0 : Option Addr) (c0 : Nat) (l0 : List Int) (a1 : Int) (a2 : Int) (r : Bool) (w : World) (hr0 : Kd.C (Kd.int .i64) w A0 l0.length l0) (hc0 : l0.length ≤ c0) (h : spec_l1All.f k l0 a1 a2 = some r) :
  Calls Try.prog 115 #[.slice A0 l0.length c0, .int .i64 a1, .int .i64 a2] w fun e w' => e = .returned (.bool r) ∧ Drawn0 w w' := by
 have HR0 := Aside0.mk hr0
 have HC0 := Aside0.mk hc0
 clear hr0 hc0
 have H : (spec_l1All.l0 k a1 a2 l0 (l0.length : Int) 0) = some r := h
 clear h
 have H' := Aside0.mk H
 clear H
 go_enter Try.func115, Try.ntmps115
 go_wp2
 go_loopg [11] k (fun kq v11 w' => ∃ (x11_1 : Int), v11 = .int .i64 x11_1 ∧ Aside0 (spec_l1All.l0 kq a1 a2 l0 (l0.length : Int) x11_1 = some r) ∧ Aside0 (kq ≤ k) ∧ Drawn0 w w')
 case atStart => exact ⟨(0), Q3, H', ⟨Nat.le_refl _⟩, Q7⟩
 case round =>
  clear H'
  obtain ⟨x11_1, rfl, HA, HK1, ⟨m1, rfl⟩⟩ := hrel
  cases gk with
  | zero => exact absurd HA.out (by simp [spec_l1All.l0])
  | succ k1 =>
   have H := HA.out
   clear HA
   simp only [spec_l1All.l0] at H
   by_cases c4 : x11_1 < (l0.length : Int)
   ·
    rw [if_pos c4] at H
    have c4b0 : decide (x11_1 < (l0.length : Int)) = true := decide_eq_true c4
    clear c4
    by_cases c5 : 0 ≤ x11_1
    ·
     rw [if_pos c5] at H
     have c5b0 : decide (0 ≤ x11_1) = true := decide_eq_true c5
     clear c5
     by_cases c6 : x11_1 < (l0.length : Int)
     ·
      rw [if_pos c6] at H
      have c6b0 : decide (x11_1 < (l0.length : Int)) = true := decide_eq_true c6
      clear c6
      replace H := qE H
      obtain ⟨t346, A7, H⟩ := H
      replace H : (if t346 = true then (spec_l1All.l0 k1 a1 a2 l0 (l0.length : Int) (wrap64 (x11_1 + 1))) else (some false)) = some r := H
      by_cases c8 : t346 = true
      ·
       subst c8
       have H1 : (spec_l1All.l0 k1 a1 a2 l0 (l0.length : Int) (wrap64 (x11_1 + 1))) = some r := by first | (rw [if_pos rfl] at H; exact H) | rfl
       clear H
       have H := H1
       clear H1
       have H' := Aside0.mk H
       clear H
       have p345 : 0 ≤ (x11_1 : Int) := of_decide_eq_true Q0
       have q345 : x11_1 < (l0.length : Int) := of_decide_eq_true Q0
       obtain ⟨ad345, e345, hx345_0⟩ := Kd.at_int HR0.out x11_1 p345 q345
       cases e345
       replace p345 := eq_true p345
       replace q345 := eq_true q345
       go_wp2_with (first | ((with_reducible refine gate_callee (f := 104) rfl ?_); refine qg (some 18) Try.func104 #[.int .i64 (rd l0 x11_1), .int .i64 a1, .int .i64 a2] ?_; (with_reducible refine (spec_l1In.calls (rd l0 x11_1) a1 a2 true _ A7.out).mono ?_); rintro e w' ⟨rfl, ⟨nd, rfl⟩⟩; refine ⟨_, rfl, ?_⟩))
       go_roundg k1
       case measure => have := HK1.out; omega
       case rel => exact ⟨(wrap64 (x11_1 + 1)), Q3, H', ⟨Q49⟩, Q7⟩
      ·
       replace c8 := Bool.eq_false_iff.mpr c8
       subst c8
       have H1 : (some false) = some r := by first | (rw [if_neg (show ¬ (false = true) by decide)] at H; exact H) | rfl
       clear H
       have H := H1
       clear H1
       obtain rfl := Option.some.inj H
       have p345 : 0 ≤ (x11_1 : Int) := of_decide_eq_true Q0
       have q345 : x11_1 < (l0.length : Int) := of_decide_eq_true Q0
       obtain ⟨ad345, e345, hx345_0⟩ := Kd.at_int HR0.out x11_1 p345 q345
       cases e345
       replace p345 := eq_true p345
       replace q345 := eq_true q345
       go_wp2_with (first | ((with_reducible refine gate_callee (f := 104) rfl ?_); refine qg (some 18) Try.func104 #[.int .i64 (rd l0 x11_1), .int .i64 a1, .int .i64 a2] ?_; (with_reducible refine (spec_l1In.calls (rd l0 x11_1) a1 a2 false _ A7.out).mono ?_); rintro e w' ⟨rfl, ⟨nd, rfl⟩⟩; refine ⟨_, rfl, ?_⟩))
       go_ret
       exact ⟨Q3, Q7⟩
     ·
      rw [if_neg c6] at H
      exact absurd H (by simp)
    ·
     rw [if_neg c5] at H
     exact absurd H (by simp)
   ·
    rw [if_neg c4] at H
    have c4b0 : decide (x11_1 < (l0.length : Int)) = false := decide_eq_false c4
    clear c4
    obtain rfl := Option.some.inj H
    go_wp2
    go_ret
    exact ⟨Q3, Q7⟩

/-! ### spec_roFactors: function 85 -/
def spec_roFactors.f (k : Nat) (l0 : List Int) : Option (Bool) := (spec_l1In.f (l0.length : Int) 1 7).bind fun t347 => (if t347 = true then ((spec_l1All.f k l0 0 100000).bind fun t348 => (some t348)) else (some false))
set_option maxHeartbeats 8000000 in
set_option maxRecDepth 100000 in
theorem spec_roFactors.calls (k : Nat) (A0 : Option Addr) (c0 : Nat) (l0 : List Int) (r : Bool) (w : World) (hr0 : Kd.C (Kd.int .i64) w A0 l0.length l0) (hc0 : l0.length ≤ c0) (h : spec_roFactors.f k l0 = some r) :
  Calls Try.prog 85 #[.slice A0 l0.length c0] w fun e w' => e = .returned (.bool r) ∧ Drawn0 w w' := by
 have HR0 := Aside0.mk hr0
 have HC0 := Aside0.mk hc0
 clear hr0 hc0
 have H : ((spec_l1In.f (l0.length : Int) 1 7).bind fun t347 => (if t347 = true then ((spec_l1All.f k l0 0 100000).bind fun t348 => (some t348)) else (some false))) = some r := h
 clear h
 replace H := qE H
 obtain ⟨t347, A2, H⟩ := H
 replace H : (if t347 = true then ((spec_l1All.f k l0 0 100000).bind fun t348 => (some t348)) else (some false)) = some r := H
 by_cases c3 : t347 = true
 ·
  subst c3
  have H1 : ((spec_l1All.f k l0 0 100000).bind fun t348 => (some t348)) = some r := by first | (rw [if_pos rfl] at H; exact H) | rfl
  clear H
  have H := H1
  clear H1
  replace H := qE H
  obtain ⟨t348, A4, H⟩ := H
  replace H : (some t348) = some r := H
  obtain rfl := Option.some.inj H
  go_enter Try.func85, Try.ntmps85
  go_wp2_with (first | ((with_reducible refine gate_callee (f := 104) rfl ?_); refine qg (some 5) Try.func104 #[.int .i64 (l0.length : Int), .int .i64 1, .int .i64 7] ?_; (with_reducible refine (spec_l1In.calls (l0.length : Int) 1 7 true _ A2.out).mono ?_); rintro e w' ⟨rfl, ⟨nd, rfl⟩⟩; refine ⟨_, rfl, ?_⟩) | (go_at_call 115; (with_reducible refine (spec_l1All.calls k _ _ l0 0 100000 t348 _ ?side1 HC0.out A4.out).mono ?_); (case side1 => exact Q21); rintro e w' ⟨rfl, ⟨nd, rfl⟩⟩))
  go_ret
  exact ⟨Q3, Q7⟩
 ·
  replace c3 := Bool.eq_false_iff.mpr c3
  subst c3
  have H1 : (some false) = some r := by first | (rw [if_neg (show ¬ (false = true) by decide)] at H; exact H) | rfl
  clear H
  have H := H1
  clear H1
  obtain rfl := Option.some.inj H
  go_enter Try.func85, Try.ntmps85
  go_wp2_with (first | ((with_reducible refine gate_callee (f := 104) rfl ?_); refine qg (some 5) Try.func104 #[.int .i64 (l0.length : Int), .int .i64 1, .int .i64 7] ?_; (with_reducible refine (spec_l1In.calls (l0.length : Int) 1 7 false _ A2.out).mono ?_); rintro e w' ⟨rfl, ⟨nd, rfl⟩⟩; refine ⟨_, rfl, ?_⟩))
  go_ret
  exact ⟨Q3, Q7⟩

/-! ### spec_roTimes: function 86 -/
mutual
def spec_roTimes.l0 : Nat → List Int → List Int → List Int → Int → Int → Option (List Int)
 | 0, _, _, _, _, _ => none
 | k + 1, x1, x5, x17, x18, x19 => if x19 < x18 then (if 0 ≤ x19 then (if x19 < (x17.length : Int) then (spec_roTimes.l1 k x1 x5 x19 (rd x17 x19) x17 x18 x19 x1 (x1.length : Int) 0) else (none)) else (none)) else (some x5)
def spec_roTimes.l1 : Nat → List Int → List Int → Int → Int → List Int → Int → Int → List Int → Int → Int → Option (List Int)
 | 0, _, _, _, _, _, _, _, _, _, _ => none
 | k + 1, x1, x5, x6, x7, x17, x18, x19, x24, x25, x26 => if x26 < x25 then (if 0 ≤ x26 then (if x26 < (x24.length : Int) then (if 0 ≤ (wrap64 (x6 + x26)) then (if (wrap64 (x6 + x26)) < (x5.length : Int) then (spec_roTimes.l1 k x1 (x5.set ((wrap64 (x6 + x26)) : Int).toNat (wrap64 ((rd x5 (wrap64 (x6 + x26))) + (wrap64 (x7 * (rd x24 x26)))))) x6 x7 x17 x18 x19 x24 x25 (wrap64 (x26 + 1))) else (none)) else (none)) else (none)) else (none)) else (spec_roTimes.l0 k x1 x5 x17 x18 (wrap64 (x19 + 1)))
end
def spec_roTimes.f (k : Nat) (l0 : List Int) (l1 : List Int) : Option (List Int) := if 0 ≤ (wrap64 ((wrap64 ((l0.length : Int) + (l1.length : Int))) - 1)) then (if (wrap64 ((wrap64 ((l0.length : Int) + (l1.length : Int))) - 1) : Int).toNat ≤ 35184372088832 then (spec_roTimes.l0 k l1 (List.replicate (wrap64 ((wrap64 ((l0.length : Int) + (l1.length : Int))) - 1) : Int).toNat 0) l0 (l0.length : Int) 0) else (none)) else (none)
set_option maxHeartbeats 8000000 in
set_option maxRecDepth 100000 in
theorem spec_roTimes.calls (k : Nat) (A0 : Option Addr) (c0 : Nat) (l0 : List Int) (A1 : Option Addr) (c1 : Nat) (l1 : List Int) (r : List Int) (w : World) (hr0 : Kd.C (Kd.int .i64) w A0 l0.length l0) (hc0 : l0.length ≤ c0) (hr1 : Kd.C (Kd.int .i64) w A1 l1.length l1) (hc1 : l1.length ≤ c1) (h : spec_roTimes.f k l0 l1 = some r) :
  Calls Try.prog 86 #[.slice A0 l0.length c0, .slice A1 l1.length c1] w fun e w' => ∃ v0_ : Value, e = .returned (v0_) ∧ Kd.R (Kd.int .i64) 3 w' w.heap.size (fun _ => True) v0_ r ∧ Below w.heap.size w w' := by
 have HR0 := Aside0.mk hr0
 have HC0 := Aside0.mk hc0
 clear hr0 hc0
 have HR1 := Aside0.mk hr1
 have HC1 := Aside0.mk hc1
 clear hr1 hc1
 have HB := am (Below.refl w.heap.size w)
 have H : (if 0 ≤ (wrap64 ((wrap64 ((l0.length : Int) + (l1.length : Int))) - 1)) then (if (wrap64 ((wrap64 ((l0.length : Int) + (l1.length : Int))) - 1) : Int).toNat ≤ 35184372088832 then (spec_roTimes.l0 k l1 (List.replicate (wrap64 ((wrap64 ((l0.length : Int) + (l1.length : Int))) - 1) : Int).toNat 0) l0 (l0.length : Int) 0) else (none)) else (none)) = some r := h
 clear h
 obtain ⟨ji3, hji3⟩ : ∃ j_ : Int, (wrap64 ((wrap64 ((l0.length : Int) + (l1.length : Int))) - 1)) = j_ := ⟨_, rfl⟩
 replace H : (if 0 ≤ (ji3) then (if (ji3 : Int).toNat ≤ 35184372088832 then (spec_roTimes.l0 k l1 (List.replicate (ji3 : Int).toNat 0) l0 (l0.length : Int) 0) else (none)) else (none)) = some r := by first | (rw [hji3] at H; exact H) | (simp only [hji3] at H ⊢; exact H)
 have hji3w : (IntKind.i64.wrap ((wrap64 ((l0.length : Int) + (l1.length : Int))) - 1)) = ji3 := (i64_w _).trans hji3
 by_cases c4 : 0 ≤ (ji3)
 ·
  rw [if_pos c4] at H
  have c4b0 := eq_true c4
  have c4b1 : decide (0 ≤ (ji3)) = true := decide_eq_true c4
  clear c4
  by_cases c5 : (ji3 : Int).toNat ≤ 35184372088832
  ·
   rw [if_pos c5] at H
   have c5b0 := eq_true c5
   have c5b1 : decide ((ji3 : Int).toNat ≤ 35184372088832) = true := decide_eq_true c5
   clear c5
   obtain ⟨y349, hy_⟩ : ∃ y_ : List Int, y_ = ((List.replicate (ji3 : Int).toNat 0)) := ⟨_, rfl⟩
   replace H : (spec_roTimes.l0 k l1 y349 l0 (l0.length : Int) 0) = some r := qH
   have Ny349 := Aside0.mk hy_
   clear hy_
   have H' := Aside0.mk H
   clear H
   go_enter Try.func86, Try.ntmps86
   go_wp2_with (first | ((with_reducible refine gate_dst (N := 16) rfl ?_); refine Kd.R_make (Kd.int .i64) _ 3 rfl (N := 16) rfl 24 _ _ rfl ji3 rfl rfl Try.underlying24 (.int .i64 0) 8 info3 rfl (by decide) (by omega) 0 (ok := fun _ => True) (okp := fun _ => True) rfl (fun _ hk => hk) trivial (of_decide_eq_true Q0) (Nat.le_trans (Nat.mul_le_mul_right _ (of_decide_eq_true Q0 : ji3.toNat ≤ 35184372088832)) (by omega)) (Below.refl _ _) (Nat.le_refl _) ?_; intro v350 w6 ho7 hb hg_ hnew_; clear hg_ hnew_; (first | rw [← Ny349.out] at ho7 | (simp only [Int.reduceToNat] at ho7; rw [← Ny349.out] at ho7)); have Oq7 := ql ho7; replace HB := qs hb; clear hb ho7))
   go_loopg [19] k (fun kq v19 w' => ∃ (x5_1 : List Int) (x19_1 : Int), v19 = .int .i64 x19_1 ∧ Aside0 (spec_roTimes.l0 kq l1 x5_1 l0 (l0.length : Int) x19_1 = some r) ∧ Aside0 (kq ≤ k) ∧ Aside0 (Kd.R (Kd.int .i64) 3 w' w.heap.size (fun _ => True) v350 x5_1) ∧ Aside0 (Below w.heap.size w w'))
   case atStart => exact ⟨(y349), (0), Q3, H', ⟨Nat.le_refl _⟩, ⟨by (with_reducible repeat (first | apply Kd.R_alloc | apply Kd.R_drewN | apply Kd.R_drew)); exact Oq7.out⟩, ⟨qb⟩⟩
   case round =>
    clear H'
    try clear c4; try clear c4b0; try clear c4b1; try clear c5; try clear c5b0; try clear c5b1
    obtain ⟨x5_1, x19_1, rfl, HA, HK1, Oq12, HB⟩ := hrel
    cases gk with
    | zero => exact absurd HA.out (by simp [spec_roTimes.l0])
    | succ k1 =>
     have H := HA.out
     clear HA
     simp only [spec_roTimes.l0] at H
     by_cases c8 : x19_1 < (l0.length : Int)
     ·
      rw [if_pos c8] at H
      have c8b0 : decide (x19_1 < (l0.length : Int)) = true := decide_eq_true c8
      clear c8
      by_cases c9 : 0 ≤ x19_1
      ·
       rw [if_pos c9] at H
       have c9b0 : decide (0 ≤ x19_1) = true := decide_eq_true c9
       clear c9
       by_cases c10 : x19_1 < (l0.length : Int)
       ·
        rw [if_pos c10] at H
        have c10b0 : decide (x19_1 < (l0.length : Int)) = true := decide_eq_true c10
        clear c10
        have H' := Aside0.mk H
        clear H
        have p352 : 0 ≤ (x19_1 : Int) := of_decide_eq_true Q0
        have q352 : x19_1 < (l0.length : Int) := of_decide_eq_true Q0
        obtain ⟨ad352, e352, hx352_0⟩ := Kd.at_int HR0.out x19_1 p352 q352
        cases e352
        replace hx352_0 := (HB.out.cell (World.block_lt_of_cell? w _ hx352_0)).trans hx352_0
        replace p352 := eq_true p352
        replace q352 := eq_true q352
        go_wp2
        go_loopg [26] k1 (fun kq v26 w' => ∃ (x5_2 : List Int) (x26_2 : Int), v26 = .int .i64 x26_2 ∧ Aside0 (spec_roTimes.l1 kq l1 x5_2 x19_1 (rd l0 x19_1) l0 (l0.length : Int) x19_1 l1 (l1.length : Int) x26_2 = some r) ∧ Aside0 (kq ≤ k1) ∧ Aside0 (Kd.R (Kd.int .i64) 3 w' w.heap.size (fun _ => True) v350 x5_2) ∧ Aside0 (Below w.heap.size w w'))
        case atStart => exact ⟨(x5_1), (0), Q3, H', ⟨Nat.le_refl _⟩, ⟨Q43⟩, ⟨qb⟩⟩
        case round =>
         clear H'
         try clear c4; try clear c4b0; try clear c4b1; try clear c5; try clear c5b0; try clear c5b1; try clear c8; try clear c8b0; try clear c9; try clear c9b0; try clear c10; try clear c10b0; try clear hx352_0; try clear p352; try clear q352
         obtain ⟨x5_2, x26_2, rfl, HA, HK2, Oq12, HB⟩ := hrel
         cases gk with
         | zero => exact absurd HA.out (by simp [spec_roTimes.l1])
         | succ k2 =>
          have H := HA.out
          clear HA
          simp only [spec_roTimes.l1] at H
          by_cases c11 : x26_2 < (l1.length : Int)
          ·
           rw [if_pos c11] at H
           have c11b0 : decide (x26_2 < (l1.length : Int)) = true := decide_eq_true c11
           clear c11
           by_cases c12 : 0 ≤ x26_2
           ·
            rw [if_pos c12] at H
            have c12b0 : decide (0 ≤ x26_2) = true := decide_eq_true c12
            clear c12
            by_cases c13 : x26_2 < (l1.length : Int)
            ·
             rw [if_pos c13] at H
             have c13b0 : decide (x26_2 < (l1.length : Int)) = true := decide_eq_true c13
             clear c13
             obtain ⟨ji14, hji14⟩ : ∃ j_ : Int, (wrap64 (x19_1 + x26_2)) = j_ := ⟨_, rfl⟩
             replace H : (if 0 ≤ (ji14) then (if (ji14) < (x5_2.length : Int) then (spec_roTimes.l1 k2 l1 (x5_2.set ((ji14) : Int).toNat (wrap64 ((rd x5_2 (ji14)) + (wrap64 ((rd l0 x19_1) * (rd l1 x26_2)))))) x19_1 (rd l0 x19_1) l0 (l0.length : Int) x19_1 l1 (l1.length : Int) (wrap64 (x26_2 + 1))) else (none)) else (none)) = some r := by first | (rw [hji14] at H; exact H) | (simp only [hji14] at H ⊢; exact H)
             have hji14w : (IntKind.i64.wrap (x19_1 + x26_2)) = ji14 := (i64_w _).trans hji14
             by_cases c15 : 0 ≤ (ji14)
             ·
              rw [if_pos c15] at H
              have c15b0 : decide (0 ≤ (ji14)) = true := decide_eq_true c15
              clear c15
              by_cases c16 : (ji14) < (x5_2.length : Int)
              ·
               rw [if_pos c16] at H
               have c16b0 : decide ((ji14) < (x5_2.length : Int)) = true := decide_eq_true c16
               clear c16
               obtain ⟨y355, hy_⟩ : ∃ y_ : List Int, y_ = ((x5_2.set ((ji14) : Int).toNat (wrap64 ((rd x5_2 (ji14)) + (wrap64 ((rd l0 x19_1) * (rd l1 x26_2))))))) := ⟨_, rfl⟩
               replace H : (spec_roTimes.l1 k2 l1 y355 x19_1 (rd l0 x19_1) l0 (l0.length : Int) x19_1 l1 (l1.length : Int) (wrap64 (x26_2 + 1))) = some r := qH
               have Ny355 := Aside0.mk hy_
               clear hy_
               have H' := Aside0.mk H
               clear H
               have p353 : 0 ≤ (x26_2 : Int) := of_decide_eq_true Q0
               have q353 : x26_2 < (l1.length : Int) := of_decide_eq_true Q0
               obtain ⟨ad353, e353, hx353_0⟩ := Kd.at_int HR1.out x26_2 p353 q353
               cases e353
               replace hx353_0 := (HB.out.cell (World.block_lt_of_cell? w _ hx353_0)).trans hx353_0
               replace p353 := eq_true p353
               replace q353 := eq_true q353
               obtain ⟨Ao18, co18, eo18⟩ := Kd.R_slice Oq12.out
               subst eo18
               have p354 : 0 ≤ ((ji14) : Int) := of_decide_eq_true Q0
               have q354 : (ji14) < (x5_2.length : Int) := of_decide_eq_true Q0
               obtain ⟨ad354, e354, hx354_0⟩ := Kd.at_int (Kd.R_reads' Oq12.out).2.2 (ji14) p354 q354
               cases e354
               replace p354 := eq_true p354
               replace q354 := eq_true q354
               have p17 : 0 ≤ ((ji14) : Int) := of_decide_eq_true Q0
               have q17 : ((ji14) : Int) < ((x5_2.length : Int) : Int) := of_decide_eq_true Q0
               obtain ⟨go17, co17, eo17, gb17, gl17, cl17, HG17⟩ := Kd.R_form Oq12.out (by omega)
               (first | cases eo17 | (injection eo17 with ea_ en_ ec_; (first | subst ea_ | (injection ea_ with ea_; subst ea_)); subst ec_; clear en_))
               have GB17 := Aside0.mk gb17
               have GG17 := Aside0.mk HG17
               clear gb17 gl17 HG17
               (first | simp only [add_plain] at hx354_0 | skip)
               obtain ⟨hx17_0, hf17_0⟩ := Kd.R_celln 0 Oq12.out ((ji14) : Int) p17 q17
               replace p17 := eq_true p17
               replace q17 := eq_true q17
               have HP19 := Kd.R_putg Oq12.out ((ji14) : Int) (wrap64 ((rd x5_2 (ji14)) + (wrap64 ((rd l0 x19_1) * (rd l1 x26_2)))))
               go_wp2_with (first | ((with_reducible refine gate_store (t := 3) (p := 41) rfl ?_); refine store_event (t := 3) (p := 41) (v := ?vo_w20) (w1 := (wr.setCell ⟨go17, ((ji14) : Int).toNat, none⟩ (.int .i64 (wrap64 ((rd x5_2 (ji14)) + (wrap64 ((rd l0 x19_1) * (rd l1 x26_2)))))))) ?hg ?ho ?hn ?hr ?_; (case ho => rfl); (case hg => rfl); (case hn => rfl); (case hr => first | (go_simp; done) | (go_simp; rfl)); intro w20 hw; have hg : wr.grownBy w20 (some go17) := (by rw [hw]; exact HP19.2); have hp_ : Kd.R (Kd.int .i64) 3 w20 w.heap.size (fun _ => True) (.slice (some ⟨go17, 0, none⟩) x5_2.length co18) y355 := (by rw [hw, Ny355.out]; exact HP19.1); clear HP19; replace Oq12 := am (hp_); replace HB := am ((by rw [hw]; exact below_set (HB.out) GB17.out : Below w.heap.size w w20)); clear hg hw hp_))
               go_roundg k2
               case measure => have := HK1.out; have := HK2.out; omega
               case rel => exact ⟨(y355), (wrap64 (x26_2 + 1)), Q3, H', ⟨Q40⟩, ⟨Q43⟩, ⟨qb⟩⟩
              ·
               rw [if_neg c16] at H
               exact absurd H (by simp)
             ·
              rw [if_neg c15] at H
              exact absurd H (by simp)
            ·
             rw [if_neg c13] at H
             exact absurd H (by simp)
           ·
            rw [if_neg c12] at H
            exact absurd H (by simp)
          ·
           rw [if_neg c11] at H
           have c11b0 : decide (x26_2 < (l1.length : Int)) = false := decide_eq_false c11
           clear c11
           have H' := Aside0.mk H
           clear H
           go_wp2
           go_roundg k2
           case measure => have := HK1.out; have := HK2.out; omega
           case rel => exact ⟨(x5_2), (wrap64 (x19_1 + 1)), Q3, H', ⟨Q40⟩, ⟨Q43⟩, ⟨qb⟩⟩
       ·
        rw [if_neg c10] at H
        exact absurd H (by simp)
      ·
       rw [if_neg c9] at H
       exact absurd H (by simp)
     ·
      rw [if_neg c8] at H
      have c8b0 : decide (x19_1 < (l0.length : Int)) = false := decide_eq_false c8
      clear c8
      obtain rfl := Option.some.inj H
      go_wp2
      go_ret
      exact ⟨_, Q34, Q43, qb⟩
  ·
   rw [if_neg c5] at H
   exact absurd H (by simp)
 ·
  rw [if_neg c4] at H
  exact absurd H (by simp)

/-! ### spec_MultiplyNumbers: function 28 -/
def spec_MultiplyNumbers.f (k : Nat) (l0 : List Int) (l1 : List Int) : Option (List Int × Bool) := (spec_roFactors.f k l0).bind fun t356 => (if t356 = true then ((spec_roFactors.f k l1).bind fun t357 => (if t357 = true then ((spec_roTimes.f k l0 l1).bind fun t358 => (some (t358, true))) else (some (([] : List Int), false)))) else (some (([] : List Int), false)))
set_option maxHeartbeats 8000000 in
set_option maxRecDepth 100000 in
theorem spec_MultiplyNumbers.calls (k : Nat) (A0 : Option Addr) (c0 : Nat) (l0 : List Int) (A1 : Option Addr) (c1 : Nat) (l1 : List Int) (r1 : List Int) (r2 : Bool) (w : World) (hr0 : Kd.C (Kd.int .i64) w A0 l0.length l0) (hc0 : l0.length ≤ c0) (hr1 : Kd.C (Kd.int .i64) w A1 l1.length l1) (hc1 : l1.length ≤ c1) (h : spec_MultiplyNumbers.f k l0 l1 = some (r1, r2)) :
  Calls Try.prog 28 #[.slice A0 l0.length c0, .slice A1 l1.length c1] w fun e w' => ∃ v0_ : Value, e = .returned (.tuple #[v0_, .bool r2]) ∧ Kd.R (Kd.int .i64) 3 w' w.heap.size (fun _ => True) v0_ r1 ∧ Below w.heap.size w w' := by
 have HR0 := Aside0.mk hr0
 have HC0 := Aside0.mk hc0
 clear hr0 hc0
 have HR1 := Aside0.mk hr1
 have HC1 := Aside0.mk hc1
 clear hr1 hc1
 have HB := am (Below.refl w.heap.size w)
 have H : ((spec_roFactors.f k l0).bind fun t356 => (if t356 = true then ((spec_roFactors.f k l1).bind fun t357 => (if t357 = true then ((spec_roTimes.f k l0 l1).bind fun t358 => (some (t358, true))) else (some (([] : List Int), false)))) else (some (([] : List Int), false)))) = some (r1, r2) := h
 clear h
 replace H := qE H
 obtain ⟨t356, A3, H⟩ := H
 replace H : (if t356 = true then ((spec_roFactors.f k l1).bind fun t357 => (if t357 = true then ((spec_roTimes.f k l0 l1).bind fun t358 => (some (t358, true))) else (some (([] : List Int), false)))) else (some (([] : List Int), false))) = some (r1, r2) := H
 by_cases c4 : t356 = true
 ·
  subst c4
  have H1 : ((spec_roFactors.f k l1).bind fun t357 => (if t357 = true then ((spec_roTimes.f k l0 l1).bind fun t358 => (some (t358, true))) else (some (([] : List Int), false)))) = some (r1, r2) := by first | (rw [if_pos rfl] at H; exact H) | rfl
  clear H
  have H := H1
  clear H1
  replace H := qE H
  obtain ⟨t357, A5, H⟩ := H
  replace H : (if t357 = true then ((spec_roTimes.f k l0 l1).bind fun t358 => (some (t358, true))) else (some (([] : List Int), false))) = some (r1, r2) := H
  by_cases c6 : t357 = true
  ·
   subst c6
   have H1 : ((spec_roTimes.f k l0 l1).bind fun t358 => (some (t358, true))) = some (r1, r2) := by first | (rw [if_pos rfl] at H; exact H) | rfl
   clear H
   have H := H1
   clear H1
   replace H := qE H
   obtain ⟨t358, A7, H⟩ := H
   replace H : (some (t358, true)) = some (r1, r2) := H
   simp only [Option.some.injEq, Prod.mk.injEq] at H
   obtain ⟨rfl, rfl⟩ := H
   go_enter Try.func28, Try.ntmps28
   go_wp2_with (first | ((with_reducible refine gate_callee (f := 85) rfl ?_); refine qg (some 7) Try.func85 #[.slice A0 l0.length c0] ?_; (with_reducible refine (spec_roFactors.calls k _ _ l0 true _ ?side1 HC0.out A3.out).mono ?_); (case side1 => exact Q21); rintro e w' ⟨rfl, ⟨nd, rfl⟩⟩; refine ⟨_, rfl, ?_⟩) | (go_at_call 85; (with_reducible refine (spec_roFactors.calls k _ _ l1 true _ ?side1 HC1.out A5.out).mono ?_); (case side1 => exact Q32); rintro e w' ⟨rfl, ⟨nd, rfl⟩⟩) | ((with_reducible refine gate_callee (f := 86) rfl ?_); refine qg (some 16) Try.func86 #[.slice A0 l0.length c0, .slice A1 l1.length c1] ?_; (with_reducible refine (spec_roTimes.calls k _ _ l0 _ _ l1 t358 _ ?side1 HC0.out ?side3 HC1.out A7.out).mono ?_); (case side1 => exact Q21); (case side3 => exact Q32); rintro e w8 ⟨v359, rfl, ho0, hb⟩; refine ⟨_, rfl, ?_⟩; have Oq8 := ql ho0; replace HB := qs hb; (try clear hb ho0)))
   go_ret2
   exact ⟨_, Q2, by (with_reducible repeat (first | apply Kd.R_alloc | apply Kd.R_drewN | apply Kd.R_drew)); exact Oq8.out, qb⟩
  ·
   replace c6 := Bool.eq_false_iff.mpr c6
   subst c6
   have H1 : (some (([] : List Int), false)) = some (r1, r2) := by first | (rw [if_neg (show ¬ (false = true) by decide)] at H; exact H) | rfl
   clear H
   have H := H1
   clear H1
   simp only [Option.some.injEq, Prod.mk.injEq] at H
   obtain ⟨rfl, rfl⟩ := H
   go_enter Try.func28, Try.ntmps28
   go_wp2_with (first | ((with_reducible refine gate_callee (f := 85) rfl ?_); refine qg (some 7) Try.func85 #[.slice A0 l0.length c0] ?_; (with_reducible refine (spec_roFactors.calls k _ _ l0 true _ ?side1 HC0.out A3.out).mono ?_); (case side1 => exact Q21); rintro e w' ⟨rfl, ⟨nd, rfl⟩⟩; refine ⟨_, rfl, ?_⟩) | (go_at_call 85; (with_reducible refine (spec_roFactors.calls k _ _ l1 false _ ?side1 HC1.out A5.out).mono ?_); (case side1 => exact Q32); rintro e w' ⟨rfl, ⟨nd, rfl⟩⟩))
   go_ret2
   exact ⟨_, Q2, Q17, qb⟩
 ·
  replace c4 := Bool.eq_false_iff.mpr c4
  subst c4
  have H1 : (some (([] : List Int), false)) = some (r1, r2) := by first | (rw [if_neg (show ¬ (false = true) by decide)] at H; exact H) | rfl
  clear H
  have H := H1
  clear H1
  simp only [Option.some.injEq, Prod.mk.injEq] at H
  obtain ⟨rfl, rfl⟩ := H
  go_enter Try.func28, Try.ntmps28
  go_wp2_with (first | ((with_reducible refine gate_callee (f := 85) rfl ?_); refine qg (some 7) Try.func85 #[.slice A0 l0.length c0] ?_; (with_reducible refine (spec_roFactors.calls k _ _ l0 false _ ?side1 HC0.out A3.out).mono ?_); (case side1 => exact Q21); rintro e w' ⟨rfl, ⟨nd, rfl⟩⟩; refine ⟨_, rfl, ?_⟩))
  go_ret2
  exact ⟨_, Q2, Q17, qb⟩

/-! ### spec_l1Cur_square: function 129 -/
def spec_l1Cur_square.f (k : Nat) (s0_0 : List Int) (s0_1 : Int) (s0_2 : Int) : Option (Int × Int × List Int × Int × Int) := (spec_l1Cur_one.f s0_0 s0_1 s0_2 8).bind fun bt362 => (if bt362.1 = true then ((spec_l1Cur_board.f k s0_0 bt362.2.1 bt362.2.2).bind fun bt365 => (some (bt365.1, bt365.2.1, bt365.2.2.1, bt365.2.2.2.1, bt365.2.2.2.2))) else ((spec_l1Cur_sides.f s0_0 bt362.2.1 bt362.2.2).bind fun bt372 => ((spec_l1Cur_boardOf.f k s0_0 bt372.2.1 bt372.2.2 bt372.1 bt372.1).bind fun bt375 => (some (bt375.1, bt375.2.1, bt375.2.2.1, bt375.2.2.2.1, bt375.2.2.2.2)))))
set_option maxHeartbeats 8000000 in
set_option maxRecDepth 100000 in
theorem spec_l1Cur_square.calls (k : Nat) (g : Nat) (s0_0 : List Int) (s0_1 : Int) (s0_2 : Int) (r1 : Int) (r2 : Int) (r3 : List Int) (r4 : Int) (r5 : Int) (w0 w : World) (hI : IsS66 w0 w g s0_0 s0_1 s0_2) (hB : Below w0.heap.size w0 w) (h : spec_l1Cur_square.f k s0_0 s0_1 s0_2 = some (r1, r2, r3, r4, r5)) :
  Calls Try.prog 129 #[.pointer (some ⟨g, 0, none⟩)] w fun e w' => ∃ v2_ : Value, e = .returned (.agg #[.int .i64 r1, .int .i64 r2, v2_]) ∧ Kd.R (Kd.int .i64) 3 w' w.heap.size (fun _ => True) v2_ r3 ∧ IsS66 w0 w' g s0_0 r4 r5 ∧ Below w0.heap.size w0 w' ∧ KeepBut w w' g none := by
 have hu26 := Try.underlying26
 have HI0 := Aside0.mk hI
 have HK := am (KeepBut.refl w g none)
 have HL := Aside0.mk hB.size
 clear hI
 have HW0 := Aside0.mk hB.size
 have HB := Aside0.mk hB
 clear hB
 have H : ((spec_l1Cur_one.f s0_0 s0_1 s0_2 8).bind fun bt362 => (if bt362.1 = true then ((spec_l1Cur_board.f k s0_0 bt362.2.1 bt362.2.2).bind fun bt365 => (some (bt365.1, bt365.2.1, bt365.2.2.1, bt365.2.2.2.1, bt365.2.2.2.2))) else ((spec_l1Cur_sides.f s0_0 bt362.2.1 bt362.2.2).bind fun bt372 => ((spec_l1Cur_boardOf.f k s0_0 bt372.2.1 bt372.2.2 bt372.1 bt372.1).bind fun bt375 => (some (bt375.1, bt375.2.1, bt375.2.2.1, bt375.2.2.2.1, bt375.2.2.2.2)))))) = some (r1, r2, r3, r4, r5) := h
 clear h
 replace H := qE H
 obtain ⟨⟨t362, t363, t364⟩, A2, H⟩ := H
 replace H : (if t362 = true then ((spec_l1Cur_board.f k s0_0 t363 t364).bind fun bt365 => (some (bt365.1, bt365.2.1, bt365.2.2.1, bt365.2.2.2.1, bt365.2.2.2.2))) else ((spec_l1Cur_sides.f s0_0 t363 t364).bind fun bt372 => ((spec_l1Cur_boardOf.f k s0_0 bt372.2.1 bt372.2.2 bt372.1 bt372.1).bind fun bt375 => (some (bt375.1, bt375.2.1, bt375.2.2.1, bt375.2.2.2.1, bt375.2.2.2.2))))) = some (r1, r2, r3, r4, r5) := H
 by_cases c3 : t362 = true
 ·
  subst c3
  have H1 : ((spec_l1Cur_board.f k s0_0 t363 t364).bind fun bt365 => (some (bt365.1, bt365.2.1, bt365.2.2.1, bt365.2.2.2.1, bt365.2.2.2.2))) = some (r1, r2, r3, r4, r5) := by first | (rw [if_pos rfl] at H; exact H) | rfl
  clear H
  have H := H1
  clear H1
  replace H := qE H
  obtain ⟨⟨t365, t366, t367, t370, t371⟩, A4, H⟩ := H
  replace H : (some (t365, t366, t367, t370, t371)) = some (r1, r2, r3, r4, r5) := H
  simp only [Option.some.injEq, Prod.mk.injEq] at H
  obtain ⟨rfl, rfl, rfl, rfl, rfl⟩ := H
  go_enter Try.func129, Try.ntmps129
  go_wp2_with (first | ((with_reducible refine gate_dst (N := 2) rfl ?_); refine qv 2 #[.int .i64 0, .int .i64 0, .slice none 0 0] 26 ?_; intro gb361 hg w5 hbox hb; have BK361 := am hbox; have GW361 := qx hg; have GE361 := qy HW0 (qx hg); have Nq0 := qo hg g; have Nq1 := qO hg g; replace HK := qU hb; replace HB := qt hb; replace HI0 := qj hb; clear hb hbox hg) | ((with_reducible refine gate_callee (f := 72) rfl ?_); refine qg (some 5) Try.func72 #[.pointer (some ⟨g, 0, none⟩), .int .i64 8] ?_; (with_reducible refine (spec_l1Cur_one.calls g s0_0 s0_1 s0_2 8 true t363 t364 w0 _ ?side1 ?side2 A2.out).mono ?_); (case side1 => exact qi); (case side2 => exact qc); rintro e w6 ⟨rfl, hi, hb, hk⟩; refine ⟨_, rfl, ?_⟩; replace BK361 := qK BK361 hk Nq1; replace HK := qT hk; replace HB := am hb; replace HI0 := am hi; (try clear hb hk hi)) | ((with_reducible refine gate_callee (f := 62) rfl ?_); refine qg (some 7) Try.func62 #[.pointer (some ⟨g, 0, none⟩)] ?_; (with_reducible refine (spec_l1Cur_board.calls k g s0_0 t363 t364 t365 t366 t367 t370 t371 w0 _ ?side1 ?side2 A4.out).mono ?_); (case side1 => exact qi); (case side2 => exact qc); rintro e w7 ⟨v368, rfl, ho0, hi, hb, hk⟩; refine ⟨_, rfl, ?_⟩; have Oq9 := qm ho0; replace BK361 := qK BK361 hk Nq1; replace HK := qT hk; replace HB := am hb; replace HI0 := am hi; (try clear hb hk hi ho0); have bq2 := Nq1.out; have cq2 := Nq0.out; obtain ⟨zq9, zq10, zq11, fq9, fq10, fq11⟩ := qd BK361; obtain ⟨Ao10, co10, eo10⟩ := Kd.R_slice Oq9.out; subst eo10))
  refine bodyPost_ret (results_cell_row rfl _ _ gb361 26 #[.int .i64 t365, .int .i64 t366, .slice Ao10 t367.length co10] (0, 0) _ rfl (by (with_reducible repeat (first | refine blk_drewN ?_ _ | refine blk_drew ?_ | refine blk_alloc ?_ _)); refine blk_put (cs := #[.int .i64 t365, .int .i64 t366, .slice none 0 0]) ?_ 2 _ rfl; (with_reducible repeat (first | refine blk_drewN ?_ _ | refine blk_drew ?_ | refine blk_alloc ?_ _)); refine blk_put (cs := #[.int .i64 t365, .int .i64 0, .slice none 0 0]) ?_ 1 _ rfl; (with_reducible repeat (first | refine blk_drewN ?_ _ | refine blk_drew ?_ | refine blk_alloc ?_ _)); refine blk_put (cs := #[.int .i64 0, .int .i64 0, .slice none 0 0]) ?_ 0 _ rfl; (with_reducible repeat (first | refine blk_drewN ?_ _ | refine blk_drew ?_ | refine blk_alloc ?_ _)); exact BK361.out) Try.underlying26 rfl (by kernel_rfl)) rfl ?_
  exact ⟨_, Q2, by (with_reducible repeat (first | apply Kd.R_alloc | apply Kd.R_drewN | apply Kd.R_drew)); exact Kd.R_mono (Kd.R_far (p := ⟨gb361, 2, none⟩) (Kd.R_far (p := ⟨gb361, 1, none⟩) (Kd.R_far (p := ⟨gb361, 0, none⟩) (Kd.R_types Oq9.out BK361.out (by decide)) (fun _ hk => hk.2) (.int .i64 t365)) (fun _ hk => hk.2) (.int .i64 t366)) (fun _ hk => hk.2) (.slice Ao10 t367.length co10)) (fun _ hk => trivial), qi, qc, qk⟩
 ·
  replace c3 := Bool.eq_false_iff.mpr c3
  subst c3
  have H1 : ((spec_l1Cur_sides.f s0_0 t363 t364).bind fun bt372 => ((spec_l1Cur_boardOf.f k s0_0 bt372.2.1 bt372.2.2 bt372.1 bt372.1).bind fun bt375 => (some (bt375.1, bt375.2.1, bt375.2.2.1, bt375.2.2.2.1, bt375.2.2.2.2)))) = some (r1, r2, r3, r4, r5) := by first | (rw [if_neg (show ¬ (false = true) by decide)] at H; exact H) | rfl
  clear H
  have H := H1
  clear H1
  replace H := qE H
  obtain ⟨⟨t372, t373, t374⟩, A11, H⟩ := H
  replace H : ((spec_l1Cur_boardOf.f k s0_0 t373 t374 t372 t372).bind fun bt375 => (some (bt375.1, bt375.2.1, bt375.2.2.1, bt375.2.2.2.1, bt375.2.2.2.2))) = some (r1, r2, r3, r4, r5) := H
  replace H := qE H
  obtain ⟨⟨t375, t376, t377, t380, t381⟩, A12, H⟩ := H
  replace H : (some (t375, t376, t377, t380, t381)) = some (r1, r2, r3, r4, r5) := H
  simp only [Option.some.injEq, Prod.mk.injEq] at H
  obtain ⟨rfl, rfl, rfl, rfl, rfl⟩ := H
  go_enter Try.func129, Try.ntmps129
  go_wp2_with (first | ((with_reducible refine gate_dst (N := 2) rfl ?_); refine qv 2 #[.int .i64 0, .int .i64 0, .slice none 0 0] 26 ?_; intro gb361 hg w13 hbox hb; have BK361 := am hbox; have GW361 := qx hg; have GE361 := qy HW0 (qx hg); have Nq0 := qo hg g; have Nq1 := qO hg g; replace HK := qU hb; replace HB := qt hb; replace HI0 := qj hb; clear hb hbox hg) | ((with_reducible refine gate_callee (f := 72) rfl ?_); refine qg (some 5) Try.func72 #[.pointer (some ⟨g, 0, none⟩), .int .i64 8] ?_; (with_reducible refine (spec_l1Cur_one.calls g s0_0 s0_1 s0_2 8 false t363 t364 w0 _ ?side1 ?side2 A2.out).mono ?_); (case side1 => exact qi); (case side2 => exact qc); rintro e w14 ⟨rfl, hi, hb, hk⟩; refine ⟨_, rfl, ?_⟩; replace BK361 := qK BK361 hk Nq1; replace HK := qT hk; replace HB := am hb; replace HI0 := am hi; (try clear hb hk hi)) | ((with_reducible refine gate_callee (f := 121) rfl ?_); refine qg (some 9) Try.func121 #[.pointer (some ⟨g, 0, none⟩)] ?_; (with_reducible refine (spec_l1Cur_sides.calls g s0_0 t363 t364 t372 t373 t374 w0 _ ?side1 ?side2 A11.out).mono ?_); (case side1 => exact qi); (case side2 => exact qc); rintro e w15 ⟨rfl, hi, hb, hk⟩; refine ⟨_, rfl, ?_⟩; replace BK361 := qK BK361 hk Nq1; replace HK := qT hk; replace HB := am hb; replace HI0 := am hi; (try clear hb hk hi)) | ((with_reducible refine gate_callee (f := 73) rfl ?_); refine qg (some 13) Try.func73 #[.pointer (some ⟨g, 0, none⟩), .int .i64 t372, .int .i64 t372] ?_; (with_reducible refine (spec_l1Cur_boardOf.calls k g s0_0 t373 t374 t372 t372 t375 t376 t377 t380 t381 w0 _ ?side1 ?side2 A12.out).mono ?_); (case side1 => exact qi); (case side2 => exact qc); rintro e w16 ⟨v378, rfl, ho0, hi, hb, hk⟩; refine ⟨_, rfl, ?_⟩; have Oq10 := qm ho0; replace BK361 := qK BK361 hk Nq1; replace HK := qT hk; replace HB := am hb; replace HI0 := am hi; (try clear hb hk hi ho0); have bq0 := Nq1.out; have cq0 := Nq0.out; obtain ⟨zq0, zq1, zq2, fq0, fq1, fq2⟩ := qd BK361; obtain ⟨Ao19, co19, eo19⟩ := Kd.R_slice Oq10.out; subst eo19))
  refine bodyPost_ret (results_cell_row rfl _ _ gb361 26 #[.int .i64 t375, .int .i64 t376, .slice Ao19 t377.length co19] (0, 0) _ rfl (by (with_reducible repeat (first | refine blk_drewN ?_ _ | refine blk_drew ?_ | refine blk_alloc ?_ _)); refine blk_put (cs := #[.int .i64 t375, .int .i64 t376, .slice none 0 0]) ?_ 2 _ rfl; (with_reducible repeat (first | refine blk_drewN ?_ _ | refine blk_drew ?_ | refine blk_alloc ?_ _)); refine blk_put (cs := #[.int .i64 t375, .int .i64 0, .slice none 0 0]) ?_ 1 _ rfl; (with_reducible repeat (first | refine blk_drewN ?_ _ | refine blk_drew ?_ | refine blk_alloc ?_ _)); refine blk_put (cs := #[.int .i64 0, .int .i64 0, .slice none 0 0]) ?_ 0 _ rfl; (with_reducible repeat (first | refine blk_drewN ?_ _ | refine blk_drew ?_ | refine blk_alloc ?_ _)); exact BK361.out) Try.underlying26 rfl (by kernel_rfl)) rfl ?_
  exact ⟨_, Q2, by (with_reducible repeat (first | apply Kd.R_alloc | apply Kd.R_drewN | apply Kd.R_drew)); exact Kd.R_mono (Kd.R_far (p := ⟨gb361, 2, none⟩) (Kd.R_far (p := ⟨gb361, 1, none⟩) (Kd.R_far (p := ⟨gb361, 0, none⟩) (Kd.R_types Oq10.out BK361.out (by decide)) (fun _ hk => hk.2) (.int .i64 t375)) (fun _ hk => hk.2) (.int .i64 t376)) (fun _ hk => hk.2) (.slice Ao19 t377.length co19)) (fun _ hk => trivial), qi, qc, qk⟩

/-! ### spec_DrawPermanentOf: function 87 -/
def spec_DrawPermanentOf.f (k : Nat) (l0 : List Int) : Option (Int × Int × List Int) := (spec_l1Cur_square.f k l0 0 0).bind fun bt384 => (some (bt384.1, bt384.2.1, bt384.2.2.1))
set_option maxHeartbeats 8000000 in
set_option maxRecDepth 100000 in
theorem spec_DrawPermanentOf.calls (k : Nat) (A0 : Option Addr) (c0 : Nat) (l0 : List Int) (r1 : Int) (r2 : Int) (r3 : List Int) (w : World) (hr0 : Kd.C (Kd.int .u8) w A0 l0.length l0) (hc0 : l0.length ≤ c0) (h : spec_DrawPermanentOf.f k l0 = some (r1, r2, r3)) :
  Calls Try.prog 87 #[.slice A0 l0.length c0] w fun e w' => ∃ v2_ : Value, e = .returned (.agg #[.int .i64 r1, .int .i64 r2, v2_]) ∧ Kd.R (Kd.int .i64) 3 w' w.heap.size (fun _ => True) v2_ r3 ∧ Below w.heap.size w w' := by
 have hu26 := Try.underlying26
 have hu66 := Try.underlying66
 have HR0 := Aside0.mk hr0
 have HC0 := Aside0.mk hc0
 clear hr0 hc0
 have HB := am (Below.refl w.heap.size w)
 have H : ((spec_l1Cur_square.f k l0 0 0).bind fun bt384 => (some (bt384.1, bt384.2.1, bt384.2.2.1))) = some (r1, r2, r3) := h
 clear h
 replace H := qE H
 obtain ⟨⟨t384, t385, t386, t389, t390⟩, A2, H⟩ := H
 replace H : (some (t384, t385, t386)) = some (r1, r2, r3) := H
 simp only [Option.some.injEq, Prod.mk.injEq] at H
 obtain ⟨rfl, rfl, rfl⟩ := H
 go_enter Try.func87, Try.ntmps87
 go_wp2_with (first | ((with_reducible refine gate_dst (N := 2) rfl ?_); refine qv 2 #[.int .i64 0, .int .i64 0, .slice none 0 0] 26 ?_; intro gb382 hg w3 hbox hb; have BK382 := am hbox; have GW382 := qw hg; have GE382 := qw hg; replace HB := qs hb; clear hb hbox hg) | ((with_reducible refine gate_dst (N := 6) rfl ?_); refine qv 6 #[.slice A0 l0.length c0, .int .i64 0, .int .u64 0] 66 ?_; intro gb383 hg w4 hbox hb; have HI383 := am ((show IsS66 w w4 gb383 l0 0 0 from ⟨_, _, hbox, (by rw [hg]; exact (below_size qb) : w.heap.size ≤ gb383), HR0.out⟩)); have GW383 := qw hg; have GE383 := qw hg; have Nq2 := qn hg BK382; have Nq3 := qN hg BK382; replace BK382 := sqB BK382 hb; replace HB := qs hb; clear hb hbox hg) | ((with_reducible refine gate_callee (f := 129) rfl ?_); refine qg (some 8) Try.func129 #[.pointer (some ⟨gb383, 0, none⟩)] ?_; (with_reducible refine (spec_l1Cur_square.calls k gb383 l0 0 0 t384 t385 t386 t389 t390 w _ ?side1 ?side2 A2.out).mono ?_); (case side1 => exact qi); (case side2 => exact qc); rintro e w5 ⟨v387, rfl, ho0, hi, hb, hk⟩; refine ⟨_, rfl, ?_⟩; have Oq11 := qL ho0; replace BK382 := qK BK382 hk Nq2; replace HB := am hb; replace HI383 := am hi; (try clear hb hk hi ho0); have bq1 := Nq2.out; have cq1 := Nq3.out; obtain ⟨zq6, zq7, zq8, fq6, fq7, fq8⟩ := qd BK382; obtain ⟨Ao8, co8, eo8⟩ := Kd.R_slice Oq11.out; subst eo8))
 refine bodyPost_ret (results_cell_row rfl _ _ gb382 26 #[.int .i64 t384, .int .i64 t385, .slice Ao8 t386.length co8] (0, 0) _ rfl (by (with_reducible repeat (first | refine blk_drewN ?_ _ | refine blk_drew ?_ | refine blk_alloc ?_ _)); refine blk_put (cs := #[.int .i64 t384, .int .i64 t385, .slice none 0 0]) ?_ 2 _ rfl; (with_reducible repeat (first | refine blk_drewN ?_ _ | refine blk_drew ?_ | refine blk_alloc ?_ _)); refine blk_put (cs := #[.int .i64 t384, .int .i64 0, .slice none 0 0]) ?_ 1 _ rfl; (with_reducible repeat (first | refine blk_drewN ?_ _ | refine blk_drew ?_ | refine blk_alloc ?_ _)); refine blk_put (cs := #[.int .i64 0, .int .i64 0, .slice none 0 0]) ?_ 0 _ rfl; (with_reducible repeat (first | refine blk_drewN ?_ _ | refine blk_drew ?_ | refine blk_alloc ?_ _)); exact BK382.out) Try.underlying26 rfl (by kernel_rfl)) rfl ?_
 exact ⟨_, Q2, by (with_reducible repeat (first | apply Kd.R_alloc | apply Kd.R_drewN | apply Kd.R_drew)); exact Kd.R_mono (Kd.R_far (p := ⟨gb382, 2, none⟩) (Kd.R_far (p := ⟨gb382, 1, none⟩) (Kd.R_far (p := ⟨gb382, 0, none⟩) (Kd.R_types Oq11.out BK382.out (by decide)) (fun _ hk => hk.2) (.int .i64 t384)) (fun _ hk => hk.2) (.int .i64 t385)) (fun _ hk => hk.2) (.slice Ao8 t386.length co8)) (fun _ hk => trivial), qc⟩

end Go.Proofs.Ytllhofdgbpnkkaa.PFnRookNumbersMultiply
