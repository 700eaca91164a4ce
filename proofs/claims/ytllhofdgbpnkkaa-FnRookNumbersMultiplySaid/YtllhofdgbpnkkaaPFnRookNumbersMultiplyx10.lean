-- Printed for this claim by wip/pp.py over the kit's printer; Lean checks it.
import Derived.Test.YtllhofdgbpnkkaaPFnRookNumbersMultiplyx0
import Derived.Test.YtllhofdgbpnkkaaPFnRookNumbersMultiplyx3
import Derived.Test.YtllhofdgbpnkkaaPFnRookNumbersMultiplyx6
import Derived.Test.YtllhofdgbpnkkaaPFnRookNumbersMultiplyx9
namespace Go.Proofs.Ytllhofdgbpnkkaa.PFnRookNumbersMultiply
open Go.RowKit Go.Proofs.YtllhofdgbpnkkaaW.PrintWords Go.Proofs.YtllhofdgbpnkkaaW.PrintLast Go.Proofs.YtllhofdgbpnkkaaW.PrintMore
attribute [local go_sem] max2_int min2_int max_two min_two max_three min_three max_four min_four   -- for this text's walks alone
set_option linter.unusedVariables false
set_option linter.unusedSimpArgs false

/-! ### spec_DrawNumbersOfComplement: function 29 -/
def spec_DrawNumbersOfComplement.f (k : Nat) (l0 : List Int) : Option (Int × Int × List Int) := (spec_DrawPermanentOf.f k l0).bind fun bt392 => (some (bt392.1, bt392.2.1, bt392.2.2))
set_option maxHeartbeats 8000000 in
set_option maxRecDepth 100000 in
theorem spec_DrawNumbersOfComplement.calls (k : Nat) (A0 : Option Addr) (c0 : Nat) (l0 : List Int) (r1 : Int) (r2 : Int) (r3 : List Int) (w : World) (hr0 : Kd.C (Kd.int .u8) w A0 l0.length l0) (hc0 : l0.length ≤ c0) (h : spec_DrawNumbersOfComplement.f k l0 = some (r1, r2, r3)) :
  Calls Try.prog 29 #[.slice A0 l0.length c0] w fun e w' => ∃ v2_ : Value, e = .returned (.agg #[.int .i64 r1, .int .i64 r2, v2_]) ∧ Kd.R (Kd.int .i64) 3 w' w.heap.size (fun _ => True) v2_ r3 ∧ Below w.heap.size w w' := by
 have hu26 := Try.underlying26
 have HR0 := Aside0.mk hr0
 have HC0 := Aside0.mk hc0
 clear hr0 hc0
 have HB := am (Below.refl w.heap.size w)
 have H : ((spec_DrawPermanentOf.f k l0).bind fun bt392 => (some (bt392.1, bt392.2.1, bt392.2.2))) = some (r1, r2, r3) := h
 clear h
 replace H := qE H
 obtain ⟨⟨t392, t393, t394⟩, A2, H⟩ := H
 replace H : (some (t392, t393, t394)) = some (r1, r2, r3) := H
 simp only [Option.some.injEq, Prod.mk.injEq] at H
 obtain ⟨rfl, rfl, rfl⟩ := H
 go_enter Try.func29, Try.ntmps29
 go_wp2_with (first | ((with_reducible refine gate_dst (N := 2) rfl ?_); refine qv 2 #[.int .i64 0, .int .i64 0, .slice none 0 0] 26 ?_; intro gb391 hg w3 hbox hb; have BK391 := am hbox; have GW391 := qw hg; have GE391 := qw hg; replace HB := qs hb; clear hb hbox hg) | ((with_reducible refine gate_callee (f := 87) rfl ?_); refine qg (some 4) Try.func87 #[.slice A0 l0.length c0] ?_; (with_reducible refine (spec_DrawPermanentOf.calls k _ _ l0 t392 t393 t394 _ ?side1 HC0.out A2.out).mono ?_); (case side1 => repeat (first | exact (Kd.C_below HR0.out HB.out) | (with_reducible first | refine Kd.C_alloc ?_ _ | refine Kd.C_drewN ?_ _ | refine Kd.C_drew ?_))); rintro e w4 ⟨v395, rfl, ho0, hb⟩; refine ⟨_, rfl, ?_⟩; have Oq0 := ql ho0; replace BK391 := sqB BK391 hb; replace HB := qs hb; (try clear hb ho0); obtain ⟨zq18, zq19, zq20, fq18, fq19, fq20⟩ := qd BK391; obtain ⟨Ao6, co6, eo6⟩ := Kd.R_slice Oq0.out; subst eo6))
 refine bodyPost_ret (results_cell_row rfl _ _ gb391 26 #[.int .i64 t392, .int .i64 t393, .slice Ao6 t394.length co6] (0, 0) _ rfl (by (with_reducible repeat (first | refine blk_drewN ?_ _ | refine blk_drew ?_ | refine blk_alloc ?_ _)); refine blk_put (cs := #[.int .i64 t392, .int .i64 t393, .slice none 0 0]) ?_ 2 _ rfl; (with_reducible repeat (first | refine blk_drewN ?_ _ | refine blk_drew ?_ | refine blk_alloc ?_ _)); refine blk_put (cs := #[.int .i64 t392, .int .i64 0, .slice none 0 0]) ?_ 1 _ rfl; (with_reducible repeat (first | refine blk_drewN ?_ _ | refine blk_drew ?_ | refine blk_alloc ?_ _)); refine blk_put (cs := #[.int .i64 0, .int .i64 0, .slice none 0 0]) ?_ 0 _ rfl; (with_reducible repeat (first | refine blk_drewN ?_ _ | refine blk_drew ?_ | refine blk_alloc ?_ _)); exact BK391.out) Try.underlying26 rfl (by kernel_rfl)) rfl ?_
 exact ⟨_, Q2, by (with_reducible repeat (first | apply Kd.R_alloc | apply Kd.R_drewN | apply Kd.R_drew)); exact Kd.R_mono (Kd.R_far (p := ⟨gb391, 2, none⟩) (Kd.R_far (p := ⟨gb391, 1, none⟩) (Kd.R_far (p := ⟨gb391, 0, none⟩) (Kd.R_types Oq0.out BK391.out (by decide)) (fun _ hk => hk.2) (.int .i64 t392)) (fun _ hk => hk.2) (.int .i64 t393)) (fun _ hk => hk.2) (.slice Ao6 t394.length co6)) (fun _ hk => trivial), qb⟩

/-! ### impl_isSquare: function 88 -/
def impl_isSquare.f (a0_0 : Int) (a0_1 : Int) (l0_2 : List Int) : Option (Bool) := (impl_IsBoard.f a0_0 a0_1 l0_2).bind fun t398 => (if t398 = true then (some (a0_0 == a0_1)) else (some false))
set_option maxHeartbeats 8000000 in
set_option maxRecDepth 100000 in
theorem impl_isSquare.calls (a0_0 : Int) (a0_1 : Int) (A0_2 : Option Addr) (c0_2 : Nat) (l0_2 : List Int) (r : Bool) (w : World) (hr0_2 : Kd.C (Kd.int .i64) w A0_2 l0_2.length l0_2) (hc0_2 : l0_2.length ≤ c0_2) (h : impl_isSquare.f a0_0 a0_1 l0_2 = some r) :
  Calls Try.prog 88 #[.agg #[.int .i64 a0_0, .int .i64 a0_1, .slice A0_2 l0_2.length c0_2]] w fun e w' => e = .returned (.bool r) ∧ Below w.heap.size w w' := by
 have hu26 := Try.underlying26
 have HR0_2 := Aside0.mk hr0_2
 have HC0_2 := Aside0.mk hc0_2
 clear hr0_2 hc0_2
 have HB := am (Below.refl w.heap.size w)
 have H : ((impl_IsBoard.f a0_0 a0_1 l0_2).bind fun t398 => (if t398 = true then (some (a0_0 == a0_1)) else (some false))) = some r := h
 clear h
 replace H := qE H
 obtain ⟨t398, A2, H⟩ := H
 replace H : (if t398 = true then (some (a0_0 == a0_1)) else (some false)) = some r := H
 by_cases c3 : t398 = true
 ·
  subst c3
  have H1 : (some (a0_0 == a0_1)) = some r := by first | (rw [if_pos rfl] at H; exact H) | rfl
  clear H
  have H := H1
  clear H1
  obtain rfl := Option.some.inj H
  go_enter Try.func88, Try.ntmps88
  go_wp2_with (first | ((with_reducible refine gate_dst (N := 1) rfl ?_); refine qv 1 #[.int .i64 a0_0, .int .i64 a0_1, .slice A0_2 l0_2.length c0_2] 26 ?_; intro gb397 hg w4 hbox hb; have BK397 := am hbox; have GW397 := qw hg; have GE397 := qw hg; replace HB := qs hb; clear hb hbox hg; obtain ⟨zq18, zq19, zq20, fq18, fq19, fq20⟩ := qd BK397) | ((with_reducible refine gate_callee (f := 66) rfl ?_); refine qg (some 4) Try.func66 #[.agg #[.int .i64 a0_0, .int .i64 a0_1, .slice A0_2 l0_2.length c0_2]] ?_; (with_reducible refine (impl_IsBoard.calls a0_0 a0_1 _ _ l0_2 true _ ?side1 HC0_2.out A2.out).mono ?_); (case side1 => exact Q1); rintro e w6 ⟨rfl, hb⟩; refine ⟨_, rfl, ?_⟩; replace BK397 := sqB BK397 hb; replace HB := qs hb; (try clear hb); obtain ⟨zq24, zq25, zq26, fq24, fq25, fq26⟩ := qd BK397))
  go_ret
  exact ⟨Q2, qb⟩
 ·
  replace c3 := Bool.eq_false_iff.mpr c3
  subst c3
  have H1 : (some false) = some r := by first | (rw [if_neg (show ¬ (false = true) by decide)] at H; exact H) | rfl
  clear H
  have H := H1
  clear H1
  obtain rfl := Option.some.inj H
  go_enter Try.func88, Try.ntmps88
  go_wp2_with (first | ((with_reducible refine gate_dst (N := 1) rfl ?_); refine qv 1 #[.int .i64 a0_0, .int .i64 a0_1, .slice A0_2 l0_2.length c0_2] 26 ?_; intro gb397 hg w8 hbox hb; have BK397 := am hbox; have GW397 := qw hg; have GE397 := qw hg; replace HB := qs hb; clear hb hbox hg; obtain ⟨zq30, zq31, zq32, fq30, fq31, fq32⟩ := qd BK397) | ((with_reducible refine gate_callee (f := 66) rfl ?_); refine qg (some 4) Try.func66 #[.agg #[.int .i64 a0_0, .int .i64 a0_1, .slice A0_2 l0_2.length c0_2]] ?_; (with_reducible refine (impl_IsBoard.calls a0_0 a0_1 _ _ l0_2 false _ ?side1 HC0_2.out A2.out).mono ?_); (case side1 => exact Q1); rintro e w10 ⟨rfl, hb⟩; refine ⟨_, rfl, ?_⟩; replace BK397 := sqB BK397 hb; replace HB := qs hb; (try clear hb)))
  go_ret
  exact ⟨Q2, qb⟩

/-! ### impl_falling: function 130 -/
def impl_falling.l0 : Nat → Int → Int → Int → Int → Option (Int)
 | 0, _, _, _, _ => none
 | k + 1, x0, x5, x7, x8 => if x8 < x7 then (impl_falling.l0 k x0 (wrap64 (x5 * (wrap64 (x0 - x8)))) x7 (wrap64 (x8 + 1))) else (some x5)
def impl_falling.f (k : Nat) (a0 : Int) (a1 : Int) : Option (Int) := impl_falling.l0 k a0 1 a1 0
set_option maxHeartbeats 8000000 in
set_option maxRecDepth 100000 in
theorem impl_falling.calls (k : Nat) (a0 : Int) (a1 : Int) (r : Int) (w : World) (h : impl_falling.f k a0 a1 = some r) :
  Calls Try.prog 130 #[.int .i64 a0, .int .i64 a1] w fun e w' => e = .returned (.int .i64 r) ∧ Drawn0 w w' := by
 have H : (impl_falling.l0 k a0 1 a1 0) = some r := h
 clear h
 have H' := Aside0.mk H
 clear H
 go_enter Try.func130, Try.ntmps130
 go_wp2
 go_loopg [5, 8] k (fun kq v5 v8 w' => ∃ (x5_1 : Int) (x8_1 : Int), v5 = .int .i64 x5_1 ∧ v8 = .int .i64 x8_1 ∧ Aside0 (impl_falling.l0 kq a0 x5_1 a1 x8_1 = some r) ∧ Aside0 (kq ≤ k) ∧ Drawn0 w w')
 case atStart => exact ⟨(1), (0), Q3, Q3, H', ⟨Nat.le_refl _⟩, Q7⟩
 case round =>
  clear H'
  obtain ⟨x5_1, x8_1, rfl, rfl, HA, HK1, ⟨m1, rfl⟩⟩ := hrel
  cases gk with
  | zero => exact absurd HA.out (by simp [impl_falling.l0])
  | succ k1 =>
   have H := HA.out
   clear HA
   simp only [impl_falling.l0] at H
   by_cases c3 : x8_1 < a1
   ·
    rw [if_pos c3] at H
    have c3b0 : decide (x8_1 < a1) = true := decide_eq_true c3
    clear c3
    have H' := Aside0.mk H
    clear H
    go_wp2
    go_roundg k1
    case measure => have := HK1.out; omega
    case rel => exact ⟨(wrap64 (x5_1 * (wrap64 (a0 - x8_1)))), (wrap64 (x8_1 + 1)), Q3, Q3, H', ⟨Q49⟩, Q7⟩
   ·
    rw [if_neg c3] at H
    have c3b0 : decide (x8_1 < a1) = false := decide_eq_false c3
    clear c3
    obtain rfl := Option.some.inj H
    go_wp2
    go_ret
    exact ⟨Q3, Q7⟩

/-! ### impl_factorial: function 90 -/
def impl_factorial.f (k : Nat) (a0 : Int) : Option (Int) := (impl_falling.f k a0 a0).bind fun t399 => (some t399)
set_option maxHeartbeats 8000000 in
set_option maxRecDepth 100000 in
theorem impl_factorial.calls (k : Nat) (a0 : Int) (r : Int) (w : World) (h : impl_factorial.f k a0 = some r) :
  Calls Try.prog 90 #[.int .i64 a0] w fun e w' => e = .returned (.int .i64 r) ∧ Drawn0 w w' := by
 have H : ((impl_falling.f k a0 a0).bind fun t399 => (some t399)) = some r := h
 clear h
 replace H := qE H
 obtain ⟨t399, A2, H⟩ := H
 replace H : (some t399) = some r := H
 obtain rfl := Option.some.inj H
 go_enter Try.func90, Try.ntmps90
 go_wp2_with (first | ((with_reducible refine gate_callee (f := 130) rfl ?_); refine qg (some 5) Try.func130 #[.int .i64 a0, .int .i64 a0] ?_; (with_reducible refine (impl_falling.calls k a0 a0 t399 _ A2.out).mono ?_); rintro e w' ⟨rfl, ⟨nd, rfl⟩⟩; refine ⟨_, rfl, ?_⟩))
 go_ret
 exact ⟨Q3, Q7⟩

/-! ### impl_choose: function 89 -/
def impl_choose.f (k : Nat) (a0 : Int) (a1 : Int) : Option (Int) := (impl_within.f a1 0 a0).bind fun t400 => (if t400 = true then ((impl_falling.f k a0 a1).bind fun t401 => ((impl_factorial.f k a1).bind fun t402 => (if t402 = 0 then (none) else (some (wrap64 (Int.tdiv t401 t402)))))) else (some 0))
set_option maxHeartbeats 8000000 in
set_option maxRecDepth 100000 in
theorem impl_choose.calls (k : Nat) (a0 : Int) (a1 : Int) (r : Int) (w : World) (h : impl_choose.f k a0 a1 = some r) :
  Calls Try.prog 89 #[.int .i64 a0, .int .i64 a1] w fun e w' => e = .returned (.int .i64 r) ∧ Drawn0 w w' := by
 have H : ((impl_within.f a1 0 a0).bind fun t400 => (if t400 = true then ((impl_falling.f k a0 a1).bind fun t401 => ((impl_factorial.f k a1).bind fun t402 => (if t402 = 0 then (none) else (some (wrap64 (Int.tdiv t401 t402)))))) else (some 0))) = some r := h
 clear h
 replace H := qE H
 obtain ⟨t400, A3, H⟩ := H
 replace H : (if t400 = true then ((impl_falling.f k a0 a1).bind fun t401 => ((impl_factorial.f k a1).bind fun t402 => (if t402 = 0 then (none) else (some (wrap64 (Int.tdiv t401 t402)))))) else (some 0)) = some r := H
 by_cases c4 : t400 = true
 ·
  subst c4
  have H1 : ((impl_falling.f k a0 a1).bind fun t401 => ((impl_factorial.f k a1).bind fun t402 => (if t402 = 0 then (none) else (some (wrap64 (Int.tdiv t401 t402)))))) = some r := by first | (rw [if_pos rfl] at H; exact H) | rfl
  clear H
  have H := H1
  clear H1
  replace H := qE H
  obtain ⟨t401, A5, H⟩ := H
  replace H : ((impl_factorial.f k a1).bind fun t402 => (if t402 = 0 then (none) else (some (wrap64 (Int.tdiv t401 t402))))) = some r := H
  replace H := qE H
  obtain ⟨t402, A6, H⟩ := H
  replace H : (if t402 = 0 then (none) else (some (wrap64 (Int.tdiv t401 t402)))) = some r := H
  by_cases c7 : t402 = 0
  ·
   rw [if_pos c7] at H
   exact absurd H (by simp)
  ·
   rw [if_neg c7] at H
   have c7b0 : (t402 == 0) = false := beq_eq_false_iff_ne.mpr c7
   have c7b1 : (t402 != 0) = true := bne_iff_ne.mpr c7
   obtain rfl := Option.some.inj H
   go_enter Try.func89, Try.ntmps89
   go_wp2_with (first | ((with_reducible refine gate_callee (f := 79) rfl ?_); refine qg (some 7) Try.func79 #[.int .i64 a1, .int .i64 0, .int .i64 a0] ?_; (with_reducible refine (impl_within.calls a1 0 a0 true _ A3.out).mono ?_); rintro e w' ⟨rfl, ⟨nd, rfl⟩⟩; refine ⟨_, rfl, ?_⟩) | ((with_reducible refine gate_callee (f := 130) rfl ?_); refine qg (some 11) Try.func130 #[.int .i64 a0, .int .i64 a1] ?_; (with_reducible refine (impl_falling.calls k a0 a1 t401 _ A5.out).mono ?_); rintro e w' ⟨rfl, ⟨nd, rfl⟩⟩; refine ⟨_, rfl, ?_⟩) | ((with_reducible refine gate_callee (f := 90) rfl ?_); refine qg (some 13) Try.func90 #[.int .i64 a1] ?_; (with_reducible refine (impl_factorial.calls k a1 t402 _ A6.out).mono ?_); rintro e w' ⟨rfl, ⟨nd, rfl⟩⟩; refine ⟨_, rfl, ?_⟩))
   go_ret
   exact ⟨Q3, Q7⟩
 ·
  replace c4 := Bool.eq_false_iff.mpr c4
  subst c4
  have H1 : (some 0) = some r := by first | (rw [if_neg (show ¬ (false = true) by decide)] at H; exact H) | rfl
  clear H
  have H := H1
  clear H1
  obtain rfl := Option.some.inj H
  go_enter Try.func89, Try.ntmps89
  go_wp2_with (first | ((with_reducible refine gate_callee (f := 79) rfl ?_); refine qg (some 7) Try.func79 #[.int .i64 a1, .int .i64 0, .int .i64 a0] ?_; (with_reducible refine (impl_within.calls a1 0 a0 false _ A3.out).mono ?_); rintro e w' ⟨rfl, ⟨nd, rfl⟩⟩; refine ⟨_, rfl, ?_⟩))
  go_ret
  exact ⟨Q3, Q7⟩

/-! ### impl_NumbersOfComplement: function 30 -/
mutual
def impl_NumbersOfComplement.l0 : Nat → List Int → List Int → Int → Int → Int → Int → List Int → Option (List Int × Bool)
 | 0, _, _, _, _, _, _, _ => none
 | k + 1, x4, x5, x18, x19, x404000, x404001, x404002 => if x19 < x18 then (impl_NumbersOfComplement.l1 k x4 x5 x19 0 1 x18 x19 (wrap64 (x19 + 1)) 0 x404000 x404001 x404002) else (some (x5, true))
def impl_NumbersOfComplement.l1 : Nat → List Int → List Int → Int → Int → Int → Int → Int → Int → Int → Int → Int → List Int → Option (List Int × Bool)
 | 0, _, _, _, _, _, _, _, _, _, _, _, _ => none
 | k + 1, x4, x5, x6, x7, x8, x18, x19, x23, x24, x404000, x404001, x404002 => if x24 < x23 then ((impl_choose.f k (wrap64 (x404000 - x24)) (wrap64 (x6 - x24))).bind fun t411 => (if 0 ≤ x24 then (if x24 < (x4.length : Int) then ((impl_factorial.f k (wrap64 (x6 - x24))).bind fun t413 => (impl_NumbersOfComplement.l1 k x4 x5 x6 (wrap64 (x7 + (wrap64 ((wrap64 ((wrap64 ((wrap64 (x8 * (rd x4 x24))) * t411)) * t411)) * t413)))) (wrap64 (-x8)) x18 x19 x23 (wrap64 (x24 + 1)) x404000 x404001 x404002)) else (none)) else (none))) else (if x5.length < 17592186044416 then (impl_NumbersOfComplement.l0 k x4 (x5 ++ [x7]) x18 (wrap64 (x19 + 1)) x404000 x404001 x404002) else (none))
end
def impl_NumbersOfComplement.f (k : Nat) (a0_0 : Int) (a0_1 : Int) (l0_2 : List Int) : Option (List Int × Bool) := (impl_isSquare.f a0_0 a0_1 l0_2).bind fun t404 => (if t404 = true then ((impl_Board_numbers.f a0_0 a0_1 l0_2).bind fun t405 => (impl_NumbersOfComplement.l0 k t405 (([] : List Int)) (t405.length : Int) 0 a0_0 a0_1 l0_2)) else (some (([] : List Int), false)))
set_option maxHeartbeats 8000000 in
set_option maxRecDepth 100000 in
theorem impl_NumbersOfComplement.calls (k : Nat) (a0_0 : Int) (a0_1 : Int) (A0_2 : Option Addr) (c0_2 : Nat) (l0_2 : List Int) (r1 : List Int) (r2 : Bool) (w : World) (hr0_2 : Kd.C (Kd.int .i64) w A0_2 l0_2.length l0_2) (hc0_2 : l0_2.length ≤ c0_2) (h : impl_NumbersOfComplement.f k a0_0 a0_1 l0_2 = some (r1, r2)) :
  Calls Try.prog 30 #[.agg #[.int .i64 a0_0, .int .i64 a0_1, .slice A0_2 l0_2.length c0_2]] w fun e w' => ∃ v0_ : Value, e = .returned (.tuple #[v0_, .bool r2]) ∧ Kd.R (Kd.int .i64) 3 w' w.heap.size (fun _ => True) v0_ r1 ∧ Below w.heap.size w w' := by
 have hu26 := Try.underlying26
 have HR0_2 := Aside0.mk hr0_2
 have HC0_2 := Aside0.mk hc0_2
 clear hr0_2 hc0_2
 have HB := am (Below.refl w.heap.size w)
 have H : ((impl_isSquare.f a0_0 a0_1 l0_2).bind fun t404 => (if t404 = true then ((impl_Board_numbers.f a0_0 a0_1 l0_2).bind fun t405 => (impl_NumbersOfComplement.l0 k t405 (([] : List Int)) (t405.length : Int) 0 a0_0 a0_1 l0_2)) else (some (([] : List Int), false)))) = some (r1, r2) := h
 clear h
 replace H := qE H
 obtain ⟨t404, A2, H⟩ := H
 replace H : (if t404 = true then ((impl_Board_numbers.f a0_0 a0_1 l0_2).bind fun t405 => (impl_NumbersOfComplement.l0 k t405 (([] : List Int)) (t405.length : Int) 0 a0_0 a0_1 l0_2)) else (some (([] : List Int), false))) = some (r1, r2) := H
 by_cases c3 : t404 = true
 ·
  subst c3
  have H1 : ((impl_Board_numbers.f a0_0 a0_1 l0_2).bind fun t405 => (impl_NumbersOfComplement.l0 k t405 (([] : List Int)) (t405.length : Int) 0 a0_0 a0_1 l0_2)) = some (r1, r2) := by first | (rw [if_pos rfl] at H; exact H) | rfl
  clear H
  have H := H1
  clear H1
  replace H := qE H
  obtain ⟨t405, A4, H⟩ := H
  replace H : (impl_NumbersOfComplement.l0 k t405 (([] : List Int)) (t405.length : Int) 0 a0_0 a0_1 l0_2) = some (r1, r2) := H
  obtain ⟨y408, hy_⟩ : ∃ y_ : List Int, y_ = ((([] : List Int))) := ⟨_, rfl⟩
  replace H : (impl_NumbersOfComplement.l0 k t405 y408 (t405.length : Int) 0 a0_0 a0_1 l0_2) = some (r1, r2) := qH
  have Ny408 := Aside0.mk hy_
  clear hy_
  have H' := Aside0.mk H
  clear H
  go_enter Try.func30, Try.ntmps30
  go_wp2_with (first | ((with_reducible refine gate_dst (N := 1) rfl ?_); refine qv 1 #[.int .i64 a0_0, .int .i64 a0_1, .slice A0_2 l0_2.length c0_2] 26 ?_; intro gb403 hg w5 hbox hb; have BK403 := am hbox; have GW403 := qw hg; have GE403 := qw hg; replace HB := qs hb; clear hb hbox hg; obtain ⟨zq21, zq22, zq23, fq21, fq22, fq23⟩ := qd BK403) | (go_at_call 88; (with_reducible refine (impl_isSquare.calls a0_0 a0_1 _ _ l0_2 true _ ?side1 HC0_2.out A2.out).mono ?_); (case side1 => exact Q1); rintro e w7 ⟨rfl, hb⟩; replace BK403 := sqB BK403 hb; replace HB := qs hb; (try clear hb); obtain ⟨zq27, zq28, zq29, fq27, fq28, fq29⟩ := qd BK403) | (go_at_call 78; (with_reducible refine (impl_Board_numbers.calls a0_0 a0_1 _ _ l0_2 t405 _ ?side1 HC0_2.out A4.out).mono ?_); (case side1 => exact Q1); rintro e w9 ⟨v406, rfl, ho0, hb⟩; have Oq1 := ql ho0; replace BK403 := sqB BK403 hb; replace HB := qs hb; (try clear hb ho0)) | ((with_reducible refine gate_dst (N := 16) rfl ?_); refine Kd.R_lit (Kd.int .i64) _ 3 ?hg (N := 16) ?hd (xs := ([] : List Int)) (inner := []) (ok := fun _ => True) (okp := fun _ => True) ?hr ?hp (fun _ hk => hk) trivial (Below.refl _ _) (Nat.le_refl _) (by simp) ?_; (case hd => rfl); (case hg => rfl); (case hr => first | (go_simp; done) | (go_simp; rfl)); (case hp => exact (Reps.none _ _)); intro v409 w10 ho11 hb hg_ hnew_; clear hg_ hnew_; (first | rw [← Ny408.out] at ho11 | (simp only [Int.reduceToNat] at ho11; rw [← Ny408.out] at ho11)); have Oq2 := am (Kd.R_lower (Kd.R_new' ho11 (sqL Oq1)) (below_size qb)); replace BK403 := sqB BK403 hb; replace Oq1 := qe (sqr Oq1) ho11 hb; replace HB := qs hb; clear hb ho11; obtain ⟨Ao12, co12, eo12⟩ := Kd.R_slice Oq1.out; subst eo12))
  repeat (go_quiet (first | ((with_reducible refine gate_dst (N := 1) rfl ?_); refine qv 1 #[.int .i64 a0_0, .int .i64 a0_1, .slice A0_2 l0_2.length c0_2] 26 ?_; intro gb403 hg w5 hbox hb; have BK403 := am hbox; have GW403 := qw hg; have GE403 := qw hg; replace HB := qs hb; clear hb hbox hg; obtain ⟨zq21, zq22, zq23, fq21, fq22, fq23⟩ := qd BK403) | (go_at_call 88; (with_reducible refine (impl_isSquare.calls a0_0 a0_1 _ _ l0_2 true _ ?side1 HC0_2.out A2.out).mono ?_); (case side1 => exact Q1); rintro e w7 ⟨rfl, hb⟩; replace BK403 := sqB BK403 hb; replace HB := qs hb; (try clear hb); obtain ⟨zq27, zq28, zq29, fq27, fq28, fq29⟩ := qd BK403) | (go_at_call 78; (with_reducible refine (impl_Board_numbers.calls a0_0 a0_1 _ _ l0_2 t405 _ ?side1 HC0_2.out A4.out).mono ?_); (case side1 => exact Q1); rintro e w9 ⟨v406, rfl, ho0, hb⟩; have Oq1 := ql ho0; replace BK403 := sqB BK403 hb; replace HB := qs hb; (try clear hb ho0)) | ((with_reducible refine gate_dst (N := 16) rfl ?_); refine Kd.R_lit (Kd.int .i64) _ 3 ?hg (N := 16) ?hd (xs := ([] : List Int)) (inner := []) (ok := fun _ => True) (okp := fun _ => True) ?hr ?hp (fun _ hk => hk) trivial (Below.refl _ _) (Nat.le_refl _) (by simp) ?_; (case hd => rfl); (case hg => rfl); (case hr => first | (go_simp; done) | (go_simp; rfl)); (case hp => exact (Reps.none _ _)); intro v409 w10 ho11 hb hg_ hnew_; clear hg_ hnew_; (first | rw [← Ny408.out] at ho11 | (simp only [Int.reduceToNat] at ho11; rw [← Ny408.out] at ho11)); have Oq2 := am (Kd.R_lower (Kd.R_new' ho11 (sqL Oq1)) (below_size qb)); replace BK403 := sqB BK403 hb; replace Oq1 := qe (sqr Oq1) ho11 hb; replace HB := qs hb; clear hb ho11; obtain ⟨Ao12, co12, eo12⟩ := Kd.R_slice Oq1.out; subst eo12)); try go_wp2_with (first | ((with_reducible refine gate_dst (N := 1) rfl ?_); refine qv 1 #[.int .i64 a0_0, .int .i64 a0_1, .slice A0_2 l0_2.length c0_2] 26 ?_; intro gb403 hg w5 hbox hb; have n0_ := qs hb; have n1_ := am hbox; have n2_ := qw hg; have n3_ := qw hg; clear HB; have HB := n0_; have BK403 := n1_; have GW403 := n2_; have GE403 := n3_; clear n0_ n1_ n2_ n3_; clear hb hbox hg; have zq21 : w5.cell? ⟨gb403, 0, none⟩ = some (.int .i64 a0_0) := sqc BK403 0; have zq22 : w5.cell? ⟨gb403, 1, none⟩ = some (.int .i64 a0_1) := sqc BK403 1; have zq23 : w5.cell? ⟨gb403, 2, none⟩ = some (.slice A0_2 l0_2.length c0_2) := sqc BK403 2; have fq21 := blk_frozen BK403.out 0; have fq22 := blk_frozen BK403.out 1; have fq23 := blk_frozen BK403.out 2) | (go_at_call 88; (with_reducible refine (impl_isSquare.calls a0_0 a0_1 _ _ l0_2 true _ ?side1 HC0_2.out A2.out).mono ?_); (case side1 => exact Q1); rintro e w7 ⟨rfl, hb⟩; have n1_ := qs hb; clear HB; replace BK403 := sqB BK403 hb; have HB := n1_; clear n1_; (try clear hb); (try clear hb2); (try clear hk); (try clear hi); have zq27 : w7.cell? ⟨gb403, 0, none⟩ = some (.int .i64 a0_0) := sqc BK403 0; have zq28 : w7.cell? ⟨gb403, 1, none⟩ = some (.int .i64 a0_1) := sqc BK403 1; have zq29 : w7.cell? ⟨gb403, 2, none⟩ = some (.slice A0_2 l0_2.length c0_2) := sqc BK403 2; have fq27 := blk_frozen BK403.out 0; have fq28 := blk_frozen BK403.out 1; have fq29 := blk_frozen BK403.out 2) | (go_at_call 78; (with_reducible refine (impl_Board_numbers.calls a0_0 a0_1 _ _ l0_2 t405 _ ?side1 HC0_2.out A4.out).mono ?_); (case side1 => exact Q1); rintro e w9 ⟨v406, rfl, ho0, hb⟩; have n0_ := ql ho0; have n2_ := qs hb; clear HB; have Oq1 := n0_; replace BK403 := sqB BK403 hb; have HB := n2_; clear n0_ n2_; (try clear hb); (try clear hb2); (try clear hk); (try clear hi); (try clear ho0)) | ((with_reducible refine gate_dst (N := 16) rfl ?_); refine Kd.R_lit (Kd.int .i64) _ 3 ?hg (N := 16) ?hd (xs := ([] : List Int)) (inner := []) (ok := fun _ => True) (okp := fun _ => True) ?hr ?hp (fun _ hk => hk) trivial (Below.refl _ _) (Nat.le_refl _) (by simp) ?_; (case hd => rfl); (case hg => rfl); (case hr => first | (go_simp; done) | (go_simp; rfl)); (case hp => exact (Reps.none _ _)); intro v409 w10 ho11 hb hg_ hnew_; clear hg_ hnew_; (first | rw [← Ny408.out] at ho11 | (simp only [Int.reduceToNat] at ho11; rw [← Ny408.out] at ho11)); have n0_ := qe (sqr Oq1) ho11 hb; have n1_ := am (Kd.R_lower (Kd.R_new' ho11 (sqL Oq1)) (below_size qb)); have n3_ := qs hb; clear Oq1; clear HB; have Oq1 := n0_; have Oq2 := n1_; replace BK403 := sqB BK403 hb; have HB := n3_; clear n0_ n1_ n3_; clear hb ho11; obtain ⟨Ao12, co12, eo12⟩ := Kd.R_slice Oq1.out; subst eo12)))
  go_loopg [5, 19] k (fun kq v5 v19 w' => ∃ (x5_1 : List Int) (x19_1 : Int), v19 = .int .i64 x19_1 ∧ Aside0 (impl_NumbersOfComplement.l0 kq t405 x5_1 (t405.length : Int) x19_1 a0_0 a0_1 l0_2 = some (r1, r2)) ∧ Aside0 (kq ≤ k) ∧ Aside0 (Kd.R (Kd.int .i64) 3 w' w.heap.size (fun k_ => some k_ ≠ (v5 : Value).ownBlock) (.slice Ao12 t405.length co12) t405) ∧ Aside0 (Kd.R (Kd.int .i64) 3 w' w.heap.size (fun k_ => some k_ ≠ ((.slice Ao12 t405.length co12) : Value).ownBlock) v5 x5_1) ∧ Aside0 (w'.heap[gb403]? = some (.cells #[.int .i64 a0_0, .int .i64 a0_1, (.slice A0_2 l0_2.length c0_2)] 26 (0, 0))) ∧ Aside0 (Below w.heap.size w w'))
  case atStart => exact ⟨(y408), (0), Q3, H', ⟨Nat.le_refl _⟩, ⟨by exact sqm Oq1 (fun _ hk => hk.2)⟩, ⟨by exact sqm Oq2 (fun _ hk => hk.2)⟩, ⟨Q39⟩, ⟨qb⟩⟩
  case round =>
   clear H'
   try clear c3; try clear zq21; try clear zq22; try clear zq23; try clear zq27; try clear zq28; try clear zq29; try clear fq21; try clear fq22; try clear fq23; try clear fq27; try clear fq28; try clear fq29
   obtain ⟨x5_1, x19_1, rfl, HA, HK1, Oq4, Oq5, BK403, HB⟩ := hrel
   cases gk with
   | zero => exact absurd HA.out (by simp [impl_NumbersOfComplement.l0])
   | succ k1 =>
    have H := HA.out
    clear HA
    simp only [impl_NumbersOfComplement.l0] at H
    by_cases c13 : x19_1 < (t405.length : Int)
    ·
     rw [if_pos c13] at H
     have c13b0 : decide (x19_1 < (t405.length : Int)) = true := decide_eq_true c13
     clear c13
     have H' := Aside0.mk H
     clear H
     go_wp2
     repeat (go_quiet (fail); try go_wp2)
     go_loopg [7, 8, 24] k1 (fun kq v7 v8 v24 w' => ∃ (x7_2 : Int) (x8_2 : Int) (x24_2 : Int), v7 = .int .i64 x7_2 ∧ v8 = .int .i64 x8_2 ∧ v24 = .int .i64 x24_2 ∧ Aside0 (impl_NumbersOfComplement.l1 kq t405 x5_1 x19_1 x7_2 x8_2 (t405.length : Int) x19_1 (wrap64 (x19_1 + 1)) x24_2 a0_0 a0_1 l0_2 = some (r1, r2)) ∧ Aside0 (kq ≤ k1) ∧ Aside0 (Kd.R (Kd.int .i64) 3 w' w.heap.size (fun k_ => some k_ ≠ (u5 : Value).ownBlock) (.slice Ao12 t405.length co12) t405) ∧ Aside0 (Kd.R (Kd.int .i64) 3 w' w.heap.size (fun k_ => some k_ ≠ ((.slice Ao12 t405.length co12) : Value).ownBlock) u5 x5_1) ∧ Aside0 (w'.heap[gb403]? = some (.cells #[.int .i64 a0_0, .int .i64 a0_1, (.slice A0_2 l0_2.length c0_2)] 26 (0, 0))) ∧ Aside0 (Below w.heap.size w w'))
     case atStart => exact ⟨(0), (1), (0), Q3, Q3, Q3, H', ⟨Nat.le_refl _⟩, ⟨Q20⟩, ⟨Q19⟩, ⟨Q39⟩, ⟨qb⟩⟩
     case round =>
      clear H'
      try clear c3; try clear c13; try clear c13b0; try clear zq21; try clear zq22; try clear zq23; try clear zq27; try clear zq28; try clear zq29; try clear fq21; try clear fq22; try clear fq23; try clear fq27; try clear fq28; try clear fq29
      obtain ⟨x7_2, x8_2, x24_2, rfl, rfl, rfl, HA, HK2, Oq4, Oq5, BK403, HB⟩ := hrel
      cases gk with
      | zero => exact absurd HA.out (by simp [impl_NumbersOfComplement.l1])
      | succ k2 =>
       have H := HA.out
       clear HA
       simp only [impl_NumbersOfComplement.l1] at H
       by_cases c14 : x24_2 < (wrap64 (x19_1 + 1))
       ·
        rw [if_pos c14] at H
        have c14b0 : decide (x24_2 < (wrap64 (x19_1 + 1))) = true := decide_eq_true c14
        clear c14
        replace H := qE H
        obtain ⟨t411, A15, H⟩ := H
        replace H : (if 0 ≤ x24_2 then (if x24_2 < (t405.length : Int) then ((impl_factorial.f k2 (wrap64 (x19_1 - x24_2))).bind fun t413 => (impl_NumbersOfComplement.l1 k2 t405 x5_1 x19_1 (wrap64 (x7_2 + (wrap64 ((wrap64 ((wrap64 ((wrap64 (x8_2 * (rd t405 x24_2))) * t411)) * t411)) * t413)))) (wrap64 (-x8_2)) (t405.length : Int) x19_1 (wrap64 (x19_1 + 1)) (wrap64 (x24_2 + 1)) a0_0 a0_1 l0_2)) else (none)) else (none)) = some (r1, r2) := H
        by_cases c16 : 0 ≤ x24_2
        ·
         rw [if_pos c16] at H
         have c16b0 : decide (0 ≤ x24_2) = true := decide_eq_true c16
         clear c16
         by_cases c17 : x24_2 < (t405.length : Int)
         ·
          rw [if_pos c17] at H
          have c17b0 : decide (x24_2 < (t405.length : Int)) = true := decide_eq_true c17
          clear c17
          replace H := qE H
          obtain ⟨t413, A18, H⟩ := H
          replace H : (impl_NumbersOfComplement.l1 k2 t405 x5_1 x19_1 (wrap64 (x7_2 + (wrap64 ((wrap64 ((wrap64 ((wrap64 (x8_2 * (rd t405 x24_2))) * t411)) * t411)) * t413)))) (wrap64 (-x8_2)) (t405.length : Int) x19_1 (wrap64 (x19_1 + 1)) (wrap64 (x24_2 + 1)) a0_0 a0_1 l0_2) = some (r1, r2) := H
          have H' := Aside0.mk H
          clear H
          obtain ⟨zq12, zq13, zq14, fq12, fq13, fq14⟩ := qd BK403
          go_wp2_with (first | (go_at_call 89; (with_reducible refine (impl_choose.calls k2 (wrap64 (a0_0 - x24_2)) (wrap64 (x19_1 - x24_2)) t411 _ A15.out).mono ?_); rintro e w' ⟨rfl, ⟨nd, rfl⟩⟩; (try first | exact ⟨rfl, _, World.drewN_drewN _ _ _⟩ | exact ⟨rfl, _, Eq.trans (World.drewN_drewN _ _ _) (congrArg (World.drewN _) (Nat.add_assoc _ _ _))⟩); have p412 : 0 ≤ (x24_2 : Int) := of_decide_eq_true Q0; have q412 : x24_2 < (t405.length : Int) := of_decide_eq_true Q0; obtain ⟨ad412, e412, hx412_0⟩ := Kd.at_int (Kd.R_reads' Oq4.out).2.2 x24_2 p412 q412; cases e412; replace p412 := eq_true p412; replace q412 := eq_true q412) | (go_at_call 90; (with_reducible refine (impl_factorial.calls k2 (wrap64 (x19_1 - x24_2)) t413 _ A18.out).mono ?_); rintro e w' ⟨rfl, ⟨nd, rfl⟩⟩; (try first | exact ⟨rfl, _, World.drewN_drewN _ _ _⟩ | exact ⟨rfl, _, Eq.trans (World.drewN_drewN _ _ _) (congrArg (World.drewN _) (Nat.add_assoc _ _ _))⟩)))
          repeat (go_quiet (first | (go_at_call 89; (with_reducible refine (impl_choose.calls k2 (wrap64 (a0_0 - x24_2)) (wrap64 (x19_1 - x24_2)) t411 _ A15.out).mono ?_); rintro e w' ⟨rfl, ⟨nd, rfl⟩⟩; (try first | exact ⟨rfl, _, World.drewN_drewN _ _ _⟩ | exact ⟨rfl, _, Eq.trans (World.drewN_drewN _ _ _) (congrArg (World.drewN _) (Nat.add_assoc _ _ _))⟩); have p412 : 0 ≤ (x24_2 : Int) := of_decide_eq_true Q0; have q412 : x24_2 < (t405.length : Int) := of_decide_eq_true Q0; obtain ⟨ad412, e412, hx412_0⟩ := Kd.at_int (Kd.R_reads' Oq4.out).2.2 x24_2 p412 q412; cases e412; replace p412 := eq_true p412; replace q412 := eq_true q412) | (go_at_call 90; (with_reducible refine (impl_factorial.calls k2 (wrap64 (x19_1 - x24_2)) t413 _ A18.out).mono ?_); rintro e w' ⟨rfl, ⟨nd, rfl⟩⟩; (try first | exact ⟨rfl, _, World.drewN_drewN _ _ _⟩ | exact ⟨rfl, _, Eq.trans (World.drewN_drewN _ _ _) (congrArg (World.drewN _) (Nat.add_assoc _ _ _))⟩))); try go_wp2_with (first | (go_at_call 89; (with_reducible refine (impl_choose.calls k2 (wrap64 (a0_0 - x24_2)) (wrap64 (x19_1 - x24_2)) t411 _ A15.out).mono ?_); rintro e w' ⟨rfl, ⟨nd, rfl⟩⟩; (try first | exact ⟨rfl, _, World.drewN_drewN _ _ _⟩ | exact ⟨rfl, _, Eq.trans (World.drewN_drewN _ _ _) (congrArg (World.drewN _) (Nat.add_assoc _ _ _))⟩); have p412 : 0 ≤ (x24_2 : Int) := of_decide_eq_true Q0; have q412 : x24_2 < (t405.length : Int) := of_decide_eq_true Q0; obtain ⟨ad412, e412, hx412_0⟩ := Kd.at_int (Kd.R_reads' Oq4.out).2.2 x24_2 p412 q412; cases e412; replace p412 := eq_true p412; replace q412 := eq_true q412) | (go_at_call 90; (with_reducible refine (impl_factorial.calls k2 (wrap64 (x19_1 - x24_2)) t413 _ A18.out).mono ?_); rintro e w' ⟨rfl, ⟨nd, rfl⟩⟩; (try first | exact ⟨rfl, _, World.drewN_drewN _ _ _⟩ | exact ⟨rfl, _, Eq.trans (World.drewN_drewN _ _ _) (congrArg (World.drewN _) (Nat.add_assoc _ _ _))⟩))))
          go_roundg k2
          case measure => have := HK1.out; have := HK2.out; omega
          case rel => exact ⟨(wrap64 (x7_2 + (wrap64 ((wrap64 ((wrap64 ((wrap64 (x8_2 * (rd t405 x24_2))) * t411)) * t411)) * t413)))), (wrap64 (-x8_2)), (wrap64 (x24_2 + 1)), Q3, Q3, Q3, H', ⟨Q40⟩, ⟨Q20⟩, ⟨Q19⟩, ⟨Q39⟩, ⟨qb⟩⟩
         ·
          rw [if_neg c17] at H
          exact absurd H (by simp)
        ·
         rw [if_neg c16] at H
         exact absurd H (by simp)
       ·
        rw [if_neg c14] at H
        have c14b0 : decide (x24_2 < (wrap64 (x19_1 + 1))) = false := decide_eq_false c14
        clear c14
        by_cases c20 : x5_1.length < 17592186044416
        ·
         rw [if_pos c20] at H
         have LMc20 := Aside0.mk c20
         clear c20
         obtain ⟨y414, hy_⟩ : ∃ y_ : List Int, y_ = ((x5_1 ++ [x7_2])) := ⟨_, rfl⟩
         replace H : (impl_NumbersOfComplement.l0 k2 t405 y414 (t405.length : Int) (wrap64 (x19_1 + 1)) a0_0 a0_1 l0_2) = some (r1, r2) := qH
         have Ny414 := Aside0.mk hy_
         clear hy_
         have H' := Aside0.mk H
         clear H
         go_wp2_with (first | ((with_reducible refine gate_builtin (b := .append) (xs := #[.tmp 55, .tmp 57]) rfl ?_); at_builtin; refine Kd.R_append (Kd.int .i64) (w0 := w) w.heap.size rfl (.tmp 55) (.tmp 57) 24 3 (.int .i64 0) 8 rfl Try.underlying24 info3 rfl (by decide) (by omega) u5 x5_1 x7_2 [.int .i64 x7_2] (fun k_ => some k_ ≠ (.slice Ao12 t405.length co12 : Value).ownBlock) (fun _ => False) rfl rfl ?aP (fun _ hk => hk.elim) ?aF ?aO ?aB ?aS ?aL ?_; (case aP => exact rfl); (case aB => exact qb); (case aF => exact (fun k_ hk => Kd.fresh' (sqL Oq4) k_ hk)); (case aO => exact (sqr Oq5)); (case aS => exact (below_size qb)); (case aL => have := LMc20.out; omega); intro v415 w21 ho hb hg hat; rw [← Ny414.out] at ho; have Oq3 := am (ho); replace Oq4 := am (Kd.R_after (ok := (fun _ => True)) (by exact sqm Oq4 (fun _ hk => ⟨trivial, hk⟩)) hg hat); replace BK403 := am (blk_grown (g := gb403) (o := .cells #[.int .i64 a0_0, .int .i64 a0_1, .slice A0_2 l0_2.length c0_2] 26 (0, 0)) (sqb BK403) hg (Kd.R_ne Oq5.out BK403.out (by decide))); replace HB := am hb; clear Oq5; clear ho hb hg hat))
         repeat (go_quiet (first | ((with_reducible refine gate_builtin (b := .append) (xs := #[.tmp 55, .tmp 57]) rfl ?_); at_builtin; refine Kd.R_append (Kd.int .i64) (w0 := w) w.heap.size rfl (.tmp 55) (.tmp 57) 24 3 (.int .i64 0) 8 rfl Try.underlying24 info3 rfl (by decide) (by omega) u5 x5_1 x7_2 [.int .i64 x7_2] (fun k_ => some k_ ≠ (.slice Ao12 t405.length co12 : Value).ownBlock) (fun _ => False) rfl rfl ?aP (fun _ hk => hk.elim) ?aF ?aO ?aB ?aS ?aL ?_; (case aP => exact rfl); (case aB => exact qb); (case aF => exact (fun k_ hk => Kd.fresh' (sqL Oq4) k_ hk)); (case aO => exact (sqr Oq5)); (case aS => exact (below_size qb)); (case aL => have := LMc20.out; omega); intro v415 w21 ho hb hg hat; rw [← Ny414.out] at ho; have Oq3 := am (ho); replace Oq4 := am (Kd.R_after (ok := (fun _ => True)) (by exact sqm Oq4 (fun _ hk => ⟨trivial, hk⟩)) hg hat); replace BK403 := am (blk_grown (g := gb403) (o := .cells #[.int .i64 a0_0, .int .i64 a0_1, .slice A0_2 l0_2.length c0_2] 26 (0, 0)) (sqb BK403) hg (Kd.R_ne Oq5.out BK403.out (by decide))); replace HB := am hb; clear Oq5; clear ho hb hg hat)); try go_wp2_with (first | ((with_reducible refine gate_builtin (b := .append) (xs := #[.tmp 55, .tmp 57]) rfl ?_); at_builtin; refine Kd.R_append (Kd.int .i64) (w0 := w) w.heap.size rfl (.tmp 55) (.tmp 57) 24 3 (.int .i64 0) 8 rfl Try.underlying24 info3 rfl (by decide) (by omega) u5 x5_1 x7_2 [.int .i64 x7_2] (fun k_ => some k_ ≠ (.slice Ao12 t405.length co12 : Value).ownBlock) (fun _ => False) rfl rfl ?aP (fun _ hk => hk.elim) ?aF ?aO ?aB ?aS ?aL ?_; (case aP => exact rfl); (case aB => exact qb); (case aF => exact (fun k_ hk => Kd.fresh' (sqL Oq4) k_ hk)); (case aO => exact (sqr Oq5)); (case aS => exact (below_size qb)); (case aL => have := LMc20.out; omega); intro v415 w21 ho hb hg hat; rw [← Ny414.out] at ho; have n0_ := am (Kd.R_after (ok := (fun _ => True)) (by exact sqm Oq4 (fun _ hk => ⟨trivial, hk⟩)) hg hat); have n1_ := am (blk_grown (g := gb403) (o := .cells #[.int .i64 a0_0, .int .i64 a0_1, .slice A0_2 l0_2.length c0_2] 26 (0, 0)) (sqb BK403) hg (Kd.R_ne Oq5.out BK403.out (by decide))); have n2_ := am hb; have n3_ := am (ho); clear Oq4; clear BK403; clear HB; clear Oq5; have Oq4 := n0_; have BK403 := n1_; have HB := n2_; have Oq3 := n3_; clear n0_ n1_ n2_ n3_; clear ho hb hg hat)))
         go_roundg k2
         case measure => have := HK1.out; have := HK2.out; omega
         case rel => exact ⟨(y414), (wrap64 (x19_1 + 1)), Q3, H', ⟨Q40⟩, ⟨by exact sqm Oq4 (fun _ hk => hk.2)⟩, ⟨Q56⟩, ⟨Q39⟩, ⟨qb⟩⟩
        ·
         rw [if_neg c20] at H
         exact absurd H (by simp)
    ·
     rw [if_neg c13] at H
     have c13b0 : decide (x19_1 < (t405.length : Int)) = false := decide_eq_false c13
     clear c13
     simp only [Option.some.injEq, Prod.mk.injEq] at H
     obtain ⟨rfl, rfl⟩ := H
     go_wp2
     repeat (go_quiet (fail); try go_wp2)
     go_ret2
     exact ⟨_, Q2, by exact sqm Oq5 (fun _ hk => trivial), qb⟩
 ·
  replace c3 := Bool.eq_false_iff.mpr c3
  subst c3
  have H1 : (some (([] : List Int), false)) = some (r1, r2) := by first | (rw [if_neg (show ¬ (false = true) by decide)] at H; exact H) | rfl
  clear H
  have H := H1
  clear H1
  simp only [Option.some.injEq, Prod.mk.injEq] at H
  obtain ⟨rfl, rfl⟩ := H
  go_enter Try.func30, Try.ntmps30
  go_wp2_with (first | ((with_reducible refine gate_dst (N := 1) rfl ?_); refine qv 1 #[.int .i64 a0_0, .int .i64 a0_1, .slice A0_2 l0_2.length c0_2] 26 ?_; intro gb403 hg w22 hbox hb; have BK403 := am hbox; have GW403 := qw hg; have GE403 := qw hg; replace HB := qs hb; clear hb hbox hg; obtain ⟨zq15, zq16, zq17, fq15, fq16, fq17⟩ := qd BK403) | (go_at_call 88; (with_reducible refine (impl_isSquare.calls a0_0 a0_1 _ _ l0_2 false _ ?side1 HC0_2.out A2.out).mono ?_); (case side1 => exact Q1); rintro e w24 ⟨rfl, hb⟩; replace BK403 := sqB BK403 hb; replace HB := qs hb; (try clear hb)))
  repeat (go_quiet (first | ((with_reducible refine gate_dst (N := 1) rfl ?_); refine qv 1 #[.int .i64 a0_0, .int .i64 a0_1, .slice A0_2 l0_2.length c0_2] 26 ?_; intro gb403 hg w22 hbox hb; have BK403 := am hbox; have GW403 := qw hg; have GE403 := qw hg; replace HB := qs hb; clear hb hbox hg; obtain ⟨zq15, zq16, zq17, fq15, fq16, fq17⟩ := qd BK403) | (go_at_call 88; (with_reducible refine (impl_isSquare.calls a0_0 a0_1 _ _ l0_2 false _ ?side1 HC0_2.out A2.out).mono ?_); (case side1 => exact Q1); rintro e w24 ⟨rfl, hb⟩; replace BK403 := sqB BK403 hb; replace HB := qs hb; (try clear hb))); try go_wp2_with (first | ((with_reducible refine gate_dst (N := 1) rfl ?_); refine qv 1 #[.int .i64 a0_0, .int .i64 a0_1, .slice A0_2 l0_2.length c0_2] 26 ?_; intro gb403 hg w22 hbox hb; have n0_ := qs hb; have n1_ := am hbox; have n2_ := qw hg; have n3_ := qw hg; clear HB; have HB := n0_; have BK403 := n1_; have GW403 := n2_; have GE403 := n3_; clear n0_ n1_ n2_ n3_; clear hb hbox hg; have zq15 : w22.cell? ⟨gb403, 0, none⟩ = some (.int .i64 a0_0) := sqc BK403 0; have zq16 : w22.cell? ⟨gb403, 1, none⟩ = some (.int .i64 a0_1) := sqc BK403 1; have zq17 : w22.cell? ⟨gb403, 2, none⟩ = some (.slice A0_2 l0_2.length c0_2) := sqc BK403 2; have fq15 := blk_frozen BK403.out 0; have fq16 := blk_frozen BK403.out 1; have fq17 := blk_frozen BK403.out 2) | (go_at_call 88; (with_reducible refine (impl_isSquare.calls a0_0 a0_1 _ _ l0_2 false _ ?side1 HC0_2.out A2.out).mono ?_); (case side1 => exact Q1); rintro e w24 ⟨rfl, hb⟩; have n1_ := qs hb; clear HB; replace BK403 := sqB BK403 hb; have HB := n1_; clear n1_; (try clear hb); (try clear hb2); (try clear hk); (try clear hi))))
  go_ret2
  exact ⟨_, Q2, Q17, qb⟩

/-! ### spec_boSide: function 76 -/
def spec_boSide.f (a0 : Int) : Option (Bool) := (spec_l1In.f a0 1 6).bind fun t417 => (some t417)
set_option maxHeartbeats 8000000 in
set_option maxRecDepth 100000 in
theorem spec_boSide.calls (a0 : Int) (r : Bool) (w : World) (h : spec_boSide.f a0 = some r) :
  Calls Try.prog 76 #[.int .i64 a0] w fun e w' => e = .returned (.bool r) ∧ Drawn0 w w' := by
 have H : ((spec_l1In.f a0 1 6).bind fun t417 => (some t417)) = some r := h
 clear h
 replace H := qE H
 obtain ⟨t417, A2, H⟩ := H
 replace H : (some t417) = some r := H
 obtain rfl := Option.some.inj H
 go_enter Try.func76, Try.ntmps76
 go_wp2_with (first | ((with_reducible refine gate_callee (f := 104) rfl ?_); refine qg (some 4) Try.func104 #[.int .i64 a0, .int .i64 1, .int .i64 6] ?_; (with_reducible refine (spec_l1In.calls a0 1 6 t417 _ A2.out).mono ?_); rintro e w' ⟨rfl, ⟨nd, rfl⟩⟩; refine ⟨_, rfl, ?_⟩))
 go_ret
 exact ⟨Q3, Q7⟩

/-! ### spec_boGood: function 60 -/
def spec_boGood.f (k : Nat) (a0_0 : Int) (a0_1 : Int) (l0_2 : List Int) : Option (Bool) := (spec_boSide.f a0_0).bind fun t419 => (if t419 = true then ((spec_boSide.f a0_1).bind fun t420 => (if t420 = true then (if (l0_2.length : Int) = a0_0 then (if 0 ≤ a0_1 then ((spec_l1All.f k l0_2 0 (wrap64 ((shl .i64 1 a0_1) - 1))).bind fun t421 => (some t421)) else (none)) else (some false)) else (some false))) else (some false))
set_option maxHeartbeats 8000000 in
set_option maxRecDepth 100000 in
theorem spec_boGood.calls (k : Nat) (a0_0 : Int) (a0_1 : Int) (A0_2 : Option Addr) (c0_2 : Nat) (l0_2 : List Int) (r : Bool) (w : World) (hr0_2 : Kd.C (Kd.int .i64) w A0_2 l0_2.length l0_2) (hc0_2 : l0_2.length ≤ c0_2) (h : spec_boGood.f k a0_0 a0_1 l0_2 = some r) :
  Calls Try.prog 60 #[.agg #[.int .i64 a0_0, .int .i64 a0_1, .slice A0_2 l0_2.length c0_2]] w fun e w' => e = .returned (.bool r) ∧ Below w.heap.size w w' := by
 have hu26 := Try.underlying26
 have HR0_2 := Aside0.mk hr0_2
 have HC0_2 := Aside0.mk hc0_2
 clear hr0_2 hc0_2
 have HB := am (Below.refl w.heap.size w)
 have H : ((spec_boSide.f a0_0).bind fun t419 => (if t419 = true then ((spec_boSide.f a0_1).bind fun t420 => (if t420 = true then (if (l0_2.length : Int) = a0_0 then (if 0 ≤ a0_1 then ((spec_l1All.f k l0_2 0 (wrap64 ((shl .i64 1 a0_1) - 1))).bind fun t421 => (some t421)) else (none)) else (some false)) else (some false))) else (some false))) = some r := h
 clear h
 replace H := qE H
 obtain ⟨t419, A2, H⟩ := H
 replace H : (if t419 = true then ((spec_boSide.f a0_1).bind fun t420 => (if t420 = true then (if (l0_2.length : Int) = a0_0 then (if 0 ≤ a0_1 then ((spec_l1All.f k l0_2 0 (wrap64 ((shl .i64 1 a0_1) - 1))).bind fun t421 => (some t421)) else (none)) else (some false)) else (some false))) else (some false)) = some r := H
 by_cases c3 : t419 = true
 ·
  subst c3
  have H1 : ((spec_boSide.f a0_1).bind fun t420 => (if t420 = true then (if (l0_2.length : Int) = a0_0 then (if 0 ≤ a0_1 then ((spec_l1All.f k l0_2 0 (wrap64 ((shl .i64 1 a0_1) - 1))).bind fun t421 => (some t421)) else (none)) else (some false)) else (some false))) = some r := by first | (rw [if_pos rfl] at H; exact H) | rfl
  clear H
  have H := H1
  clear H1
  replace H := qE H
  obtain ⟨t420, A4, H⟩ := H
  replace H : (if t420 = true then (if (l0_2.length : Int) = a0_0 then (if 0 ≤ a0_1 then ((spec_l1All.f k l0_2 0 (wrap64 ((shl .i64 1 a0_1) - 1))).bind fun t421 => (some t421)) else (none)) else (some false)) else (some false)) = some r := H
  by_cases c5 : t420 = true
  ·
   subst c5
   have H1 : (if (l0_2.length : Int) = a0_0 then (if 0 ≤ a0_1 then ((spec_l1All.f k l0_2 0 (wrap64 ((shl .i64 1 a0_1) - 1))).bind fun t421 => (some t421)) else (none)) else (some false)) = some r := by first | (rw [if_pos rfl] at H; exact H) | rfl
   clear H
   have H := H1
   clear H1
   by_cases c6 : (l0_2.length : Int) = a0_0
   ·
    rw [if_pos c6] at H
    have c6b0 : ((l0_2.length : Int) == a0_0) = true := beq_iff_eq.mpr c6
    have c6b1 : ((l0_2.length : Int) != a0_0) = false := bne_eq_false_iff_eq.mpr c6
    clear c6
    by_cases c7 : 0 ≤ a0_1
    ·
     rw [if_pos c7] at H
     have c7b0 := eq_true c7
     have c7b1 : decide (0 ≤ a0_1) = true := decide_eq_true c7
     clear c7
     obtain ⟨ji8, hji8⟩ : ∃ j_ : Int, (shl .i64 1 a0_1) = j_ := ⟨_, rfl⟩
     replace H : ((spec_l1All.f k l0_2 0 (wrap64 ((ji8) - 1))).bind fun t421 => (some t421)) = some r := by first | (rw [hji8] at H; exact H) | (simp only [hji8] at H ⊢; exact H)
     (try rw [hji8] at A2)
     (try rw [hji8] at A4)
     have hji8_ : (IntKind.i64.wrap (1 * 2 ^ min a0_1.toNat 64)) = ji8 := hji8
     have hji8z : a0_1 ≤ 64 → (IntKind.i64.wrap (1 * 2 ^ a0_1.toNat)) = ji8 := shl_small hji8
     have hji8u : (IntKind.i64.wrap (2 ^ min a0_1.toNat 64)) = ji8 := by have h_ := hji8_; rw [Int.one_mul] at h_; exact h_
     have hji8v : a0_1 ≤ 64 → (IntKind.i64.wrap (2 ^ a0_1.toNat)) = ji8 := fun hle_ => by have h_ := hji8z hle_; rw [Int.one_mul] at h_; exact h_
     have hji8y : (wrap64 (1 * 2 ^ min a0_1.toNat 64)) = ji8 := (i64_w _).symm.trans hji8_
     have hji8x : a0_1 ≤ 64 → (wrap64 (1 * 2 ^ a0_1.toNat)) = ji8 := fun h_ => (i64_w _).symm.trans (hji8z h_)
     replace H := qE H
     obtain ⟨t421, A9, H⟩ := H
     replace H : (some t421) = some r := H
     obtain rfl := Option.some.inj H
     go_enter Try.func60, Try.ntmps60
     go_wp2_with (first | ((with_reducible refine gate_dst (N := 1) rfl ?_); (try (refine gate_guard (by rfl) ?_; dsimp only)); refine qv 1 #[.int .i64 a0_0, .int .i64 a0_1, .slice A0_2 l0_2.length c0_2] 26 ?_; intro gb418 hg w10 hbox hb; have BK418 := am hbox; have GW418 := qw hg; have GE418 := qw hg; replace HB := qs hb; clear hb hbox hg; obtain ⟨zq0, zq1, zq2, fq0, fq1, fq2⟩ := qd BK418) | (go_at_call 76; (with_reducible refine (spec_boSide.calls a0_0 true _ A2.out).mono ?_); rintro e w' ⟨rfl, ⟨nd, rfl⟩⟩; (try first | exact ⟨rfl, _, World.drewN_drewN _ _ _⟩ | exact ⟨rfl, _, Eq.trans (World.drewN_drewN _ _ _) (congrArg (World.drewN _) (Nat.add_assoc _ _ _))⟩)) | (go_at_call 76; (with_reducible refine (spec_boSide.calls a0_1 true _ A4.out).mono ?_); rintro e w' ⟨rfl, ⟨nd, rfl⟩⟩; (try first | exact ⟨rfl, _, World.drewN_drewN _ _ _⟩ | exact ⟨rfl, _, Eq.trans (World.drewN_drewN _ _ _) (congrArg (World.drewN _) (Nat.add_assoc _ _ _))⟩)) | (go_at_call 115; (with_reducible refine (spec_l1All.calls k _ _ l0_2 0 (wrap64 ((ji8) - 1)) t421 _ ?side1 HC0_2.out A9.out).mono ?_); (case side1 => exact Q42); rintro e w' ⟨rfl, ⟨nd, rfl⟩⟩; (try first | exact ⟨rfl, _, World.drewN_drewN _ _ _⟩ | exact ⟨rfl, _, Eq.trans (World.drewN_drewN _ _ _) (congrArg (World.drewN _) (Nat.add_assoc _ _ _))⟩)))
     repeat (go_quiet (first | ((with_reducible refine gate_dst (N := 1) rfl ?_); (try (refine gate_guard (by rfl) ?_; dsimp only)); refine qv 1 #[.int .i64 a0_0, .int .i64 a0_1, .slice A0_2 l0_2.length c0_2] 26 ?_; intro gb418 hg w10 hbox hb; have BK418 := am hbox; have GW418 := qw hg; have GE418 := qw hg; replace HB := qs hb; clear hb hbox hg; obtain ⟨zq0, zq1, zq2, fq0, fq1, fq2⟩ := qd BK418) | (go_at_call 76; (with_reducible refine (spec_boSide.calls a0_0 true _ A2.out).mono ?_); rintro e w' ⟨rfl, ⟨nd, rfl⟩⟩; (try first | exact ⟨rfl, _, World.drewN_drewN _ _ _⟩ | exact ⟨rfl, _, Eq.trans (World.drewN_drewN _ _ _) (congrArg (World.drewN _) (Nat.add_assoc _ _ _))⟩)) | (go_at_call 76; (with_reducible refine (spec_boSide.calls a0_1 true _ A4.out).mono ?_); rintro e w' ⟨rfl, ⟨nd, rfl⟩⟩; (try first | exact ⟨rfl, _, World.drewN_drewN _ _ _⟩ | exact ⟨rfl, _, Eq.trans (World.drewN_drewN _ _ _) (congrArg (World.drewN _) (Nat.add_assoc _ _ _))⟩)) | (go_at_call 115; (with_reducible refine (spec_l1All.calls k _ _ l0_2 0 (wrap64 ((ji8) - 1)) t421 _ ?side1 HC0_2.out A9.out).mono ?_); (case side1 => exact Q42); rintro e w' ⟨rfl, ⟨nd, rfl⟩⟩; (try first | exact ⟨rfl, _, World.drewN_drewN _ _ _⟩ | exact ⟨rfl, _, Eq.trans (World.drewN_drewN _ _ _) (congrArg (World.drewN _) (Nat.add_assoc _ _ _))⟩))); try go_wp2_with (first | ((with_reducible refine gate_dst (N := 1) rfl ?_); (try (refine gate_guard (by rfl) ?_; dsimp only)); refine qv 1 #[.int .i64 a0_0, .int .i64 a0_1, .slice A0_2 l0_2.length c0_2] 26 ?_; intro gb418 hg w10 hbox hb; have n0_ := qs hb; have n1_ := am hbox; have n2_ := qw hg; have n3_ := qw hg; clear HB; have HB := n0_; have BK418 := n1_; have GW418 := n2_; have GE418 := n3_; clear n0_ n1_ n2_ n3_; clear hb hbox hg; have zq0 : w10.cell? ⟨gb418, 0, none⟩ = some (.int .i64 a0_0) := sqc BK418 0; have zq1 : w10.cell? ⟨gb418, 1, none⟩ = some (.int .i64 a0_1) := sqc BK418 1; have zq2 : w10.cell? ⟨gb418, 2, none⟩ = some (.slice A0_2 l0_2.length c0_2) := sqc BK418 2; have fq0 := blk_frozen BK418.out 0; have fq1 := blk_frozen BK418.out 1; have fq2 := blk_frozen BK418.out 2) | (go_at_call 76; (with_reducible refine (spec_boSide.calls a0_0 true _ A2.out).mono ?_); rintro e w' ⟨rfl, ⟨nd, rfl⟩⟩; (try first | exact ⟨rfl, _, World.drewN_drewN _ _ _⟩ | exact ⟨rfl, _, Eq.trans (World.drewN_drewN _ _ _) (congrArg (World.drewN _) (Nat.add_assoc _ _ _))⟩)) | (go_at_call 76; (with_reducible refine (spec_boSide.calls a0_1 true _ A4.out).mono ?_); rintro e w' ⟨rfl, ⟨nd, rfl⟩⟩; (try first | exact ⟨rfl, _, World.drewN_drewN _ _ _⟩ | exact ⟨rfl, _, Eq.trans (World.drewN_drewN _ _ _) (congrArg (World.drewN _) (Nat.add_assoc _ _ _))⟩)) | (go_at_call 115; (with_reducible refine (spec_l1All.calls k _ _ l0_2 0 (wrap64 ((ji8) - 1)) t421 _ ?side1 HC0_2.out A9.out).mono ?_); (case side1 => exact Q42); rintro e w' ⟨rfl, ⟨nd, rfl⟩⟩; (try first | exact ⟨rfl, _, World.drewN_drewN _ _ _⟩ | exact ⟨rfl, _, Eq.trans (World.drewN_drewN _ _ _) (congrArg (World.drewN _) (Nat.add_assoc _ _ _))⟩))))
     go_ret
     exact ⟨by first | rfl | (simp [errW_none, errW_some] <;> rfl) | (simp only [← hji8]; first | rfl | (simp [errW_none, errW_some] <;> rfl)) | (simp [*, errW_none, errW_some] <;> rfl), qb⟩
    ·
     rw [if_neg c7] at H
     exact absurd H (by simp)
   ·
    rw [if_neg c6] at H
    have c6b0 : ((l0_2.length : Int) == a0_0) = false := beq_eq_false_iff_ne.mpr c6
    have c6b1 : ((l0_2.length : Int) != a0_0) = true := bne_iff_ne.mpr c6
    obtain rfl := Option.some.inj H
    go_enter Try.func60, Try.ntmps60
    go_wp2_with (first | ((with_reducible refine gate_dst (N := 1) rfl ?_); (try (refine gate_guard (by rfl) ?_; dsimp only)); refine qv 1 #[.int .i64 a0_0, .int .i64 a0_1, .slice A0_2 l0_2.length c0_2] 26 ?_; intro gb418 hg w12 hbox hb; have BK418 := am hbox; have GW418 := qw hg; have GE418 := qw hg; replace HB := qs hb; clear hb hbox hg; obtain ⟨zq3, zq4, zq5, fq3, fq4, fq5⟩ := qd BK418) | (go_at_call 76; (with_reducible refine (spec_boSide.calls a0_0 true _ A2.out).mono ?_); rintro e w' ⟨rfl, ⟨nd, rfl⟩⟩; (try first | exact ⟨rfl, _, World.drewN_drewN _ _ _⟩ | exact ⟨rfl, _, Eq.trans (World.drewN_drewN _ _ _) (congrArg (World.drewN _) (Nat.add_assoc _ _ _))⟩)) | (go_at_call 76; (with_reducible refine (spec_boSide.calls a0_1 true _ A4.out).mono ?_); rintro e w' ⟨rfl, ⟨nd, rfl⟩⟩; (try first | exact ⟨rfl, _, World.drewN_drewN _ _ _⟩ | exact ⟨rfl, _, Eq.trans (World.drewN_drewN _ _ _) (congrArg (World.drewN _) (Nat.add_assoc _ _ _))⟩)))
    repeat (go_quiet (first | ((with_reducible refine gate_dst (N := 1) rfl ?_); (try (refine gate_guard (by rfl) ?_; dsimp only)); refine qv 1 #[.int .i64 a0_0, .int .i64 a0_1, .slice A0_2 l0_2.length c0_2] 26 ?_; intro gb418 hg w12 hbox hb; have BK418 := am hbox; have GW418 := qw hg; have GE418 := qw hg; replace HB := qs hb; clear hb hbox hg; obtain ⟨zq3, zq4, zq5, fq3, fq4, fq5⟩ := qd BK418) | (go_at_call 76; (with_reducible refine (spec_boSide.calls a0_0 true _ A2.out).mono ?_); rintro e w' ⟨rfl, ⟨nd, rfl⟩⟩; (try first | exact ⟨rfl, _, World.drewN_drewN _ _ _⟩ | exact ⟨rfl, _, Eq.trans (World.drewN_drewN _ _ _) (congrArg (World.drewN _) (Nat.add_assoc _ _ _))⟩)) | (go_at_call 76; (with_reducible refine (spec_boSide.calls a0_1 true _ A4.out).mono ?_); rintro e w' ⟨rfl, ⟨nd, rfl⟩⟩; (try first | exact ⟨rfl, _, World.drewN_drewN _ _ _⟩ | exact ⟨rfl, _, Eq.trans (World.drewN_drewN _ _ _) (congrArg (World.drewN _) (Nat.add_assoc _ _ _))⟩))); try go_wp2_with (first | ((with_reducible refine gate_dst (N := 1) rfl ?_); (try (refine gate_guard (by rfl) ?_; dsimp only)); refine qv 1 #[.int .i64 a0_0, .int .i64 a0_1, .slice A0_2 l0_2.length c0_2] 26 ?_; intro gb418 hg w12 hbox hb; have n0_ := qs hb; have n1_ := am hbox; have n2_ := qw hg; have n3_ := qw hg; clear HB; have HB := n0_; have BK418 := n1_; have GW418 := n2_; have GE418 := n3_; clear n0_ n1_ n2_ n3_; clear hb hbox hg; have zq3 : w12.cell? ⟨gb418, 0, none⟩ = some (.int .i64 a0_0) := sqc BK418 0; have zq4 : w12.cell? ⟨gb418, 1, none⟩ = some (.int .i64 a0_1) := sqc BK418 1; have zq5 : w12.cell? ⟨gb418, 2, none⟩ = some (.slice A0_2 l0_2.length c0_2) := sqc BK418 2; have fq3 := blk_frozen BK418.out 0; have fq4 := blk_frozen BK418.out 1; have fq5 := blk_frozen BK418.out 2) | (go_at_call 76; (with_reducible refine (spec_boSide.calls a0_0 true _ A2.out).mono ?_); rintro e w' ⟨rfl, ⟨nd, rfl⟩⟩; (try first | exact ⟨rfl, _, World.drewN_drewN _ _ _⟩ | exact ⟨rfl, _, Eq.trans (World.drewN_drewN _ _ _) (congrArg (World.drewN _) (Nat.add_assoc _ _ _))⟩)) | (go_at_call 76; (with_reducible refine (spec_boSide.calls a0_1 true _ A4.out).mono ?_); rintro e w' ⟨rfl, ⟨nd, rfl⟩⟩; (try first | exact ⟨rfl, _, World.drewN_drewN _ _ _⟩ | exact ⟨rfl, _, Eq.trans (World.drewN_drewN _ _ _) (congrArg (World.drewN _) (Nat.add_assoc _ _ _))⟩))))
    go_ret
    exact ⟨Q2, qb⟩
  ·
   replace c5 := Bool.eq_false_iff.mpr c5
   subst c5
   have H1 : (some false) = some r := by first | (rw [if_neg (show ¬ (false = true) by decide)] at H; exact H) | rfl
   clear H
   have H := H1
   clear H1
   obtain rfl := Option.some.inj H
   go_enter Try.func60, Try.ntmps60
   go_wp2_with (first | ((with_reducible refine gate_dst (N := 1) rfl ?_); (try (refine gate_guard (by rfl) ?_; dsimp only)); refine qv 1 #[.int .i64 a0_0, .int .i64 a0_1, .slice A0_2 l0_2.length c0_2] 26 ?_; intro gb418 hg w14 hbox hb; have BK418 := am hbox; have GW418 := qw hg; have GE418 := qw hg; replace HB := qs hb; clear hb hbox hg; obtain ⟨zq6, zq7, zq8, fq6, fq7, fq8⟩ := qd BK418) | (go_at_call 76; (with_reducible refine (spec_boSide.calls a0_0 true _ A2.out).mono ?_); rintro e w' ⟨rfl, ⟨nd, rfl⟩⟩; (try first | exact ⟨rfl, _, World.drewN_drewN _ _ _⟩ | exact ⟨rfl, _, Eq.trans (World.drewN_drewN _ _ _) (congrArg (World.drewN _) (Nat.add_assoc _ _ _))⟩)) | (go_at_call 76; (with_reducible refine (spec_boSide.calls a0_1 false _ A4.out).mono ?_); rintro e w' ⟨rfl, ⟨nd, rfl⟩⟩; (try first | exact ⟨rfl, _, World.drewN_drewN _ _ _⟩ | exact ⟨rfl, _, Eq.trans (World.drewN_drewN _ _ _) (congrArg (World.drewN _) (Nat.add_assoc _ _ _))⟩)))
   repeat (go_quiet (first | ((with_reducible refine gate_dst (N := 1) rfl ?_); (try (refine gate_guard (by rfl) ?_; dsimp only)); refine qv 1 #[.int .i64 a0_0, .int .i64 a0_1, .slice A0_2 l0_2.length c0_2] 26 ?_; intro gb418 hg w14 hbox hb; have BK418 := am hbox; have GW418 := qw hg; have GE418 := qw hg; replace HB := qs hb; clear hb hbox hg; obtain ⟨zq6, zq7, zq8, fq6, fq7, fq8⟩ := qd BK418) | (go_at_call 76; (with_reducible refine (spec_boSide.calls a0_0 true _ A2.out).mono ?_); rintro e w' ⟨rfl, ⟨nd, rfl⟩⟩; (try first | exact ⟨rfl, _, World.drewN_drewN _ _ _⟩ | exact ⟨rfl, _, Eq.trans (World.drewN_drewN _ _ _) (congrArg (World.drewN _) (Nat.add_assoc _ _ _))⟩)) | (go_at_call 76; (with_reducible refine (spec_boSide.calls a0_1 false _ A4.out).mono ?_); rintro e w' ⟨rfl, ⟨nd, rfl⟩⟩; (try first | exact ⟨rfl, _, World.drewN_drewN _ _ _⟩ | exact ⟨rfl, _, Eq.trans (World.drewN_drewN _ _ _) (congrArg (World.drewN _) (Nat.add_assoc _ _ _))⟩))); try go_wp2_with (first | ((with_reducible refine gate_dst (N := 1) rfl ?_); (try (refine gate_guard (by rfl) ?_; dsimp only)); refine qv 1 #[.int .i64 a0_0, .int .i64 a0_1, .slice A0_2 l0_2.length c0_2] 26 ?_; intro gb418 hg w14 hbox hb; have n0_ := qs hb; have n1_ := am hbox; have n2_ := qw hg; have n3_ := qw hg; clear HB; have HB := n0_; have BK418 := n1_; have GW418 := n2_; have GE418 := n3_; clear n0_ n1_ n2_ n3_; clear hb hbox hg; have zq6 : w14.cell? ⟨gb418, 0, none⟩ = some (.int .i64 a0_0) := sqc BK418 0; have zq7 : w14.cell? ⟨gb418, 1, none⟩ = some (.int .i64 a0_1) := sqc BK418 1; have zq8 : w14.cell? ⟨gb418, 2, none⟩ = some (.slice A0_2 l0_2.length c0_2) := sqc BK418 2; have fq6 := blk_frozen BK418.out 0; have fq7 := blk_frozen BK418.out 1; have fq8 := blk_frozen BK418.out 2) | (go_at_call 76; (with_reducible refine (spec_boSide.calls a0_0 true _ A2.out).mono ?_); rintro e w' ⟨rfl, ⟨nd, rfl⟩⟩; (try first | exact ⟨rfl, _, World.drewN_drewN _ _ _⟩ | exact ⟨rfl, _, Eq.trans (World.drewN_drewN _ _ _) (congrArg (World.drewN _) (Nat.add_assoc _ _ _))⟩)) | (go_at_call 76; (with_reducible refine (spec_boSide.calls a0_1 false _ A4.out).mono ?_); rintro e w' ⟨rfl, ⟨nd, rfl⟩⟩; (try first | exact ⟨rfl, _, World.drewN_drewN _ _ _⟩ | exact ⟨rfl, _, Eq.trans (World.drewN_drewN _ _ _) (congrArg (World.drewN _) (Nat.add_assoc _ _ _))⟩))))
   go_ret
   exact ⟨Q2, qb⟩
 ·
  replace c3 := Bool.eq_false_iff.mpr c3
  subst c3
  have H1 : (some false) = some r := by first | (rw [if_neg (show ¬ (false = true) by decide)] at H; exact H) | rfl
  clear H
  have H := H1
  clear H1
  obtain rfl := Option.some.inj H
  go_enter Try.func60, Try.ntmps60
  go_wp2_with (first | ((with_reducible refine gate_dst (N := 1) rfl ?_); (try (refine gate_guard (by rfl) ?_; dsimp only)); refine qv 1 #[.int .i64 a0_0, .int .i64 a0_1, .slice A0_2 l0_2.length c0_2] 26 ?_; intro gb418 hg w16 hbox hb; have BK418 := am hbox; have GW418 := qw hg; have GE418 := qw hg; replace HB := qs hb; clear hb hbox hg; obtain ⟨zq9, zq10, zq11, fq9, fq10, fq11⟩ := qd BK418) | (go_at_call 76; (with_reducible refine (spec_boSide.calls a0_0 false _ A2.out).mono ?_); rintro e w' ⟨rfl, ⟨nd, rfl⟩⟩; (try first | exact ⟨rfl, _, World.drewN_drewN _ _ _⟩ | exact ⟨rfl, _, Eq.trans (World.drewN_drewN _ _ _) (congrArg (World.drewN _) (Nat.add_assoc _ _ _))⟩)))
  repeat (go_quiet (first | ((with_reducible refine gate_dst (N := 1) rfl ?_); (try (refine gate_guard (by rfl) ?_; dsimp only)); refine qv 1 #[.int .i64 a0_0, .int .i64 a0_1, .slice A0_2 l0_2.length c0_2] 26 ?_; intro gb418 hg w16 hbox hb; have BK418 := am hbox; have GW418 := qw hg; have GE418 := qw hg; replace HB := qs hb; clear hb hbox hg; obtain ⟨zq9, zq10, zq11, fq9, fq10, fq11⟩ := qd BK418) | (go_at_call 76; (with_reducible refine (spec_boSide.calls a0_0 false _ A2.out).mono ?_); rintro e w' ⟨rfl, ⟨nd, rfl⟩⟩; (try first | exact ⟨rfl, _, World.drewN_drewN _ _ _⟩ | exact ⟨rfl, _, Eq.trans (World.drewN_drewN _ _ _) (congrArg (World.drewN _) (Nat.add_assoc _ _ _))⟩))); try go_wp2_with (first | ((with_reducible refine gate_dst (N := 1) rfl ?_); (try (refine gate_guard (by rfl) ?_; dsimp only)); refine qv 1 #[.int .i64 a0_0, .int .i64 a0_1, .slice A0_2 l0_2.length c0_2] 26 ?_; intro gb418 hg w16 hbox hb; have n0_ := qs hb; have n1_ := am hbox; have n2_ := qw hg; have n3_ := qw hg; clear HB; have HB := n0_; have BK418 := n1_; have GW418 := n2_; have GE418 := n3_; clear n0_ n1_ n2_ n3_; clear hb hbox hg; have zq9 : w16.cell? ⟨gb418, 0, none⟩ = some (.int .i64 a0_0) := sqc BK418 0; have zq10 : w16.cell? ⟨gb418, 1, none⟩ = some (.int .i64 a0_1) := sqc BK418 1; have zq11 : w16.cell? ⟨gb418, 2, none⟩ = some (.slice A0_2 l0_2.length c0_2) := sqc BK418 2; have fq9 := blk_frozen BK418.out 0; have fq10 := blk_frozen BK418.out 1; have fq11 := blk_frozen BK418.out 2) | (go_at_call 76; (with_reducible refine (spec_boSide.calls a0_0 false _ A2.out).mono ?_); rintro e w' ⟨rfl, ⟨nd, rfl⟩⟩; (try first | exact ⟨rfl, _, World.drewN_drewN _ _ _⟩ | exact ⟨rfl, _, Eq.trans (World.drewN_drewN _ _ _) (congrArg (World.drewN _) (Nat.add_assoc _ _ _))⟩))))
  go_ret
  exact ⟨Q2, qb⟩

/-! ### spec_roSquare: function 91 -/
def spec_roSquare.f (k : Nat) (a0_0 : Int) (a0_1 : Int) (l0_2 : List Int) : Option (Bool) := (spec_boGood.f k a0_0 a0_1 l0_2).bind fun t423 => (if t423 = true then (some (a0_0 == a0_1)) else (some false))
set_option maxHeartbeats 8000000 in
set_option maxRecDepth 100000 in
theorem spec_roSquare.calls (k : Nat) (a0_0 : Int) (a0_1 : Int) (A0_2 : Option Addr) (c0_2 : Nat) (l0_2 : List Int) (r : Bool) (w : World) (hr0_2 : Kd.C (Kd.int .i64) w A0_2 l0_2.length l0_2) (hc0_2 : l0_2.length ≤ c0_2) (h : spec_roSquare.f k a0_0 a0_1 l0_2 = some r) :
  Calls Try.prog 91 #[.agg #[.int .i64 a0_0, .int .i64 a0_1, .slice A0_2 l0_2.length c0_2]] w fun e w' => e = .returned (.bool r) ∧ Below w.heap.size w w' := by
 have hu26 := Try.underlying26
 have HR0_2 := Aside0.mk hr0_2
 have HC0_2 := Aside0.mk hc0_2
 clear hr0_2 hc0_2
 have HB := am (Below.refl w.heap.size w)
 have H : ((spec_boGood.f k a0_0 a0_1 l0_2).bind fun t423 => (if t423 = true then (some (a0_0 == a0_1)) else (some false))) = some r := h
 clear h
 replace H := qE H
 obtain ⟨t423, A2, H⟩ := H
 replace H : (if t423 = true then (some (a0_0 == a0_1)) else (some false)) = some r := H
 by_cases c3 : t423 = true
 ·
  subst c3
  have H1 : (some (a0_0 == a0_1)) = some r := by first | (rw [if_pos rfl] at H; exact H) | rfl
  clear H
  have H := H1
  clear H1
  obtain rfl := Option.some.inj H
  go_enter Try.func91, Try.ntmps91
  go_wp2_with (first | ((with_reducible refine gate_dst (N := 1) rfl ?_); refine qv 1 #[.int .i64 a0_0, .int .i64 a0_1, .slice A0_2 l0_2.length c0_2] 26 ?_; intro gb422 hg w4 hbox hb; have BK422 := am hbox; have GW422 := qw hg; have GE422 := qw hg; replace HB := qs hb; clear hb hbox hg; obtain ⟨zq18, zq19, zq20, fq18, fq19, fq20⟩ := qd BK422) | ((with_reducible refine gate_callee (f := 60) rfl ?_); refine qg (some 4) Try.func60 #[.agg #[.int .i64 a0_0, .int .i64 a0_1, .slice A0_2 l0_2.length c0_2]] ?_; (with_reducible refine (spec_boGood.calls k a0_0 a0_1 _ _ l0_2 true _ ?side1 HC0_2.out A2.out).mono ?_); (case side1 => exact Q1); rintro e w6 ⟨rfl, hb⟩; refine ⟨_, rfl, ?_⟩; replace BK422 := sqB BK422 hb; replace HB := qs hb; (try clear hb); obtain ⟨zq24, zq25, zq26, fq24, fq25, fq26⟩ := qd BK422))
  go_ret
  exact ⟨Q2, qb⟩
 ·
  replace c3 := Bool.eq_false_iff.mpr c3
  subst c3
  have H1 : (some false) = some r := by first | (rw [if_neg (show ¬ (false = true) by decide)] at H; exact H) | rfl
  clear H
  have H := H1
  clear H1
  obtain rfl := Option.some.inj H
  go_enter Try.func91, Try.ntmps91
  go_wp2_with (first | ((with_reducible refine gate_dst (N := 1) rfl ?_); refine qv 1 #[.int .i64 a0_0, .int .i64 a0_1, .slice A0_2 l0_2.length c0_2] 26 ?_; intro gb422 hg w8 hbox hb; have BK422 := am hbox; have GW422 := qw hg; have GE422 := qw hg; replace HB := qs hb; clear hb hbox hg; obtain ⟨zq30, zq31, zq32, fq30, fq31, fq32⟩ := qd BK422) | ((with_reducible refine gate_callee (f := 60) rfl ?_); refine qg (some 4) Try.func60 #[.agg #[.int .i64 a0_0, .int .i64 a0_1, .slice A0_2 l0_2.length c0_2]] ?_; (with_reducible refine (spec_boGood.calls k a0_0 a0_1 _ _ l0_2 false _ ?side1 HC0_2.out A2.out).mono ?_); (case side1 => exact Q1); rintro e w10 ⟨rfl, hb⟩; refine ⟨_, rfl, ?_⟩; replace BK422 := sqB BK422 hb; replace HB := qs hb; (try clear hb)))
  go_ret
  exact ⟨Q2, qb⟩

/-! ### spec_roChoose: function 92 -/
def spec_roChoose.l0 : Nat → Int → Int → Int → Int → Option (Int)
 | 0, _, _, _, _ => none
 | k + 1, x0, x1, x5, x6 => if x6 ≤ x1 then (if x6 = 0 then (none) else (spec_roChoose.l0 k x0 x1 (wrap64 (Int.tdiv (wrap64 (x5 * (wrap64 ((wrap64 (x0 - x1)) + x6)))) x6)) (wrap64 (x6 + 1)))) else (some x5)
def spec_roChoose.f (k : Nat) (a0 : Int) (a1 : Int) : Option (Int) := spec_roChoose.l0 k a0 a1 1 1
set_option maxHeartbeats 8000000 in
set_option maxRecDepth 100000 in
theorem spec_roChoose.calls (k : Nat) (a0 : Int) (a1 : Int) (r : Int) (w : World) (h : spec_roChoose.f k a0 a1 = some r) :
  Calls Try.prog 92 #[.int .i64 a0, .int .i64 a1] w fun e w' => e = .returned (.int .i64 r) ∧ Drawn0 w w' := by
 have H : (spec_roChoose.l0 k a0 a1 1 1) = some r := h
 clear h
 have H' := Aside0.mk H
 clear H
 go_enter Try.func92, Try.ntmps92
 go_wp2
 go_loopg [5, 6] k (fun kq v5 v6 w' => ∃ (x5_1 : Int) (x6_1 : Int), v5 = .int .i64 x5_1 ∧ v6 = .int .i64 x6_1 ∧ Aside0 (spec_roChoose.l0 kq a0 a1 x5_1 x6_1 = some r) ∧ Aside0 (kq ≤ k) ∧ Drawn0 w w')
 case atStart => exact ⟨(1), (1), Q3, Q3, H', ⟨Nat.le_refl _⟩, Q7⟩
 case round =>
  clear H'
  try clear p2
  obtain ⟨x5_1, x6_1, rfl, rfl, HA, HK1, ⟨m1, rfl⟩⟩ := hrel
  cases gk with
  | zero => exact absurd HA.out (by simp [spec_roChoose.l0])
  | succ k1 =>
   have H := HA.out
   clear HA
   simp only [spec_roChoose.l0] at H
   by_cases c3 : x6_1 ≤ a1
   ·
    rw [if_pos c3] at H
    have c3b0 : decide (x6_1 ≤ a1) = true := decide_eq_true c3
    clear c3
    by_cases c4 : x6_1 = 0
    ·
     rw [if_pos c4] at H
     exact absurd H (by simp)
    ·
     rw [if_neg c4] at H
     have c4b0 : (x6_1 == 0) = false := beq_eq_false_iff_ne.mpr c4
     have c4b1 : (x6_1 != 0) = true := bne_iff_ne.mpr c4
     have H' := Aside0.mk H
     clear H
     go_wp2
     go_roundg k1
     case measure => have := HK1.out; omega
     case rel => exact ⟨(wrap64 (Int.tdiv (wrap64 (x5_1 * (wrap64 ((wrap64 (a0 - a1)) + x6_1)))) x6_1)), (wrap64 (x6_1 + 1)), Q3, Q3, H', ⟨Q49⟩, Q7⟩
   ·
    rw [if_neg c3] at H
    have c3b0 : decide (x6_1 ≤ a1) = false := decide_eq_false c3
    clear c3
    obtain rfl := Option.some.inj H
    go_wp2
    go_ret
    exact ⟨Q3, Q7⟩

/-! ### spec_roFalling: function 93 -/
def spec_roFalling.l0 : Nat → Int → Int → Int → Int → Option (Int)
 | 0, _, _, _, _ => none
 | k + 1, x0, x1, x5, x6 => if x6 < x1 then (spec_roFalling.l0 k x0 x1 (wrap64 (x5 * (wrap64 (x0 - x6)))) (wrap64 (x6 + 1))) else (some x5)
def spec_roFalling.f (k : Nat) (a0 : Int) (a1 : Int) : Option (Int) := spec_roFalling.l0 k a0 a1 1 0
set_option maxHeartbeats 8000000 in
set_option maxRecDepth 100000 in
theorem spec_roFalling.calls (k : Nat) (a0 : Int) (a1 : Int) (r : Int) (w : World) (h : spec_roFalling.f k a0 a1 = some r) :
  Calls Try.prog 93 #[.int .i64 a0, .int .i64 a1] w fun e w' => e = .returned (.int .i64 r) ∧ Drawn0 w w' := by
 have H : (spec_roFalling.l0 k a0 a1 1 0) = some r := h
 clear h
 have H' := Aside0.mk H
 clear H
 go_enter Try.func93, Try.ntmps93
 go_wp2
 go_loopg [5, 6] k (fun kq v5 v6 w' => ∃ (x5_1 : Int) (x6_1 : Int), v5 = .int .i64 x5_1 ∧ v6 = .int .i64 x6_1 ∧ Aside0 (spec_roFalling.l0 kq a0 a1 x5_1 x6_1 = some r) ∧ Aside0 (kq ≤ k) ∧ Drawn0 w w')
 case atStart => exact ⟨(1), (0), Q3, Q3, H', ⟨Nat.le_refl _⟩, Q7⟩
 case round =>
  clear H'
  try clear p2
  obtain ⟨x5_1, x6_1, rfl, rfl, HA, HK1, ⟨m1, rfl⟩⟩ := hrel
  cases gk with
  | zero => exact absurd HA.out (by simp [spec_roFalling.l0])
  | succ k1 =>
   have H := HA.out
   clear HA
   simp only [spec_roFalling.l0] at H
   by_cases c3 : x6_1 < a1
   ·
    rw [if_pos c3] at H
    have c3b0 : decide (x6_1 < a1) = true := decide_eq_true c3
    clear c3
    have H' := Aside0.mk H
    clear H
    go_wp2
    go_roundg k1
    case measure => have := HK1.out; omega
    case rel => exact ⟨(wrap64 (x5_1 * (wrap64 (a0 - x6_1)))), (wrap64 (x6_1 + 1)), Q3, Q3, H', ⟨Q49⟩, Q7⟩
   ·
    rw [if_neg c3] at H
    have c3b0 : decide (x6_1 < a1) = false := decide_eq_false c3
    clear c3
    obtain rfl := Option.some.inj H
    go_wp2
    go_ret
    exact ⟨Q3, Q7⟩

end Go.Proofs.Ytllhofdgbpnkkaa.PFnRookNumbersMultiply
