-- Printed for this claim by wip/pp.py over the kit's printer; Lean checks it.
import Derived.Test.YtllhofdgbpnkkaaDoorPFnBoardsTurnedx0
import Derived.Test.YtllhofdgbpnkkaaDoorPFnBoardsTurnedx3
import Derived.Test.YtllhofdgbpnkkaaDoorPFnBoardsTurnedx4
import Derived.Test.YtllhofdgbpnkkaaDoorPFnBoardsTurnedx5
namespace Go.Proofs.YtllhofdgbpnkkaaDoor.PFnBoardsTurned
open Go.RowKit Go.Proofs.YtllhofdgbpnkkaaDoorW.PrintWords Go.Proofs.YtllhofdgbpnkkaaDoorW.PrintLast Go.Proofs.YtllhofdgbpnkkaaDoorW.PrintMore
attribute [local go_sem] max2_int min2_int max_two min_two max_three min_three max_four min_four   -- for this text's walks alone
set_option linter.unusedVariables false
set_option linter.unusedSimpArgs false

/-! ### slices_Index_int_int: function 76 -/
def slices_Index_int_int.l0 : Nat → List Int → Int → Int → Int → Option (Int)
 | 0, _, _, _, _ => none
 | k + 1, x0, x1, x7, x8 => if x8 < x7 then (if 0 ≤ x8 then (if x8 < (x0.length : Int) then (if x1 = (rd x0 x8) then (some x8) else (slices_Index_int_int.l0 k x0 x1 x7 (wrap64 (x8 + 1)))) else (none)) else (none)) else (some (-1))
def slices_Index_int_int.f (k : Nat) (l0 : List Int) (a1 : Int) : Option (Int) := slices_Index_int_int.l0 k l0 a1 (l0.length : Int) 0
set_option maxHeartbeats 8000000 in
set_option maxRecDepth 100000 in
theorem slices_Index_int_int.calls (k : Nat) (A0 : Option Addr) (c0 : Nat) (l0 : List Int) (a1 : Int) (r : Int) (w : World) (hr0 : Kd.C (Kd.int .i64) w A0 l0.length l0) (hc0 : l0.length ≤ c0) (h : slices_Index_int_int.f k l0 a1 = some r) :
  Calls Tryd.prog 76 #[.slice A0 l0.length c0, .int .i64 a1] w fun e w' => e = .returned (.int .i64 r) ∧ Drawn0 w w' := by
 have HR0 := Aside0.mk hr0
 have HC0 := Aside0.mk hc0
 clear hr0 hc0
 have H : (slices_Index_int_int.l0 k l0 a1 (l0.length : Int) 0) = some r := h
 clear h
 have H' := Aside0.mk H
 clear H
 go_enter Tryd.func76, Tryd.ntmps76
 go_wp2
 go_loopg [8] k (fun kq v8 w' => ∃ (x8_1 : Int), v8 = .int .i64 x8_1 ∧ Aside0 (slices_Index_int_int.l0 kq l0 a1 (l0.length : Int) x8_1 = some r) ∧ Aside0 (kq ≤ k) ∧ Drawn0 w w')
 case atStart => exact ⟨(0), Q2, H', ⟨Nat.le_refl _⟩, Q5⟩
 case round =>
  clear H'
  try clear p2
  obtain ⟨x8_1, rfl, HA, HK1, ⟨m1, rfl⟩⟩ := hrel
  cases gk with
  | zero => exact absurd HA.out (by simp [slices_Index_int_int.l0])
  | succ k1 =>
   have H := HA.out
   clear HA
   simp only [slices_Index_int_int.l0] at H
   by_cases c3 : x8_1 < (l0.length : Int)
   ·
    rw [if_pos c3] at H
    have c3b0 : decide (x8_1 < (l0.length : Int)) = true := decide_eq_true c3
    clear c3
    by_cases c4 : 0 ≤ x8_1
    ·
     rw [if_pos c4] at H
     have c4b0 : decide (0 ≤ x8_1) = true := decide_eq_true c4
     clear c4
     by_cases c5 : x8_1 < (l0.length : Int)
     ·
      rw [if_pos c5] at H
      have c5b0 : decide (x8_1 < (l0.length : Int)) = true := decide_eq_true c5
      clear c5
      by_cases c6 : a1 = (rd l0 x8_1)
      ·
       rw [if_pos c6] at H
       have c6b0 : (a1 == (rd l0 x8_1)) = true := beq_iff_eq.mpr c6
       have c6b1 : (a1 != (rd l0 x8_1)) = false := bne_eq_false_iff_eq.mpr c6
       clear c6
       obtain rfl := Option.some.inj H
       have p359 : 0 ≤ (x8_1 : Int) := of_decide_eq_true Q0
       have q359 : x8_1 < (l0.length : Int) := of_decide_eq_true Q0
       obtain ⟨ad359, e359, hx359_0⟩ := Kd.at_int HR0.out x8_1 p359 q359
       cases e359
       replace p359 := eq_true p359
       replace q359 := eq_true q359
       go_wp2
       go_ret
       exact ⟨Q2, Q5⟩
      ·
       rw [if_neg c6] at H
       have c6b0 : (a1 == (rd l0 x8_1)) = false := beq_eq_false_iff_ne.mpr c6
       have c6b1 : (a1 != (rd l0 x8_1)) = true := bne_iff_ne.mpr c6
       have H' := Aside0.mk H
       clear H
       have p359 : 0 ≤ (x8_1 : Int) := of_decide_eq_true Q0
       have q359 : x8_1 < (l0.length : Int) := of_decide_eq_true Q0
       obtain ⟨ad359, e359, hx359_0⟩ := Kd.at_int HR0.out x8_1 p359 q359
       cases e359
       replace p359 := eq_true p359
       replace q359 := eq_true q359
       go_wp2
       go_roundg k1
       case measure => have := HK1.out; omega
       case rel => exact ⟨(wrap64 (x8_1 + 1)), Q2, H', ⟨Q61⟩, Q5⟩
     ·
      rw [if_neg c5] at H
      exact absurd H (by simp)
    ·
     rw [if_neg c4] at H
     exact absurd H (by simp)
   ·
    rw [if_neg c3] at H
    have c3b0 : decide (x8_1 < (l0.length : Int)) = false := decide_eq_false c3
    clear c3
    obtain rfl := Option.some.inj H
    go_wp2
    go_ret
    exact ⟨Q2, Q5⟩

/-! ### slices_Contains_int_int: function 67 -/
def slices_Contains_int_int.f (k : Nat) (l0 : List Int) (a1 : Int) : Option (Bool) := (slices_Index_int_int.f k l0 a1).bind fun t360 => (some (decide (t360 ≥ 0)))
set_option maxHeartbeats 8000000 in
set_option maxRecDepth 100000 in
theorem slices_Contains_int_int.calls (k : Nat) (A0 : Option Addr) (c0 : Nat) (l0 : List Int) (a1 : Int) (r : Bool) (w : World) (hr0 : Kd.C (Kd.int .i64) w A0 l0.length l0) (hc0 : l0.length ≤ c0) (h : slices_Contains_int_int.f k l0 a1 = some r) :
  Calls Tryd.prog 67 #[.slice A0 l0.length c0, .int .i64 a1] w fun e w' => e = .returned (.bool r) ∧ Drawn0 w w' := by
 have HR0 := Aside0.mk hr0
 have HC0 := Aside0.mk hc0
 clear hr0 hc0
 have H : ((slices_Index_int_int.f k l0 a1).bind fun t360 => (some (decide (t360 ≥ 0)))) = some r := h
 clear h
 replace H := qE H
 obtain ⟨t360, A3, H⟩ := H
 replace H : (some (decide (t360 ≥ 0))) = some r := H
 obtain rfl := Option.some.inj H
 go_enter Tryd.func67, Tryd.ntmps67
 go_wp2_with (first | ((with_reducible refine gate_callee (f := 76) rfl ?_); refine qg (some 7) Tryd.func76 #[.slice A0 l0.length c0, .int .i64 a1] ?_; (with_reducible refine (slices_Index_int_int.calls k _ _ l0 a1 t360 _ ?side1 HC0.out A3.out).mono ?_); (case side1 => exact Q26); rintro e w' ⟨rfl, ⟨nd, rfl⟩⟩; refine ⟨_, rfl, ?_⟩))
 go_ret
 exact ⟨Q2, Q5⟩

/-! ### impl_isPerm: function 43 -/
def impl_isPerm.l0 : Nat → List Int → Int → List Int → Int → Int → Option (Bool)
 | 0, _, _, _, _, _ => none
 | k + 1, x0, x1, x11, x12, x13 => if x13 < x12 then (if 0 ≤ x13 then (if x13 < (x11.length : Int) then ((impl_within.f (rd x11 x13) 0 (wrap64 (x1 - 1))).bind fun t362 => (if t362 = true then (if x13 ≤ (x0.length : Int) then ((slices_Contains_int_int.f k (x0.take (x13 : Int).toNat) (rd x11 x13)).bind fun t364 => (if t364 = true then (some false) else (impl_isPerm.l0 k x0 x1 x11 x12 (wrap64 (x13 + 1))))) else (none)) else (some false))) else (none)) else (none)) else (some true)
def impl_isPerm.f (k : Nat) (l0 : List Int) (a1 : Int) : Option (Bool) := if (l0.length : Int) = a1 then (impl_isPerm.l0 k l0 a1 l0 (l0.length : Int) 0) else (some false)
set_option maxHeartbeats 8000000 in
set_option maxRecDepth 100000 in
theorem impl_isPerm.calls (k : Nat) (A0 : Option Addr) (c0 : Nat) (l0 : List Int) (a1 : Int) (r : Bool) (w : World) (hr0 : Kd.C (Kd.int .i64) w A0 l0.length l0) (hc0 : l0.length ≤ c0) (h : impl_isPerm.f k l0 a1 = some r) :
  Calls Tryd.prog 43 #[.slice A0 l0.length c0, .int .i64 a1] w fun e w' => e = .returned (.bool r) ∧ Drawn0 w w' := by
 have HR0 := Aside0.mk hr0
 have HC0 := Aside0.mk hc0
 clear hr0 hc0
 have H : (if (l0.length : Int) = a1 then (impl_isPerm.l0 k l0 a1 l0 (l0.length : Int) 0) else (some false)) = some r := h
 clear h
 by_cases c3 : (l0.length : Int) = a1
 ·
  rw [if_pos c3] at H
  have c3b0 : ((l0.length : Int) == a1) = true := beq_iff_eq.mpr c3
  have c3b1 : ((l0.length : Int) != a1) = false := bne_eq_false_iff_eq.mpr c3
  clear c3
  have H' := Aside0.mk H
  clear H
  go_enter Tryd.func43, Tryd.ntmps43
  go_wp2
  go_loopg [13] k (fun kq v13 w' => ∃ (x13_1 : Int), v13 = .int .i64 x13_1 ∧ Aside0 (impl_isPerm.l0 kq l0 a1 l0 (l0.length : Int) x13_1 = some r) ∧ Aside0 (kq ≤ k) ∧ Drawn0 w w')
  case atStart => exact ⟨(0), Q2, H', ⟨Nat.le_refl _⟩, Q5⟩
  case round =>
   clear H'
   try clear c3; try clear c3b0; try clear c3b1
   obtain ⟨x13_1, rfl, HA, HK1, ⟨m1, rfl⟩⟩ := hrel
   cases gk with
   | zero => exact absurd HA.out (by simp [impl_isPerm.l0])
   | succ k1 =>
    have H := HA.out
    clear HA
    simp only [impl_isPerm.l0] at H
    by_cases c4 : x13_1 < (l0.length : Int)
    ·
     rw [if_pos c4] at H
     have c4b0 : decide (x13_1 < (l0.length : Int)) = true := decide_eq_true c4
     clear c4
     by_cases c5 : 0 ≤ x13_1
     ·
      rw [if_pos c5] at H
      have c5b0 : decide (0 ≤ x13_1) = true := decide_eq_true c5
      clear c5
      by_cases c6 : x13_1 < (l0.length : Int)
      ·
       rw [if_pos c6] at H
       have c6b0 : decide (x13_1 < (l0.length : Int)) = true := decide_eq_true c6
       clear c6
       replace H := qE H
       obtain ⟨t362, A7, H⟩ := H
       replace H : (if t362 = true then (if x13_1 ≤ (l0.length : Int) then ((slices_Contains_int_int.f k1 (l0.take (x13_1 : Int).toNat) (rd l0 x13_1)).bind fun t364 => (if t364 = true then (some false) else (impl_isPerm.l0 k1 l0 a1 l0 (l0.length : Int) (wrap64 (x13_1 + 1))))) else (none)) else (some false)) = some r := H
       by_cases c8 : t362 = true
       ·
        subst c8
        have H1 : (if x13_1 ≤ (l0.length : Int) then ((slices_Contains_int_int.f k1 (l0.take (x13_1 : Int).toNat) (rd l0 x13_1)).bind fun t364 => (if t364 = true then (some false) else (impl_isPerm.l0 k1 l0 a1 l0 (l0.length : Int) (wrap64 (x13_1 + 1))))) else (none)) = some r := by first | (rw [if_pos rfl] at H; exact H) | rfl
        clear H
        have H := H1
        clear H1
        have c9b0 := eq_true (of_decide_eq_true Q0 : 0 ≤ x13_1)
        by_cases c10 : x13_1 ≤ (l0.length : Int)
        ·
         rw [if_pos c10] at H
         have c10b0 := eq_true c10
         have c10b1 : decide (x13_1 ≤ (l0.length : Int)) = true := decide_eq_true c10
         clear c10
         replace H := qE H
         obtain ⟨t364, A11, H⟩ := H
         replace H : (if t364 = true then (some false) else (impl_isPerm.l0 k1 l0 a1 l0 (l0.length : Int) (wrap64 (x13_1 + 1)))) = some r := H
         by_cases c12 : t364 = true
         ·
          subst c12
          have H1 : (some false) = some r := by first | (rw [if_pos rfl] at H; exact H) | rfl
          clear H
          have H := H1
          clear H1
          obtain rfl := Option.some.inj H
          have p361 : 0 ≤ (x13_1 : Int) := of_decide_eq_true Q0
          have q361 : x13_1 < (l0.length : Int) := of_decide_eq_true Q0
          obtain ⟨ad361, e361, hx361_0⟩ := Kd.at_int HR0.out x13_1 p361 q361
          cases e361
          replace p361 := eq_true p361
          replace q361 := eq_true q361
          go_wp2_with (first | ((with_reducible refine gate_callee (f := 62) rfl ?_); refine qg (some 21) Tryd.func62 #[.int .i64 (rd l0 x13_1), .int .i64 0, .int .i64 (wrap64 (a1 - 1))] ?_; (with_reducible refine (impl_within.calls (rd l0 x13_1) 0 (wrap64 (a1 - 1)) true _ A7.out).mono ?_); rintro e w' ⟨rfl, ⟨nd, rfl⟩⟩; refine ⟨_, rfl, ?_⟩; obtain ⟨i013, hi013, _, hsz13, _⟩ := info_parts info3; obtain ⟨hcut13, hA13, hC13⟩ := print_take_of (P := Tryd.prog) (Value.int .i64) 0 24 3 .i64 Tryd.underlying24 hi013 hsz13 (some ad361) c0 l0 x13_1 (of_decide_eq_true Q0) (of_decide_eq_true Q0) HC0.out; have HR363 := am (Kd.C_of_reads (h1 := fun _ => rfl) (hA13 _ (Kd.reads_of_C HR0.out))); have HC363 := Aside0.mk hC13; clear hA13 hC13 hi013 hsz13) | (go_at_call 67; (try (have hh_ : (x13_1 : Int) ≤ (l0.length : Int) := of_decide_eq_true Q0; rw [show (x13_1 : Int).toNat = (l0.take (x13_1 : Int).toNat).length from (by rw [List.length_take]; omega)]; clear hh_)); (with_reducible refine (slices_Contains_int_int.calls k1 _ _ (l0.take (x13_1 : Int).toNat) (rd l0 x13_1) true _ ?side1 HC363.out A11.out).mono ?_); (case side1 => repeat (first | exact HR363.out | (with_reducible first | refine Kd.C_alloc ?_ _ | refine Kd.C_drewN ?_ _ | refine Kd.C_drew ?_))); rintro e w' ⟨rfl, ⟨nd, rfl⟩⟩))
          go_ret
          exact ⟨Q2, Q5⟩
         ·
          replace c12 := Bool.eq_false_iff.mpr c12
          subst c12
          have H1 : (impl_isPerm.l0 k1 l0 a1 l0 (l0.length : Int) (wrap64 (x13_1 + 1))) = some r := by first | (rw [if_neg (show ¬ (false = true) by decide)] at H; exact H) | rfl
          clear H
          have H := H1
          clear H1
          have H' := Aside0.mk H
          clear H
          have p361 : 0 ≤ (x13_1 : Int) := of_decide_eq_true Q0
          have q361 : x13_1 < (l0.length : Int) := of_decide_eq_true Q0
          obtain ⟨ad361, e361, hx361_0⟩ := Kd.at_int HR0.out x13_1 p361 q361
          cases e361
          replace p361 := eq_true p361
          replace q361 := eq_true q361
          go_wp2_with (first | ((with_reducible refine gate_callee (f := 62) rfl ?_); refine qg (some 21) Tryd.func62 #[.int .i64 (rd l0 x13_1), .int .i64 0, .int .i64 (wrap64 (a1 - 1))] ?_; (with_reducible refine (impl_within.calls (rd l0 x13_1) 0 (wrap64 (a1 - 1)) true _ A7.out).mono ?_); rintro e w' ⟨rfl, ⟨nd, rfl⟩⟩; refine ⟨_, rfl, ?_⟩; obtain ⟨i014, hi014, _, hsz14, _⟩ := info_parts info3; obtain ⟨hcut14, hA14, hC14⟩ := print_take_of (P := Tryd.prog) (Value.int .i64) 0 24 3 .i64 Tryd.underlying24 hi014 hsz14 (some ad361) c0 l0 x13_1 (of_decide_eq_true Q0) (of_decide_eq_true Q0) HC0.out; have HR363 := am (Kd.C_of_reads (h1 := fun _ => rfl) (hA14 _ (Kd.reads_of_C HR0.out))); have HC363 := Aside0.mk hC14; clear hA14 hC14 hi014 hsz14) | (go_at_call 67; (try (have hh_ : (x13_1 : Int) ≤ (l0.length : Int) := of_decide_eq_true Q0; rw [show (x13_1 : Int).toNat = (l0.take (x13_1 : Int).toNat).length from (by rw [List.length_take]; omega)]; clear hh_)); (with_reducible refine (slices_Contains_int_int.calls k1 _ _ (l0.take (x13_1 : Int).toNat) (rd l0 x13_1) false _ ?side1 HC363.out A11.out).mono ?_); (case side1 => repeat (first | exact HR363.out | (with_reducible first | refine Kd.C_alloc ?_ _ | refine Kd.C_drewN ?_ _ | refine Kd.C_drew ?_))); rintro e w' ⟨rfl, ⟨nd, rfl⟩⟩))
          go_roundg k1
          case measure => have := HK1.out; omega
          case rel => exact ⟨(wrap64 (x13_1 + 1)), Q2, H', ⟨Q61⟩, Q5⟩
        ·
         rw [if_neg c10] at H
         exact absurd H (by simp)
       ·
        replace c8 := Bool.eq_false_iff.mpr c8
        subst c8
        have H1 : (some false) = some r := by first | (rw [if_neg (show ¬ (false = true) by decide)] at H; exact H) | rfl
        clear H
        have H := H1
        clear H1
        obtain rfl := Option.some.inj H
        have p361 : 0 ≤ (x13_1 : Int) := of_decide_eq_true Q0
        have q361 : x13_1 < (l0.length : Int) := of_decide_eq_true Q0
        obtain ⟨ad361, e361, hx361_0⟩ := Kd.at_int HR0.out x13_1 p361 q361
        cases e361
        replace p361 := eq_true p361
        replace q361 := eq_true q361
        go_wp2_with (first | ((with_reducible refine gate_callee (f := 62) rfl ?_); refine qg (some 21) Tryd.func62 #[.int .i64 (rd l0 x13_1), .int .i64 0, .int .i64 (wrap64 (a1 - 1))] ?_; (with_reducible refine (impl_within.calls (rd l0 x13_1) 0 (wrap64 (a1 - 1)) false _ A7.out).mono ?_); rintro e w' ⟨rfl, ⟨nd, rfl⟩⟩; refine ⟨_, rfl, ?_⟩))
        go_ret
        exact ⟨Q2, Q5⟩
      ·
       rw [if_neg c6] at H
       exact absurd H (by simp)
     ·
      rw [if_neg c5] at H
      exact absurd H (by simp)
    ·
     rw [if_neg c4] at H
     have c4b0 : decide (x13_1 < (l0.length : Int)) = false := decide_eq_false c4
     clear c4
     obtain rfl := Option.some.inj H
     go_wp2
     go_ret
     exact ⟨Q2, Q5⟩
 ·
  rw [if_neg c3] at H
  have c3b0 : ((l0.length : Int) == a1) = false := beq_eq_false_iff_ne.mpr c3
  have c3b1 : ((l0.length : Int) != a1) = true := bne_iff_ne.mpr c3
  obtain rfl := Option.some.inj H
  go_enter Tryd.func43, Tryd.ntmps43
  go_wp2
  go_ret
  exact ⟨Q2, Q5⟩

/-! ### impl_OrderRows: function 14 (by hand) -/
def impl_OrderRows.f (k : Nat) (a0_0 a0_1 : Int) (l0_2 : List Int) (l1 : List Int) : Option (Int × Int × List Int × Bool) := if GoodB a0_0 a0_1 l0_2 then (impl_isPerm.f k l1 a0_0).bind fun b => if b = true then (if l1.length = l0_2.length ∧ (l1.all fun x => decide (0 ≤ x ∧ x < (l0_2.length : Int))) = true then some (a0_0, a0_1, l1.map (fun x => rd l0_2 x), true) else none) else some (0, 0, [], false) else some (0, 0, [], false)
-- (walk)
set_option maxHeartbeats 1000000 in
theorem or_one {g g2 i : Nat} {R C : Int} {cp cp1 : Nat} {A A1 : Option Addr} {l p : List Int} {w : World} (hb : w.heap[g]? = some (.cells #[.int .i64 R, .int .i64 C, .slice A l.length cp] 26 (0, 0))) (hp : w.heap[g2]? = some (.cells #[.slice A1 p.length cp1] 24 (0, 0))) (hA : Kd.C (Kd.int .i64) w A l.length l) (hA1 : Kd.C (Kd.int .i64) w A1 p.length p) (hi : i < p.length) (h0 : 0 ≤ p.getD i 0) (h1 : p.getD i 0 < l.length) :
  Calls Tryd.prog 44 #[.int .i64 i, .pointer (some ⟨g, 0, none⟩), .pointer (some ⟨g2, 0, none⟩)] w fun e w2 => e = .returned (.int .i64 (rd l (p.getD i 0))) ∧ Below w.heap.size w w2 := by
 have c2 := blk_cell hb 2
 have d2 := blk_cell hp 0
 obtain ⟨ad, e, hx⟩ := Kd.at_int hA1 (i : Int) (by omega) (by omega)
 cases e
 obtain ⟨ad2, e2, hx2⟩ := Kd.at_int hA (p.getD i 0) h0 h1
 cases e2
 rw [Int.toNat_natCast, show rd p (i : Int) = p.getD i 0 from rfl] at hx
 have hlt : decide ((i : Int) < (p.length : Int)) = true := decide_eq_true (by omega)
 have hge : decide ((0 : Int) ≤ (i : Int)) = true := decide_eq_true (by omega)
 generalize p.getD i 0 = x at hx hx2 h0 h1 ⊢
 generalize rd l x = y at hx2 ⊢
 have hlt2 : decide (x < (l.length : Int)) = true := decide_eq_true h1
 have hge2 : decide ((0 : Int) ≤ x) = true := decide_eq_true h0
 have HBB := am (Below.refl w.heap.size w)
 clear hA hA1 hb hp
 go_enter Tryd.func44, Tryd.ntmps44
 go_wp2
 go_region
 all_goals (simp only [Exit.then]; go_wp2)
 all_goals go_ret
 all_goals exact ⟨rfl, by repeat (first | exact HBB.out | apply pw_below_drewN | apply below_drew1)⟩
set_option maxHeartbeats 2000000 in
set_option maxRecDepth 4000 in
theorem impl_OrderRows.calls (k : Nat) (a0_0 : Int) (a0_1 : Int) (A0_2 : Option Addr) (c0_2 : Nat) (l0_2 : List Int) (A1 : Option Addr) (c1 : Nat) (l1 : List Int) (r1 : Int) (r2 : Int) (r3 : List Int) (r4 : Bool) (w : World) (hr0_2 : Kd.C (Kd.int .i64) w A0_2 l0_2.length l0_2) (hc0_2 : l0_2.length ≤ c0_2) (hr1 : Kd.C (Kd.int .i64) w A1 l1.length l1) (hc1 : l1.length ≤ c1) (h : impl_OrderRows.f k a0_0 a0_1 l0_2 l1 = some (r1, r2, r3, r4)) :
  Calls Tryd.prog 14 #[.agg #[.int .i64 a0_0, .int .i64 a0_1, .slice A0_2 l0_2.length c0_2], .slice A1 l1.length c1] w fun e w' => ∃ v2_ : Value, e = .returned (.tuple #[.agg #[.int .i64 r1, .int .i64 r2, v2_], .bool r4]) ∧ Kd.R (Kd.int .i64) 3 w' w.heap.size (fun _ => True) v2_ r3 ∧ Below w.heap.size w w' := by
 unfold impl_OrderRows.f at h
 have hu := Tryd.underlying26
 have HA := Aside0.mk hr0_2
 have HA1 := Aside0.mk hr1
 clear hr0_2 hr1
 by_cases hg : GoodB a0_0 a0_1 l0_2
 case neg =>
  rw [if_neg hg] at h
  simp only [Option.some.injEq, Prod.mk.injEq] at h
  obtain ⟨rfl, rfl, rfl, rfl⟩ := h
  have HI := am (show impl_IsBoard.f a0_0 a0_1 l0_2 = some false by unfold impl_IsBoard.f; rw [decide_eq_false hg])
  clear hg
  go_enter Tryd.func14, Tryd.ntmps14
  go_wp2_with (first
   | ((with_reducible refine gate_dst (N := 2) rfl ?_); refine qv 2 #[.int .i64 a0_0, .int .i64 a0_1, .slice A0_2 l0_2.length c0_2] 26 ?_; intro gb hgb w1 bb hb1; have GB := Aside0.mk hgb; have BB := Aside0.mk bb; have HB1 := Aside0.mk hb1; clear hgb bb hb1)
   | ((with_reducible refine gate_dst (N := 3) rfl ?_); refine qv 3 #[.slice A1 l1.length c1] 24 ?_; intro gp hgp w1b bp hb1b; have GP := Aside0.mk hgp; have BP := Aside0.mk bp; have HB1b := Aside0.mk hb1b; clear hgp bp hb1b)
   | ((with_reducible refine gate_dst (N := 4) rfl ?_); refine qv 4 #[.int .i64 0, .int .i64 0, .slice none 0 0] 26 ?_; intro gr hgr w2 br hb2; have GR := Aside0.mk hgr; have BR := Aside0.mk br; have HB2 := am (below_step HB1b.out hb2); have BB2 := am (blk_below BB.out HB2.out); have BP2 := am (blk_below BP.out hb2); have cb0 := blk_cell BB2.out 0; have cb1 := blk_cell BB2.out 1; have cb2 := blk_cell BB2.out 2; clear hgr br hb2)
   | (go_at_call 26; refine (impl_IsBoard.calls _ _ _ _ _ _ _ (Kd.C_below HA.out (below_step HB1.out HB2.out)) hc0_2 HI.out).mono ?_; rintro e w3 ⟨rfl, hb3⟩; have HB3 := Aside0.mk hb3; have BB3 := am (blk_below BB2.out hb3); have BP3 := am (blk_below BP2.out hb3); have BR3 := am (blk_below BR.out hb3); clear cb0 cb1 cb2; have cb0 := blk_cell BB3.out 0; have cb1 := blk_cell BB3.out 1; have cb2 := blk_cell BB3.out 2; have cp0 := blk_cell BP3.out 0; have cr0 := blk_cell BR3.out 0; have cr1 := blk_cell BR3.out 1; have cr2 := blk_cell BR3.out 2; have fr0 := blk_frozen BR3.out 0; have fr1 := blk_frozen BR3.out 1; have fr2 := blk_frozen BR3.out 2; clear hb3)
   | (go_at_call 43; refine (impl_isPerm.calls k _ _ l1 _ _ _ Q35 hc1 HP.out).mono ?_; rintro e w' ⟨rfl, ⟨nd, rfl⟩⟩)
   )
  have T3 := below_step (below_step HB1.out HB2.out) HB3.out
  have hgr : w.heap.size ≤ gr := by have := GR.out; have := HB1.out.size; have := HB1b.out.size; omega
  have HE := mp_end (R := 0) (C := 0) BR3.out T3 (Below.refl _ _) hgr (Kd.R_nil _ _ _ _ _)
  refine bodyPost_ret (results_ct rfl _ _ gr 26 #[.int .i64 0, .int .i64 0, .slice none 0 0] (0, 0) _ rfl HE.1 hu rfl (by kernel_rfl)) rfl ?_
  exact ⟨_, rfl, HE.2.1, HE.2.2⟩
 rw [if_pos hg] at h
 obtain ⟨b, hperm, h⟩ := Option.bind_eq_some_iff.1 h
 have HP := Aside0.mk hperm
 have HI := am (show impl_IsBoard.f a0_0 a0_1 l0_2 = some true by unfold impl_IsBoard.f; rw [decide_eq_true hg])
 clear hperm
 cases b with
 | false =>
  simp only [Bool.false_eq_true, if_false, Option.some.injEq, Prod.mk.injEq] at h
  obtain ⟨rfl, rfl, rfl, rfl⟩ := h
  clear hg
  go_enter Tryd.func14, Tryd.ntmps14
  go_wp2_with (first
   | ((with_reducible refine gate_dst (N := 2) rfl ?_); refine qv 2 #[.int .i64 a0_0, .int .i64 a0_1, .slice A0_2 l0_2.length c0_2] 26 ?_; intro gb hgb w1 bb hb1; have GB := Aside0.mk hgb; have BB := Aside0.mk bb; have HB1 := Aside0.mk hb1; clear hgb bb hb1)
   | ((with_reducible refine gate_dst (N := 3) rfl ?_); refine qv 3 #[.slice A1 l1.length c1] 24 ?_; intro gp hgp w1b bp hb1b; have GP := Aside0.mk hgp; have BP := Aside0.mk bp; have HB1b := Aside0.mk hb1b; clear hgp bp hb1b)
   | ((with_reducible refine gate_dst (N := 4) rfl ?_); refine qv 4 #[.int .i64 0, .int .i64 0, .slice none 0 0] 26 ?_; intro gr hgr w2 br hb2; have GR := Aside0.mk hgr; have BR := Aside0.mk br; have HB2 := am (below_step HB1b.out hb2); have BB2 := am (blk_below BB.out HB2.out); have BP2 := am (blk_below BP.out hb2); have cb0 := blk_cell BB2.out 0; have cb1 := blk_cell BB2.out 1; have cb2 := blk_cell BB2.out 2; clear hgr br hb2)
   | (go_at_call 26; refine (impl_IsBoard.calls _ _ _ _ _ _ _ (Kd.C_below HA.out (below_step HB1.out HB2.out)) hc0_2 HI.out).mono ?_; rintro e w3 ⟨rfl, hb3⟩; have HB3 := Aside0.mk hb3; have BB3 := am (blk_below BB2.out hb3); have BP3 := am (blk_below BP2.out hb3); have BR3 := am (blk_below BR.out hb3); clear cb0 cb1 cb2; have cb0 := blk_cell BB3.out 0; have cb1 := blk_cell BB3.out 1; have cb2 := blk_cell BB3.out 2; have cp0 := blk_cell BP3.out 0; have cr0 := blk_cell BR3.out 0; have cr1 := blk_cell BR3.out 1; have cr2 := blk_cell BR3.out 2; have fr0 := blk_frozen BR3.out 0; have fr1 := blk_frozen BR3.out 1; have fr2 := blk_frozen BR3.out 2; clear hb3)
   | (go_at_call 43; refine (impl_isPerm.calls k _ _ l1 _ _ _ Q35 hc1 HP.out).mono ?_; rintro e w' ⟨rfl, ⟨nd, rfl⟩⟩)
   )
  have T3 := below_step (below_step HB1.out HB2.out) HB3.out
  have hgr : w.heap.size ≤ gr := by have := GR.out; have := HB1.out.size; have := HB1b.out.size; omega
  have HE := mp_end (R := 0) (C := 0) (blk_drewN BR3.out nd) (pw_below_drewN T3 nd) (Below.refl _ _) hgr (Kd.R_nil _ _ _ _ _)
  refine bodyPost_ret (results_ct rfl _ _ gr 26 #[.int .i64 0, .int .i64 0, .slice none 0 0] (0, 0) _ rfl HE.1 hu rfl (by kernel_rfl)) rfl ?_
  exact ⟨_, rfl, HE.2.1, HE.2.2⟩
 | true =>
  rw [if_pos rfl] at h
  by_cases hq : l1.length = l0_2.length ∧ (l1.all fun x => decide (0 ≤ x ∧ x < (l0_2.length : Int))) = true
  case neg => rw [if_neg hq] at h; exact absurd h (by simp)
  rw [if_pos hq] at h
  simp only [Option.some.injEq, Prod.mk.injEq] at h
  obtain ⟨rfl, rfl, rfl, rfl⟩ := h
  obtain ⟨hql, hqa⟩ := hq
  have HQ := am (show ∀ i, i < l1.length → 0 ≤ l1.getD i 0 ∧ l1.getD i 0 < (l0_2.length : Int) from fun i hi => by
   have := List.all_eq_true.1 hqa l1[i] (List.getElem_mem hi)
   rw [show l1.getD i 0 = l1[i] by simp [List.getD, hi]]
   exact of_decide_eq_true this)
  have HQL := Aside0.mk hql
  have HG := Aside0.mk hg
  clear hqa hql hg
  go_enter Tryd.func14, Tryd.ntmps14
  go_wp2_with (first
   | ((with_reducible refine gate_dst (N := 2) rfl ?_); refine qv 2 #[.int .i64 a0_0, .int .i64 a0_1, .slice A0_2 l0_2.length c0_2] 26 ?_; intro gb hgb w1 bb hb1; have GB := Aside0.mk hgb; have BB := Aside0.mk bb; have HB1 := Aside0.mk hb1; clear hgb bb hb1)
   | ((with_reducible refine gate_dst (N := 3) rfl ?_); refine qv 3 #[.slice A1 l1.length c1] 24 ?_; intro gp hgp w1b bp hb1b; have GP := Aside0.mk hgp; have BP := Aside0.mk bp; have HB1b := Aside0.mk hb1b; clear hgp bp hb1b)
   | ((with_reducible refine gate_dst (N := 4) rfl ?_); refine qv 4 #[.int .i64 0, .int .i64 0, .slice none 0 0] 26 ?_; intro gr hgr w2 br hb2; have GR := Aside0.mk hgr; have BR := Aside0.mk br; have HB2 := am (below_step HB1b.out hb2); have BB2 := am (blk_below BB.out HB2.out); have BP2 := am (blk_below BP.out hb2); have cb0 := blk_cell BB2.out 0; have cb1 := blk_cell BB2.out 1; have cb2 := blk_cell BB2.out 2; clear hgr br hb2)
   | (go_at_call 26; refine (impl_IsBoard.calls _ _ _ _ _ _ _ (Kd.C_below HA.out (below_step HB1.out HB2.out)) hc0_2 HI.out).mono ?_; rintro e w3 ⟨rfl, hb3⟩; have HB3 := Aside0.mk hb3; have BB3 := am (blk_below BB2.out hb3); have BP3 := am (blk_below BP2.out hb3); have BR3 := am (blk_below BR.out hb3); clear cb0 cb1 cb2; have cb0 := blk_cell BB3.out 0; have cb1 := blk_cell BB3.out 1; have cb2 := blk_cell BB3.out 2; have cp0 := blk_cell BP3.out 0;  clear hb3)
   | (go_at_call 43; refine (impl_isPerm.calls k _ _ l1 _ _ _ Q35 hc1 HP.out).mono ?_; rintro e w' ⟨rfl, ⟨nd, rfl⟩⟩)
   )
  have hg := HG.out
  obtain ⟨g1, g2, g3, g4⟩ := hg
  have hql := HQL.out
  have T3 := below_step (below_step HB1.out HB2.out) HB3.out
  have hgr : w.heap.size ≤ gr := by have := GR.out; have := HB1.out.size; have := HB1b.out.size; omega
  obtain ⟨C, rfl⟩ := Int.eq_ofNat_of_zero_le (show 0 ≤ a0_1 by omega)
  subst g3
  have T3' := am (pw_below_drewN T3 nd)
  refine (mp_all (R := l0_2.length) (C := C) (cp := c0_2) (A := A0_2) (l := l0_2) (fid := 44) (caps := #[.pointer (some ⟨gb, 0, none⟩), .pointer (some ⟨gp, 0, none⟩)]) (w := w3.drewN nd) (f := fun i => rd l0_2 (l1.getD i 0)) (by omega) (by omega) (fun _ _ => by kernel_rfl) (fun w1 i hb hi => or_one (blk_below (blk_drewN BB3.out nd) hb) (blk_below (blk_drewN BP3.out nd) hb) (Kd.C_below HA.out (below_step T3'.out hb)) (Kd.C_below HA1.out (below_step T3'.out hb)) (by omega) (HQ.out i (by omega)).1 (HQ.out i (by omega)).2)).mono ?_
  rintro e w4 ⟨v4, rfl, ho4, hb4⟩
  obtain ⟨A4, c4, ev⟩ := Kd.R_slice ho4
  rw [List.length_map, List.length_range] at ev
  subst ev
  have Oq0 := Aside0.mk ho4
  have HB4 := Aside0.mk hb4
  have r4 := blk_below (blk_drewN BR3.out nd) hb4
  have BR4 := Aside0.mk r4
  have cr0 := blk_cell r4 0
  have cr1 := blk_cell r4 1
  have cr2 := blk_cell r4 2
  have fr0 := blk_frozen r4 0
  have fr1 := blk_frozen r4 1
  have fr2 := blk_frozen r4 2
  clear ho4 hb4 r4 cb0 cb1 cb2 cp0 hql
  go_wp2
  have HE := mp_end (R := (l0_2.length : Int)) (C := (C : Int)) BR4.out T3'.out HB4.out hgr Oq0.out
  refine bodyPost_ret (results_ct rfl _ _ gr 26 #[.int .i64 l0_2.length, .int .i64 C, .slice A4 l0_2.length c4] (0, 0) _ rfl HE.1 hu rfl (by kernel_rfl)) rfl ?_
  exact ⟨_, rfl, by rw [← range_get (fun x => rd l0_2 x) l1, HQL.out]; exact HE.2.1, HE.2.2⟩

/-! ### spec_l1Has: function 68 -/
def spec_l1Has.l0 : Nat → Int → List Int → Int → Int → Option (Bool)
 | 0, _, _, _, _ => none
 | k + 1, x1, x7, x8, x9 => if x9 < x8 then (if 0 ≤ x9 then (if x9 < (x7.length : Int) then (if (rd x7 x9) = x1 then (some true) else (spec_l1Has.l0 k x1 x7 x8 (wrap64 (x9 + 1)))) else (none)) else (none)) else (some false)
def spec_l1Has.f (k : Nat) (l0 : List Int) (a1 : Int) : Option (Bool) := spec_l1Has.l0 k a1 l0 (l0.length : Int) 0
set_option maxHeartbeats 8000000 in
set_option maxRecDepth 100000 in
theorem spec_l1Has.calls (k : Nat) (A0 : Option Addr) (c0 : Nat) (l0 : List Int) (a1 : Int) (r : Bool) (w : World) (hr0 : Kd.C (Kd.int .i64) w A0 l0.length l0) (hc0 : l0.length ≤ c0) (h : spec_l1Has.f k l0 a1 = some r) :
  Calls Tryd.prog 68 #[.slice A0 l0.length c0, .int .i64 a1] w fun e w' => e = .returned (.bool r) ∧ Drawn0 w w' := by
 have HR0 := Aside0.mk hr0
 have HC0 := Aside0.mk hc0
 clear hr0 hc0
 have H : (spec_l1Has.l0 k a1 l0 (l0.length : Int) 0) = some r := h
 clear h
 have H' := Aside0.mk H
 clear H
 go_enter Tryd.func68, Tryd.ntmps68
 go_wp2
 go_loopg [9] k (fun kq v9 w' => ∃ (x9_1 : Int), v9 = .int .i64 x9_1 ∧ Aside0 (spec_l1Has.l0 kq a1 l0 (l0.length : Int) x9_1 = some r) ∧ Aside0 (kq ≤ k) ∧ Drawn0 w w')
 case atStart => exact ⟨(0), Q2, H', ⟨Nat.le_refl _⟩, Q5⟩
 case round =>
  clear H'
  try clear p2
  obtain ⟨x9_1, rfl, HA, HK1, ⟨m1, rfl⟩⟩ := hrel
  cases gk with
  | zero => exact absurd HA.out (by simp [spec_l1Has.l0])
  | succ k1 =>
   have H := HA.out
   clear HA
   simp only [spec_l1Has.l0] at H
   by_cases c3 : x9_1 < (l0.length : Int)
   ·
    rw [if_pos c3] at H
    have c3b0 : decide (x9_1 < (l0.length : Int)) = true := decide_eq_true c3
    clear c3
    by_cases c4 : 0 ≤ x9_1
    ·
     rw [if_pos c4] at H
     have c4b0 : decide (0 ≤ x9_1) = true := decide_eq_true c4
     clear c4
     by_cases c5 : x9_1 < (l0.length : Int)
     ·
      rw [if_pos c5] at H
      have c5b0 : decide (x9_1 < (l0.length : Int)) = true := decide_eq_true c5
      clear c5
      by_cases c6 : (rd l0 x9_1) = a1
      ·
       rw [if_pos c6] at H
       have c6b0 : ((rd l0 x9_1) == a1) = true := beq_iff_eq.mpr c6
       have c6b1 : ((rd l0 x9_1) != a1) = false := bne_eq_false_iff_eq.mpr c6
       clear c6
       obtain rfl := Option.some.inj H
       have p365 : 0 ≤ (x9_1 : Int) := of_decide_eq_true Q0
       have q365 : x9_1 < (l0.length : Int) := of_decide_eq_true Q0
       obtain ⟨ad365, e365, hx365_0⟩ := Kd.at_int HR0.out x9_1 p365 q365
       cases e365
       replace p365 := eq_true p365
       replace q365 := eq_true q365
       go_wp2
       go_ret
       exact ⟨Q2, Q5⟩
      ·
       rw [if_neg c6] at H
       have c6b0 : ((rd l0 x9_1) == a1) = false := beq_eq_false_iff_ne.mpr c6
       have c6b1 : ((rd l0 x9_1) != a1) = true := bne_iff_ne.mpr c6
       have H' := Aside0.mk H
       clear H
       have p365 : 0 ≤ (x9_1 : Int) := of_decide_eq_true Q0
       have q365 : x9_1 < (l0.length : Int) := of_decide_eq_true Q0
       obtain ⟨ad365, e365, hx365_0⟩ := Kd.at_int HR0.out x9_1 p365 q365
       cases e365
       replace p365 := eq_true p365
       replace q365 := eq_true q365
       go_wp2
       go_roundg k1
       case measure => have := HK1.out; omega
       case rel => exact ⟨(wrap64 (x9_1 + 1)), Q2, H', ⟨Q61⟩, Q5⟩
     ·
      rw [if_neg c5] at H
      exact absurd H (by simp)
    ·
     rw [if_neg c4] at H
     exact absurd H (by simp)
   ·
    rw [if_neg c3] at H
    have c3b0 : decide (x9_1 < (l0.length : Int)) = false := decide_eq_false c3
    clear c3
    obtain rfl := Option.some.inj H
    go_wp2
    go_ret
    exact ⟨Q2, Q5⟩

/-! ### spec_boOrder: function 45 -/
mutual
def spec_boOrder.j0 : Nat → List Int → Bool → Option (Bool)
 | 0, _, _ => none
 | k + 1, x0, x17 => if x17 = true then (some false) else (spec_boOrder.l0 k x0 x0 (x0.length : Int) 0)
def spec_boOrder.l0 : Nat → List Int → List Int → Int → Int → Option (Bool)
 | 0, _, _, _, _ => none
 | k + 1, x0, x18, x19, x20 => if x20 < x19 then (if 0 ≤ x20 then (if x20 < (x18.length : Int) then (if x20 ≤ (x0.length : Int) then ((spec_l1Has.f k (x0.take (x20 : Int).toNat) (rd x18 x20)).bind fun t369 => (if t369 = true then (some false) else (spec_boOrder.l0 k x0 x18 x19 (wrap64 (x20 + 1))))) else (none)) else (none)) else (none)) else (some true)
end
def spec_boOrder.f (k : Nat) (l0 : List Int) (a1 : Int) : Option (Bool) := if (l0.length : Int) = a1 then ((spec_l1All.f k l0 0 (wrap64 (a1 - 1))).bind fun t366 => (spec_boOrder.j0 k l0 (!t366))) else (spec_boOrder.j0 k l0 true)
set_option maxHeartbeats 8000000 in
set_option maxRecDepth 100000 in
theorem spec_boOrder.calls (k : Nat) (A0 : Option Addr) (c0 : Nat) (l0 : List Int) (a1 : Int) (r : Bool) (w : World) (hr0 : Kd.C (Kd.int .i64) w A0 l0.length l0) (hc0 : l0.length ≤ c0) (h : spec_boOrder.f k l0 a1 = some r) :
  Calls Tryd.prog 45 #[.slice A0 l0.length c0, .int .i64 a1] w fun e w' => e = .returned (.bool r) ∧ Drawn0 w w' := by
 have HR0 := Aside0.mk hr0
 have HC0 := Aside0.mk hc0
 clear hr0 hc0
 have H : (if (l0.length : Int) = a1 then ((spec_l1All.f k l0 0 (wrap64 (a1 - 1))).bind fun t366 => (spec_boOrder.j0 k l0 (!t366))) else (spec_boOrder.j0 k l0 true)) = some r := h
 clear h
 have HC3 := Aside0.mk H
 clear H
 go_enter Tryd.func45, Tryd.ntmps45
 go_upto_region 1 with (fail)
 go_cut [17] (fun v17 wc => ∃ (kq : Nat) (x17_2 : Bool), v17 = .bool x17_2 ∧ Aside0 (spec_boOrder.j0 kq l0 x17_2 = some r) ∧ Aside0 (kq ≤ k) ∧ Drawn0 w wc)
 case first =>
  have H := HC3.out
  clear HC3
  by_cases c4 : (l0.length : Int) = a1
  ·
   rw [if_pos c4] at H
   have c4b0 : ((l0.length : Int) == a1) = true := beq_iff_eq.mpr c4
   have c4b1 : ((l0.length : Int) != a1) = false := bne_eq_false_iff_eq.mpr c4
   clear c4
   (first | rw [c4b0] | (simp only [i64_w, i32_w]; rw [c4b0]) | skip)
   replace H := qE H
   obtain ⟨t366, A5, H⟩ := H
   replace H : (spec_boOrder.j0 k l0 (!t366)) = some r := H
   have H' := Aside0.mk H
   clear H
   go_wp2_with (first | (go_at_call 63; (with_reducible refine (spec_l1All.calls k _ _ l0 0 (wrap64 (a1 - 1)) t366 _ ?side1 HC0.out A5.out).mono ?_); (case side1 => exact Q26); rintro e w' ⟨rfl, ⟨nd, rfl⟩⟩))
   go_meet
   case rel => exact ⟨_, (!t366), Q2, H', ⟨Q63⟩, Q5⟩
  ·
   rw [if_neg c4] at H
   have c4b0 : ((l0.length : Int) == a1) = false := beq_eq_false_iff_ne.mpr c4
   have c4b1 : ((l0.length : Int) != a1) = true := bne_iff_ne.mpr c4
   (first | rw [c4b0] | (simp only [i64_w, i32_w]; rw [c4b0]) | skip)
   have H' := Aside0.mk H
   clear H
   go_wp2
   go_meet
   case rel => exact ⟨_, (true), Q2, H', ⟨Q63⟩, Q5⟩
 case rest =>
  clear HC3
  try clear c4; try clear c4b0; try clear c4b1
  obtain ⟨kq, x17_2, rfl, HA, HJ2, ⟨mc2, rfl⟩⟩ := hcut
  cases kq with
  | zero => exact absurd HA.out (by simp [spec_boOrder.j0])
  | succ kj2 =>
   have H := HA.out
   clear HA
   simp only [spec_boOrder.j0] at H
   by_cases c6 : x17_2 = true
   ·
    subst c6
    have H1 : (some false) = some r := by first | (rw [if_pos rfl] at H; exact H) | rfl
    clear H
    have H := H1
    clear H1
    obtain rfl := Option.some.inj H
    go_wp2
    go_ret
    exact ⟨Q2, Q5⟩
   ·
    replace c6 := Bool.eq_false_iff.mpr c6
    subst c6
    have H1 : (spec_boOrder.l0 kj2 l0 l0 (l0.length : Int) 0) = some r := by first | (rw [if_neg (show ¬ (false = true) by decide)] at H; exact H) | rfl
    clear H
    have H := H1
    clear H1
    have H' := Aside0.mk H
    clear H
    go_wp2
    go_loopg [20] kj2 (fun kq v20 w' => ∃ (x20_2 : Int), v20 = .int .i64 x20_2 ∧ Aside0 (spec_boOrder.l0 kq l0 l0 (l0.length : Int) x20_2 = some r) ∧ Aside0 (kq ≤ kj2) ∧ Drawn0 w w')
    case atStart => exact ⟨(0), Q2, H', ⟨Nat.le_refl _⟩, Q5⟩
    case round =>
     clear H'
     try clear c4; try clear c4b0; try clear c4b1; try clear c6
     obtain ⟨x20_2, rfl, HA, HK2, ⟨m2, rfl⟩⟩ := hrel
     cases gk with
     | zero => exact absurd HA.out (by simp [spec_boOrder.l0])
     | succ k2 =>
      have H := HA.out
      clear HA
      simp only [spec_boOrder.l0] at H
      by_cases c7 : x20_2 < (l0.length : Int)
      ·
       rw [if_pos c7] at H
       have c7b0 : decide (x20_2 < (l0.length : Int)) = true := decide_eq_true c7
       clear c7
       by_cases c8 : 0 ≤ x20_2
       ·
        rw [if_pos c8] at H
        have c8b0 : decide (0 ≤ x20_2) = true := decide_eq_true c8
        clear c8
        by_cases c9 : x20_2 < (l0.length : Int)
        ·
         rw [if_pos c9] at H
         have c9b0 : decide (x20_2 < (l0.length : Int)) = true := decide_eq_true c9
         clear c9
         have c10b0 := eq_true (of_decide_eq_true Q0 : 0 ≤ x20_2)
         by_cases c11 : x20_2 ≤ (l0.length : Int)
         ·
          rw [if_pos c11] at H
          have c11b0 := eq_true c11
          have c11b1 : decide (x20_2 ≤ (l0.length : Int)) = true := decide_eq_true c11
          clear c11
          replace H := qE H
          obtain ⟨t369, A12, H⟩ := H
          replace H : (if t369 = true then (some false) else (spec_boOrder.l0 k2 l0 l0 (l0.length : Int) (wrap64 (x20_2 + 1)))) = some r := H
          by_cases c13 : t369 = true
          ·
           subst c13
           have H1 : (some false) = some r := by first | (rw [if_pos rfl] at H; exact H) | rfl
           clear H
           have H := H1
           clear H1
           obtain rfl := Option.some.inj H
           have p367 : 0 ≤ (x20_2 : Int) := of_decide_eq_true Q0
           have q367 : x20_2 < (l0.length : Int) := of_decide_eq_true Q0
           obtain ⟨ad367, e367, hx367_0⟩ := Kd.at_int HR0.out x20_2 p367 q367
           cases e367
           replace p367 := eq_true p367
           replace q367 := eq_true q367
           obtain ⟨i014, hi014, _, hsz14, _⟩ := info_parts info3
           obtain ⟨hcut14, hA14, hC14⟩ := print_take_of (P := Tryd.prog) (Value.int .i64) 0 24 3 .i64 Tryd.underlying24 hi014 hsz14 (some ad367) c0 l0 x20_2 (of_decide_eq_true Q0) (of_decide_eq_true Q0) HC0.out
           have HR368 := am (Kd.C_of_reads (h1 := fun _ => rfl) (hA14 _ (Kd.reads_of_C HR0.out)))
           have HC368 := Aside0.mk hC14
           clear hA14 hC14 hi014 hsz14
           go_wp2_with (first | ((with_reducible refine gate_callee (f := 68) rfl ?_); refine goesL_ (some 29) rfl rfl Tryd.func68 (by kernel_rfl) rfl #[.slice (some ad367) (l0.take (x20_2 : Int).toNat).length c0, .int .i64 (rd l0 x20_2)] rfl Q22 ?_; (with_reducible refine (spec_l1Has.calls k2 _ _ (l0.take (x20_2 : Int).toNat) (rd l0 x20_2) true _ ?side1 HC368.out A12.out).mono ?_); (case side1 => repeat (first | exact HR368.out | (with_reducible first | refine Kd.C_alloc ?_ _ | refine Kd.C_drewN ?_ _ | refine Kd.C_drew ?_))); rintro e w' ⟨rfl, ⟨nd, rfl⟩⟩; refine ⟨_, rfl, ?_⟩))
           go_ret
           exact ⟨Q2, Q5⟩
          ·
           replace c13 := Bool.eq_false_iff.mpr c13
           subst c13
           have H1 : (spec_boOrder.l0 k2 l0 l0 (l0.length : Int) (wrap64 (x20_2 + 1))) = some r := by first | (rw [if_neg (show ¬ (false = true) by decide)] at H; exact H) | rfl
           clear H
           have H := H1
           clear H1
           have H' := Aside0.mk H
           clear H
           have p367 : 0 ≤ (x20_2 : Int) := of_decide_eq_true Q0
           have q367 : x20_2 < (l0.length : Int) := of_decide_eq_true Q0
           obtain ⟨ad367, e367, hx367_0⟩ := Kd.at_int HR0.out x20_2 p367 q367
           cases e367
           replace p367 := eq_true p367
           replace q367 := eq_true q367
           obtain ⟨i015, hi015, _, hsz15, _⟩ := info_parts info3
           obtain ⟨hcut15, hA15, hC15⟩ := print_take_of (P := Tryd.prog) (Value.int .i64) 0 24 3 .i64 Tryd.underlying24 hi015 hsz15 (some ad367) c0 l0 x20_2 (of_decide_eq_true Q0) (of_decide_eq_true Q0) HC0.out
           have HR368 := am (Kd.C_of_reads (h1 := fun _ => rfl) (hA15 _ (Kd.reads_of_C HR0.out)))
           have HC368 := Aside0.mk hC15
           clear hA15 hC15 hi015 hsz15
           go_wp2_with (first | ((with_reducible refine gate_callee (f := 68) rfl ?_); refine goesL_ (some 29) rfl rfl Tryd.func68 (by kernel_rfl) rfl #[.slice (some ad367) (l0.take (x20_2 : Int).toNat).length c0, .int .i64 (rd l0 x20_2)] rfl Q22 ?_; (with_reducible refine (spec_l1Has.calls k2 _ _ (l0.take (x20_2 : Int).toNat) (rd l0 x20_2) false _ ?side1 HC368.out A12.out).mono ?_); (case side1 => repeat (first | exact HR368.out | (with_reducible first | refine Kd.C_alloc ?_ _ | refine Kd.C_drewN ?_ _ | refine Kd.C_drew ?_))); rintro e w' ⟨rfl, ⟨nd, rfl⟩⟩; refine ⟨_, rfl, ?_⟩))
           go_roundg k2
           case measure => have := HJ2.out; have := HK2.out; omega
           case rel => exact ⟨(wrap64 (x20_2 + 1)), Q2, H', ⟨by have := HJ2.out; have := HK2.out; omega⟩, Q5⟩
         ·
          rw [if_neg c11] at H
          exact absurd H (by simp)
        ·
         rw [if_neg c9] at H
         exact absurd H (by simp)
       ·
        rw [if_neg c8] at H
        exact absurd H (by simp)
      ·
       rw [if_neg c7] at H
       have c7b0 : decide (x20_2 < (l0.length : Int)) = false := decide_eq_false c7
       clear c7
       obtain rfl := Option.some.inj H
       go_wp2
       go_ret
       exact ⟨Q2, Q5⟩

end Go.Proofs.YtllhofdgbpnkkaaDoor.PFnBoardsTurned
