-- Printed for this claim by wip/pp.py over the kit's printer; Lean checks it.
import Derived.Test.YtllhofdgbpnkkaaDoorPFnBoardsTurnedx0
import Derived.Test.YtllhofdgbpnkkaaDoorPFnBoardsTurnedx1
import Derived.Test.YtllhofdgbpnkkaaDoorPFnBoardsTurnedx2
import Derived.Test.YtllhofdgbpnkkaaDoorPFnBoardsTurnedx9
namespace Go.Proofs.YtllhofdgbpnkkaaDoor.PFnBoardsTurned
open Go.RowKit Go.Proofs.YtllhofdgbpnkkaaDoorW.PrintWords Go.Proofs.YtllhofdgbpnkkaaDoorW.PrintLast Go.Proofs.YtllhofdgbpnkkaaDoorW.PrintMore
attribute [local go_sem] max2_int min2_int max_two min_two max_three min_three max_four min_four   -- for this text's walks alone
set_option linter.unusedVariables false
set_option linter.unusedSimpArgs false

/-! ### spec_boText: function 47 -/
mutual
def spec_boText.l0 : Nat → ByteArray → Int → Int → Int → List Int → Option (ByteArray)
 | 0, _, _, _, _, _ => none
 | k + 1, x3, x4, x391000, x391001, x391002 => if x4 < x391000 then (if x4 > 0 then (if x3.size + 1 ≤ 9223372036854775807 then (spec_boText.j1 k (x3 ++ (⟨#[47]⟩ : ByteArray)) x4 x391000 x391001 x391002) else (none)) else (spec_boText.j1 k x3 x4 x391000 x391001 x391002)) else (some x3)
def spec_boText.j1 : Nat → ByteArray → Int → Int → Int → List Int → Option (ByteArray)
 | 0, _, _, _, _, _ => none
 | k + 1, x3, x4, x391000, x391001, x391002 => spec_boText.l1 k x3 x4 0 x391000 x391001 x391002
def spec_boText.l1 : Nat → ByteArray → Int → Int → Int → Int → List Int → Option (ByteArray)
 | 0, _, _, _, _, _, _ => none
 | k + 1, x3, x4, x5, x391000, x391001, x391002 => if x5 < x391001 then (if 0 ≤ x4 then (if x4 < (x391002.length : Int) then (if 0 ≤ x5 then ((spec_l1Num.f k (Int.tmod (shr .i64 (rd x391002 x4) x5) 2)).bind fun t392 => (if x3.size + t392.size ≤ 9223372036854775807 then (spec_boText.l1 k (x3 ++ t392) x4 (wrap64 (x5 + 1)) x391000 x391001 x391002) else (none))) else (none)) else (none)) else (none)) else (spec_boText.l0 k x3 (wrap64 (x4 + 1)) x391000 x391001 x391002)
end
def spec_boText.f (k : Nat) (a0_0 : Int) (a0_1 : Int) (l0_2 : List Int) : Option (ByteArray) := spec_boText.l0 k (⟨#[]⟩ : ByteArray) 0 a0_0 a0_1 l0_2
set_option maxHeartbeats 8000000 in
set_option maxRecDepth 100000 in
theorem spec_boText.calls (k : Nat) (a0_0 : Int) (a0_1 : Int) (A0_2 : Option Addr) (c0_2 : Nat) (l0_2 : List Int) (r : ByteArray) (w : World) (hr0_2 : Kd.C (Kd.int .i64) w A0_2 l0_2.length l0_2) (hc0_2 : l0_2.length ≤ c0_2) (h : spec_boText.f k a0_0 a0_1 l0_2 = some r) :
  Calls Tryd.prog 47 #[.agg #[.int .i64 a0_0, .int .i64 a0_1, .slice A0_2 l0_2.length c0_2]] w fun e w' => e = .returned (.string r) ∧ Below w.heap.size w w' := by
 have hu26 := Tryd.underlying26
 have HR0_2 := Aside0.mk hr0_2
 have HC0_2 := Aside0.mk hc0_2
 clear hr0_2 hc0_2
 have HB := am (Below.refl w.heap.size w)
 have H : (spec_boText.l0 k (⟨#[]⟩ : ByteArray) 0 a0_0 a0_1 l0_2) = some r := h
 clear h
 have H' := Aside0.mk H
 clear H
 go_enter Tryd.func47, Tryd.ntmps47
 go_wp2_with (first | ((with_reducible refine gate_dst (N := 1) rfl ?_); refine qv 1 #[.int .i64 a0_0, .int .i64 a0_1, .slice A0_2 l0_2.length c0_2] 26 ?_; intro gb390 hg w2 hbox hb; have BK390 := am hbox; have GW390 := qw hg; have GE390 := qw hg; replace HB := qs hb; clear hb hbox hg))
 go_loopg [3, 4] k (fun kq v3 v4 w' => ∃ (x3_1 : ByteArray) (x4_1 : Int), v3 = .string x3_1 ∧ v4 = .int .i64 x4_1 ∧ Aside0 (spec_boText.l0 kq x3_1 x4_1 a0_0 a0_1 l0_2 = some r) ∧ Aside0 (kq ≤ k) ∧ Aside0 (w'.heap[gb390]? = some (.cells #[.int .i64 a0_0, .int .i64 a0_1, (.slice A0_2 l0_2.length c0_2)] 26 (0, 0))) ∧ Aside0 (Below w.heap.size w w'))
 case atStart => exact ⟨((⟨#[]⟩ : ByteArray)), (0), Q2, Q2, H', ⟨Nat.le_refl _⟩, ⟨Q25⟩, ⟨qb⟩⟩
 case round =>
  clear H'
  try clear p2
  obtain ⟨x3_1, x4_1, rfl, rfl, HA, HK1, BK390, HB⟩ := hrel
  cases gk with
  | zero => exact absurd HA.out (by simp [spec_boText.l0])
  | succ k1 =>
   have H := HA.out
   clear HA
   simp only [spec_boText.l0] at H
   by_cases c3 : x4_1 < a0_0
   ·
    rw [if_pos c3] at H
    have c3b0 : decide (x4_1 < a0_0) = true := decide_eq_true c3
    clear c3
    have HC4 := Aside0.mk H
    clear H
    obtain ⟨zq9, zq10, zq11, fq9, fq10, fq11⟩ := qd BK390
    go_upto_if 13 with (fail)
    go_cut [3] (fun v3 wc => ∃ (kq : Nat) (x3_3 : ByteArray), v3 = .string x3_3 ∧ Aside0 (spec_boText.j1 kq x3_3 x4_1 a0_0 a0_1 l0_2 = some r) ∧ Aside0 (kq ≤ k1) ∧ Aside0 (wc.heap[gb390]? = some (.cells #[.int .i64 a0_0, .int .i64 a0_1, (.slice A0_2 l0_2.length c0_2)] 26 (0, 0))) ∧ Aside0 (Below w.heap.size w wc))
    case first =>
     have H := HC4.out
     clear HC4
     by_cases c6 : x4_1 > 0
     ·
      rw [if_pos c6] at H
      have c6b0 : decide (0 < x4_1) = true := decide_eq_true c6
      clear c6
      (first | rw [c6b0] | (simp only [i64_w, i32_w]; rw [c6b0]) | skip)
      by_cases c7 : x3_1.size + 1 ≤ 9223372036854775807
      ·
       rw [if_pos c7] at H
       have c7b0 := eq_true c7
       have c7b1 : decide (x3_1.size + 1 ≤ 9223372036854775807) = true := decide_eq_true c7
       try have c7b2 : (9223372036854775807 < x3_1.size + 1) = False := eq_false (Nat.not_lt.2 c7)
       have H' := Aside0.mk H
       clear H
       go_wp2
       go_meet
       case rel => exact ⟨_, (x3_1 ++ (⟨#[47]⟩ : ByteArray)), Q2, H', ⟨Q82⟩, ⟨Q25⟩, ⟨qb⟩⟩
      ·
       rw [if_neg c7] at H
       exact absurd H (by simp)
     ·
      rw [if_neg c6] at H
      have c6b0 : decide (0 < x4_1) = false := decide_eq_false c6
      clear c6
      (first | rw [c6b0] | (simp only [i64_w, i32_w]; rw [c6b0]) | skip)
      have H' := Aside0.mk H
      clear H
      go_wp2
      go_meet
      case rel => exact ⟨_, (x3_1), Q2, H', ⟨Q82⟩, ⟨Q25⟩, ⟨qb⟩⟩
    case rest =>
     clear HC4
     try clear c3; try clear c3b0; try clear c6; try clear c6b0; try clear c7; try clear c7b0; try clear c7b1; try clear c7b2; try clear zq9; try clear zq10; try clear zq11; try clear fq9; try clear fq10; try clear fq11
     obtain ⟨kq, x3_3, rfl, HA, HJ3, BK390, HB⟩ := hcut
     cases kq with
     | zero => exact absurd HA.out (by simp [spec_boText.j1])
     | succ kj3 =>
      have H := HA.out
      clear HA
      simp only [spec_boText.j1] at H
      have H' := Aside0.mk H
      clear H
      go_wp2
      go_loopg [3, 5] kj3 (fun kq v3 v5 w' => ∃ (x3_3 : ByteArray) (x5_3 : Int), v3 = .string x3_3 ∧ v5 = .int .i64 x5_3 ∧ Aside0 (spec_boText.l1 kq x3_3 x4_1 x5_3 a0_0 a0_1 l0_2 = some r) ∧ Aside0 (kq ≤ kj3) ∧ Aside0 (w'.heap[gb390]? = some (.cells #[.int .i64 a0_0, .int .i64 a0_1, (.slice A0_2 l0_2.length c0_2)] 26 (0, 0))) ∧ Aside0 (Below w.heap.size w w'))
      case atStart => exact ⟨(x3_3), (0), Q2, Q2, H', ⟨Nat.le_refl _⟩, ⟨Q25⟩, ⟨qb⟩⟩
      case round =>
       clear H'
       try clear c3; try clear c3b0; try clear c6; try clear c6b0; try clear c7; try clear c7b0; try clear c7b1; try clear c7b2; try clear zq9; try clear zq10; try clear zq11; try clear fq9; try clear fq10; try clear fq11
       obtain ⟨x3_3, x5_3, rfl, rfl, HA, HK3, BK390, HB⟩ := hrel
       cases gk with
       | zero => exact absurd HA.out (by simp [spec_boText.l1])
       | succ k3 =>
        have H := HA.out
        clear HA
        simp only [spec_boText.l1] at H
        by_cases c8 : x5_3 < a0_1
        ·
         rw [if_pos c8] at H
         have c8b0 : decide (x5_3 < a0_1) = true := decide_eq_true c8
         clear c8
         by_cases c9 : 0 ≤ x4_1
         ·
          rw [if_pos c9] at H
          have c9b0 : decide (0 ≤ x4_1) = true := decide_eq_true c9
          clear c9
          by_cases c10 : x4_1 < (l0_2.length : Int)
          ·
           rw [if_pos c10] at H
           have c10b0 : decide (x4_1 < (l0_2.length : Int)) = true := decide_eq_true c10
           clear c10
           by_cases c11 : 0 ≤ x5_3
           ·
            rw [if_pos c11] at H
            have c11b0 := eq_true c11
            have c11b1 : decide (0 ≤ x5_3) = true := decide_eq_true c11
            clear c11
            obtain ⟨ji12, hji12⟩ : ∃ j_ : Int, (shr .i64 (rd l0_2 x4_1) x5_3) = j_ := ⟨_, rfl⟩
            replace H : ((spec_l1Num.f k3 (Int.tmod (ji12) 2)).bind fun t392 => (if x3_3.size + t392.size ≤ 9223372036854775807 then (spec_boText.l1 k3 (x3_3 ++ t392) x4_1 (wrap64 (x5_3 + 1)) a0_0 a0_1 l0_2) else (none))) = some r := by first | (rw [hji12] at H; exact H) | (simp only [hji12] at H ⊢; exact H)
            have hji12_ : ((rd l0_2 x4_1) / 2 ^ min x5_3.toNat 64) = ji12 := hji12
            have hji12z : x5_3 ≤ 64 → ((rd l0_2 x4_1) / 2 ^ x5_3.toNat) = ji12 := shr_small hji12
            replace H := qE H
            obtain ⟨t392, A13, H⟩ := H
            replace H : (if x3_3.size + t392.size ≤ 9223372036854775807 then (spec_boText.l1 k3 (x3_3 ++ t392) x4_1 (wrap64 (x5_3 + 1)) a0_0 a0_1 l0_2) else (none)) = some r := H
            by_cases c14 : x3_3.size + t392.size ≤ 9223372036854775807
            ·
             rw [if_pos c14] at H
             have c14b0 := eq_true c14
             have c14b1 : decide (x3_3.size + t392.size ≤ 9223372036854775807) = true := decide_eq_true c14
             try have c14b2 : (9223372036854775807 < x3_3.size + t392.size) = False := eq_false (Nat.not_lt.2 c14)
             have H' := Aside0.mk H
             clear H
             obtain ⟨zq0, zq1, zq2, fq0, fq1, fq2⟩ := qd BK390
             have p391 : 0 ≤ (x4_1 : Int) := of_decide_eq_true Q0
             have q391 : x4_1 < (l0_2.length : Int) := of_decide_eq_true Q0
             obtain ⟨ad391, e391, hx391_0⟩ := Kd.at_int HR0_2.out x4_1 p391 q391
             cases e391
             replace hx391_0 := (HB.out.cell (World.block_lt_of_cell? w _ hx391_0)).trans hx391_0
             replace p391 := eq_true p391
             replace q391 := eq_true q391
             go_wp2_with (first | ((with_reducible refine gate_callee (f := 69) rfl ?_); refine goesL_ (some 31) rfl rfl Tryd.func69 (by kernel_rfl) rfl #[.int .i64 (Int.tmod (ji12) 2)] rfl (by (try simp only [List.map_toArray, List.map_cons, List.map_nil]); first | done | (simp only [hji12]; rfl) | rfl | (simp only [List.length_drop, List.length_take]; rfl)) ?_; (with_reducible refine (spec_l1Num.calls k3 (Int.tmod (ji12) 2) t392 _ A13.out).mono ?_); rintro e w16 ⟨rfl, hb⟩; refine ⟨_, rfl, ?_⟩; replace BK390 := sqB BK390 hb; replace HB := qs hb; (try clear hb)))
             go_roundg k3
             case measure => have := HK1.out; have := HJ3.out; have := HK3.out; omega
             case rel => exact ⟨(x3_3 ++ t392), (wrap64 (x5_3 + 1)), Q2, Q2, H', ⟨by have := HK1.out; have := HJ3.out; have := HK3.out; omega⟩, ⟨Q25⟩, ⟨qb⟩⟩
            ·
             rw [if_neg c14] at H
             exact absurd H (by simp)
           ·
            rw [if_neg c11] at H
            exact absurd H (by simp)
          ·
           rw [if_neg c10] at H
           exact absurd H (by simp)
         ·
          rw [if_neg c9] at H
          exact absurd H (by simp)
        ·
         rw [if_neg c8] at H
         have c8b0 : decide (x5_3 < a0_1) = false := decide_eq_false c8
         clear c8
         have H' := Aside0.mk H
         clear H
         obtain ⟨zq3, zq4, zq5, fq3, fq4, fq5⟩ := qd BK390
         go_wp2
         go_roundg k3
         case measure => have := HK1.out; have := HJ3.out; have := HK3.out; omega
         case rel => exact ⟨(x3_3), (wrap64 (x4_1 + 1)), Q2, Q2, H', ⟨by have := HK1.out; have := HJ3.out; have := HK3.out; omega⟩, ⟨Q25⟩, ⟨qb⟩⟩
   ·
    rw [if_neg c3] at H
    have c3b0 : decide (x4_1 < a0_0) = false := decide_eq_false c3
    clear c3
    obtain rfl := Option.some.inj H
    obtain ⟨zq6, zq7, zq8, fq6, fq7, fq8⟩ := qd BK390
    go_wp2
    go_ret
    exact ⟨Q1, qb⟩

/-! ### spec_l1Cur_spoilt: function 50 -/
mutual
def spec_l1Cur_spoilt.l0 : Nat → ByteArray → ByteArray → Int → List Int → Int → Int → Option (ByteArray × Int × Int)
 | 0, _, _, _, _, _, _ => none
 | k + 1, x1, x2, x7, x1000, x1001, x1002 => if x7 > 0 then (spec_l1Cur_spoilt.j1 k x1 x2 x7 (decide ((x1.size : Int) > 0)) x1000 x1001 x1002) else (spec_l1Cur_spoilt.j1 k x1 x2 x7 false x1000 x1001 x1002)
def spec_l1Cur_spoilt.j1 : Nat → ByteArray → ByteArray → Int → Bool → List Int → Int → Int → Option (ByteArray × Int × Int)
 | 0, _, _, _, _, _, _, _ => none
 | k + 1, x1, x2, x7, x19, x1000, x1001, x1002 => if x19 = true then ((spec_l1Cur_pick.f x1000 x1001 x1002 (x1.size : Int)).bind fun bt396 => ((spec_l1Cur_pick.f x1000 bt396.2.1 bt396.2.2 (x2.size : Int)).bind fun bt399 => (if 0 ≤ bt399.1 then (if bt399.1 < (x2.size : Int) then ((some (([bt x2 bt399.1] : List Int) : List Int)).bind fun y402 => ((spec_l1Cur_pick.f x1000 bt399.2.1 bt399.2.2 3).bind fun bt405 => (if bt405.1 = 0 then (if 0 ≤ bt396.1 then (if bt396.1 ≤ (x1.size : Int) then (if (x1.extract 0 (bt396.1 : Int).toNat).size + (strOfNums y402).size ≤ 9223372036854775807 then (if ((x1.extract 0 (bt396.1 : Int).toNat) ++ (strOfNums y402)).size + (x1.extract (bt396.1 : Int).toNat x1.size).size ≤ 9223372036854775807 then (spec_l1Cur_spoilt.l0 k (((x1.extract 0 (bt396.1 : Int).toNat) ++ (strOfNums y402)) ++ (x1.extract (bt396.1 : Int).toNat x1.size)) x2 (wrap64 (x7 - 1)) x1000 bt405.2.1 bt405.2.2) else (none)) else (none)) else (none)) else (none)) else (if bt405.1 = 1 then (if 0 ≤ bt396.1 then (if bt396.1 ≤ (x1.size : Int) then (if (x1.extract 0 (bt396.1 : Int).toNat).size + (strOfNums y402).size ≤ 9223372036854775807 then (if 0 ≤ (wrap64 (bt396.1 + 1)) then (if (wrap64 (bt396.1 + 1)) ≤ (x1.size : Int) then (if ((x1.extract 0 (bt396.1 : Int).toNat) ++ (strOfNums y402)).size + (x1.extract ((wrap64 (bt396.1 + 1)) : Int).toNat x1.size).size ≤ 9223372036854775807 then (spec_l1Cur_spoilt.l0 k (((x1.extract 0 (bt396.1 : Int).toNat) ++ (strOfNums y402)) ++ (x1.extract ((wrap64 (bt396.1 + 1)) : Int).toNat x1.size)) x2 (wrap64 (x7 - 1)) x1000 bt405.2.1 bt405.2.2) else (none)) else (none)) else (none)) else (none)) else (none)) else (none)) else (if 0 ≤ bt396.1 then (if bt396.1 ≤ (x1.size : Int) then (if 0 ≤ (wrap64 (bt396.1 + 1)) then (if (wrap64 (bt396.1 + 1)) ≤ (x1.size : Int) then (if (x1.extract 0 (bt396.1 : Int).toNat).size + (x1.extract ((wrap64 (bt396.1 + 1)) : Int).toNat x1.size).size ≤ 9223372036854775807 then (spec_l1Cur_spoilt.l0 k ((x1.extract 0 (bt396.1 : Int).toNat) ++ (x1.extract ((wrap64 (bt396.1 + 1)) : Int).toNat x1.size)) x2 (wrap64 (x7 - 1)) x1000 bt405.2.1 bt405.2.2) else (none)) else (none)) else (none)) else (none)) else (none)))))) else (none)) else (none)))) else (some (x1, x1001, x1002))
end
def spec_l1Cur_spoilt.f (k : Nat) (s0_0 : List Int) (s0_1 : Int) (s0_2 : Int) (a1 : ByteArray) (a2 : ByteArray) : Option (ByteArray × Int × Int) := (spec_l1Cur_pick.f s0_0 s0_1 s0_2 2).bind fun bt393 => (spec_l1Cur_spoilt.l0 k a1 a2 (wrap64 (1 + bt393.1)) s0_0 bt393.2.1 bt393.2.2)
set_option maxHeartbeats 8000000 in
set_option maxRecDepth 100000 in
theorem spec_l1Cur_spoilt.calls (k : Nat) (g : Nat) (s0_0 : List Int) (s0_1 : Int) (s0_2 : Int) (a1 : ByteArray) (a2 : ByteArray) (r1 : ByteArray) (r2 : Int) (r3 : Int) (w0 w : World) (hI : IsS57 w0 w g s0_0 s0_1 s0_2) (hB : Below w0.heap.size w0 w) (h : spec_l1Cur_spoilt.f k s0_0 s0_1 s0_2 a1 a2 = some (r1, r2, r3)) :
  Calls Tryd.prog 50 #[.pointer (some ⟨g, 0, none⟩), .string a1, .string a2] w fun e w' => e = .returned (.string r1) ∧ IsS57 w0 w' g s0_0 r2 r3 ∧ Below w0.heap.size w0 w' ∧ KeepBut w w' g none := by
 have HI0 := Aside0.mk hI
 have HK := am (KeepBut.refl w g none)
 have HL := Aside0.mk hB.size
 clear hI
 have HW0 := Aside0.mk hB.size
 have HB := Aside0.mk hB
 clear hB
 have H : ((spec_l1Cur_pick.f s0_0 s0_1 s0_2 2).bind fun bt393 => (spec_l1Cur_spoilt.l0 k a1 a2 (wrap64 (1 + bt393.1)) s0_0 bt393.2.1 bt393.2.2)) = some (r1, r2, r3) := h
 clear h
 replace H := qE H
 obtain ⟨⟨t393, t394, t395⟩, A4, H⟩ := H
 replace H : (spec_l1Cur_spoilt.l0 k a1 a2 (wrap64 (1 + t393)) s0_0 t394 t395) = some (r1, r2, r3) := H
 have H' := Aside0.mk H
 clear H
 go_enter Tryd.func50, Tryd.ntmps50
 go_wp2_with (first | (go_at_call 40; (with_reducible refine (spec_l1Cur_pick.calls g s0_0 s0_1 s0_2 2 t393 t394 t395 w0 _ ?side1 ?side2 A4.out).mono ?_); (case side1 => exact qi); (case side2 => exact qc); rintro e w5 ⟨rfl, hi, hb, hk⟩; replace HK := qT hk; replace HB := am hb; replace HI0 := am hi; (try clear hb hk hi)))
 repeat (go_quiet (first | (go_at_call 40; (with_reducible refine (spec_l1Cur_pick.calls g s0_0 s0_1 s0_2 2 t393 t394 t395 w0 _ ?side1 ?side2 A4.out).mono ?_); (case side1 => exact qi); (case side2 => exact qc); rintro e w5 ⟨rfl, hi, hb, hk⟩; replace HK := qT hk; replace HB := am hb; replace HI0 := am hi; (try clear hb hk hi))); try go_wp2_with (first | (go_at_call 40; (with_reducible refine (spec_l1Cur_pick.calls g s0_0 s0_1 s0_2 2 t393 t394 t395 w0 _ ?side1 ?side2 A4.out).mono ?_); (case side1 => exact qi); (case side2 => exact qc); rintro e w5 ⟨rfl, hi, hb, hk⟩; have n0_ := qT hk; have n1_ := am hb; have n2_ := am hi; clear HK; clear HB; clear HI0; have HK := n0_; have HB := n1_; have HI0 := n2_; clear n0_ n1_ n2_; (try clear hb); (try clear hb2); (try clear hk); (try clear hi))))
 go_loopg [1, 7] k (fun kq v1 v7 w' => ∃ (x1_1 : ByteArray) (x7_1 : Int) (x1001_1 : Int) (x1002_1 : Int), v1 = .string x1_1 ∧ v7 = .int .i64 x7_1 ∧ Aside0 (spec_l1Cur_spoilt.l0 kq x1_1 a2 x7_1 s0_0 x1001_1 x1002_1 = some (r1, r2, r3)) ∧ Aside0 (kq ≤ k) ∧ Aside0 (IsS57 w0 w' g s0_0 x1001_1 x1002_1) ∧ Aside0 (KeepBut w w' g none) ∧ Aside0 (Below w0.heap.size w0 w'))
 case atStart => exact ⟨(a1), (wrap64 (1 + t393)), (t394), (t395), Q2, Q2, H', ⟨Nat.le_refl _⟩, ⟨qi⟩, ⟨qk⟩, ⟨qc⟩⟩
 case round =>
  clear H'
  obtain ⟨x1_1, x7_1, x1001_1, x1002_1, rfl, rfl, HA, HK1, HI0, HK, HB⟩ := hrel
  cases gk with
  | zero => exact absurd HA.out (by simp [spec_l1Cur_spoilt.l0])
  | succ k1 =>
   have H := HA.out
   clear HA
   simp only [spec_l1Cur_spoilt.l0] at H
   have HC6 := Aside0.mk H
   clear H
   go_upto_region 2 with (fail)
   repeat (go_quiet (fail); go_upto_region 2 with (fail))
   go_cut [19] (fun v19 wc => ∃ (kq : Nat) (x19_5 : Bool), v19 = .bool x19_5 ∧ Aside0 (spec_l1Cur_spoilt.j1 kq x1_1 a2 x7_1 x19_5 s0_0 x1001_1 x1002_1 = some (r1, r2, r3)) ∧ Aside0 (kq ≤ k1) ∧ Aside0 (IsS57 w0 wc g s0_0 x1001_1 x1002_1) ∧ Aside0 (KeepBut w wc g none) ∧ Aside0 (Below w0.heap.size w0 wc))
   case first =>
    have H := HC6.out
    clear HC6
    by_cases c7 : x7_1 > 0
    ·
     rw [if_pos c7] at H
     have c7b0 : decide (0 < x7_1) = true := decide_eq_true c7
     clear c7
     (first | rw [c7b0] | (simp only [i64_w, i32_w]; rw [c7b0]) | skip)
     have H' := Aside0.mk H
     clear H
     go_wp2
     repeat (go_quiet (fail); try go_wp2)
     go_meet
     case rel => exact ⟨_, (decide ((x1_1.size : Int) > 0)), Q2, H', ⟨Q82⟩, ⟨qi⟩, ⟨qk⟩, ⟨qc⟩⟩
    ·
     rw [if_neg c7] at H
     have c7b0 : decide (0 < x7_1) = false := decide_eq_false c7
     clear c7
     (first | rw [c7b0] | (simp only [i64_w, i32_w]; rw [c7b0]) | skip)
     have H' := Aside0.mk H
     clear H
     go_wp2
     repeat (go_quiet (fail); try go_wp2)
     go_meet
     case rel => exact ⟨_, (false), Q2, H', ⟨Q82⟩, ⟨qi⟩, ⟨qk⟩, ⟨qc⟩⟩
   case rest =>
    clear HC6
    try clear c7; try clear c7b0
    obtain ⟨kq, x19_5, rfl, HA, HJ5, HI0, HK, HB⟩ := hcut
    cases kq with
    | zero => exact absurd HA.out (by simp [spec_l1Cur_spoilt.j1])
    | succ kj5 =>
     have H := HA.out
     clear HA
     simp only [spec_l1Cur_spoilt.j1] at H
     by_cases c8 : x19_5 = true
     ·
      subst c8
      have H1 : ((spec_l1Cur_pick.f s0_0 x1001_1 x1002_1 (x1_1.size : Int)).bind fun bt396 => ((spec_l1Cur_pick.f s0_0 bt396.2.1 bt396.2.2 (a2.size : Int)).bind fun bt399 => (if 0 ≤ bt399.1 then (if bt399.1 < (a2.size : Int) then ((some (([bt a2 bt399.1] : List Int) : List Int)).bind fun y402 => ((spec_l1Cur_pick.f s0_0 bt399.2.1 bt399.2.2 3).bind fun bt405 => (if bt405.1 = 0 then (if 0 ≤ bt396.1 then (if bt396.1 ≤ (x1_1.size : Int) then (if (x1_1.extract 0 (bt396.1 : Int).toNat).size + (strOfNums y402).size ≤ 9223372036854775807 then (if ((x1_1.extract 0 (bt396.1 : Int).toNat) ++ (strOfNums y402)).size + (x1_1.extract (bt396.1 : Int).toNat x1_1.size).size ≤ 9223372036854775807 then (spec_l1Cur_spoilt.l0 kj5 (((x1_1.extract 0 (bt396.1 : Int).toNat) ++ (strOfNums y402)) ++ (x1_1.extract (bt396.1 : Int).toNat x1_1.size)) a2 (wrap64 (x7_1 - 1)) s0_0 bt405.2.1 bt405.2.2) else (none)) else (none)) else (none)) else (none)) else (if bt405.1 = 1 then (if 0 ≤ bt396.1 then (if bt396.1 ≤ (x1_1.size : Int) then (if (x1_1.extract 0 (bt396.1 : Int).toNat).size + (strOfNums y402).size ≤ 9223372036854775807 then (if 0 ≤ (wrap64 (bt396.1 + 1)) then (if (wrap64 (bt396.1 + 1)) ≤ (x1_1.size : Int) then (if ((x1_1.extract 0 (bt396.1 : Int).toNat) ++ (strOfNums y402)).size + (x1_1.extract ((wrap64 (bt396.1 + 1)) : Int).toNat x1_1.size).size ≤ 9223372036854775807 then (spec_l1Cur_spoilt.l0 kj5 (((x1_1.extract 0 (bt396.1 : Int).toNat) ++ (strOfNums y402)) ++ (x1_1.extract ((wrap64 (bt396.1 + 1)) : Int).toNat x1_1.size)) a2 (wrap64 (x7_1 - 1)) s0_0 bt405.2.1 bt405.2.2) else (none)) else (none)) else (none)) else (none)) else (none)) else (none)) else (if 0 ≤ bt396.1 then (if bt396.1 ≤ (x1_1.size : Int) then (if 0 ≤ (wrap64 (bt396.1 + 1)) then (if (wrap64 (bt396.1 + 1)) ≤ (x1_1.size : Int) then (if (x1_1.extract 0 (bt396.1 : Int).toNat).size + (x1_1.extract ((wrap64 (bt396.1 + 1)) : Int).toNat x1_1.size).size ≤ 9223372036854775807 then (spec_l1Cur_spoilt.l0 kj5 ((x1_1.extract 0 (bt396.1 : Int).toNat) ++ (x1_1.extract ((wrap64 (bt396.1 + 1)) : Int).toNat x1_1.size)) a2 (wrap64 (x7_1 - 1)) s0_0 bt405.2.1 bt405.2.2) else (none)) else (none)) else (none)) else (none)) else (none)))))) else (none)) else (none)))) = some (r1, r2, r3) := by first | (rw [if_pos rfl] at H; exact H) | rfl
      clear H
      have H := H1
      clear H1
      replace H := qE H
      obtain ⟨⟨t396, t397, t398⟩, A9, H⟩ := H
      replace H : ((spec_l1Cur_pick.f s0_0 t397 t398 (a2.size : Int)).bind fun bt399 => (if 0 ≤ bt399.1 then (if bt399.1 < (a2.size : Int) then ((some (([bt a2 bt399.1] : List Int) : List Int)).bind fun y402 => ((spec_l1Cur_pick.f s0_0 bt399.2.1 bt399.2.2 3).bind fun bt405 => (if bt405.1 = 0 then (if 0 ≤ t396 then (if t396 ≤ (x1_1.size : Int) then (if (x1_1.extract 0 (t396 : Int).toNat).size + (strOfNums y402).size ≤ 9223372036854775807 then (if ((x1_1.extract 0 (t396 : Int).toNat) ++ (strOfNums y402)).size + (x1_1.extract (t396 : Int).toNat x1_1.size).size ≤ 9223372036854775807 then (spec_l1Cur_spoilt.l0 kj5 (((x1_1.extract 0 (t396 : Int).toNat) ++ (strOfNums y402)) ++ (x1_1.extract (t396 : Int).toNat x1_1.size)) a2 (wrap64 (x7_1 - 1)) s0_0 bt405.2.1 bt405.2.2) else (none)) else (none)) else (none)) else (none)) else (if bt405.1 = 1 then (if 0 ≤ t396 then (if t396 ≤ (x1_1.size : Int) then (if (x1_1.extract 0 (t396 : Int).toNat).size + (strOfNums y402).size ≤ 9223372036854775807 then (if 0 ≤ (wrap64 (t396 + 1)) then (if (wrap64 (t396 + 1)) ≤ (x1_1.size : Int) then (if ((x1_1.extract 0 (t396 : Int).toNat) ++ (strOfNums y402)).size + (x1_1.extract ((wrap64 (t396 + 1)) : Int).toNat x1_1.size).size ≤ 9223372036854775807 then (spec_l1Cur_spoilt.l0 kj5 (((x1_1.extract 0 (t396 : Int).toNat) ++ (strOfNums y402)) ++ (x1_1.extract ((wrap64 (t396 + 1)) : Int).toNat x1_1.size)) a2 (wrap64 (x7_1 - 1)) s0_0 bt405.2.1 bt405.2.2) else (none)) else (none)) else (none)) else (none)) else (none)) else (none)) else (if 0 ≤ t396 then (if t396 ≤ (x1_1.size : Int) then (if 0 ≤ (wrap64 (t396 + 1)) then (if (wrap64 (t396 + 1)) ≤ (x1_1.size : Int) then (if (x1_1.extract 0 (t396 : Int).toNat).size + (x1_1.extract ((wrap64 (t396 + 1)) : Int).toNat x1_1.size).size ≤ 9223372036854775807 then (spec_l1Cur_spoilt.l0 kj5 ((x1_1.extract 0 (t396 : Int).toNat) ++ (x1_1.extract ((wrap64 (t396 + 1)) : Int).toNat x1_1.size)) a2 (wrap64 (x7_1 - 1)) s0_0 bt405.2.1 bt405.2.2) else (none)) else (none)) else (none)) else (none)) else (none)))))) else (none)) else (none))) = some (r1, r2, r3) := H
      replace H := qE H
      obtain ⟨⟨t399, t400, t401⟩, A10, H⟩ := H
      replace H : (if 0 ≤ t399 then (if t399 < (a2.size : Int) then ((some (([bt a2 t399] : List Int) : List Int)).bind fun y402 => ((spec_l1Cur_pick.f s0_0 t400 t401 3).bind fun bt405 => (if bt405.1 = 0 then (if 0 ≤ t396 then (if t396 ≤ (x1_1.size : Int) then (if (x1_1.extract 0 (t396 : Int).toNat).size + (strOfNums y402).size ≤ 9223372036854775807 then (if ((x1_1.extract 0 (t396 : Int).toNat) ++ (strOfNums y402)).size + (x1_1.extract (t396 : Int).toNat x1_1.size).size ≤ 9223372036854775807 then (spec_l1Cur_spoilt.l0 kj5 (((x1_1.extract 0 (t396 : Int).toNat) ++ (strOfNums y402)) ++ (x1_1.extract (t396 : Int).toNat x1_1.size)) a2 (wrap64 (x7_1 - 1)) s0_0 bt405.2.1 bt405.2.2) else (none)) else (none)) else (none)) else (none)) else (if bt405.1 = 1 then (if 0 ≤ t396 then (if t396 ≤ (x1_1.size : Int) then (if (x1_1.extract 0 (t396 : Int).toNat).size + (strOfNums y402).size ≤ 9223372036854775807 then (if 0 ≤ (wrap64 (t396 + 1)) then (if (wrap64 (t396 + 1)) ≤ (x1_1.size : Int) then (if ((x1_1.extract 0 (t396 : Int).toNat) ++ (strOfNums y402)).size + (x1_1.extract ((wrap64 (t396 + 1)) : Int).toNat x1_1.size).size ≤ 9223372036854775807 then (spec_l1Cur_spoilt.l0 kj5 (((x1_1.extract 0 (t396 : Int).toNat) ++ (strOfNums y402)) ++ (x1_1.extract ((wrap64 (t396 + 1)) : Int).toNat x1_1.size)) a2 (wrap64 (x7_1 - 1)) s0_0 bt405.2.1 bt405.2.2) else (none)) else (none)) else (none)) else (none)) else (none)) else (none)) else (if 0 ≤ t396 then (if t396 ≤ (x1_1.size : Int) then (if 0 ≤ (wrap64 (t396 + 1)) then (if (wrap64 (t396 + 1)) ≤ (x1_1.size : Int) then (if (x1_1.extract 0 (t396 : Int).toNat).size + (x1_1.extract ((wrap64 (t396 + 1)) : Int).toNat x1_1.size).size ≤ 9223372036854775807 then (spec_l1Cur_spoilt.l0 kj5 ((x1_1.extract 0 (t396 : Int).toNat) ++ (x1_1.extract ((wrap64 (t396 + 1)) : Int).toNat x1_1.size)) a2 (wrap64 (x7_1 - 1)) s0_0 bt405.2.1 bt405.2.2) else (none)) else (none)) else (none)) else (none)) else (none)))))) else (none)) else (none)) = some (r1, r2, r3) := H
      by_cases c11 : 0 ≤ t399
      ·
       rw [if_pos c11] at H
       have c11b0 : decide (0 ≤ t399) = true := decide_eq_true c11
       clear c11
       by_cases c12 : t399 < (a2.size : Int)
       ·
        rw [if_pos c12] at H
        have c12b0 : decide (t399 < (a2.size : Int)) = true := decide_eq_true c12
        clear c12
        obtain ⟨y402, hy_⟩ : ∃ y_ : List Int, y_ = ((([bt a2 t399] : List Int))) := ⟨_, rfl⟩
        replace H : ((spec_l1Cur_pick.f s0_0 t400 t401 3).bind fun bt405 => (if bt405.1 = 0 then (if 0 ≤ t396 then (if t396 ≤ (x1_1.size : Int) then (if (x1_1.extract 0 (t396 : Int).toNat).size + (strOfNums y402).size ≤ 9223372036854775807 then (if ((x1_1.extract 0 (t396 : Int).toNat) ++ (strOfNums y402)).size + (x1_1.extract (t396 : Int).toNat x1_1.size).size ≤ 9223372036854775807 then (spec_l1Cur_spoilt.l0 kj5 (((x1_1.extract 0 (t396 : Int).toNat) ++ (strOfNums y402)) ++ (x1_1.extract (t396 : Int).toNat x1_1.size)) a2 (wrap64 (x7_1 - 1)) s0_0 bt405.2.1 bt405.2.2) else (none)) else (none)) else (none)) else (none)) else (if bt405.1 = 1 then (if 0 ≤ t396 then (if t396 ≤ (x1_1.size : Int) then (if (x1_1.extract 0 (t396 : Int).toNat).size + (strOfNums y402).size ≤ 9223372036854775807 then (if 0 ≤ (wrap64 (t396 + 1)) then (if (wrap64 (t396 + 1)) ≤ (x1_1.size : Int) then (if ((x1_1.extract 0 (t396 : Int).toNat) ++ (strOfNums y402)).size + (x1_1.extract ((wrap64 (t396 + 1)) : Int).toNat x1_1.size).size ≤ 9223372036854775807 then (spec_l1Cur_spoilt.l0 kj5 (((x1_1.extract 0 (t396 : Int).toNat) ++ (strOfNums y402)) ++ (x1_1.extract ((wrap64 (t396 + 1)) : Int).toNat x1_1.size)) a2 (wrap64 (x7_1 - 1)) s0_0 bt405.2.1 bt405.2.2) else (none)) else (none)) else (none)) else (none)) else (none)) else (none)) else (if 0 ≤ t396 then (if t396 ≤ (x1_1.size : Int) then (if 0 ≤ (wrap64 (t396 + 1)) then (if (wrap64 (t396 + 1)) ≤ (x1_1.size : Int) then (if (x1_1.extract 0 (t396 : Int).toNat).size + (x1_1.extract ((wrap64 (t396 + 1)) : Int).toNat x1_1.size).size ≤ 9223372036854775807 then (spec_l1Cur_spoilt.l0 kj5 ((x1_1.extract 0 (t396 : Int).toNat) ++ (x1_1.extract ((wrap64 (t396 + 1)) : Int).toNat x1_1.size)) a2 (wrap64 (x7_1 - 1)) s0_0 bt405.2.1 bt405.2.2) else (none)) else (none)) else (none)) else (none)) else (none))))) = some (r1, r2, r3) := qH
        have Ny402 := Aside0.mk hy_
        clear hy_
        replace H := qE H
        obtain ⟨⟨t405, t406, t407⟩, A14, H⟩ := H
        replace H : (if t405 = 0 then (if 0 ≤ t396 then (if t396 ≤ (x1_1.size : Int) then (if (x1_1.extract 0 (t396 : Int).toNat).size + (strOfNums y402).size ≤ 9223372036854775807 then (if ((x1_1.extract 0 (t396 : Int).toNat) ++ (strOfNums y402)).size + (x1_1.extract (t396 : Int).toNat x1_1.size).size ≤ 9223372036854775807 then (spec_l1Cur_spoilt.l0 kj5 (((x1_1.extract 0 (t396 : Int).toNat) ++ (strOfNums y402)) ++ (x1_1.extract (t396 : Int).toNat x1_1.size)) a2 (wrap64 (x7_1 - 1)) s0_0 t406 t407) else (none)) else (none)) else (none)) else (none)) else (if t405 = 1 then (if 0 ≤ t396 then (if t396 ≤ (x1_1.size : Int) then (if (x1_1.extract 0 (t396 : Int).toNat).size + (strOfNums y402).size ≤ 9223372036854775807 then (if 0 ≤ (wrap64 (t396 + 1)) then (if (wrap64 (t396 + 1)) ≤ (x1_1.size : Int) then (if ((x1_1.extract 0 (t396 : Int).toNat) ++ (strOfNums y402)).size + (x1_1.extract ((wrap64 (t396 + 1)) : Int).toNat x1_1.size).size ≤ 9223372036854775807 then (spec_l1Cur_spoilt.l0 kj5 (((x1_1.extract 0 (t396 : Int).toNat) ++ (strOfNums y402)) ++ (x1_1.extract ((wrap64 (t396 + 1)) : Int).toNat x1_1.size)) a2 (wrap64 (x7_1 - 1)) s0_0 t406 t407) else (none)) else (none)) else (none)) else (none)) else (none)) else (none)) else (if 0 ≤ t396 then (if t396 ≤ (x1_1.size : Int) then (if 0 ≤ (wrap64 (t396 + 1)) then (if (wrap64 (t396 + 1)) ≤ (x1_1.size : Int) then (if (x1_1.extract 0 (t396 : Int).toNat).size + (x1_1.extract ((wrap64 (t396 + 1)) : Int).toNat x1_1.size).size ≤ 9223372036854775807 then (spec_l1Cur_spoilt.l0 kj5 ((x1_1.extract 0 (t396 : Int).toNat) ++ (x1_1.extract ((wrap64 (t396 + 1)) : Int).toNat x1_1.size)) a2 (wrap64 (x7_1 - 1)) s0_0 t406 t407) else (none)) else (none)) else (none)) else (none)) else (none)))) = some (r1, r2, r3) := H
        by_cases c15 : t405 = 0
        ·
         rw [if_pos c15] at H
         have c15b0 : (t405 == 0) = true := beq_iff_eq.mpr c15
         have c15b1 : (t405 != 0) = false := bne_eq_false_iff_eq.mpr c15
         clear c15
         by_cases c16 : 0 ≤ t396
         ·
          rw [if_pos c16] at H
          have c16b0 := eq_true c16
          have c16b1 : decide (0 ≤ t396) = true := decide_eq_true c16
          clear c16
          by_cases c17 : t396 ≤ (x1_1.size : Int)
          ·
           rw [if_pos c17] at H
           have c17b0 := eq_true c17
           have c17b1 : decide (t396 ≤ (x1_1.size : Int)) = true := decide_eq_true c17
           clear c17
           by_cases c18 : (x1_1.extract 0 (t396 : Int).toNat).size + (strOfNums y402).size ≤ 9223372036854775807
           ·
            rw [if_pos c18] at H
            have c18b0 := eq_true c18
            have c18b1 : decide ((x1_1.extract 0 (t396 : Int).toNat).size + (strOfNums y402).size ≤ 9223372036854775807) = true := decide_eq_true c18
            try have c18b2 : (9223372036854775807 < (x1_1.extract 0 (t396 : Int).toNat).size + (strOfNums y402).size) = False := eq_false (Nat.not_lt.2 c18)
            have c19b0 := eq_true (of_decide_eq_true Q0 : 0 ≤ t396)
            have c20b0 := eq_true (of_decide_eq_true Q0 : t396 ≤ (x1_1.size : Int))
            by_cases c21 : ((x1_1.extract 0 (t396 : Int).toNat) ++ (strOfNums y402)).size + (x1_1.extract (t396 : Int).toNat x1_1.size).size ≤ 9223372036854775807
            ·
             rw [if_pos c21] at H
             have c21b0 := eq_true c21
             have c21b1 : decide (((x1_1.extract 0 (t396 : Int).toNat) ++ (strOfNums y402)).size + (x1_1.extract (t396 : Int).toNat x1_1.size).size ≤ 9223372036854775807) = true := decide_eq_true c21
             try have c21b2 : (9223372036854775807 < ((x1_1.extract 0 (t396 : Int).toNat) ++ (strOfNums y402)).size + (x1_1.extract (t396 : Int).toNat x1_1.size).size) = False := eq_false (Nat.not_lt.2 c21)
             have H' := Aside0.mk H
             clear H
             go_wp2_with (first | (go_at_call 40; (with_reducible refine (spec_l1Cur_pick.calls g s0_0 x1001_1 x1002_1 (x1_1.size : Int) t396 t397 t398 w0 _ ?side1 ?side2 A9.out).mono ?_); (case side1 => exact qi); (case side2 => exact qc); rintro e w22 ⟨rfl, hi, hb, hk⟩; replace HK := qT hk; replace HB := am hb; replace HI0 := am hi; (try clear hb hk hi)) | (go_at_call 40; (with_reducible refine (spec_l1Cur_pick.calls g s0_0 t397 t398 (a2.size : Int) t399 t400 t401 w0 _ ?side1 ?side2 A10.out).mono ?_); (case side1 => exact qi); (case side2 => exact qc); rintro e w23 ⟨rfl, hi, hb, hk⟩; replace HK := qT hk; replace HB := am hb; replace HI0 := am hi; (try clear hb hk hi); have p13 : 0 ≤ (t399 : Int) := of_decide_eq_true Q0; have q13 : t399 < (a2.size : Int) := of_decide_eq_true Q0; have hx13 := bt_at a2 t399; replace p13 := eq_true p13; replace q13 := eq_true q13) | ((with_reducible refine gate_dst (N := 32) rfl ?_); (try (refine gate_guard (by rfl) ?_; dsimp only)); refine Kd.R_lit (Kd.int .u8) _ 5 ?hg (N := 32) ?hd (xs := ([bt a2 t399] : List Int)) (inner := [.int .u8 (bt a2 t399)]) (ok := fun _ => True) (okp := fun _ => True) ?hr ?hp (fun _ hk => hk) trivial (Below.refl _ _) (Nat.le_refl _) (by simp) ?_; (case hd => rfl); (case hg => rfl); (case hr => first | (go_simp; done) | (go_simp; rfl)); (case hp => exact (Reps.one (show Kd.M (Kd.int .u8) _ _ _ (bt a2 t399) [.int .u8 (bt a2 t399)] from rfl) (Reps.none _ _))); intro v403 w24 ho25 hb hg_ hnew_; clear hg_ hnew_; (first | rw [← Ny402.out] at ho25 | (simp only [Int.reduceToNat] at ho25; rw [← Ny402.out] at ho25)); have Oq0 := qm ho25; replace HK := qU hb; replace HB := qt hb; replace HI0 := qj hb; clear hb ho25; have hcv26 := own_string (P := Tryd.prog) Tryd.underlying22 Tryd.underlying5 Tryd.underlying9 (Kd.own_of_R Oq0.out)) | (go_at_call 40; (with_reducible refine (spec_l1Cur_pick.calls g s0_0 t400 t401 3 t405 t406 t407 w0 _ ?side1 ?side2 A14.out).mono ?_); (case side1 => exact qi); (case side2 => exact qc); rintro e w27 ⟨rfl, hi, hb, hk⟩; replace Oq0 := qR Oq0 hk; replace HK := qT hk; replace HB := am hb; replace HI0 := am hi; (try clear hb hk hi)))
             repeat (go_quiet (first | (go_at_call 40; (with_reducible refine (spec_l1Cur_pick.calls g s0_0 x1001_1 x1002_1 (x1_1.size : Int) t396 t397 t398 w0 _ ?side1 ?side2 A9.out).mono ?_); (case side1 => exact qi); (case side2 => exact qc); rintro e w22 ⟨rfl, hi, hb, hk⟩; replace HK := qT hk; replace HB := am hb; replace HI0 := am hi; (try clear hb hk hi)) | (go_at_call 40; (with_reducible refine (spec_l1Cur_pick.calls g s0_0 t397 t398 (a2.size : Int) t399 t400 t401 w0 _ ?side1 ?side2 A10.out).mono ?_); (case side1 => exact qi); (case side2 => exact qc); rintro e w23 ⟨rfl, hi, hb, hk⟩; replace HK := qT hk; replace HB := am hb; replace HI0 := am hi; (try clear hb hk hi); have p13 : 0 ≤ (t399 : Int) := of_decide_eq_true Q0; have q13 : t399 < (a2.size : Int) := of_decide_eq_true Q0; have hx13 := bt_at a2 t399; replace p13 := eq_true p13; replace q13 := eq_true q13) | ((with_reducible refine gate_dst (N := 32) rfl ?_); (try (refine gate_guard (by rfl) ?_; dsimp only)); refine Kd.R_lit (Kd.int .u8) _ 5 ?hg (N := 32) ?hd (xs := ([bt a2 t399] : List Int)) (inner := [.int .u8 (bt a2 t399)]) (ok := fun _ => True) (okp := fun _ => True) ?hr ?hp (fun _ hk => hk) trivial (Below.refl _ _) (Nat.le_refl _) (by simp) ?_; (case hd => rfl); (case hg => rfl); (case hr => first | (go_simp; done) | (go_simp; rfl)); (case hp => exact (Reps.one (show Kd.M (Kd.int .u8) _ _ _ (bt a2 t399) [.int .u8 (bt a2 t399)] from rfl) (Reps.none _ _))); intro v403 w24 ho25 hb hg_ hnew_; clear hg_ hnew_; (first | rw [← Ny402.out] at ho25 | (simp only [Int.reduceToNat] at ho25; rw [← Ny402.out] at ho25)); have Oq0 := qm ho25; replace HK := qU hb; replace HB := qt hb; replace HI0 := qj hb; clear hb ho25; have hcv26 := own_string (P := Tryd.prog) Tryd.underlying22 Tryd.underlying5 Tryd.underlying9 (Kd.own_of_R Oq0.out)) | (go_at_call 40; (with_reducible refine (spec_l1Cur_pick.calls g s0_0 t400 t401 3 t405 t406 t407 w0 _ ?side1 ?side2 A14.out).mono ?_); (case side1 => exact qi); (case side2 => exact qc); rintro e w27 ⟨rfl, hi, hb, hk⟩; replace Oq0 := qR Oq0 hk; replace HK := qT hk; replace HB := am hb; replace HI0 := am hi; (try clear hb hk hi))); try go_wp2_with (first | (go_at_call 40; (with_reducible refine (spec_l1Cur_pick.calls g s0_0 x1001_1 x1002_1 (x1_1.size : Int) t396 t397 t398 w0 _ ?side1 ?side2 A9.out).mono ?_); (case side1 => exact qi); (case side2 => exact qc); rintro e w22 ⟨rfl, hi, hb, hk⟩; have n0_ := qT hk; have n1_ := am hb; have n2_ := am hi; clear HK; clear HB; clear HI0; have HK := n0_; have HB := n1_; have HI0 := n2_; clear n0_ n1_ n2_; (try clear hb); (try clear hb2); (try clear hk); (try clear hi)) | (go_at_call 40; (with_reducible refine (spec_l1Cur_pick.calls g s0_0 t397 t398 (a2.size : Int) t399 t400 t401 w0 _ ?side1 ?side2 A10.out).mono ?_); (case side1 => exact qi); (case side2 => exact qc); rintro e w23 ⟨rfl, hi, hb, hk⟩; have n0_ := qT hk; have n1_ := am hb; have n2_ := am hi; clear HK; clear HB; clear HI0; have HK := n0_; have HB := n1_; have HI0 := n2_; clear n0_ n1_ n2_; (try clear hb); (try clear hb2); (try clear hk); (try clear hi); have p13 : 0 ≤ (t399 : Int) := of_decide_eq_true Q0; have q13 : t399 < (a2.size : Int) := of_decide_eq_true Q0; have hx13 := bt_at a2 t399; replace p13 := eq_true p13; replace q13 := eq_true q13) | ((with_reducible refine gate_dst (N := 32) rfl ?_); (try (refine gate_guard (by rfl) ?_; dsimp only)); refine Kd.R_lit (Kd.int .u8) _ 5 ?hg (N := 32) ?hd (xs := ([bt a2 t399] : List Int)) (inner := [.int .u8 (bt a2 t399)]) (ok := fun _ => True) (okp := fun _ => True) ?hr ?hp (fun _ hk => hk) trivial (Below.refl _ _) (Nat.le_refl _) (by simp) ?_; (case hd => rfl); (case hg => rfl); (case hr => first | (go_simp; done) | (go_simp; rfl)); (case hp => exact (Reps.one (show Kd.M (Kd.int .u8) _ _ _ (bt a2 t399) [.int .u8 (bt a2 t399)] from rfl) (Reps.none _ _))); intro v403 w24 ho25 hb hg_ hnew_; clear hg_ hnew_; (first | rw [← Ny402.out] at ho25 | (simp only [Int.reduceToNat] at ho25; rw [← Ny402.out] at ho25)); have n0_ := qm ho25; have n1_ := qj hb; have n2_ := qU hb; have n3_ := qt hb; clear HI0; clear HK; clear HB; have Oq0 := n0_; have HI0 := n1_; have HK := n2_; have HB := n3_; clear n0_ n1_ n2_ n3_; clear hb ho25; have hcv26 := own_string (P := Tryd.prog) Tryd.underlying22 Tryd.underlying5 Tryd.underlying9 (Kd.own_of_R Oq0.out)) | (go_at_call 40; (with_reducible refine (spec_l1Cur_pick.calls g s0_0 t400 t401 3 t405 t406 t407 w0 _ ?side1 ?side2 A14.out).mono ?_); (case side1 => exact qi); (case side2 => exact qc); rintro e w27 ⟨rfl, hi, hb, hk⟩; have n0_ := qR Oq0 hk; have n1_ := qT hk; have n2_ := am hb; have n3_ := am hi; clear Oq0; clear HK; clear HB; clear HI0; have Oq0 := n0_; have HK := n1_; have HB := n2_; have HI0 := n3_; clear n0_ n1_ n2_ n3_; (try clear hb); (try clear hb2); (try clear hk); (try clear hi))))
             go_roundg kj5
             case measure => have := HK1.out; have := HJ5.out; omega
             case rel => exact ⟨(((x1_1.extract 0 (t396 : Int).toNat) ++ (strOfNums y402)) ++ (x1_1.extract (t396 : Int).toNat x1_1.size)), (wrap64 (x7_1 - 1)), (t406), (t407), Q2, Q2, H', ⟨by have := HK1.out; have := HJ5.out; omega⟩, ⟨qi⟩, ⟨qk⟩, ⟨qc⟩⟩
            ·
             rw [if_neg c21] at H
             exact absurd H (by simp)
           ·
            rw [if_neg c18] at H
            exact absurd H (by simp)
          ·
           rw [if_neg c17] at H
           exact absurd H (by simp)
         ·
          rw [if_neg c16] at H
          exact absurd H (by simp)
        ·
         rw [if_neg c15] at H
         have c15b0 : (t405 == 0) = false := beq_eq_false_iff_ne.mpr c15
         have c15b1 : (t405 != 0) = true := bne_iff_ne.mpr c15
         by_cases c28 : t405 = 1
         ·
          rw [if_pos c28] at H
          have c28b0 : (t405 == 1) = true := beq_iff_eq.mpr c28
          have c28b1 : (t405 != 1) = false := bne_eq_false_iff_eq.mpr c28
          clear c28
          by_cases c29 : 0 ≤ t396
          ·
           rw [if_pos c29] at H
           have c29b0 := eq_true c29
           have c29b1 : decide (0 ≤ t396) = true := decide_eq_true c29
           clear c29
           by_cases c30 : t396 ≤ (x1_1.size : Int)
           ·
            rw [if_pos c30] at H
            have c30b0 := eq_true c30
            have c30b1 : decide (t396 ≤ (x1_1.size : Int)) = true := decide_eq_true c30
            clear c30
            by_cases c31 : (x1_1.extract 0 (t396 : Int).toNat).size + (strOfNums y402).size ≤ 9223372036854775807
            ·
             rw [if_pos c31] at H
             have c31b0 := eq_true c31
             have c31b1 : decide ((x1_1.extract 0 (t396 : Int).toNat).size + (strOfNums y402).size ≤ 9223372036854775807) = true := decide_eq_true c31
             try have c31b2 : (9223372036854775807 < (x1_1.extract 0 (t396 : Int).toNat).size + (strOfNums y402).size) = False := eq_false (Nat.not_lt.2 c31)
             obtain ⟨ji32, hji32⟩ : ∃ j_ : Int, (wrap64 (t396 + 1)) = j_ := ⟨_, rfl⟩
             replace H : (if 0 ≤ (ji32) then (if (ji32) ≤ (x1_1.size : Int) then (if ((x1_1.extract 0 (t396 : Int).toNat) ++ (strOfNums y402)).size + (x1_1.extract ((ji32) : Int).toNat x1_1.size).size ≤ 9223372036854775807 then (spec_l1Cur_spoilt.l0 kj5 (((x1_1.extract 0 (t396 : Int).toNat) ++ (strOfNums y402)) ++ (x1_1.extract ((ji32) : Int).toNat x1_1.size)) a2 (wrap64 (x7_1 - 1)) s0_0 t406 t407) else (none)) else (none)) else (none)) = some (r1, r2, r3) := by first | (rw [hji32] at H; exact H) | (simp only [hji32] at H ⊢; exact H)
             (try rw [hji32] at A9)
             (try rw [hji32] at A10)
             (try rw [hji32] at A14)
             have hji32w : (IntKind.i64.wrap (t396 + 1)) = ji32 := (i64_w _).trans hji32
             by_cases c33 : 0 ≤ (ji32)
             ·
              rw [if_pos c33] at H
              have c33b0 := eq_true c33
              have c33b1 : decide (0 ≤ (ji32)) = true := decide_eq_true c33
              clear c33
              by_cases c34 : (ji32) ≤ (x1_1.size : Int)
              ·
               rw [if_pos c34] at H
               have c34b0 := eq_true c34
               have c34b1 : decide ((ji32) ≤ (x1_1.size : Int)) = true := decide_eq_true c34
               clear c34
               by_cases c35 : ((x1_1.extract 0 (t396 : Int).toNat) ++ (strOfNums y402)).size + (x1_1.extract ((ji32) : Int).toNat x1_1.size).size ≤ 9223372036854775807
               ·
                rw [if_pos c35] at H
                have c35b0 := eq_true c35
                have c35b1 : decide (((x1_1.extract 0 (t396 : Int).toNat) ++ (strOfNums y402)).size + (x1_1.extract ((ji32) : Int).toNat x1_1.size).size ≤ 9223372036854775807) = true := decide_eq_true c35
                try have c35b2 : (9223372036854775807 < ((x1_1.extract 0 (t396 : Int).toNat) ++ (strOfNums y402)).size + (x1_1.extract ((ji32) : Int).toNat x1_1.size).size) = False := eq_false (Nat.not_lt.2 c35)
                have H' := Aside0.mk H
                clear H
                go_wp2_with (first | (go_at_call 40; (with_reducible refine (spec_l1Cur_pick.calls g s0_0 x1001_1 x1002_1 (x1_1.size : Int) t396 t397 t398 w0 _ ?side1 ?side2 A9.out).mono ?_); (case side1 => exact qi); (case side2 => exact qc); rintro e w36 ⟨rfl, hi, hb, hk⟩; replace HK := qT hk; replace HB := am hb; replace HI0 := am hi; (try clear hb hk hi)) | (go_at_call 40; (with_reducible refine (spec_l1Cur_pick.calls g s0_0 t397 t398 (a2.size : Int) t399 t400 t401 w0 _ ?side1 ?side2 A10.out).mono ?_); (case side1 => exact qi); (case side2 => exact qc); rintro e w37 ⟨rfl, hi, hb, hk⟩; replace HK := qT hk; replace HB := am hb; replace HI0 := am hi; (try clear hb hk hi); have p13 : 0 ≤ (t399 : Int) := of_decide_eq_true Q0; have q13 : t399 < (a2.size : Int) := of_decide_eq_true Q0; have hx13 := bt_at a2 t399; replace p13 := eq_true p13; replace q13 := eq_true q13) | ((with_reducible refine gate_dst (N := 32) rfl ?_); (try (refine gate_guard (by rfl) ?_; dsimp only)); refine Kd.R_lit (Kd.int .u8) _ 5 ?hg (N := 32) ?hd (xs := ([bt a2 t399] : List Int)) (inner := [.int .u8 (bt a2 t399)]) (ok := fun _ => True) (okp := fun _ => True) ?hr ?hp (fun _ hk => hk) trivial (Below.refl _ _) (Nat.le_refl _) (by simp) ?_; (case hd => rfl); (case hg => rfl); (case hr => first | (go_simp; done) | (go_simp; rfl)); (case hp => exact (Reps.one (show Kd.M (Kd.int .u8) _ _ _ (bt a2 t399) [.int .u8 (bt a2 t399)] from rfl) (Reps.none _ _))); intro v403 w38 ho39 hb hg_ hnew_; clear hg_ hnew_; (first | rw [← Ny402.out] at ho39 | (simp only [Int.reduceToNat] at ho39; rw [← Ny402.out] at ho39)); have Oq0 := qm ho39; replace HK := qU hb; replace HB := qt hb; replace HI0 := qj hb; clear hb ho39; have hcv40 := own_string (P := Tryd.prog) Tryd.underlying22 Tryd.underlying5 Tryd.underlying9 (Kd.own_of_R Oq0.out)) | (go_at_call 40; (with_reducible refine (spec_l1Cur_pick.calls g s0_0 t400 t401 3 t405 t406 t407 w0 _ ?side1 ?side2 A14.out).mono ?_); (case side1 => exact qi); (case side2 => exact qc); rintro e w41 ⟨rfl, hi, hb, hk⟩; replace Oq0 := qR Oq0 hk; replace HK := qT hk; replace HB := am hb; replace HI0 := am hi; (try clear hb hk hi)))
                repeat (go_quiet (first | (go_at_call 40; (with_reducible refine (spec_l1Cur_pick.calls g s0_0 x1001_1 x1002_1 (x1_1.size : Int) t396 t397 t398 w0 _ ?side1 ?side2 A9.out).mono ?_); (case side1 => exact qi); (case side2 => exact qc); rintro e w36 ⟨rfl, hi, hb, hk⟩; replace HK := qT hk; replace HB := am hb; replace HI0 := am hi; (try clear hb hk hi)) | (go_at_call 40; (with_reducible refine (spec_l1Cur_pick.calls g s0_0 t397 t398 (a2.size : Int) t399 t400 t401 w0 _ ?side1 ?side2 A10.out).mono ?_); (case side1 => exact qi); (case side2 => exact qc); rintro e w37 ⟨rfl, hi, hb, hk⟩; replace HK := qT hk; replace HB := am hb; replace HI0 := am hi; (try clear hb hk hi); have p13 : 0 ≤ (t399 : Int) := of_decide_eq_true Q0; have q13 : t399 < (a2.size : Int) := of_decide_eq_true Q0; have hx13 := bt_at a2 t399; replace p13 := eq_true p13; replace q13 := eq_true q13) | ((with_reducible refine gate_dst (N := 32) rfl ?_); (try (refine gate_guard (by rfl) ?_; dsimp only)); refine Kd.R_lit (Kd.int .u8) _ 5 ?hg (N := 32) ?hd (xs := ([bt a2 t399] : List Int)) (inner := [.int .u8 (bt a2 t399)]) (ok := fun _ => True) (okp := fun _ => True) ?hr ?hp (fun _ hk => hk) trivial (Below.refl _ _) (Nat.le_refl _) (by simp) ?_; (case hd => rfl); (case hg => rfl); (case hr => first | (go_simp; done) | (go_simp; rfl)); (case hp => exact (Reps.one (show Kd.M (Kd.int .u8) _ _ _ (bt a2 t399) [.int .u8 (bt a2 t399)] from rfl) (Reps.none _ _))); intro v403 w38 ho39 hb hg_ hnew_; clear hg_ hnew_; (first | rw [← Ny402.out] at ho39 | (simp only [Int.reduceToNat] at ho39; rw [← Ny402.out] at ho39)); have Oq0 := qm ho39; replace HK := qU hb; replace HB := qt hb; replace HI0 := qj hb; clear hb ho39; have hcv40 := own_string (P := Tryd.prog) Tryd.underlying22 Tryd.underlying5 Tryd.underlying9 (Kd.own_of_R Oq0.out)) | (go_at_call 40; (with_reducible refine (spec_l1Cur_pick.calls g s0_0 t400 t401 3 t405 t406 t407 w0 _ ?side1 ?side2 A14.out).mono ?_); (case side1 => exact qi); (case side2 => exact qc); rintro e w41 ⟨rfl, hi, hb, hk⟩; replace Oq0 := qR Oq0 hk; replace HK := qT hk; replace HB := am hb; replace HI0 := am hi; (try clear hb hk hi))); try go_wp2_with (first | (go_at_call 40; (with_reducible refine (spec_l1Cur_pick.calls g s0_0 x1001_1 x1002_1 (x1_1.size : Int) t396 t397 t398 w0 _ ?side1 ?side2 A9.out).mono ?_); (case side1 => exact qi); (case side2 => exact qc); rintro e w36 ⟨rfl, hi, hb, hk⟩; have n0_ := qT hk; have n1_ := am hb; have n2_ := am hi; clear HK; clear HB; clear HI0; have HK := n0_; have HB := n1_; have HI0 := n2_; clear n0_ n1_ n2_; (try clear hb); (try clear hb2); (try clear hk); (try clear hi)) | (go_at_call 40; (with_reducible refine (spec_l1Cur_pick.calls g s0_0 t397 t398 (a2.size : Int) t399 t400 t401 w0 _ ?side1 ?side2 A10.out).mono ?_); (case side1 => exact qi); (case side2 => exact qc); rintro e w37 ⟨rfl, hi, hb, hk⟩; have n0_ := qT hk; have n1_ := am hb; have n2_ := am hi; clear HK; clear HB; clear HI0; have HK := n0_; have HB := n1_; have HI0 := n2_; clear n0_ n1_ n2_; (try clear hb); (try clear hb2); (try clear hk); (try clear hi); have p13 : 0 ≤ (t399 : Int) := of_decide_eq_true Q0; have q13 : t399 < (a2.size : Int) := of_decide_eq_true Q0; have hx13 := bt_at a2 t399; replace p13 := eq_true p13; replace q13 := eq_true q13) | ((with_reducible refine gate_dst (N := 32) rfl ?_); (try (refine gate_guard (by rfl) ?_; dsimp only)); refine Kd.R_lit (Kd.int .u8) _ 5 ?hg (N := 32) ?hd (xs := ([bt a2 t399] : List Int)) (inner := [.int .u8 (bt a2 t399)]) (ok := fun _ => True) (okp := fun _ => True) ?hr ?hp (fun _ hk => hk) trivial (Below.refl _ _) (Nat.le_refl _) (by simp) ?_; (case hd => rfl); (case hg => rfl); (case hr => first | (go_simp; done) | (go_simp; rfl)); (case hp => exact (Reps.one (show Kd.M (Kd.int .u8) _ _ _ (bt a2 t399) [.int .u8 (bt a2 t399)] from rfl) (Reps.none _ _))); intro v403 w38 ho39 hb hg_ hnew_; clear hg_ hnew_; (first | rw [← Ny402.out] at ho39 | (simp only [Int.reduceToNat] at ho39; rw [← Ny402.out] at ho39)); have n0_ := qm ho39; have n1_ := qj hb; have n2_ := qU hb; have n3_ := qt hb; clear HI0; clear HK; clear HB; have Oq0 := n0_; have HI0 := n1_; have HK := n2_; have HB := n3_; clear n0_ n1_ n2_ n3_; clear hb ho39; have hcv40 := own_string (P := Tryd.prog) Tryd.underlying22 Tryd.underlying5 Tryd.underlying9 (Kd.own_of_R Oq0.out)) | (go_at_call 40; (with_reducible refine (spec_l1Cur_pick.calls g s0_0 t400 t401 3 t405 t406 t407 w0 _ ?side1 ?side2 A14.out).mono ?_); (case side1 => exact qi); (case side2 => exact qc); rintro e w41 ⟨rfl, hi, hb, hk⟩; have n0_ := qR Oq0 hk; have n1_ := qT hk; have n2_ := am hb; have n3_ := am hi; clear Oq0; clear HK; clear HB; clear HI0; have Oq0 := n0_; have HK := n1_; have HB := n2_; have HI0 := n3_; clear n0_ n1_ n2_ n3_; (try clear hb); (try clear hb2); (try clear hk); (try clear hi))))
                go_roundg kj5
                case measure => have := HK1.out; have := HJ5.out; omega
                case rel => exact ⟨(((x1_1.extract 0 (t396 : Int).toNat) ++ (strOfNums y402)) ++ (x1_1.extract ((ji32) : Int).toNat x1_1.size)), (wrap64 (x7_1 - 1)), (t406), (t407), (by first | rfl | (simp; done) | (simp only [← hji32] <;> (first | rfl | simp)) | (simp [*]; done)), Q2, H', ⟨by have := HK1.out; have := HJ5.out; omega⟩, ⟨qi⟩, ⟨qk⟩, ⟨qc⟩⟩
               ·
                rw [if_neg c35] at H
                exact absurd H (by simp)
              ·
               rw [if_neg c34] at H
               exact absurd H (by simp)
             ·
              rw [if_neg c33] at H
              exact absurd H (by simp)
            ·
             rw [if_neg c31] at H
             exact absurd H (by simp)
           ·
            rw [if_neg c30] at H
            exact absurd H (by simp)
          ·
           rw [if_neg c29] at H
           exact absurd H (by simp)
         ·
          rw [if_neg c28] at H
          have c28b0 : (t405 == 1) = false := beq_eq_false_iff_ne.mpr c28
          have c28b1 : (t405 != 1) = true := bne_iff_ne.mpr c28
          by_cases c42 : 0 ≤ t396
          ·
           rw [if_pos c42] at H
           have c42b0 := eq_true c42
           have c42b1 : decide (0 ≤ t396) = true := decide_eq_true c42
           clear c42
           by_cases c43 : t396 ≤ (x1_1.size : Int)
           ·
            rw [if_pos c43] at H
            have c43b0 := eq_true c43
            have c43b1 : decide (t396 ≤ (x1_1.size : Int)) = true := decide_eq_true c43
            clear c43
            obtain ⟨ji44, hji44⟩ : ∃ j_ : Int, (wrap64 (t396 + 1)) = j_ := ⟨_, rfl⟩
            replace H : (if 0 ≤ (ji44) then (if (ji44) ≤ (x1_1.size : Int) then (if (x1_1.extract 0 (t396 : Int).toNat).size + (x1_1.extract ((ji44) : Int).toNat x1_1.size).size ≤ 9223372036854775807 then (spec_l1Cur_spoilt.l0 kj5 ((x1_1.extract 0 (t396 : Int).toNat) ++ (x1_1.extract ((ji44) : Int).toNat x1_1.size)) a2 (wrap64 (x7_1 - 1)) s0_0 t406 t407) else (none)) else (none)) else (none)) = some (r1, r2, r3) := by first | (rw [hji44] at H; exact H) | (simp only [hji44] at H ⊢; exact H)
            (try rw [hji44] at A9)
            (try rw [hji44] at A10)
            (try rw [hji44] at A14)
            have hji44w : (IntKind.i64.wrap (t396 + 1)) = ji44 := (i64_w _).trans hji44
            by_cases c45 : 0 ≤ (ji44)
            ·
             rw [if_pos c45] at H
             have c45b0 := eq_true c45
             have c45b1 : decide (0 ≤ (ji44)) = true := decide_eq_true c45
             clear c45
             by_cases c46 : (ji44) ≤ (x1_1.size : Int)
             ·
              rw [if_pos c46] at H
              have c46b0 := eq_true c46
              have c46b1 : decide ((ji44) ≤ (x1_1.size : Int)) = true := decide_eq_true c46
              clear c46
              by_cases c47 : (x1_1.extract 0 (t396 : Int).toNat).size + (x1_1.extract ((ji44) : Int).toNat x1_1.size).size ≤ 9223372036854775807
              ·
               rw [if_pos c47] at H
               have c47b0 := eq_true c47
               have c47b1 : decide ((x1_1.extract 0 (t396 : Int).toNat).size + (x1_1.extract ((ji44) : Int).toNat x1_1.size).size ≤ 9223372036854775807) = true := decide_eq_true c47
               try have c47b2 : (9223372036854775807 < (x1_1.extract 0 (t396 : Int).toNat).size + (x1_1.extract ((ji44) : Int).toNat x1_1.size).size) = False := eq_false (Nat.not_lt.2 c47)
               have H' := Aside0.mk H
               clear H
               go_wp2_with (first | (go_at_call 40; (with_reducible refine (spec_l1Cur_pick.calls g s0_0 x1001_1 x1002_1 (x1_1.size : Int) t396 t397 t398 w0 _ ?side1 ?side2 A9.out).mono ?_); (case side1 => exact qi); (case side2 => exact qc); rintro e w48 ⟨rfl, hi, hb, hk⟩; replace HK := qT hk; replace HB := am hb; replace HI0 := am hi; (try clear hb hk hi)) | (go_at_call 40; (with_reducible refine (spec_l1Cur_pick.calls g s0_0 t397 t398 (a2.size : Int) t399 t400 t401 w0 _ ?side1 ?side2 A10.out).mono ?_); (case side1 => exact qi); (case side2 => exact qc); rintro e w49 ⟨rfl, hi, hb, hk⟩; replace HK := qT hk; replace HB := am hb; replace HI0 := am hi; (try clear hb hk hi); have p13 : 0 ≤ (t399 : Int) := of_decide_eq_true Q0; have q13 : t399 < (a2.size : Int) := of_decide_eq_true Q0; have hx13 := bt_at a2 t399; replace p13 := eq_true p13; replace q13 := eq_true q13) | ((with_reducible refine gate_dst (N := 32) rfl ?_); (try (refine gate_guard (by rfl) ?_; dsimp only)); refine Kd.R_lit (Kd.int .u8) _ 5 ?hg (N := 32) ?hd (xs := ([bt a2 t399] : List Int)) (inner := [.int .u8 (bt a2 t399)]) (ok := fun _ => True) (okp := fun _ => True) ?hr ?hp (fun _ hk => hk) trivial (Below.refl _ _) (Nat.le_refl _) (by simp) ?_; (case hd => rfl); (case hg => rfl); (case hr => first | (go_simp; done) | (go_simp; rfl)); (case hp => exact (Reps.one (show Kd.M (Kd.int .u8) _ _ _ (bt a2 t399) [.int .u8 (bt a2 t399)] from rfl) (Reps.none _ _))); intro v403 w50 ho51 hb hg_ hnew_; clear hg_ hnew_; (first | rw [← Ny402.out] at ho51 | (simp only [Int.reduceToNat] at ho51; rw [← Ny402.out] at ho51)); have Oq0 := qm ho51; replace HK := qU hb; replace HB := qt hb; replace HI0 := qj hb; clear hb ho51; have hcv52 := own_string (P := Tryd.prog) Tryd.underlying22 Tryd.underlying5 Tryd.underlying9 (Kd.own_of_R Oq0.out)) | (go_at_call 40; (with_reducible refine (spec_l1Cur_pick.calls g s0_0 t400 t401 3 t405 t406 t407 w0 _ ?side1 ?side2 A14.out).mono ?_); (case side1 => exact qi); (case side2 => exact qc); rintro e w53 ⟨rfl, hi, hb, hk⟩; replace Oq0 := qR Oq0 hk; replace HK := qT hk; replace HB := am hb; replace HI0 := am hi; (try clear hb hk hi)))
               repeat (go_quiet (first | (go_at_call 40; (with_reducible refine (spec_l1Cur_pick.calls g s0_0 x1001_1 x1002_1 (x1_1.size : Int) t396 t397 t398 w0 _ ?side1 ?side2 A9.out).mono ?_); (case side1 => exact qi); (case side2 => exact qc); rintro e w48 ⟨rfl, hi, hb, hk⟩; replace HK := qT hk; replace HB := am hb; replace HI0 := am hi; (try clear hb hk hi)) | (go_at_call 40; (with_reducible refine (spec_l1Cur_pick.calls g s0_0 t397 t398 (a2.size : Int) t399 t400 t401 w0 _ ?side1 ?side2 A10.out).mono ?_); (case side1 => exact qi); (case side2 => exact qc); rintro e w49 ⟨rfl, hi, hb, hk⟩; replace HK := qT hk; replace HB := am hb; replace HI0 := am hi; (try clear hb hk hi); have p13 : 0 ≤ (t399 : Int) := of_decide_eq_true Q0; have q13 : t399 < (a2.size : Int) := of_decide_eq_true Q0; have hx13 := bt_at a2 t399; replace p13 := eq_true p13; replace q13 := eq_true q13) | ((with_reducible refine gate_dst (N := 32) rfl ?_); (try (refine gate_guard (by rfl) ?_; dsimp only)); refine Kd.R_lit (Kd.int .u8) _ 5 ?hg (N := 32) ?hd (xs := ([bt a2 t399] : List Int)) (inner := [.int .u8 (bt a2 t399)]) (ok := fun _ => True) (okp := fun _ => True) ?hr ?hp (fun _ hk => hk) trivial (Below.refl _ _) (Nat.le_refl _) (by simp) ?_; (case hd => rfl); (case hg => rfl); (case hr => first | (go_simp; done) | (go_simp; rfl)); (case hp => exact (Reps.one (show Kd.M (Kd.int .u8) _ _ _ (bt a2 t399) [.int .u8 (bt a2 t399)] from rfl) (Reps.none _ _))); intro v403 w50 ho51 hb hg_ hnew_; clear hg_ hnew_; (first | rw [← Ny402.out] at ho51 | (simp only [Int.reduceToNat] at ho51; rw [← Ny402.out] at ho51)); have Oq0 := qm ho51; replace HK := qU hb; replace HB := qt hb; replace HI0 := qj hb; clear hb ho51; have hcv52 := own_string (P := Tryd.prog) Tryd.underlying22 Tryd.underlying5 Tryd.underlying9 (Kd.own_of_R Oq0.out)) | (go_at_call 40; (with_reducible refine (spec_l1Cur_pick.calls g s0_0 t400 t401 3 t405 t406 t407 w0 _ ?side1 ?side2 A14.out).mono ?_); (case side1 => exact qi); (case side2 => exact qc); rintro e w53 ⟨rfl, hi, hb, hk⟩; replace Oq0 := qR Oq0 hk; replace HK := qT hk; replace HB := am hb; replace HI0 := am hi; (try clear hb hk hi))); try go_wp2_with (first | (go_at_call 40; (with_reducible refine (spec_l1Cur_pick.calls g s0_0 x1001_1 x1002_1 (x1_1.size : Int) t396 t397 t398 w0 _ ?side1 ?side2 A9.out).mono ?_); (case side1 => exact qi); (case side2 => exact qc); rintro e w48 ⟨rfl, hi, hb, hk⟩; have n0_ := qT hk; have n1_ := am hb; have n2_ := am hi; clear HK; clear HB; clear HI0; have HK := n0_; have HB := n1_; have HI0 := n2_; clear n0_ n1_ n2_; (try clear hb); (try clear hb2); (try clear hk); (try clear hi)) | (go_at_call 40; (with_reducible refine (spec_l1Cur_pick.calls g s0_0 t397 t398 (a2.size : Int) t399 t400 t401 w0 _ ?side1 ?side2 A10.out).mono ?_); (case side1 => exact qi); (case side2 => exact qc); rintro e w49 ⟨rfl, hi, hb, hk⟩; have n0_ := qT hk; have n1_ := am hb; have n2_ := am hi; clear HK; clear HB; clear HI0; have HK := n0_; have HB := n1_; have HI0 := n2_; clear n0_ n1_ n2_; (try clear hb); (try clear hb2); (try clear hk); (try clear hi); have p13 : 0 ≤ (t399 : Int) := of_decide_eq_true Q0; have q13 : t399 < (a2.size : Int) := of_decide_eq_true Q0; have hx13 := bt_at a2 t399; replace p13 := eq_true p13; replace q13 := eq_true q13) | ((with_reducible refine gate_dst (N := 32) rfl ?_); (try (refine gate_guard (by rfl) ?_; dsimp only)); refine Kd.R_lit (Kd.int .u8) _ 5 ?hg (N := 32) ?hd (xs := ([bt a2 t399] : List Int)) (inner := [.int .u8 (bt a2 t399)]) (ok := fun _ => True) (okp := fun _ => True) ?hr ?hp (fun _ hk => hk) trivial (Below.refl _ _) (Nat.le_refl _) (by simp) ?_; (case hd => rfl); (case hg => rfl); (case hr => first | (go_simp; done) | (go_simp; rfl)); (case hp => exact (Reps.one (show Kd.M (Kd.int .u8) _ _ _ (bt a2 t399) [.int .u8 (bt a2 t399)] from rfl) (Reps.none _ _))); intro v403 w50 ho51 hb hg_ hnew_; clear hg_ hnew_; (first | rw [← Ny402.out] at ho51 | (simp only [Int.reduceToNat] at ho51; rw [← Ny402.out] at ho51)); have n0_ := qm ho51; have n1_ := qj hb; have n2_ := qU hb; have n3_ := qt hb; clear HI0; clear HK; clear HB; have Oq0 := n0_; have HI0 := n1_; have HK := n2_; have HB := n3_; clear n0_ n1_ n2_ n3_; clear hb ho51; have hcv52 := own_string (P := Tryd.prog) Tryd.underlying22 Tryd.underlying5 Tryd.underlying9 (Kd.own_of_R Oq0.out)) | (go_at_call 40; (with_reducible refine (spec_l1Cur_pick.calls g s0_0 t400 t401 3 t405 t406 t407 w0 _ ?side1 ?side2 A14.out).mono ?_); (case side1 => exact qi); (case side2 => exact qc); rintro e w53 ⟨rfl, hi, hb, hk⟩; have n0_ := qR Oq0 hk; have n1_ := qT hk; have n2_ := am hb; have n3_ := am hi; clear Oq0; clear HK; clear HB; clear HI0; have Oq0 := n0_; have HK := n1_; have HB := n2_; have HI0 := n3_; clear n0_ n1_ n2_ n3_; (try clear hb); (try clear hb2); (try clear hk); (try clear hi))))
               go_roundg kj5
               case measure => have := HK1.out; have := HJ5.out; omega
               case rel => exact ⟨((x1_1.extract 0 (t396 : Int).toNat) ++ (x1_1.extract ((ji44) : Int).toNat x1_1.size)), (wrap64 (x7_1 - 1)), (t406), (t407), (by first | rfl | (simp; done) | (simp only [← hji44] <;> (first | rfl | simp)) | (simp [*]; done)), Q2, H', ⟨by have := HK1.out; have := HJ5.out; omega⟩, ⟨qi⟩, ⟨qk⟩, ⟨qc⟩⟩
              ·
               rw [if_neg c47] at H
               exact absurd H (by simp)
             ·
              rw [if_neg c46] at H
              exact absurd H (by simp)
            ·
             rw [if_neg c45] at H
             exact absurd H (by simp)
           ·
            rw [if_neg c43] at H
            exact absurd H (by simp)
          ·
           rw [if_neg c42] at H
           exact absurd H (by simp)
       ·
        rw [if_neg c12] at H
        exact absurd H (by simp)
      ·
       rw [if_neg c11] at H
       exact absurd H (by simp)
     ·
      replace c8 := Bool.eq_false_iff.mpr c8
      subst c8
      have H1 : (some (x1_1, x1001_1, x1002_1)) = some (r1, r2, r3) := by first | (rw [if_neg (show ¬ (false = true) by decide)] at H; exact H) | rfl
      clear H
      have H := H1
      clear H1
      simp only [Option.some.injEq, Prod.mk.injEq] at H
      obtain ⟨rfl, rfl, rfl⟩ := H
      go_wp2
      repeat (go_quiet (fail); try go_wp2)
      go_ret
      exact ⟨Q1, qi, qc, qk⟩

/-! ### spec_DrawParseBoard: function 16 -/
def spec_DrawParseBoard.f (k : Nat) (l0 : List Int) : Option (ByteArray) := (spec_l1Cur_sides.f l0 0 0).bind fun bt409 => ((spec_l1Cur_sides.f l0 bt409.2.1 bt409.2.2).bind fun bt412 => ((spec_l1Cur_boardOf.f k l0 bt412.2.1 bt412.2.2 bt409.1 bt412.1).bind fun bt415 => ((spec_boText.f k bt415.1 bt415.2.1 bt415.2.2.1).bind fun t422 => ((spec_l1Cur_one.f l0 bt415.2.2.2.1 bt415.2.2.2.2 3).bind fun bt423 => (if bt423.1 = true then ((spec_l1Cur_spoilt.f k l0 bt423.2.1 bt423.2.2 t422 (⟨#[48, 49, 47, 50]⟩ : ByteArray)).bind fun bt426 => (some bt426.1)) else (some t422))))))
set_option maxHeartbeats 8000000 in
set_option maxRecDepth 100000 in
theorem spec_DrawParseBoard.calls (k : Nat) (A0 : Option Addr) (c0 : Nat) (l0 : List Int) (r : ByteArray) (w : World) (hr0 : Kd.C (Kd.int .u8) w A0 l0.length l0) (hc0 : l0.length ≤ c0) (h : spec_DrawParseBoard.f k l0 = some r) :
  Calls Tryd.prog 16 #[.slice A0 l0.length c0] w fun e w' => e = .returned (.string r) ∧ Below w.heap.size w w' := by
 have hu57 := Tryd.underlying57
 have HR0 := Aside0.mk hr0
 have HC0 := Aside0.mk hc0
 clear hr0 hc0
 have HB := am (Below.refl w.heap.size w)
 have H : ((spec_l1Cur_sides.f l0 0 0).bind fun bt409 => ((spec_l1Cur_sides.f l0 bt409.2.1 bt409.2.2).bind fun bt412 => ((spec_l1Cur_boardOf.f k l0 bt412.2.1 bt412.2.2 bt409.1 bt412.1).bind fun bt415 => ((spec_boText.f k bt415.1 bt415.2.1 bt415.2.2.1).bind fun t422 => ((spec_l1Cur_one.f l0 bt415.2.2.2.1 bt415.2.2.2.2 3).bind fun bt423 => (if bt423.1 = true then ((spec_l1Cur_spoilt.f k l0 bt423.2.1 bt423.2.2 t422 (⟨#[48, 49, 47, 50]⟩ : ByteArray)).bind fun bt426 => (some bt426.1)) else (some t422))))))) = some r := h
 clear h
 replace H := qE H
 obtain ⟨⟨t409, t410, t411⟩, A2, H⟩ := H
 replace H : ((spec_l1Cur_sides.f l0 t410 t411).bind fun bt412 => ((spec_l1Cur_boardOf.f k l0 bt412.2.1 bt412.2.2 t409 bt412.1).bind fun bt415 => ((spec_boText.f k bt415.1 bt415.2.1 bt415.2.2.1).bind fun t422 => ((spec_l1Cur_one.f l0 bt415.2.2.2.1 bt415.2.2.2.2 3).bind fun bt423 => (if bt423.1 = true then ((spec_l1Cur_spoilt.f k l0 bt423.2.1 bt423.2.2 t422 (⟨#[48, 49, 47, 50]⟩ : ByteArray)).bind fun bt426 => (some bt426.1)) else (some t422)))))) = some r := H
 replace H := qE H
 obtain ⟨⟨t412, t413, t414⟩, A3, H⟩ := H
 replace H : ((spec_l1Cur_boardOf.f k l0 t413 t414 t409 t412).bind fun bt415 => ((spec_boText.f k bt415.1 bt415.2.1 bt415.2.2.1).bind fun t422 => ((spec_l1Cur_one.f l0 bt415.2.2.2.1 bt415.2.2.2.2 3).bind fun bt423 => (if bt423.1 = true then ((spec_l1Cur_spoilt.f k l0 bt423.2.1 bt423.2.2 t422 (⟨#[48, 49, 47, 50]⟩ : ByteArray)).bind fun bt426 => (some bt426.1)) else (some t422))))) = some r := H
 replace H := qE H
 obtain ⟨⟨t415, t416, t417, t420, t421⟩, A4, H⟩ := H
 replace H : ((spec_boText.f k t415 t416 t417).bind fun t422 => ((spec_l1Cur_one.f l0 t420 t421 3).bind fun bt423 => (if bt423.1 = true then ((spec_l1Cur_spoilt.f k l0 bt423.2.1 bt423.2.2 t422 (⟨#[48, 49, 47, 50]⟩ : ByteArray)).bind fun bt426 => (some bt426.1)) else (some t422)))) = some r := H
 replace H := qE H
 obtain ⟨t422, A5, H⟩ := H
 replace H : ((spec_l1Cur_one.f l0 t420 t421 3).bind fun bt423 => (if bt423.1 = true then ((spec_l1Cur_spoilt.f k l0 bt423.2.1 bt423.2.2 t422 (⟨#[48, 49, 47, 50]⟩ : ByteArray)).bind fun bt426 => (some bt426.1)) else (some t422))) = some r := H
 replace H := qE H
 obtain ⟨⟨t423, t424, t425⟩, A6, H⟩ := H
 replace H : (if t423 = true then ((spec_l1Cur_spoilt.f k l0 t424 t425 t422 (⟨#[48, 49, 47, 50]⟩ : ByteArray)).bind fun bt426 => (some bt426.1)) else (some t422)) = some r := H
 by_cases c7 : t423 = true
 ·
  subst c7
  have H1 : ((spec_l1Cur_spoilt.f k l0 t424 t425 t422 (⟨#[48, 49, 47, 50]⟩ : ByteArray)).bind fun bt426 => (some bt426.1)) = some r := by first | (rw [if_pos rfl] at H; exact H) | rfl
  clear H
  have H := H1
  clear H1
  replace H := qE H
  obtain ⟨⟨t426, t427, t428⟩, A8, H⟩ := H
  replace H : (some t426) = some r := H
  obtain rfl := Option.some.inj H
  go_enter Tryd.func16, Tryd.ntmps16
  go_wp2_with (first | ((with_reducible refine gate_dst (N := 7) rfl ?_); refine qv 7 #[.slice A0 l0.length c0, .int .i64 0, .int .u64 0] 57 ?_; intro gb408 hg w9 hbox hb; have HI408 := am ((show IsS57 w w9 gb408 l0 0 0 from ⟨_, _, hbox, (by rw [hg]; exact (below_size qb) : w.heap.size ≤ gb408), HR0.out⟩)); have GW408 := qw hg; have GE408 := qw hg; replace HB := qs hb; clear hb hbox hg) | ((with_reducible refine gate_callee (f := 49) rfl ?_); refine qg (some 10) Tryd.func49 #[.pointer (some ⟨gb408, 0, none⟩)] ?_; (with_reducible refine (spec_l1Cur_sides.calls gb408 l0 0 0 t409 t410 t411 w _ ?side1 ?side2 A2.out).mono ?_); (case side1 => exact qi); (case side2 => exact qc); rintro e w10 ⟨rfl, hi, hb, hk⟩; refine ⟨_, rfl, ?_⟩; replace HB := am hb; replace HI408 := am hi; (try clear hb hk hi)) | ((with_reducible refine gate_callee (f := 49) rfl ?_); refine qg (some 12) Tryd.func49 #[.pointer (some ⟨gb408, 0, none⟩)] ?_; (with_reducible refine (spec_l1Cur_sides.calls gb408 l0 t410 t411 t412 t413 t414 w _ ?side1 ?side2 A3.out).mono ?_); (case side1 => exact qi); (case side2 => exact qc); rintro e w11 ⟨rfl, hi, hb, hk⟩; refine ⟨_, rfl, ?_⟩; replace HB := am hb; replace HI408 := am hi; (try clear hb hk hi)) | ((with_reducible refine gate_callee (f := 48) rfl ?_); refine qg (some 13) Tryd.func48 #[.pointer (some ⟨gb408, 0, none⟩), .int .i64 t409, .int .i64 t412] ?_; (with_reducible refine (spec_l1Cur_boardOf.calls k gb408 l0 t413 t414 t409 t412 t415 t416 t417 t420 t421 w _ ?side1 ?side2 A4.out).mono ?_); (case side1 => exact qi); (case side2 => exact qc); rintro e w12 ⟨v418, rfl, ho0, hi, hb, hk⟩; refine ⟨_, rfl, ?_⟩; have Oq1 := qL ho0; replace HB := am hb; replace HI408 := am hi; (try clear hb hk hi ho0); obtain ⟨Ao13, co13, eo13⟩ := Kd.R_slice Oq1.out; subst eo13) | ((with_reducible refine gate_callee (f := 47) rfl ?_); refine qg (some 14) Tryd.func47 #[.agg #[.int .i64 t415, .int .i64 t416, .slice Ao13 t417.length co13]] ?_; (with_reducible refine (spec_boText.calls k t415 t416 _ _ t417 t422 _ ?side1 ?side2 A5.out).mono ?_); (case side1 => exact Q47); (case side2 => exact (Kd.R_reads' Oq1.out).2.1); rintro e w14 ⟨rfl, hb⟩; refine ⟨_, rfl, ?_⟩; replace Oq1 := sqR Oq1 hb; replace HB := qt hb; replace HI408 := qj hb; (try clear hb)) | ((with_reducible refine gate_callee (f := 42) rfl ?_); refine qg (some 16) Tryd.func42 #[.pointer (some ⟨gb408, 0, none⟩), .int .i64 3] ?_; (with_reducible refine (spec_l1Cur_one.calls gb408 l0 t420 t421 3 true t424 t425 w _ ?side1 ?side2 A6.out).mono ?_); (case side1 => exact qi); (case side2 => exact qc); rintro e w15 ⟨rfl, hi, hb, hk⟩; refine ⟨_, rfl, ?_⟩; replace Oq1 := qR Oq1 hk; replace HB := am hb; replace HI408 := am hi; (try clear hb hk hi)) | ((with_reducible refine gate_callee (f := 50) rfl ?_); refine qg (some 19) Tryd.func50 #[.pointer (some ⟨gb408, 0, none⟩), .string t422, .string (⟨#[48, 49, 47, 50]⟩ : ByteArray)] ?_; (with_reducible refine (spec_l1Cur_spoilt.calls k gb408 l0 t424 t425 t422 (⟨#[48, 49, 47, 50]⟩ : ByteArray) t426 t427 t428 w _ ?side1 ?side2 A8.out).mono ?_); (case side1 => exact qi); (case side2 => exact qc); rintro e w16 ⟨rfl, hi, hb, hk⟩; refine ⟨_, rfl, ?_⟩; replace Oq1 := qR Oq1 hk; replace HB := am hb; replace HI408 := am hi; (try clear hb hk hi)))
  go_ret
  exact ⟨Q1, qc⟩
 ·
  replace c7 := Bool.eq_false_iff.mpr c7
  subst c7
  have H1 : (some t422) = some r := by first | (rw [if_neg (show ¬ (false = true) by decide)] at H; exact H) | rfl
  clear H
  have H := H1
  clear H1
  obtain rfl := Option.some.inj H
  go_enter Tryd.func16, Tryd.ntmps16
  go_wp2_with (first | ((with_reducible refine gate_dst (N := 7) rfl ?_); refine qv 7 #[.slice A0 l0.length c0, .int .i64 0, .int .u64 0] 57 ?_; intro gb408 hg w17 hbox hb; have HI408 := am ((show IsS57 w w17 gb408 l0 0 0 from ⟨_, _, hbox, (by rw [hg]; exact (below_size qb) : w.heap.size ≤ gb408), HR0.out⟩)); have GW408 := qw hg; have GE408 := qw hg; replace HB := qs hb; clear hb hbox hg) | ((with_reducible refine gate_callee (f := 49) rfl ?_); refine qg (some 10) Tryd.func49 #[.pointer (some ⟨gb408, 0, none⟩)] ?_; (with_reducible refine (spec_l1Cur_sides.calls gb408 l0 0 0 t409 t410 t411 w _ ?side1 ?side2 A2.out).mono ?_); (case side1 => exact qi); (case side2 => exact qc); rintro e w18 ⟨rfl, hi, hb, hk⟩; refine ⟨_, rfl, ?_⟩; replace HB := am hb; replace HI408 := am hi; (try clear hb hk hi)) | ((with_reducible refine gate_callee (f := 49) rfl ?_); refine qg (some 12) Tryd.func49 #[.pointer (some ⟨gb408, 0, none⟩)] ?_; (with_reducible refine (spec_l1Cur_sides.calls gb408 l0 t410 t411 t412 t413 t414 w _ ?side1 ?side2 A3.out).mono ?_); (case side1 => exact qi); (case side2 => exact qc); rintro e w19 ⟨rfl, hi, hb, hk⟩; refine ⟨_, rfl, ?_⟩; replace HB := am hb; replace HI408 := am hi; (try clear hb hk hi)) | ((with_reducible refine gate_callee (f := 48) rfl ?_); refine qg (some 13) Tryd.func48 #[.pointer (some ⟨gb408, 0, none⟩), .int .i64 t409, .int .i64 t412] ?_; (with_reducible refine (spec_l1Cur_boardOf.calls k gb408 l0 t413 t414 t409 t412 t415 t416 t417 t420 t421 w _ ?side1 ?side2 A4.out).mono ?_); (case side1 => exact qi); (case side2 => exact qc); rintro e w20 ⟨v418, rfl, ho0, hi, hb, hk⟩; refine ⟨_, rfl, ?_⟩; have Oq1 := qL ho0; replace HB := am hb; replace HI408 := am hi; (try clear hb hk hi ho0); obtain ⟨Ao21, co21, eo21⟩ := Kd.R_slice Oq1.out; subst eo21) | ((with_reducible refine gate_callee (f := 47) rfl ?_); refine qg (some 14) Tryd.func47 #[.agg #[.int .i64 t415, .int .i64 t416, .slice Ao21 t417.length co21]] ?_; (with_reducible refine (spec_boText.calls k t415 t416 _ _ t417 t422 _ ?side1 ?side2 A5.out).mono ?_); (case side1 => exact Q47); (case side2 => exact (Kd.R_reads' Oq1.out).2.1); rintro e w22 ⟨rfl, hb⟩; refine ⟨_, rfl, ?_⟩; replace Oq1 := sqR Oq1 hb; replace HB := qt hb; replace HI408 := qj hb; (try clear hb)) | ((with_reducible refine gate_callee (f := 42) rfl ?_); refine qg (some 16) Tryd.func42 #[.pointer (some ⟨gb408, 0, none⟩), .int .i64 3] ?_; (with_reducible refine (spec_l1Cur_one.calls gb408 l0 t420 t421 3 false t424 t425 w _ ?side1 ?side2 A6.out).mono ?_); (case side1 => exact qi); (case side2 => exact qc); rintro e w23 ⟨rfl, hi, hb, hk⟩; refine ⟨_, rfl, ?_⟩; replace Oq1 := qR Oq1 hk; replace HB := am hb; replace HI408 := am hi; (try clear hb hk hi)))
  go_ret
  exact ⟨Q1, qc⟩

end Go.Proofs.YtllhofdgbpnkkaaDoor.PFnBoardsTurned
