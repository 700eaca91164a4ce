-- Printed for this claim by wip/pp.py over the kit's printer; Lean checks it.
import Derived.Test.YtllhofdgbpnkkaaPFnRookNumbersMultiplyx0
import Derived.Test.YtllhofdgbpnkkaaPFnRookNumbersMultiplyx3
namespace Go.Proofs.Ytllhofdgbpnkkaa.PFnRookNumbersMultiply
open Go.RowKit Go.Proofs.YtllhofdgbpnkkaaW.PrintWords Go.Proofs.YtllhofdgbpnkkaaW.PrintLast Go.Proofs.YtllhofdgbpnkkaaW.PrintMore
attribute [local go_sem] max2_int min2_int max_two min_two max_three min_three max_four min_four   -- for this text's walks alone
set_option linter.unusedVariables false
set_option linter.unusedSimpArgs false

/-! ### impl_product: function 82 -/
mutual
def impl_product.l0 : Nat → List Int → List Int → List Int → Int → Int → Option (List Int)
 | 0, _, _, _, _, _ => none
 | k + 1, x1, x5, x17, x18, x19 => if x19 < x18 then (if 0 ≤ x19 then (if x19 < (x17.length : Int) then (impl_product.l1 k x1 x5 x19 (rd x17 x19) x17 x18 x19 x1 (x1.length : Int) 0) else (none)) else (none)) else (some x5)
def impl_product.l1 : Nat → List Int → List Int → Int → Int → List Int → Int → Int → List Int → Int → Int → Option (List Int)
 | 0, _, _, _, _, _, _, _, _, _, _ => none
 | k + 1, x1, x5, x6, x7, x17, x18, x19, x24, x25, x26 => if x26 < x25 then (if 0 ≤ x26 then (if x26 < (x24.length : Int) then (if 0 ≤ (wrap64 (x6 + x26)) then (if (wrap64 (x6 + x26)) < (x5.length : Int) then (impl_product.l1 k x1 (x5.set ((wrap64 (x6 + x26)) : Int).toNat (wrap64 ((rd x5 (wrap64 (x6 + x26))) + (wrap64 (x7 * (rd x24 x26)))))) x6 x7 x17 x18 x19 x24 x25 (wrap64 (x26 + 1))) else (none)) else (none)) else (none)) else (none)) else (impl_product.l0 k x1 x5 x17 x18 (wrap64 (x19 + 1)))
end
def impl_product.f (k : Nat) (l0 : List Int) (l1 : List Int) : Option (List Int) := if 0 ≤ (wrap64 ((wrap64 ((l0.length : Int) + (l1.length : Int))) - 1)) then (if (wrap64 ((wrap64 ((l0.length : Int) + (l1.length : Int))) - 1) : Int).toNat ≤ 35184372088832 then (impl_product.l0 k l1 (List.replicate (wrap64 ((wrap64 ((l0.length : Int) + (l1.length : Int))) - 1) : Int).toNat 0) l0 (l0.length : Int) 0) else (none)) else (none)
set_option maxHeartbeats 8000000 in
set_option maxRecDepth 100000 in
theorem impl_product.calls (k : Nat) (A0 : Option Addr) (c0 : Nat) (l0 : List Int) (A1 : Option Addr) (c1 : Nat) (l1 : List Int) (r : List Int) (w : World) (hr0 : Kd.C (Kd.int .i64) w A0 l0.length l0) (hc0 : l0.length ≤ c0) (hr1 : Kd.C (Kd.int .i64) w A1 l1.length l1) (hc1 : l1.length ≤ c1) (h : impl_product.f k l0 l1 = some r) :
  Calls Try.prog 82 #[.slice A0 l0.length c0, .slice A1 l1.length c1] w fun e w' => ∃ v0_ : Value, e = .returned (v0_) ∧ Kd.R (Kd.int .i64) 3 w' w.heap.size (fun _ => True) v0_ r ∧ Below w.heap.size w w' := by
 have HR0 := Aside0.mk hr0
 have HC0 := Aside0.mk hc0
 clear hr0 hc0
 have HR1 := Aside0.mk hr1
 have HC1 := Aside0.mk hc1
 clear hr1 hc1
 have HB := am (Below.refl w.heap.size w)
 have H : (if 0 ≤ (wrap64 ((wrap64 ((l0.length : Int) + (l1.length : Int))) - 1)) then (if (wrap64 ((wrap64 ((l0.length : Int) + (l1.length : Int))) - 1) : Int).toNat ≤ 35184372088832 then (impl_product.l0 k l1 (List.replicate (wrap64 ((wrap64 ((l0.length : Int) + (l1.length : Int))) - 1) : Int).toNat 0) l0 (l0.length : Int) 0) else (none)) else (none)) = some r := h
 clear h
 obtain ⟨ji3, hji3⟩ : ∃ j_ : Int, (wrap64 ((wrap64 ((l0.length : Int) + (l1.length : Int))) - 1)) = j_ := ⟨_, rfl⟩
 replace H : (if 0 ≤ (ji3) then (if (ji3 : Int).toNat ≤ 35184372088832 then (impl_product.l0 k l1 (List.replicate (ji3 : Int).toNat 0) l0 (l0.length : Int) 0) else (none)) else (none)) = some r := by first | (rw [hji3] at H; exact H) | (simp only [hji3] at H ⊢; exact H)
 have hji3w : (IntKind.i64.wrap ((wrap64 ((l0.length : Int) + (l1.length : Int))) - 1)) = ji3 := (i64_w _).trans hji3
 by_cases c4 : 0 ≤ (ji3)
 ·
  rw [if_pos c4] at H
  have c4b0 := eq_true c4
  have c4b1 : decide (0 ≤ (ji3)) = true := decide_eq_true c4
  clear c4
  by_cases c5 : (ji3 : Int).toNat ≤ 35184372088832
  ·
   rw [if_pos c5] at H
   have c5b0 := eq_true c5
   have c5b1 : decide ((ji3 : Int).toNat ≤ 35184372088832) = true := decide_eq_true c5
   clear c5
   obtain ⟨y255, hy_⟩ : ∃ y_ : List Int, y_ = ((List.replicate (ji3 : Int).toNat 0)) := ⟨_, rfl⟩
   replace H : (impl_product.l0 k l1 y255 l0 (l0.length : Int) 0) = some r := qH
   have Ny255 := Aside0.mk hy_
   clear hy_
   have H' := Aside0.mk H
   clear H
   go_enter Try.func82, Try.ntmps82
   go_wp2_with (first | ((with_reducible refine gate_dst (N := 16) rfl ?_); refine Kd.R_make (Kd.int .i64) _ 3 rfl (N := 16) rfl 24 _ _ rfl ji3 rfl rfl Try.underlying24 (.int .i64 0) 8 info3 rfl (by decide) (by omega) 0 (ok := fun _ => True) (okp := fun _ => True) rfl (fun _ hk => hk) trivial (of_decide_eq_true Q0) (Nat.le_trans (Nat.mul_le_mul_right _ (of_decide_eq_true Q0 : ji3.toNat ≤ 35184372088832)) (by omega)) (Below.refl _ _) (Nat.le_refl _) ?_; intro v256 w6 ho7 hb hg_ hnew_; clear hg_ hnew_; (first | rw [← Ny255.out] at ho7 | (simp only [Int.reduceToNat] at ho7; rw [← Ny255.out] at ho7)); have Oq1 := ql ho7; replace HB := qs hb; clear hb ho7))
   go_loopg [19] k (fun kq v19 w' => ∃ (x5_1 : List Int) (x19_1 : Int), v19 = .int .i64 x19_1 ∧ Aside0 (impl_product.l0 kq l1 x5_1 l0 (l0.length : Int) x19_1 = some r) ∧ Aside0 (kq ≤ k) ∧ Aside0 (Kd.R (Kd.int .i64) 3 w' w.heap.size (fun _ => True) v256 x5_1) ∧ Aside0 (Below w.heap.size w w'))
   case atStart => exact ⟨(y255), (0), Q3, H', ⟨Nat.le_refl _⟩, ⟨by (with_reducible repeat (first | apply Kd.R_alloc | apply Kd.R_drewN | apply Kd.R_drew)); exact Oq1.out⟩, ⟨qb⟩⟩
   case round =>
    clear H'
    try clear c4; try clear c4b0; try clear c4b1; try clear c5; try clear c5b0; try clear c5b1
    obtain ⟨x5_1, x19_1, rfl, HA, HK1, Oq5, HB⟩ := hrel
    cases gk with
    | zero => exact absurd HA.out (by simp [impl_product.l0])
    | succ k1 =>
     have H := HA.out
     clear HA
     simp only [impl_product.l0] at H
     by_cases c8 : x19_1 < (l0.length : Int)
     ·
      rw [if_pos c8] at H
      have c8b0 : decide (x19_1 < (l0.length : Int)) = true := decide_eq_true c8
      clear c8
      by_cases c9 : 0 ≤ x19_1
      ·
       rw [if_pos c9] at H
       have c9b0 : decide (0 ≤ x19_1) = true := decide_eq_true c9
       clear c9
       by_cases c10 : x19_1 < (l0.length : Int)
       ·
        rw [if_pos c10] at H
        have c10b0 : decide (x19_1 < (l0.length : Int)) = true := decide_eq_true c10
        clear c10
        have H' := Aside0.mk H
        clear H
        have p258 : 0 ≤ (x19_1 : Int) := of_decide_eq_true Q0
        have q258 : x19_1 < (l0.length : Int) := of_decide_eq_true Q0
        obtain ⟨ad258, e258, hx258_0⟩ := Kd.at_int HR0.out x19_1 p258 q258
        cases e258
        replace hx258_0 := (HB.out.cell (World.block_lt_of_cell? w _ hx258_0)).trans hx258_0
        replace p258 := eq_true p258
        replace q258 := eq_true q258
        go_wp2
        go_loopg [26] k1 (fun kq v26 w' => ∃ (x5_2 : List Int) (x26_2 : Int), v26 = .int .i64 x26_2 ∧ Aside0 (impl_product.l1 kq l1 x5_2 x19_1 (rd l0 x19_1) l0 (l0.length : Int) x19_1 l1 (l1.length : Int) x26_2 = some r) ∧ Aside0 (kq ≤ k1) ∧ Aside0 (Kd.R (Kd.int .i64) 3 w' w.heap.size (fun _ => True) v256 x5_2) ∧ Aside0 (Below w.heap.size w w'))
        case atStart => exact ⟨(x5_1), (0), Q3, H', ⟨Nat.le_refl _⟩, ⟨Q19⟩, ⟨qb⟩⟩
        case round =>
         clear H'
         try clear c4; try clear c4b0; try clear c4b1; try clear c5; try clear c5b0; try clear c5b1; try clear c8; try clear c8b0; try clear c9; try clear c9b0; try clear c10; try clear c10b0; try clear hx258_0; try clear p258; try clear q258
         obtain ⟨x5_2, x26_2, rfl, HA, HK2, Oq5, HB⟩ := hrel
         cases gk with
         | zero => exact absurd HA.out (by simp [impl_product.l1])
         | succ k2 =>
          have H := HA.out
          clear HA
          simp only [impl_product.l1] at H
          by_cases c11 : x26_2 < (l1.length : Int)
          ·
           rw [if_pos c11] at H
           have c11b0 : decide (x26_2 < (l1.length : Int)) = true := decide_eq_true c11
           clear c11
           by_cases c12 : 0 ≤ x26_2
           ·
            rw [if_pos c12] at H
            have c12b0 : decide (0 ≤ x26_2) = true := decide_eq_true c12
            clear c12
            by_cases c13 : x26_2 < (l1.length : Int)
            ·
             rw [if_pos c13] at H
             have c13b0 : decide (x26_2 < (l1.length : Int)) = true := decide_eq_true c13
             clear c13
             obtain ⟨ji14, hji14⟩ : ∃ j_ : Int, (wrap64 (x19_1 + x26_2)) = j_ := ⟨_, rfl⟩
             replace H : (if 0 ≤ (ji14) then (if (ji14) < (x5_2.length : Int) then (impl_product.l1 k2 l1 (x5_2.set ((ji14) : Int).toNat (wrap64 ((rd x5_2 (ji14)) + (wrap64 ((rd l0 x19_1) * (rd l1 x26_2)))))) x19_1 (rd l0 x19_1) l0 (l0.length : Int) x19_1 l1 (l1.length : Int) (wrap64 (x26_2 + 1))) else (none)) else (none)) = some r := by first | (rw [hji14] at H; exact H) | (simp only [hji14] at H ⊢; exact H)
             have hji14w : (IntKind.i64.wrap (x19_1 + x26_2)) = ji14 := (i64_w _).trans hji14
             by_cases c15 : 0 ≤ (ji14)
             ·
              rw [if_pos c15] at H
              have c15b0 : decide (0 ≤ (ji14)) = true := decide_eq_true c15
              clear c15
              by_cases c16 : (ji14) < (x5_2.length : Int)
              ·
               rw [if_pos c16] at H
               have c16b0 : decide ((ji14) < (x5_2.length : Int)) = true := decide_eq_true c16
               clear c16
               obtain ⟨y261, hy_⟩ : ∃ y_ : List Int, y_ = ((x5_2.set ((ji14) : Int).toNat (wrap64 ((rd x5_2 (ji14)) + (wrap64 ((rd l0 x19_1) * (rd l1 x26_2))))))) := ⟨_, rfl⟩
               replace H : (impl_product.l1 k2 l1 y261 x19_1 (rd l0 x19_1) l0 (l0.length : Int) x19_1 l1 (l1.length : Int) (wrap64 (x26_2 + 1))) = some r := qH
               have Ny261 := Aside0.mk hy_
               clear hy_
               have H' := Aside0.mk H
               clear H
               have p259 : 0 ≤ (x26_2 : Int) := of_decide_eq_true Q0
               have q259 : x26_2 < (l1.length : Int) := of_decide_eq_true Q0
               obtain ⟨ad259, e259, hx259_0⟩ := Kd.at_int HR1.out x26_2 p259 q259
               cases e259
               replace hx259_0 := (HB.out.cell (World.block_lt_of_cell? w _ hx259_0)).trans hx259_0
               replace p259 := eq_true p259
               replace q259 := eq_true q259
               obtain ⟨Ao18, co18, eo18⟩ := Kd.R_slice Oq5.out
               subst eo18
               have p260 : 0 ≤ ((ji14) : Int) := of_decide_eq_true Q0
               have q260 : (ji14) < (x5_2.length : Int) := of_decide_eq_true Q0
               obtain ⟨ad260, e260, hx260_0⟩ := Kd.at_int (Kd.R_reads' Oq5.out).2.2 (ji14) p260 q260
               cases e260
               replace p260 := eq_true p260
               replace q260 := eq_true q260
               have p17 : 0 ≤ ((ji14) : Int) := of_decide_eq_true Q0
               have q17 : ((ji14) : Int) < ((x5_2.length : Int) : Int) := of_decide_eq_true Q0
               obtain ⟨go17, co17, eo17, gb17, gl17, cl17, HG17⟩ := Kd.R_form Oq5.out (by omega)
               (first | cases eo17 | (injection eo17 with ea_ en_ ec_; (first | subst ea_ | (injection ea_ with ea_; subst ea_)); subst ec_; clear en_))
               have GB17 := Aside0.mk gb17
               have GG17 := Aside0.mk HG17
               clear gb17 gl17 HG17
               (first | simp only [add_plain] at hx260_0 | skip)
               obtain ⟨hx17_0, hf17_0⟩ := Kd.R_celln 0 Oq5.out ((ji14) : Int) p17 q17
               replace p17 := eq_true p17
               replace q17 := eq_true q17
               have HP19 := Kd.R_putg Oq5.out ((ji14) : Int) (wrap64 ((rd x5_2 (ji14)) + (wrap64 ((rd l0 x19_1) * (rd l1 x26_2)))))
               go_wp2_with (first | ((with_reducible refine gate_store (t := 3) (p := 41) rfl ?_); refine store_event (t := 3) (p := 41) (v := ?vo_w20) (w1 := (wr.setCell ⟨go17, ((ji14) : Int).toNat, none⟩ (.int .i64 (wrap64 ((rd x5_2 (ji14)) + (wrap64 ((rd l0 x19_1) * (rd l1 x26_2)))))))) ?hg ?ho ?hn ?hr ?_; (case ho => rfl); (case hg => rfl); (case hn => rfl); (case hr => first | (go_simp; done) | (go_simp; rfl)); intro w20 hw; have hg : wr.grownBy w20 (some go17) := (by rw [hw]; exact HP19.2); have hp_ : Kd.R (Kd.int .i64) 3 w20 w.heap.size (fun _ => True) (.slice (some ⟨go17, 0, none⟩) x5_2.length co18) y261 := (by rw [hw, Ny261.out]; exact HP19.1); clear HP19; replace Oq5 := am (hp_); replace HB := am ((by rw [hw]; exact below_set (HB.out) GB17.out : Below w.heap.size w w20)); clear hg hw hp_))
               go_roundg k2
               case measure => have := HK1.out; have := HK2.out; omega
               case rel => exact ⟨(y261), (wrap64 (x26_2 + 1)), Q3, H', ⟨Q40⟩, ⟨Q19⟩, ⟨qb⟩⟩
              ·
               rw [if_neg c16] at H
               exact absurd H (by simp)
             ·
              rw [if_neg c15] at H
              exact absurd H (by simp)
            ·
             rw [if_neg c13] at H
             exact absurd H (by simp)
           ·
            rw [if_neg c12] at H
            exact absurd H (by simp)
          ·
           rw [if_neg c11] at H
           have c11b0 : decide (x26_2 < (l1.length : Int)) = false := decide_eq_false c11
           clear c11
           have H' := Aside0.mk H
           clear H
           go_wp2
           go_roundg k2
           case measure => have := HK1.out; have := HK2.out; omega
           case rel => exact ⟨(x5_2), (wrap64 (x19_1 + 1)), Q3, H', ⟨Q40⟩, ⟨Q19⟩, ⟨qb⟩⟩
       ·
        rw [if_neg c10] at H
        exact absurd H (by simp)
      ·
       rw [if_neg c9] at H
       exact absurd H (by simp)
     ·
      rw [if_neg c8] at H
      have c8b0 : decide (x19_1 < (l0.length : Int)) = false := decide_eq_false c8
      clear c8
      obtain rfl := Option.some.inj H
      go_wp2
      go_ret
      exact ⟨_, Q34, Q19, qb⟩
  ·
   rw [if_neg c5] at H
   exact absurd H (by simp)
 ·
  rw [if_neg c4] at H
  exact absurd H (by simp)

/-! ### impl_MultiplyNumbers: function 24 (by hand) -/
/-- A number that a factor can't hold. -/
def badM (m : Int) : Bool := !(decide (0 ≤ m ∧ m ≤ 100000))
/-- Is it a factor? -/
def okM (l : List Int) : Bool := decide (1 ≤ (l.length : Int) ∧ (l.length : Int) ≤ 7) && !(l.any badM)
def impl_MultiplyNumbers.f (k : Nat) (l0 : List Int) (l1 : List Int) : Option (List Int × Bool) := if okM l0 = true then (if okM l1 = true then (impl_product.f k l0 l1).bind fun t => some (t, true) else some ([], false)) else some ([], false)
-- (walk)
theorem within_eq (m a b : Int) : impl_within.f m a b = some (decide (a ≤ m ∧ m ≤ b)) := by
 unfold impl_within.f
 by_cases h : a ≤ m
 ·
  rw [if_pos h]; simp [h]
 ·
  rw [if_neg h]; simp [h]
set_option maxHeartbeats 400000 in
theorem clM (m : Int) (w : World) : Calls Try.prog 81 #[.int .i64 m] w fun e w' => e = .returned (.bool (badM m)) ∧ Drawn0 w w' := by
 have HW := am (within_eq m 0 100000)
 go_enter Try.func81, Try.ntmps81
 go_wp2_with (first | (go_at_call 79; refine (impl_within.calls _ _ _ _ _ HW.out).mono ?_; rintro e w' ⟨rfl, ⟨nd, rfl⟩⟩))
 go_ret
 exact ⟨by unfold badM; simp [Bool.decide_and], Q7⟩
set_option maxHeartbeats 1000000 in
set_option maxRecDepth 2000 in
theorem impl_MultiplyNumbers.calls (k : Nat) (A0 : Option Addr) (c0 : Nat) (l0 : List Int) (A1 : Option Addr) (c1 : Nat) (l1 : List Int) (r1 : List Int) (r2 : Bool) (w : World) (hr0 : Kd.C (Kd.int .i64) w A0 l0.length l0) (hc0 : l0.length ≤ c0) (hr1 : Kd.C (Kd.int .i64) w A1 l1.length l1) (hc1 : l1.length ≤ c1) (h : impl_MultiplyNumbers.f k l0 l1 = some (r1, r2)) :
  Calls Try.prog 24 #[.slice A0 l0.length c0, .slice A1 l1.length c1] w fun e w' => ∃ v0_ : Value, e = .returned (.tuple #[v0_, .bool r2]) ∧ Kd.R (Kd.int .i64) 3 w' w.heap.size (fun _ => True) v0_ r1 ∧ Below w.heap.size w w' := by
 have HR0 := Aside0.mk hr0
 have HR1 := Aside0.mk hr1
 have HH := Aside0.mk h
 clear hr0 hr1 h
 go_enter Try.func24, Try.ntmps24
 go_wp2_with fail
 go_loopw [12] (fun v12 w' => ∃ i : Nat, i ≤ 2 ∧ v12 = .int .i64 i ∧ Aside0 (1 ≤ i → okM l0 = true) ∧ Aside0 (2 ≤ i → okM l1 = true) ∧ Aside0 (w'.heap[w.heap.size]? = some (.cells #[.slice A0 l0.length c0, .slice A1 l1.length c1] 24 (0, 0))) ∧ Aside0 (Below w.heap.size w w')) (fun v12 _ => 2 - (intOf v12).toNat)
 case atStart => exact ⟨0, by omega, rfl, ⟨fun h => absurd h (by omega)⟩, ⟨fun h => absurd h (by omega)⟩, ⟨blk_new w _⟩, ⟨(Below.refl w.heap.size w).alloc (Nat.le_refl _) _⟩⟩
 case round =>
  obtain ⟨i, hi, rfl, HOK, HOK2, HK, HB⟩ := hrel
  rcases i with _ | _ | _ | i
  ·
   have hcell := blk_cell HK.out 0
   by_cases hlen : 1 ≤ (l0.length : Int) ∧ (l0.length : Int) ≤ 7
   ·
    have HWi := am ((within_eq (l0.length : Int) 1 7).trans (congrArg some (decide_eq_true hlen)))
    have HLe := Aside0.mk hlen
    clear hlen
    go_wp2_with (first | (go_at_call 79; refine (impl_within.calls _ _ _ _ _ HWi.out).mono ?_; rintro e w' ⟨rfl, ⟨nd, rfl⟩⟩))
    refine (containsFunc 81 #[] badM _ _ l0 _ ?c1 (by omega) (by have := HLe.out; omega) Try.call81 ?c2).mono ?_
    case c1 => (repeat (first | exact (Kd.C_below HR0.out HB.out) | apply Kd.C_drewN | apply Kd.C_drew | apply Kd.C_alloc))
    case c2 => exact fun n m => clM m _
    rintro e w' ⟨rfl, ⟨nd2, rfl⟩⟩
    by_cases hany : l0.any badM = true
    ·
     rw [hany]
     have HA := Aside0.mk hany
     clear hany
     have HQ := am (show okM l0 = false by unfold okM; rw [HA.out]; simp)
     obtain ⟨rfl, rfl⟩ : r1 = [] ∧ r2 = false := by
      have hh := HH.out
      unfold impl_MultiplyNumbers.f at hh
      rw [HQ.out] at hh
      rw [if_neg (by decide)] at hh
      have h9 := Prod.mk.inj (Option.some.inj hh)
      exact ⟨h9.1.symm, h9.2.symm⟩
     go_wp2
     go_ret2
     exact ⟨_, rfl, Kd.R_nil _ _ _ _ _, qb⟩
    ·
     rw [Bool.eq_false_iff.2 hany]
     have HA := am (show okM l0 = true by unfold okM; rw [decide_eq_true HLe.out, Bool.eq_false_iff.2 hany]; rfl)
     clear hany
     go_wp2
     go_roundw
     case rel => exact ⟨1, by omega, rfl, ⟨fun _ => HA.out⟩, ⟨fun h => absurd h (by omega)⟩, ⟨blk_drewN HK.out _⟩, ⟨qb⟩⟩
     case measure => simp [intOf]
   ·
    have HWi := am ((within_eq (l0.length : Int) 1 7).trans (congrArg some (decide_eq_false hlen)))
    have HA := Aside0.mk hlen
    clear hlen
    have HQ := am (show okM l0 = false by unfold okM; rw [decide_eq_false HA.out]; rfl)
    obtain ⟨rfl, rfl⟩ : r1 = [] ∧ r2 = false := by
     have hh := HH.out
     unfold impl_MultiplyNumbers.f at hh
     rw [HQ.out] at hh
     rw [if_neg (by decide)] at hh
     have h9 := Prod.mk.inj (Option.some.inj hh)
     exact ⟨h9.1.symm, h9.2.symm⟩
    go_wp2_with (first | (go_at_call 79; refine (impl_within.calls _ _ _ _ _ HWi.out).mono ?_; rintro e w' ⟨rfl, ⟨nd, rfl⟩⟩))
    go_ret2
    exact ⟨_, rfl, Kd.R_nil _ _ _ _ _, qb⟩
  ·
   have hcell := blk_cell HK.out 1
   by_cases hlen : 1 ≤ (l1.length : Int) ∧ (l1.length : Int) ≤ 7
   ·
    have HWi := am ((within_eq (l1.length : Int) 1 7).trans (congrArg some (decide_eq_true hlen)))
    have HLe := Aside0.mk hlen
    clear hlen
    go_wp2_with (first | (go_at_call 79; refine (impl_within.calls _ _ _ _ _ HWi.out).mono ?_; rintro e w' ⟨rfl, ⟨nd, rfl⟩⟩))
    refine (containsFunc 81 #[] badM _ _ l1 _ ?c1 (by omega) (by have := HLe.out; omega) Try.call81 ?c2).mono ?_
    case c1 => (repeat (first | exact (Kd.C_below HR1.out HB.out) | apply Kd.C_drewN | apply Kd.C_drew | apply Kd.C_alloc))
    case c2 => exact fun n m => clM m _
    rintro e w' ⟨rfl, ⟨nd2, rfl⟩⟩
    by_cases hany : l1.any badM = true
    ·
     rw [hany]
     have HA := Aside0.mk hany
     clear hany
     have HQ := am (show okM l1 = false by unfold okM; rw [HA.out]; simp)
     obtain ⟨rfl, rfl⟩ : r1 = [] ∧ r2 = false := by
      have hh := HH.out
      unfold impl_MultiplyNumbers.f at hh
      rw [if_pos (HOK.out (by omega))] at hh; rw [HQ.out] at hh
      rw [if_neg (by decide)] at hh
      have h9 := Prod.mk.inj (Option.some.inj hh)
      exact ⟨h9.1.symm, h9.2.symm⟩
     go_wp2
     go_ret2
     exact ⟨_, rfl, Kd.R_nil _ _ _ _ _, qb⟩
    ·
     rw [Bool.eq_false_iff.2 hany]
     have HA := am (show okM l1 = true by unfold okM; rw [decide_eq_true HLe.out, Bool.eq_false_iff.2 hany]; rfl)
     clear hany
     go_wp2
     go_roundw
     case rel => exact ⟨2, by omega, rfl, ⟨fun _ => HOK.out (by omega)⟩, ⟨fun _ => HA.out⟩, ⟨blk_drewN HK.out _⟩, ⟨qb⟩⟩
     case measure => simp [intOf]
   ·
    have HWi := am ((within_eq (l1.length : Int) 1 7).trans (congrArg some (decide_eq_false hlen)))
    have HA := Aside0.mk hlen
    clear hlen
    have HQ := am (show okM l1 = false by unfold okM; rw [decide_eq_false HA.out]; rfl)
    obtain ⟨rfl, rfl⟩ : r1 = [] ∧ r2 = false := by
     have hh := HH.out
     unfold impl_MultiplyNumbers.f at hh
     rw [if_pos (HOK.out (by omega))] at hh; rw [HQ.out] at hh
     rw [if_neg (by decide)] at hh
     have h9 := Prod.mk.inj (Option.some.inj hh)
     exact ⟨h9.1.symm, h9.2.symm⟩
    go_wp2_with (first | (go_at_call 79; refine (impl_within.calls _ _ _ _ _ HWi.out).mono ?_; rintro e w' ⟨rfl, ⟨nd, rfl⟩⟩))
    go_ret2
    exact ⟨_, rfl, Kd.R_nil _ _ _ _ _, qb⟩
  ·
   have H0 := am (HOK.out (by omega))
   have H1 := am (HOK2.out (by omega))
   have HP : ∃ t, impl_product.f k l0 l1 = some t ∧ r1 = t ∧ r2 = true := by
    have hh := HH.out
    unfold impl_MultiplyNumbers.f at hh
    rw [if_pos H0.out, if_pos H1.out] at hh
    obtain ⟨t, ht, e⟩ := Option.bind_eq_some_iff.1 hh
    have h9 := Prod.mk.inj (Option.some.inj e)
    exact ⟨t, ht, h9.1.symm, h9.2.symm⟩
   obtain ⟨t, ht, rfl, rfl⟩ := HP
   have HT := Aside0.mk ht
   clear ht
   go_wp2_with (first | (go_at_call 82; (refine (impl_product.calls k _ _ l0 _ _ l1 _ _ ?side1 hc0 ?side2 hc1 HT.out).mono ?_); (case side1 => repeat (first | exact (Kd.C_below HR0.out HB.out) | apply Kd.C_drewN | apply Kd.C_drew | apply Kd.C_alloc)); (case side2 => repeat (first | exact (Kd.C_below HR1.out HB.out) | apply Kd.C_drewN | apply Kd.C_drew | apply Kd.C_alloc)); rintro e w9 ⟨v, rfl, ho, hb⟩; have HO := ql ho; have HB9 := qs hb; clear ho hb))
   go_ret2
   exact ⟨_, rfl, by (with_reducible repeat (first | apply Kd.R_alloc | apply Kd.R_drewN | apply Kd.R_drew)); exact HO.out, by repeat (first | (with_reducible first | exact HB9.out | apply below_alloc | apply pw_below_drewN | apply below_drew1) | exact HB9.out)⟩
  ·
   omega

/-! ### laws_rSame: function 25 -/
def laws_rSame.l0 : Nat → List Int → List Int → Int → Int → Option (Bool)
 | 0, _, _, _, _ => none
 | k + 1, x0, x1, x12, x13 => if x13 < x12 then (if 0 ≤ x13 then (if x13 < (x0.length : Int) then (if x13 < (x1.length : Int) then (if (rd x0 x13) = (rd x1 x13) then (laws_rSame.l0 k x0 x1 x12 (wrap64 (x13 + 1))) else (some false)) else (none)) else (none)) else (none)) else (some true)
def laws_rSame.f (k : Nat) (l0 : List Int) (l1 : List Int) : Option (Bool) := if (l0.length : Int) = (l1.length : Int) then (laws_rSame.l0 k l0 l1 (l0.length : Int) 0) else (some false)
set_option maxHeartbeats 8000000 in
set_option maxRecDepth 100000 in
theorem laws_rSame.calls (k : Nat) (A0 : Option Addr) (c0 : Nat) (l0 : List Int) (A1 : Option Addr) (c1 : Nat) (l1 : List Int) (r : Bool) (w : World) (hr0 : Kd.C (Kd.int .i64) w A0 l0.length l0) (hc0 : l0.length ≤ c0) (hr1 : Kd.C (Kd.int .i64) w A1 l1.length l1) (hc1 : l1.length ≤ c1) (h : laws_rSame.f k l0 l1 = some r) :
  Calls Try.prog 25 #[.slice A0 l0.length c0, .slice A1 l1.length c1] w fun e w' => e = .returned (.bool r) ∧ Drawn0 w w' := by
 have HR0 := Aside0.mk hr0
 have HC0 := Aside0.mk hc0
 clear hr0 hc0
 have HR1 := Aside0.mk hr1
 have HC1 := Aside0.mk hc1
 clear hr1 hc1
 have H : (if (l0.length : Int) = (l1.length : Int) then (laws_rSame.l0 k l0 l1 (l0.length : Int) 0) else (some false)) = some r := h
 clear h
 by_cases c3 : (l0.length : Int) = (l1.length : Int)
 ·
  rw [if_pos c3] at H
  have c3b0 : ((l0.length : Int) == (l1.length : Int)) = true := beq_iff_eq.mpr c3
  have c3b1 : ((l0.length : Int) != (l1.length : Int)) = false := bne_eq_false_iff_eq.mpr c3
  have c3b2 : (l0.length == l1.length) = true := by first | simpa using c3 | (simp at c3 ⊢; omega)
  clear c3
  have H' := Aside0.mk H
  clear H
  go_enter Try.func25, Try.ntmps25
  go_wp2
  repeat (go_quiet (fail); try go_wp2)
  go_loopg [13] k (fun kq v13 w' => ∃ (x13_1 : Int), v13 = .int .i64 x13_1 ∧ Aside0 (laws_rSame.l0 kq l0 l1 (l0.length : Int) x13_1 = some r) ∧ Aside0 (kq ≤ k) ∧ Drawn0 w w')
  case atStart => exact ⟨(0), Q3, H', ⟨Nat.le_refl _⟩, Q7⟩
  case round =>
   clear H'
   try clear c3; try clear c3b0; try clear c3b1; try clear c3b2
   obtain ⟨x13_1, rfl, HA, HK1, ⟨m1, rfl⟩⟩ := hrel
   cases gk with
   | zero => exact absurd HA.out (by simp [laws_rSame.l0])
   | succ k1 =>
    have H := HA.out
    clear HA
    simp only [laws_rSame.l0] at H
    by_cases c4 : x13_1 < (l0.length : Int)
    ·
     rw [if_pos c4] at H
     have c4b0 : decide (x13_1 < (l0.length : Int)) = true := decide_eq_true c4
     clear c4
     by_cases c5 : 0 ≤ x13_1
     ·
      rw [if_pos c5] at H
      have c5b0 : decide (0 ≤ x13_1) = true := decide_eq_true c5
      clear c5
      by_cases c6 : x13_1 < (l0.length : Int)
      ·
       rw [if_pos c6] at H
       have c6b0 : decide (x13_1 < (l0.length : Int)) = true := decide_eq_true c6
       clear c6
       by_cases c7 : x13_1 < (l1.length : Int)
       ·
        rw [if_pos c7] at H
        have c7b0 : decide (x13_1 < (l1.length : Int)) = true := decide_eq_true c7
        clear c7
        by_cases c8 : (rd l0 x13_1) = (rd l1 x13_1)
        ·
         rw [if_pos c8] at H
         have c8b0 : ((rd l0 x13_1) == (rd l1 x13_1)) = true := beq_iff_eq.mpr c8
         have c8b1 : ((rd l0 x13_1) != (rd l1 x13_1)) = false := bne_eq_false_iff_eq.mpr c8
         clear c8
         have H' := Aside0.mk H
         clear H
         have p262 : 0 ≤ (x13_1 : Int) := of_decide_eq_true Q0
         have q262 : x13_1 < (l0.length : Int) := of_decide_eq_true Q0
         obtain ⟨ad262, e262, hx262_0⟩ := Kd.at_int HR0.out x13_1 p262 q262
         cases e262
         replace p262 := eq_true p262
         replace q262 := eq_true q262
         have p263 : 0 ≤ (x13_1 : Int) := of_decide_eq_true Q0
         have q263 : x13_1 < (l1.length : Int) := of_decide_eq_true Q0
         obtain ⟨ad263, e263, hx263_0⟩ := Kd.at_int HR1.out x13_1 p263 q263
         cases e263
         replace p263 := eq_true p263
         replace q263 := eq_true q263
         go_wp2
         repeat (go_quiet (fail); try go_wp2)
         go_roundg k1
         case measure => have := HK1.out; omega
         case rel => exact ⟨(wrap64 (x13_1 + 1)), Q3, H', ⟨Q49⟩, Q7⟩
        ·
         rw [if_neg c8] at H
         have c8b0 : ((rd l0 x13_1) == (rd l1 x13_1)) = false := beq_eq_false_iff_ne.mpr c8
         have c8b1 : ((rd l0 x13_1) != (rd l1 x13_1)) = true := bne_iff_ne.mpr c8
         obtain rfl := Option.some.inj H
         have p262 : 0 ≤ (x13_1 : Int) := of_decide_eq_true Q0
         have q262 : x13_1 < (l0.length : Int) := of_decide_eq_true Q0
         obtain ⟨ad262, e262, hx262_0⟩ := Kd.at_int HR0.out x13_1 p262 q262
         cases e262
         replace p262 := eq_true p262
         replace q262 := eq_true q262
         have p263 : 0 ≤ (x13_1 : Int) := of_decide_eq_true Q0
         have q263 : x13_1 < (l1.length : Int) := of_decide_eq_true Q0
         obtain ⟨ad263, e263, hx263_0⟩ := Kd.at_int HR1.out x13_1 p263 q263
         cases e263
         replace p263 := eq_true p263
         replace q263 := eq_true q263
         go_wp2
         repeat (go_quiet (fail); try go_wp2)
         go_ret
         exact ⟨Q3, Q7⟩
       ·
        rw [if_neg c7] at H
        exact absurd H (by simp)
      ·
       rw [if_neg c6] at H
       exact absurd H (by simp)
     ·
      rw [if_neg c5] at H
      exact absurd H (by simp)
    ·
     rw [if_neg c4] at H
     have c4b0 : decide (x13_1 < (l0.length : Int)) = false := decide_eq_false c4
     clear c4
     obtain rfl := Option.some.inj H
     go_wp2
     repeat (go_quiet (fail); try go_wp2)
     go_ret
     exact ⟨Q3, Q7⟩
 ·
  rw [if_neg c3] at H
  have c3b0 : ((l0.length : Int) == (l1.length : Int)) = false := beq_eq_false_iff_ne.mpr c3
  have c3b1 : ((l0.length : Int) != (l1.length : Int)) = true := bne_iff_ne.mpr c3
  have c3b2 : (l0.length == l1.length) = false := by first | simpa using c3 | (simp at c3 ⊢; omega)
  obtain rfl := Option.some.inj H
  go_enter Try.func25, Try.ntmps25
  go_wp2
  repeat (go_quiet (fail); try go_wp2)
  go_ret
  exact ⟨Q3, Q7⟩

/-! ### laws_rShort: function 26 -/
def laws_rShort.l0 : Nat → List Int → Int → Option (List Int)
 | 0, _, _ => none
 | k + 1, x0, x3 => if x3 > 0 then (if 0 ≤ (wrap64 (x3 - 1)) then (if (wrap64 (x3 - 1)) < (x0.length : Int) then (if (rd x0 (wrap64 (x3 - 1))) = 0 then (laws_rShort.l0 k x0 (wrap64 (x3 - 1))) else (if 0 ≤ x3 then (if x3 ≤ (x0.length : Int) then (some (x0.take (x3 : Int).toNat)) else (none)) else (none))) else (none)) else (none)) else (if 0 ≤ x3 then (if x3 ≤ (x0.length : Int) then (some (x0.take (x3 : Int).toNat)) else (none)) else (none))
def laws_rShort.f (k : Nat) (l0 : List Int) : Option (List Int) := laws_rShort.l0 k l0 (l0.length : Int)
set_option maxHeartbeats 8000000 in
set_option maxRecDepth 100000 in
theorem laws_rShort.calls (k : Nat) (P0_ : Nat → Prop) (u9000_ : Value) (l0 : List Int) (r : List Int) (w0 w : World) (hB : Below w0.heap.size w0 w) (ho0 : Kd.R (Kd.int .i64) 3 w w0.heap.size P0_ u9000_ l0) (h : laws_rShort.f k l0 = some r) :
  Calls Try.prog 26 #[u9000_] w fun e w' => ∃ v0_ : Value, e = .returned (v0_) ∧ Kd.R (Kd.int .i64) 3 w' w0.heap.size (fun k_ => (P0_ k_ ∨ w.heap.size ≤ k_)) v0_ r ∧ Below w0.heap.size w0 w' ∧ Kept w w' (fun k_ => P0_ k_) := by
 have Oq0 := am (show Kd.R (Kd.int .i64) 3 w w0.heap.size (fun k_ => (P0_ k_ ∨ w.heap.size ≤ k_)) u9000_ l0 from Kd.R_mono ho0 (fun k_ hk => (.inl hk)))
 have HK := am (Kept.refl w (fun k_ => P0_ k_))
 have HW0 := Aside0.mk hB.size
 have HB := Aside0.mk hB
 clear hB
 have H : (laws_rShort.l0 k l0 (l0.length : Int)) = some r := h
 clear h
 have H' := Aside0.mk H
 clear H
 obtain ⟨Ao2, co2, eo2⟩ := Kd.R_slice Oq0.out
 subst eo2
 go_enter Try.func26, Try.ntmps26
 go_wp2
 go_loopg [3] k (fun kq v3 w' => ∃ (x3_1 : Int), v3 = .int .i64 x3_1 ∧ Aside0 (laws_rShort.l0 kq l0 x3_1 = some r) ∧ Aside0 (kq ≤ k) ∧ Aside0 (Kd.R (Kd.int .i64) 3 w' w0.heap.size (fun k_ => (P0_ k_ ∨ w.heap.size ≤ k_)) (.slice Ao2 l0.length co2) l0) ∧ Aside0 (Kept w w' (fun k_ => P0_ k_)) ∧ Aside0 (Below w0.heap.size w0 w'))
 case atStart => exact ⟨((l0.length : Int)), Q3, H', ⟨Nat.le_refl _⟩, ⟨Q31⟩, ⟨Q26⟩, ⟨qb⟩⟩
 case round =>
  clear H'
  obtain ⟨x3_1, rfl, HA, HK1, Oq4, HK, HB⟩ := hrel
  cases gk with
  | zero => exact absurd HA.out (by simp [laws_rShort.l0])
  | succ k1 =>
   have H := HA.out
   clear HA
   simp only [laws_rShort.l0] at H
   by_cases c3 : x3_1 > 0
   ·
    rw [if_pos c3] at H
    have c3b0 : decide (0 < x3_1) = true := decide_eq_true c3
    clear c3
    obtain ⟨ji4, hji4⟩ : ∃ j_ : Int, (wrap64 (x3_1 - 1)) = j_ := ⟨_, rfl⟩
    replace H : (if 0 ≤ (ji4) then (if (ji4) < (l0.length : Int) then (if (rd l0 (ji4)) = 0 then (laws_rShort.l0 k1 l0 ji4) else (if 0 ≤ x3_1 then (if x3_1 ≤ (l0.length : Int) then (some (l0.take (x3_1 : Int).toNat)) else (none)) else (none))) else (none)) else (none)) = some r := by first | (rw [hji4] at H; exact H) | (simp only [hji4] at H ⊢; exact H)
    have hji4w : (IntKind.i64.wrap (x3_1 - 1)) = ji4 := (i64_w _).trans hji4
    by_cases c5 : 0 ≤ (ji4)
    ·
     rw [if_pos c5] at H
     have c5b0 : decide (0 ≤ (ji4)) = true := decide_eq_true c5
     clear c5
     by_cases c6 : (ji4) < (l0.length : Int)
     ·
      rw [if_pos c6] at H
      have c6b0 : decide ((ji4) < (l0.length : Int)) = true := decide_eq_true c6
      clear c6
      by_cases c7 : (rd l0 (ji4)) = 0
      ·
       rw [if_pos c7] at H
       have c7b0 : ((rd l0 (ji4)) == 0) = true := beq_iff_eq.mpr c7
       have c7b1 : ((rd l0 (ji4)) != 0) = false := bne_eq_false_iff_eq.mpr c7
       clear c7
       have H' := Aside0.mk H
       clear H
       have p264 : 0 ≤ ((ji4) : Int) := of_decide_eq_true Q0
       have q264 : (ji4) < (l0.length : Int) := of_decide_eq_true Q0
       obtain ⟨ad264, e264, hx264_0⟩ := Kd.at_int (Kd.R_reads' Oq4.out).2.2 (ji4) p264 q264
       cases e264
       replace p264 := eq_true p264
       replace q264 := eq_true q264
       go_wp2
       go_roundg k1
       case measure => have := HK1.out; omega
       case rel => exact ⟨(ji4), (by first | rfl | (simp; done) | (simp only [← hji4] <;> (first | rfl | simp)) | (simp [*]; done)), H', ⟨Q49⟩, ⟨Q20⟩, ⟨Q26⟩, ⟨qb⟩⟩
      ·
       rw [if_neg c7] at H
       have c7b0 : ((rd l0 (ji4)) == 0) = false := beq_eq_false_iff_ne.mpr c7
       have c7b1 : ((rd l0 (ji4)) != 0) = true := bne_iff_ne.mpr c7
       by_cases c8 : 0 ≤ x3_1
       ·
        rw [if_pos c8] at H
        have c8b0 := eq_true c8
        have c8b1 : decide (0 ≤ x3_1) = true := decide_eq_true c8
        clear c8
        by_cases c9 : x3_1 ≤ (l0.length : Int)
        ·
         rw [if_pos c9] at H
         have c9b0 := eq_true c9
         have c9b1 : decide (x3_1 ≤ (l0.length : Int)) = true := decide_eq_true c9
         clear c9
         obtain ⟨y265, hy_⟩ : ∃ y_ : List Int, y_ = ((l0.take (x3_1 : Int).toNat)) := ⟨_, rfl⟩
         replace H : (some y265) = some r := qH
         have Ny265 := Aside0.mk hy_
         clear hy_
         obtain rfl := Option.some.inj H
         have p264 : 0 ≤ ((ji4) : Int) := of_decide_eq_true Q0
         have q264 : (ji4) < (l0.length : Int) := of_decide_eq_true Q0
         obtain ⟨ad264, e264, hx264_0⟩ := Kd.at_int (Kd.R_reads' Oq4.out).2.2 (ji4) p264 q264
         cases e264
         replace p264 := eq_true p264
         replace q264 := eq_true q264
         have q10 : (x3_1 : Int) ≤ ((l0.length : Int) : Int) := of_decide_eq_true Q0
         obtain ⟨i010, hi010, _, hsz10, _⟩ := info_parts info3
         have hcut10 := cut_to (P := Try.prog) 24 3 .i64 Try.underlying24 hi010 (some ad264) l0.length co2 x3_1 (of_decide_eq_true Q0) q10 (Kd.R_reads' Oq4.out).2.1
         have hr10 := Kd.R_take (m := (x3_1 : Int).toNat) Oq4.out (by omega)
         have hy10 : y265.length = (x3_1 : Int).toNat := (by rw [Ny265.out, List.length_take]; omega)
         rw [← Ny265.out] at hr10
         rw [← hy10] at hr10 hcut10
         clear hy10 hi010 hsz10 Oq4
         have Oq2 := Aside0.mk hr10
         clear hr10
         replace q10 := eq_true q10
         go_wp2
         go_ret
         exact ⟨_, Q50, by (with_reducible repeat (first | apply Kd.R_alloc | apply Kd.R_drewN | apply Kd.R_drew)); exact Oq2.out, qb, Q26⟩
        ·
         rw [if_neg c9] at H
         exact absurd H (by simp)
       ·
        rw [if_neg c8] at H
        exact absurd H (by simp)
     ·
      rw [if_neg c6] at H
      exact absurd H (by simp)
    ·
     rw [if_neg c5] at H
     exact absurd H (by simp)
   ·
    rw [if_neg c3] at H
    have c3b0 : decide (0 < x3_1) = false := decide_eq_false c3
    clear c3
    by_cases c11 : 0 ≤ x3_1
    ·
     rw [if_pos c11] at H
     have c11b0 := eq_true c11
     have c11b1 : decide (0 ≤ x3_1) = true := decide_eq_true c11
     clear c11
     by_cases c12 : x3_1 ≤ (l0.length : Int)
     ·
      rw [if_pos c12] at H
      have c12b0 := eq_true c12
      have c12b1 : decide (x3_1 ≤ (l0.length : Int)) = true := decide_eq_true c12
      clear c12
      obtain ⟨y268, hy_⟩ : ∃ y_ : List Int, y_ = ((l0.take (x3_1 : Int).toNat)) := ⟨_, rfl⟩
      replace H : (some y268) = some r := qH
      have Ny268 := Aside0.mk hy_
      clear hy_
      obtain rfl := Option.some.inj H
      have q13 : (x3_1 : Int) ≤ ((l0.length : Int) : Int) := of_decide_eq_true Q0
      obtain ⟨i013, hi013, _, hsz13, _⟩ := info_parts info3
      have hcut13 := cut_to (P := Try.prog) 24 3 .i64 Try.underlying24 hi013 Ao2 l0.length co2 x3_1 (of_decide_eq_true Q0) q13 (Kd.R_reads' Oq4.out).2.1
      have hr13 := Kd.R_take (m := (x3_1 : Int).toNat) Oq4.out (by omega)
      have hy13 : y268.length = (x3_1 : Int).toNat := (by rw [Ny268.out, List.length_take]; omega)
      rw [← Ny268.out] at hr13
      rw [← hy13] at hr13 hcut13
      clear hy13 hi013 hsz13 Oq4
      have Oq3 := Aside0.mk hr13
      clear hr13
      replace q13 := eq_true q13
      go_wp2
      go_ret
      exact ⟨_, Q2, Q56, qb, Q26⟩
     ·
      rw [if_neg c12] at H
      exact absurd H (by simp)
    ·
     rw [if_neg c11] at H
     exact absurd H (by simp)

/-! ### spec_l1Least: function 65 -/
def spec_l1Least.f (a0 : Int) (a1 : Int) : Option (Int) := if a0 < a1 then (some a0) else (some a1)
set_option maxHeartbeats 8000000 in
set_option maxRecDepth 100000 in
theorem spec_l1Least.calls (a0 : Int) (a1 : Int) (r : Int) (w : World) (h : spec_l1Least.f a0 a1 = some r) :
  Calls Try.prog 65 #[.int .i64 a0, .int .i64 a1] w fun e w' => e = .returned (.int .i64 r) ∧ Drawn0 w w' := by
 have H : (if a0 < a1 then (some a0) else (some a1)) = some r := h
 clear h
 by_cases c3 : a0 < a1
 ·
  rw [if_pos c3] at H
  have c3b0 : decide (a0 < a1) = true := decide_eq_true c3
  clear c3
  obtain rfl := Option.some.inj H
  go_enter Try.func65, Try.ntmps65
  go_wp2
  go_ret
  exact ⟨Q3, Q7⟩
 ·
  rw [if_neg c3] at H
  have c3b0 : decide (a0 < a1) = false := decide_eq_false c3
  clear c3
  obtain rfl := Option.some.inj H
  go_enter Try.func65, Try.ntmps65
  go_wp2
  go_ret
  exact ⟨Q3, Q7⟩

/-! ### spec_boHas: function 133 -/
def spec_boHas.f (a0_0 : Int) (a0_1 : Int) (l0_2 : List Int) (a1 : Int) (a2 : Int) : Option (Bool) := if 0 ≤ a1 then (if a1 < (l0_2.length : Int) then (if 0 ≤ a2 then (some ((Int.tmod (shr .i64 (rd l0_2 a1) a2) 2) == 1)) else (none)) else (none)) else (none)
set_option maxHeartbeats 8000000 in
set_option maxRecDepth 100000 in
theorem spec_boHas.calls (a0_0 : Int) (a0_1 : Int) (A0_2 : Option Addr) (c0_2 : Nat) (l0_2 : List Int) (a1 : Int) (a2 : Int) (r : Bool) (w : World) (hr0_2 : Kd.C (Kd.int .i64) w A0_2 l0_2.length l0_2) (hc0_2 : l0_2.length ≤ c0_2) (h : spec_boHas.f a0_0 a0_1 l0_2 a1 a2 = some r) :
  Calls Try.prog 133 #[.agg #[.int .i64 a0_0, .int .i64 a0_1, .slice A0_2 l0_2.length c0_2], .int .i64 a1, .int .i64 a2] w fun e w' => e = .returned (.bool r) ∧ Below w.heap.size w w' := by
 have hu26 := Try.underlying26
 have HR0_2 := Aside0.mk hr0_2
 have HC0_2 := Aside0.mk hc0_2
 clear hr0_2 hc0_2
 have HB := am (Below.refl w.heap.size w)
 have H : (if 0 ≤ a1 then (if a1 < (l0_2.length : Int) then (if 0 ≤ a2 then (some ((Int.tmod (shr .i64 (rd l0_2 a1) a2) 2) == 1)) else (none)) else (none)) else (none)) = some r := h
 clear h
 by_cases c4 : 0 ≤ a1
 ·
  rw [if_pos c4] at H
  have c4b0 : decide (0 ≤ a1) = true := decide_eq_true c4
  clear c4
  by_cases c5 : a1 < (l0_2.length : Int)
  ·
   rw [if_pos c5] at H
   have c5b0 : decide (a1 < (l0_2.length : Int)) = true := decide_eq_true c5
   clear c5
   by_cases c6 : 0 ≤ a2
   ·
    rw [if_pos c6] at H
    have c6b0 := eq_true c6
    have c6b1 : decide (0 ≤ a2) = true := decide_eq_true c6
    clear c6
    obtain ⟨ji7, hji7⟩ : ∃ j_ : Int, (shr .i64 (rd l0_2 a1) a2) = j_ := ⟨_, rfl⟩
    replace H : (some ((Int.tmod (ji7) 2) == 1)) = some r := by first | (rw [hji7] at H; exact H) | (simp only [hji7] at H ⊢; exact H)
    have hji7_ : ((rd l0_2 a1) / 2 ^ min a2.toNat 64) = ji7 := hji7
    have hji7z : a2 ≤ 64 → ((rd l0_2 a1) / 2 ^ a2.toNat) = ji7 := shr_small hji7
    obtain rfl := Option.some.inj H
    go_enter Try.func133, Try.ntmps133
    go_wp2_with (first | ((with_reducible refine gate_dst (N := 3) rfl ?_); refine qv 3 #[.int .i64 a0_0, .int .i64 a0_1, .slice A0_2 l0_2.length c0_2] 26 ?_; intro gb271 hg w8 hbox hb; have BK271 := am hbox; have GW271 := qw hg; have GE271 := qw hg; replace HB := qs hb; clear hb hbox hg; obtain ⟨zq0, zq1, zq2, fq0, fq1, fq2⟩ := qd BK271; have p272 : 0 ≤ (a1 : Int) := of_decide_eq_true Q0; have q272 : a1 < (l0_2.length : Int) := of_decide_eq_true Q0; obtain ⟨ad272, e272, hx272_0⟩ := Kd.at_int HR0_2.out a1 p272 q272; cases e272; replace hx272_0 := (HB.out.cell (World.block_lt_of_cell? w _ hx272_0)).trans hx272_0; replace p272 := eq_true p272; replace q272 := eq_true q272))
    go_ret
    exact ⟨Q51, qb⟩
   ·
    rw [if_neg c6] at H
    exact absurd H (by simp)
  ·
   rw [if_neg c5] at H
   exact absurd H (by simp)
 ·
  rw [if_neg c4] at H
  exact absurd H (by simp)

end Go.Proofs.Ytllhofdgbpnkkaa.PFnRookNumbersMultiply
