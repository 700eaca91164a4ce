-- Printed for this claim by wip/pp.py over the kit's printer; Lean checks it.
import Derived.Test.YtllhofdgbpnkkaaPFnPlacementsListedx0
import Derived.Test.YtllhofdgbpnkkaaPFnPlacementsListedx1
import Derived.Test.YtllhofdgbpnkkaaPFnPlacementsListedx4
import Derived.Test.YtllhofdgbpnkkaaPFnPlacementsListedx5
import Derived.Test.YtllhofdgbpnkkaaPFnPlacementsListedx8
import Derived.Test.YtllhofdgbpnkkaaPFnPlacementsListedx11
import Derived.Test.YtllhofdgbpnkkaaPFnPlacementsListedx12
namespace Go.Proofs.Ytllhofdgbpnkkaa.PFnPlacementsListed
open Go.RowKit Go.Proofs.YtllhofdgbpnkkaaW.PrintWords Go.Proofs.YtllhofdgbpnkkaaW.PrintLast Go.Proofs.YtllhofdgbpnkkaaW.PrintMore
attribute [local go_sem] max2_int min2_int max_two min_two max_three min_three max_four min_four   -- for this text's walks alone
set_option linter.unusedVariables false
set_option linter.unusedSimpArgs false

/-! ### impl_TurnPlacement: function 47 -/
mutual
def impl_TurnPlacement.j0 : Nat → List Int → Bool → Int → Int → List Int → Option (List Int × Bool)
 | 0, _, _, _, _, _ => none
 | k + 1, x1, x17, x458000, x458001, x458002 => if x17 = true then (some (([] : List Int), false)) else ((slices_Repeat_int_int.f (([(-1)] : List Int)) x458001).bind fun t463 => (impl_TurnPlacement.l0 k t463 x1 (x1.length : Int) 0))
def impl_TurnPlacement.l0 : Nat → List Int → List Int → Int → Int → Option (List Int × Bool)
 | 0, _, _, _, _ => none
 | k + 1, x6, x22, x23, x24 => if x24 < x23 then (if 0 ≤ x24 then (if x24 < (x22.length : Int) then (if (rd x22 x24) = (-1) then (impl_TurnPlacement.l0 k x6 x22 x23 (wrap64 (x24 + 1))) else (if 0 ≤ (rd x22 x24) then (if (rd x22 x24) < (x6.length : Int) then (impl_TurnPlacement.l0 k (x6.set ((rd x22 x24) : Int).toNat x24) x22 x23 (wrap64 (x24 + 1))) else (none)) else (none))) else (none)) else (none)) else (some (x6, true))
end
def impl_TurnPlacement.f (k : Nat) (a0_0 : Int) (a0_1 : Int) (l0_2 : List Int) (l1 : List Int) : Option (List Int × Bool) := (impl_IsBoard.f a0_0 a0_1 l0_2).bind fun t458 => (if t458 = true then ((impl_Board_isPlacement.f k a0_0 a0_1 l0_2 l1).bind fun t459 => (impl_TurnPlacement.j0 k l1 (!t459) a0_0 a0_1 l0_2)) else (impl_TurnPlacement.j0 k l1 true a0_0 a0_1 l0_2))
set_option maxHeartbeats 8000000 in
set_option maxRecDepth 100000 in
theorem impl_TurnPlacement.calls (k : Nat) (a0_0 : Int) (a0_1 : Int) (A0_2 : Option Addr) (c0_2 : Nat) (l0_2 : List Int) (A1 : Option Addr) (c1 : Nat) (l1 : List Int) (r1 : List Int) (r2 : Bool) (w : World) (hr0_2 : Kd.C (Kd.int .i64) w A0_2 l0_2.length l0_2) (hc0_2 : l0_2.length ≤ c0_2) (hr1 : Kd.C (Kd.int .i64) w A1 l1.length l1) (hc1 : l1.length ≤ c1) (h : impl_TurnPlacement.f k a0_0 a0_1 l0_2 l1 = some (r1, r2)) :
  Calls Try.prog 47 #[.agg #[.int .i64 a0_0, .int .i64 a0_1, .slice A0_2 l0_2.length c0_2], .slice A1 l1.length c1] w fun e w' => ∃ v0_ : Value, e = .returned (.tuple #[v0_, .bool r2]) ∧ Kd.R (Kd.int .i64) 3 w' w.heap.size (fun _ => True) v0_ r1 ∧ Below w.heap.size w w' := by
 have hu26 := Try.underlying26
 have HR0_2 := Aside0.mk hr0_2
 have HC0_2 := Aside0.mk hc0_2
 clear hr0_2 hc0_2
 have HR1 := Aside0.mk hr1
 have HC1 := Aside0.mk hc1
 clear hr1 hc1
 have HB := am (Below.refl w.heap.size w)
 have H : ((impl_IsBoard.f a0_0 a0_1 l0_2).bind fun t458 => (if t458 = true then ((impl_Board_isPlacement.f k a0_0 a0_1 l0_2 l1).bind fun t459 => (impl_TurnPlacement.j0 k l1 (!t459) a0_0 a0_1 l0_2)) else (impl_TurnPlacement.j0 k l1 true a0_0 a0_1 l0_2))) = some (r1, r2) := h
 clear h
 have HC3 := Aside0.mk H
 clear H
 go_enter Try.func47, Try.ntmps47
 go_upto_region 1 with (first | ((with_reducible refine gate_dst (N := 2) rfl ?_); refine qv 2 #[.int .i64 a0_0, .int .i64 a0_1, .slice A0_2 l0_2.length c0_2] 26 ?_; intro gb457 hg w4 hbox hb; have BK457 := am hbox; have GW457 := qw hg; have GE457 := qw hg; replace HB := qs hb; clear hb hbox hg))
 (try simp only [Act.put, List.setIfInBounds_toArray, List.set_cons_zero, List.set_cons_succ])
 go_cut [17] (fun v17 wc => ∃ (kq : Nat) (x17_2 : Bool), v17 = .bool x17_2 ∧ Aside0 (impl_TurnPlacement.j0 kq l1 x17_2 a0_0 a0_1 l0_2 = some (r1, r2)) ∧ Aside0 (kq ≤ k) ∧ Aside0 (wc.heap[gb457]? = some (.cells #[.int .i64 a0_0, .int .i64 a0_1, (.slice A0_2 l0_2.length c0_2)] 26 (0, 0))) ∧ Aside0 (Below w.heap.size w wc))
 case first =>
  have H := HC3.out
  clear HC3
  replace H := qE H
  obtain ⟨t458, A5, H⟩ := H
  replace H : (if t458 = true then ((impl_Board_isPlacement.f k a0_0 a0_1 l0_2 l1).bind fun t459 => (impl_TurnPlacement.j0 k l1 (!t459) a0_0 a0_1 l0_2)) else (impl_TurnPlacement.j0 k l1 true a0_0 a0_1 l0_2)) = some (r1, r2) := H
  by_cases c6 : t458 = true
  ·
   subst c6
   have H1 : ((impl_Board_isPlacement.f k a0_0 a0_1 l0_2 l1).bind fun t459 => (impl_TurnPlacement.j0 k l1 (!t459) a0_0 a0_1 l0_2)) = some (r1, r2) := by first | (rw [if_pos rfl] at H; exact H) | rfl
   clear H
   have H := H1
   clear H1
   replace H := qE H
   obtain ⟨t459, A7, H⟩ := H
   replace H : (impl_TurnPlacement.j0 k l1 (!t459) a0_0 a0_1 l0_2) = some (r1, r2) := H
   have H' := Aside0.mk H
   clear H
   obtain ⟨zq24, zq25, zq26, fq24, fq25, fq26⟩ := qd BK457
   go_wp2_with (first | ((with_reducible refine gate_callee (f := 66) rfl ?_); refine qg (some 10) Try.func66 #[.agg #[.int .i64 a0_0, .int .i64 a0_1, .slice A0_2 l0_2.length c0_2]] ?_; (with_reducible refine (impl_IsBoard.calls a0_0 a0_1 _ _ l0_2 true _ ?side1 HC0_2.out A5.out).mono ?_); (case side1 => exact Q0); rintro e w9 ⟨rfl, hb⟩; refine ⟨_, rfl, ?_⟩; replace BK457 := sqB BK457 hb; replace HB := qs hb; (try clear hb); obtain ⟨zq0, zq1, zq2, fq0, fq1, fq2⟩ := qd BK457) | (go_at_call 110; (with_reducible refine (impl_Board_isPlacement.calls k a0_0 a0_1 _ _ l0_2 _ _ l1 t459 _ ?side1 HC0_2.out ?side3 HC1.out A7.out).mono ?_); (case side1 => exact Q0); (case side3 => exact Q10); rintro e w11 ⟨rfl, hb⟩; replace BK457 := sqB BK457 hb; replace HB := qs hb; (try clear hb)))
   go_meet
   case rel => exact ⟨_, (!t459), Q3, H', ⟨Q47⟩, ⟨Q32⟩, ⟨qb⟩⟩
  ·
   replace c6 := Bool.eq_false_iff.mpr c6
   subst c6
   have H1 : (impl_TurnPlacement.j0 k l1 true a0_0 a0_1 l0_2) = some (r1, r2) := by first | (rw [if_neg (show ¬ (false = true) by decide)] at H; exact H) | rfl
   clear H
   have H := H1
   clear H1
   have H' := Aside0.mk H
   clear H
   obtain ⟨zq3, zq4, zq5, fq3, fq4, fq5⟩ := qd BK457
   go_wp2_with (first | ((with_reducible refine gate_callee (f := 66) rfl ?_); refine qg (some 10) Try.func66 #[.agg #[.int .i64 a0_0, .int .i64 a0_1, .slice A0_2 l0_2.length c0_2]] ?_; (with_reducible refine (impl_IsBoard.calls a0_0 a0_1 _ _ l0_2 false _ ?side1 HC0_2.out A5.out).mono ?_); (case side1 => exact Q0); rintro e w13 ⟨rfl, hb⟩; refine ⟨_, rfl, ?_⟩; replace BK457 := sqB BK457 hb; replace HB := qs hb; (try clear hb)))
   go_meet
   case rel => exact ⟨_, (true), Q3, H', ⟨Q47⟩, ⟨Q32⟩, ⟨qb⟩⟩
 case rest =>
  clear HC3
  try clear c6; try clear zq0; try clear zq1; try clear zq2; try clear zq3; try clear zq4; try clear zq5; try clear zq24; try clear zq25; try clear zq26; try clear fq0; try clear fq1; try clear fq2; try clear fq3; try clear fq4; try clear fq5; try clear fq24; try clear fq25; try clear fq26
  obtain ⟨kq, x17_2, rfl, HA, HJ2, BK457, HB⟩ := hcut
  cases kq with
  | zero => exact absurd HA.out (by simp [impl_TurnPlacement.j0])
  | succ kj2 =>
   have H := HA.out
   clear HA
   simp only [impl_TurnPlacement.j0] at H
   by_cases c14 : x17_2 = true
   ·
    subst c14
    have H1 : (some (([] : List Int), false)) = some (r1, r2) := by first | (rw [if_pos rfl] at H; exact H) | rfl
    clear H
    have H := H1
    clear H1
    simp only [Option.some.injEq, Prod.mk.injEq] at H
    obtain ⟨rfl, rfl⟩ := H
    go_wp2
    go_ret2
    exact ⟨_, Q2, Q14, qb⟩
   ·
    replace c14 := Bool.eq_false_iff.mpr c14
    subst c14
    have H1 : ((slices_Repeat_int_int.f (([(-1)] : List Int)) a0_1).bind fun t463 => (impl_TurnPlacement.l0 kj2 t463 l1 (l1.length : Int) 0)) = some (r1, r2) := by first | (rw [if_neg (show ¬ (false = true) by decide)] at H; exact H) | rfl
    clear H
    have H := H1
    clear H1
    obtain ⟨y460, hy_⟩ : ∃ y_ : List Int, y_ = ((([(-1)] : List Int))) := ⟨_, rfl⟩
    replace H : ((slices_Repeat_int_int.f y460 a0_1).bind fun t463 => (impl_TurnPlacement.l0 kj2 t463 l1 (l1.length : Int) 0)) = some (r1, r2) := qH
    have Ny460 := Aside0.mk hy_
    clear hy_
    replace H := qE H
    obtain ⟨t463, A15, H⟩ := H
    replace H : (impl_TurnPlacement.l0 kj2 t463 l1 (l1.length : Int) 0) = some (r1, r2) := H
    have H' := Aside0.mk H
    clear H
    go_wp2_with (first | ((with_reducible refine gate_dst (N := 18) rfl ?_); refine Kd.R_lit (Kd.int .i64) _ 3 ?hg (N := 18) ?hd (xs := ([(-1)] : List Int)) (inner := [.int .i64 (-1)]) (ok := fun _ => True) (okp := fun _ => True) ?hr ?hp (fun _ hk => hk) trivial (Below.refl _ _) (Nat.le_refl _) (by simp) ?_; (case hd => rfl); (case hg => rfl); (case hr => first | (go_simp; done) | (go_simp; rfl)); (case hp => exact (Reps.one (show Kd.M (Kd.int .i64) _ _ _ (-1) [.int .i64 (-1)] from rfl) (Reps.none _ _))); intro v461 w16 ho17 hb hg_ hnew_; clear hg_ hnew_; (first | rw [← Ny460.out] at ho17 | (simp only [Int.reduceToNat] at ho17; rw [← Ny460.out] at ho17)); have Oq0 := ql ho17; replace BK457 := sqB BK457 hb; replace HB := qs hb; clear hb ho17; obtain ⟨zq6, zq7, zq8, fq6, fq7, fq8⟩ := qd BK457; obtain ⟨Ao19, co19, eo19⟩ := Kd.R_slice Oq0.out; subst eo19) | ((with_reducible refine gate_callee (f := 111) rfl ?_); refine qg (some 21) Try.func111 #[.slice Ao19 y460.length co19, .int .i64 a0_1] ?_; (with_reducible refine (slices_Repeat_int_int.calls _ _ y460 a0_1 t463 _ ?side1 ?side2 A15.out).mono ?_); (case side1 => repeat (first | exact (Kd.R_reads' Oq0.out).2.2 | (with_reducible first | refine Kd.C_alloc ?_ _ | refine Kd.C_drewN ?_ _ | refine Kd.C_drew ?_))); (case side2 => exact (Kd.R_reads' Oq0.out).2.1); rintro e w20 ⟨v464, rfl, ho0, hb⟩; refine ⟨_, rfl, ?_⟩; have Oq1 := am (Kd.R_lower (Kd.R_new' ho0 (sqL Oq0)) (below_size qb)); replace Oq0 := sqE Oq0 ho0 hb; replace BK457 := sqB BK457 hb; replace HB := qs hb; (try clear hb ho0)))
    go_loopg [24] kj2 (fun kq v24 w' => ∃ (x6_2 : List Int) (x24_2 : Int), v24 = .int .i64 x24_2 ∧ Aside0 (impl_TurnPlacement.l0 kq x6_2 l1 (l1.length : Int) x24_2 = some (r1, r2)) ∧ Aside0 (kq ≤ kj2) ∧ Aside0 (Kd.R (Kd.int .i64) 3 w' w.heap.size (fun _ => True) v464 x6_2) ∧ Aside0 (w'.heap[gb457]? = some (.cells #[.int .i64 a0_0, .int .i64 a0_1, (.slice A0_2 l0_2.length c0_2)] 26 (0, 0))) ∧ Aside0 (Below w.heap.size w w'))
    case atStart => exact ⟨(t463), (0), Q3, H', ⟨Nat.le_refl _⟩, ⟨by exact sqm Oq1 (fun _ hk => trivial)⟩, ⟨Q32⟩, ⟨qb⟩⟩
    case round =>
     clear H'
     try clear c6; try clear c14; try clear zq0; try clear zq1; try clear zq2; try clear zq3; try clear zq4; try clear zq5; try clear zq6; try clear zq7; try clear zq8; try clear zq24; try clear zq25; try clear zq26; try clear fq0; try clear fq1; try clear fq2; try clear fq3; try clear fq4; try clear fq5; try clear fq6; try clear fq7; try clear fq8; try clear fq24; try clear fq25; try clear fq26
     obtain ⟨x6_2, x24_2, rfl, HA, HK2, Oq2, BK457, HB⟩ := hrel
     cases gk with
     | zero => exact absurd HA.out (by simp [impl_TurnPlacement.l0])
     | succ k2 =>
      have H := HA.out
      clear HA
      simp only [impl_TurnPlacement.l0] at H
      by_cases c21 : x24_2 < (l1.length : Int)
      ·
       rw [if_pos c21] at H
       have c21b0 : decide (x24_2 < (l1.length : Int)) = true := decide_eq_true c21
       clear c21
       by_cases c22 : 0 ≤ x24_2
       ·
        rw [if_pos c22] at H
        have c22b0 : decide (0 ≤ x24_2) = true := decide_eq_true c22
        clear c22
        by_cases c23 : x24_2 < (l1.length : Int)
        ·
         rw [if_pos c23] at H
         have c23b0 : decide (x24_2 < (l1.length : Int)) = true := decide_eq_true c23
         clear c23
         by_cases c24 : (rd l1 x24_2) = (-1)
         ·
          rw [if_pos c24] at H
          have c24b0 : ((rd l1 x24_2) == (-1)) = true := beq_iff_eq.mpr c24
          have c24b1 : ((rd l1 x24_2) != (-1)) = false := bne_eq_false_iff_eq.mpr c24
          clear c24
          have H' := Aside0.mk H
          clear H
          have p466 : 0 ≤ (x24_2 : Int) := of_decide_eq_true Q1
          have q466 : x24_2 < (l1.length : Int) := of_decide_eq_true Q1
          obtain ⟨ad466, e466, hx466_0⟩ := Kd.at_int HR1.out x24_2 p466 q466
          cases e466
          replace hx466_0 := (HB.out.cell (World.block_lt_of_cell? w _ hx466_0)).trans hx466_0
          replace p466 := eq_true p466
          replace q466 := eq_true q466
          go_wp2
          go_roundg k2
          case measure => have := HJ2.out; have := HK2.out; omega
          case rel => exact ⟨(x6_2), (wrap64 (x24_2 + 1)), Q3, H', ⟨by have := HJ2.out; have := HK2.out; omega⟩, ⟨Q46⟩, ⟨Q32⟩, ⟨qb⟩⟩
         ·
          rw [if_neg c24] at H
          have c24b0 : ((rd l1 x24_2) == (-1)) = false := beq_eq_false_iff_ne.mpr c24
          have c24b1 : ((rd l1 x24_2) != (-1)) = true := bne_iff_ne.mpr c24
          by_cases c25 : 0 ≤ (rd l1 x24_2)
          ·
           rw [if_pos c25] at H
           have c25b0 : decide (0 ≤ (rd l1 x24_2)) = true := decide_eq_true c25
           clear c25
           by_cases c26 : (rd l1 x24_2) < (x6_2.length : Int)
           ·
            rw [if_pos c26] at H
            have c26b0 : decide ((rd l1 x24_2) < (x6_2.length : Int)) = true := decide_eq_true c26
            clear c26
            obtain ⟨y467, hy_⟩ : ∃ y_ : List Int, y_ = ((x6_2.set ((rd l1 x24_2) : Int).toNat x24_2)) := ⟨_, rfl⟩
            replace H : (impl_TurnPlacement.l0 k2 y467 l1 (l1.length : Int) (wrap64 (x24_2 + 1))) = some (r1, r2) := qH
            have Ny467 := Aside0.mk hy_
            clear hy_
            have H' := Aside0.mk H
            clear H
            have p466 : 0 ≤ (x24_2 : Int) := of_decide_eq_true Q1
            have q466 : x24_2 < (l1.length : Int) := of_decide_eq_true Q1
            obtain ⟨ad466, e466, hx466_0⟩ := Kd.at_int HR1.out x24_2 p466 q466
            cases e466
            replace hx466_0 := (HB.out.cell (World.block_lt_of_cell? w _ hx466_0)).trans hx466_0
            replace p466 := eq_true p466
            replace q466 := eq_true q466
            have p27 : 0 ≤ ((rd l1 x24_2) : Int) := of_decide_eq_true Q1
            have q27 : ((rd l1 x24_2) : Int) < ((x6_2.length : Int) : Int) := of_decide_eq_true Q1
            obtain ⟨go27, co27, eo27, gb27, gl27, cl27, HG27⟩ := Kd.R_form Oq2.out (by omega)
            (first | cases eo27 | (injection eo27 with ea_ en_ ec_; (first | subst ea_ | (injection ea_ with ea_; subst ea_)); subst ec_; clear en_))
            have GB27 := Aside0.mk gb27
            have GG27 := Aside0.mk HG27
            clear gb27 gl27 HG27
            obtain ⟨hx27_0, hf27_0⟩ := Kd.R_celln 0 Oq2.out ((rd l1 x24_2) : Int) p27 q27
            replace p27 := eq_true p27
            replace q27 := eq_true q27
            have HP28 := Kd.R_putg Oq2.out ((rd l1 x24_2) : Int) x24_2
            go_wp2_with (first | ((with_reducible refine gate_store (t := 3) (p := 34) rfl ?_); refine store_event (t := 3) (p := 34) (v := ?vo_w29) (w1 := (wr.setCell ⟨go27, ((rd l1 x24_2) : Int).toNat, none⟩ (.int .i64 x24_2))) ?hg ?ho ?hn ?hr ?_; (case ho => rfl); (case hg => rfl); (case hn => rfl); (case hr => first | (go_simp; done) | (go_simp; rfl)); intro w29 hw; have hg : wr.grownBy w29 (some go27) := (by rw [hw]; exact HP28.2); have hp_ : Kd.R (Kd.int .i64) 3 w29 w.heap.size (fun _ => True) (.slice (some ⟨go27, 0, none⟩) x6_2.length co27) y467 := (by rw [hw, Ny467.out]; exact HP28.1); clear HP28; replace BK457 := am (blk_grown (g := gb457) (o := .cells #[.int .i64 a0_0, .int .i64 a0_1, .slice A0_2 l0_2.length c0_2] 26 (0, 0)) (sqb BK457) hg (Kd.R_ne Oq2.out BK457.out (by decide))); replace Oq2 := am (hp_); replace HB := am ((by rw [hw]; exact below_set (HB.out) GB27.out : Below w.heap.size w w29)); clear hg hw hp_))
            go_roundg k2
            case measure => have := HJ2.out; have := HK2.out; omega
            case rel => exact ⟨(y467), (wrap64 (x24_2 + 1)), Q3, H', ⟨by have := HJ2.out; have := HK2.out; omega⟩, ⟨Q46⟩, ⟨Q32⟩, ⟨qb⟩⟩
           ·
            rw [if_neg c26] at H
            exact absurd H (by simp)
          ·
           rw [if_neg c25] at H
           exact absurd H (by simp)
        ·
         rw [if_neg c23] at H
         exact absurd H (by simp)
       ·
        rw [if_neg c22] at H
        exact absurd H (by simp)
      ·
       rw [if_neg c21] at H
       have c21b0 : decide (x24_2 < (l1.length : Int)) = false := decide_eq_false c21
       clear c21
       simp only [Option.some.injEq, Prod.mk.injEq] at H
       obtain ⟨rfl, rfl⟩ := H
       go_wp2
       go_ret2
       exact ⟨_, Q2, Q46, qb⟩

/-! ### spec_roGood: function 112 -/
def spec_roGood.l0 : Nat → List Int → List Int → Int → Int → Int → Int → List Int → Option (Bool)
 | 0, _, _, _, _, _, _, _ => none
 | k + 1, x1, x12, x13, x14, x469000, x469001, x469002 => if x14 < x13 then (if 0 ≤ x14 then (if x14 < (x12.length : Int) then (if (rd x12 x14) = (-1) then (spec_roGood.l0 k x1 x12 x13 (wrap64 (x14 + 1)) x469000 x469001 x469002) else ((spec_l1In.f (rd x12 x14) 0 (wrap64 (x469001 - 1))).bind fun t470 => (if t470 = true then ((spec_boHas.f x469000 x469001 x469002 x14 (rd x12 x14)).bind fun t471 => (if t471 = true then (if x14 ≤ (x1.length : Int) then ((spec_l1Has.f k (x1.take (x14 : Int).toNat) (rd x12 x14)).bind fun t473 => (if t473 = true then (some false) else (spec_roGood.l0 k x1 x12 x13 (wrap64 (x14 + 1)) x469000 x469001 x469002))) else (none)) else (some false))) else (some false)))) else (none)) else (none)) else (some true)
def spec_roGood.f (k : Nat) (a0_0 : Int) (a0_1 : Int) (l0_2 : List Int) (l1 : List Int) : Option (Bool) := if (l1.length : Int) = a0_0 then (spec_roGood.l0 k l1 l1 (l1.length : Int) 0 a0_0 a0_1 l0_2) else (some false)
set_option maxHeartbeats 8000000 in
set_option maxRecDepth 100000 in
theorem spec_roGood.calls (k : Nat) (a0_0 : Int) (a0_1 : Int) (A0_2 : Option Addr) (c0_2 : Nat) (l0_2 : List Int) (A1 : Option Addr) (c1 : Nat) (l1 : List Int) (r : Bool) (w : World) (hr0_2 : Kd.C (Kd.int .i64) w A0_2 l0_2.length l0_2) (hc0_2 : l0_2.length ≤ c0_2) (hr1 : Kd.C (Kd.int .i64) w A1 l1.length l1) (hc1 : l1.length ≤ c1) (h : spec_roGood.f k a0_0 a0_1 l0_2 l1 = some r) :
  Calls Try.prog 112 #[.agg #[.int .i64 a0_0, .int .i64 a0_1, .slice A0_2 l0_2.length c0_2], .slice A1 l1.length c1] w fun e w' => e = .returned (.bool r) ∧ Below w.heap.size w w' := by
 have hu26 := Try.underlying26
 have HR0_2 := Aside0.mk hr0_2
 have HC0_2 := Aside0.mk hc0_2
 clear hr0_2 hc0_2
 have HR1 := Aside0.mk hr1
 have HC1 := Aside0.mk hc1
 clear hr1 hc1
 have HB := am (Below.refl w.heap.size w)
 have H : (if (l1.length : Int) = a0_0 then (spec_roGood.l0 k l1 l1 (l1.length : Int) 0 a0_0 a0_1 l0_2) else (some false)) = some r := h
 clear h
 by_cases c3 : (l1.length : Int) = a0_0
 ·
  rw [if_pos c3] at H
  have c3b0 : ((l1.length : Int) == a0_0) = true := beq_iff_eq.mpr c3
  have c3b1 : ((l1.length : Int) != a0_0) = false := bne_eq_false_iff_eq.mpr c3
  clear c3
  have H' := Aside0.mk H
  clear H
  go_enter Try.func112, Try.ntmps112
  go_wp2_with (first | ((with_reducible refine gate_dst (N := 2) rfl ?_); refine qv 2 #[.int .i64 a0_0, .int .i64 a0_1, .slice A0_2 l0_2.length c0_2] 26 ?_; intro gb468 hg w4 hbox hb; have BK468 := am hbox; have GW468 := qw hg; have GE468 := qw hg; replace HB := qs hb; clear hb hbox hg; obtain ⟨zq21, zq22, zq23, fq21, fq22, fq23⟩ := qd BK468))
  go_loopg [14] k (fun kq v14 w' => ∃ (x14_1 : Int), v14 = .int .i64 x14_1 ∧ Aside0 (spec_roGood.l0 kq l1 l1 (l1.length : Int) x14_1 a0_0 a0_1 l0_2 = some r) ∧ Aside0 (kq ≤ k) ∧ Aside0 (w'.heap[gb468]? = some (.cells #[.int .i64 a0_0, .int .i64 a0_1, (.slice A0_2 l0_2.length c0_2)] 26 (0, 0))) ∧ Aside0 (Below w.heap.size w w'))
  case atStart => exact ⟨(0), Q3, H', ⟨Nat.le_refl _⟩, ⟨Q49⟩, ⟨qb⟩⟩
  case round =>
   clear H'
   try clear c3; try clear c3b0; try clear c3b1; try clear zq21; try clear zq22; try clear zq23; try clear fq21; try clear fq22; try clear fq23
   obtain ⟨x14_1, rfl, HA, HK1, BK468, HB⟩ := hrel
   cases gk with
   | zero => exact absurd HA.out (by simp [spec_roGood.l0])
   | succ k1 =>
    have H := HA.out
    clear HA
    simp only [spec_roGood.l0] at H
    by_cases c6 : x14_1 < (l1.length : Int)
    ·
     rw [if_pos c6] at H
     have c6b0 : decide (x14_1 < (l1.length : Int)) = true := decide_eq_true c6
     clear c6
     by_cases c7 : 0 ≤ x14_1
     ·
      rw [if_pos c7] at H
      have c7b0 : decide (0 ≤ x14_1) = true := decide_eq_true c7
      clear c7
      by_cases c8 : x14_1 < (l1.length : Int)
      ·
       rw [if_pos c8] at H
       have c8b0 : decide (x14_1 < (l1.length : Int)) = true := decide_eq_true c8
       clear c8
       by_cases c9 : (rd l1 x14_1) = (-1)
       ·
        rw [if_pos c9] at H
        have c9b0 : ((rd l1 x14_1) == (-1)) = true := beq_iff_eq.mpr c9
        have c9b1 : ((rd l1 x14_1) != (-1)) = false := bne_eq_false_iff_eq.mpr c9
        clear c9
        have H' := Aside0.mk H
        clear H
        have p469 : 0 ≤ (x14_1 : Int) := of_decide_eq_true Q1
        have q469 : x14_1 < (l1.length : Int) := of_decide_eq_true Q1
        obtain ⟨ad469, e469, hx469_0⟩ := Kd.at_int HR1.out x14_1 p469 q469
        cases e469
        replace hx469_0 := (HB.out.cell (World.block_lt_of_cell? w _ hx469_0)).trans hx469_0
        replace p469 := eq_true p469
        replace q469 := eq_true q469
        go_wp2
        go_roundg k1
        case measure => have := HK1.out; omega
        case rel => exact ⟨(wrap64 (x14_1 + 1)), Q3, H', ⟨Q42⟩, ⟨Q49⟩, ⟨qb⟩⟩
       ·
        rw [if_neg c9] at H
        have c9b0 : ((rd l1 x14_1) == (-1)) = false := beq_eq_false_iff_ne.mpr c9
        have c9b1 : ((rd l1 x14_1) != (-1)) = true := bne_iff_ne.mpr c9
        replace H := qE H
        obtain ⟨t470, A10, H⟩ := H
        replace H : (if t470 = true then ((spec_boHas.f a0_0 a0_1 l0_2 x14_1 (rd l1 x14_1)).bind fun t471 => (if t471 = true then (if x14_1 ≤ (l1.length : Int) then ((spec_l1Has.f k1 (l1.take (x14_1 : Int).toNat) (rd l1 x14_1)).bind fun t473 => (if t473 = true then (some false) else (spec_roGood.l0 k1 l1 l1 (l1.length : Int) (wrap64 (x14_1 + 1)) a0_0 a0_1 l0_2))) else (none)) else (some false))) else (some false)) = some r := H
        by_cases c11 : t470 = true
        ·
         subst c11
         have H1 : ((spec_boHas.f a0_0 a0_1 l0_2 x14_1 (rd l1 x14_1)).bind fun t471 => (if t471 = true then (if x14_1 ≤ (l1.length : Int) then ((spec_l1Has.f k1 (l1.take (x14_1 : Int).toNat) (rd l1 x14_1)).bind fun t473 => (if t473 = true then (some false) else (spec_roGood.l0 k1 l1 l1 (l1.length : Int) (wrap64 (x14_1 + 1)) a0_0 a0_1 l0_2))) else (none)) else (some false))) = some r := by first | (rw [if_pos rfl] at H; exact H) | rfl
         clear H
         have H := H1
         clear H1
         replace H := qE H
         obtain ⟨t471, A12, H⟩ := H
         replace H : (if t471 = true then (if x14_1 ≤ (l1.length : Int) then ((spec_l1Has.f k1 (l1.take (x14_1 : Int).toNat) (rd l1 x14_1)).bind fun t473 => (if t473 = true then (some false) else (spec_roGood.l0 k1 l1 l1 (l1.length : Int) (wrap64 (x14_1 + 1)) a0_0 a0_1 l0_2))) else (none)) else (some false)) = some r := H
         by_cases c13 : t471 = true
         ·
          subst c13
          have H1 : (if x14_1 ≤ (l1.length : Int) then ((spec_l1Has.f k1 (l1.take (x14_1 : Int).toNat) (rd l1 x14_1)).bind fun t473 => (if t473 = true then (some false) else (spec_roGood.l0 k1 l1 l1 (l1.length : Int) (wrap64 (x14_1 + 1)) a0_0 a0_1 l0_2))) else (none)) = some r := by first | (rw [if_pos rfl] at H; exact H) | rfl
          clear H
          have H := H1
          clear H1
          have c14b0 := eq_true (of_decide_eq_true Q1 : 0 ≤ x14_1)
          by_cases c15 : x14_1 ≤ (l1.length : Int)
          ·
           rw [if_pos c15] at H
           have c15b0 := eq_true c15
           have c15b1 : decide (x14_1 ≤ (l1.length : Int)) = true := decide_eq_true c15
           clear c15
           replace H := qE H
           obtain ⟨t473, A16, H⟩ := H
           replace H : (if t473 = true then (some false) else (spec_roGood.l0 k1 l1 l1 (l1.length : Int) (wrap64 (x14_1 + 1)) a0_0 a0_1 l0_2)) = some r := H
           by_cases c17 : t473 = true
           ·
            subst c17
            have H1 : (some false) = some r := by first | (rw [if_pos rfl] at H; exact H) | rfl
            clear H
            have H := H1
            clear H1
            obtain rfl := Option.some.inj H
            have p469 : 0 ≤ (x14_1 : Int) := of_decide_eq_true Q1
            have q469 : x14_1 < (l1.length : Int) := of_decide_eq_true Q1
            obtain ⟨ad469, e469, hx469_0⟩ := Kd.at_int HR1.out x14_1 p469 q469
            cases e469
            replace hx469_0 := (HB.out.cell (World.block_lt_of_cell? w _ hx469_0)).trans hx469_0
            replace p469 := eq_true p469
            replace q469 := eq_true q469
            obtain ⟨zq6, zq7, zq8, fq6, fq7, fq8⟩ := qd BK468
            go_wp2_with (first | ((with_reducible refine gate_callee (f := 104) rfl ?_); refine qg (some 25) Try.func104 #[.int .i64 (rd l1 x14_1), .int .i64 0, .int .i64 (wrap64 (a0_1 - 1))] ?_; (with_reducible refine (spec_l1In.calls (rd l1 x14_1) 0 (wrap64 (a0_1 - 1)) true _ A10.out).mono ?_); rintro e w' ⟨rfl, ⟨nd, rfl⟩⟩; refine ⟨_, rfl, ?_⟩) | (go_at_call 133; (with_reducible refine (spec_boHas.calls a0_0 a0_1 _ _ l0_2 x14_1 (rd l1 x14_1) true _ ?side1 HC0_2.out A12.out).mono ?_); (case side1 => exact Q18); rintro e w19 ⟨rfl, hb⟩; replace BK468 := sqB BK468 hb; replace HB := qs hb; (try clear hb); obtain ⟨i020, hi020, _, hsz20, _⟩ := info_parts info3; obtain ⟨hcut20, hA20, hC20⟩ := print_take_of (P := Try.prog) (Value.int .i64) 0 24 3 .i64 Try.underlying24 hi020 hsz20 (some ad469) c1 l1 x14_1 (of_decide_eq_true Q1) (of_decide_eq_true Q1) HC1.out; have HR472 := am (Kd.C_of_reads (h1 := fun _ => rfl) (hA20 _ (Kd.reads_of_C HR1.out))); have HC472 := Aside0.mk hC20; clear hA20 hC20 hi020 hsz20) | (go_at_call 134; (try (have hh_ : (x14_1 : Int) ≤ (l1.length : Int) := of_decide_eq_true Q1; rw [show (x14_1 : Int).toNat = (l1.take (x14_1 : Int).toNat).length from (by rw [List.length_take]; omega)]; clear hh_)); (with_reducible refine (spec_l1Has.calls k1 _ _ (l1.take (x14_1 : Int).toNat) (rd l1 x14_1) true _ ?side1 HC472.out A16.out).mono ?_); (case side1 => repeat (first | exact (Kd.C_below HR472.out HB.out) | (with_reducible first | refine Kd.C_alloc ?_ _ | refine Kd.C_drewN ?_ _ | refine Kd.C_drew ?_))); rintro e w' ⟨rfl, ⟨nd, rfl⟩⟩))
            go_ret
            exact ⟨Q2, qb⟩
           ·
            replace c17 := Bool.eq_false_iff.mpr c17
            subst c17
            have H1 : (spec_roGood.l0 k1 l1 l1 (l1.length : Int) (wrap64 (x14_1 + 1)) a0_0 a0_1 l0_2) = some r := by first | (rw [if_neg (show ¬ (false = true) by decide)] at H; exact H) | rfl
            clear H
            have H := H1
            clear H1
            have H' := Aside0.mk H
            clear H
            have p469 : 0 ≤ (x14_1 : Int) := of_decide_eq_true Q1
            have q469 : x14_1 < (l1.length : Int) := of_decide_eq_true Q1
            obtain ⟨ad469, e469, hx469_0⟩ := Kd.at_int HR1.out x14_1 p469 q469
            cases e469
            replace hx469_0 := (HB.out.cell (World.block_lt_of_cell? w _ hx469_0)).trans hx469_0
            replace p469 := eq_true p469
            replace q469 := eq_true q469
            obtain ⟨zq9, zq10, zq11, fq9, fq10, fq11⟩ := qd BK468
            go_wp2_with (first | ((with_reducible refine gate_callee (f := 104) rfl ?_); refine qg (some 25) Try.func104 #[.int .i64 (rd l1 x14_1), .int .i64 0, .int .i64 (wrap64 (a0_1 - 1))] ?_; (with_reducible refine (spec_l1In.calls (rd l1 x14_1) 0 (wrap64 (a0_1 - 1)) true _ A10.out).mono ?_); rintro e w' ⟨rfl, ⟨nd, rfl⟩⟩; refine ⟨_, rfl, ?_⟩) | (go_at_call 133; (with_reducible refine (spec_boHas.calls a0_0 a0_1 _ _ l0_2 x14_1 (rd l1 x14_1) true _ ?side1 HC0_2.out A12.out).mono ?_); (case side1 => exact Q18); rintro e w22 ⟨rfl, hb⟩; replace BK468 := sqB BK468 hb; replace HB := qs hb; (try clear hb); obtain ⟨i023, hi023, _, hsz23, _⟩ := info_parts info3; obtain ⟨hcut23, hA23, hC23⟩ := print_take_of (P := Try.prog) (Value.int .i64) 0 24 3 .i64 Try.underlying24 hi023 hsz23 (some ad469) c1 l1 x14_1 (of_decide_eq_true Q1) (of_decide_eq_true Q1) HC1.out; have HR472 := am (Kd.C_of_reads (h1 := fun _ => rfl) (hA23 _ (Kd.reads_of_C HR1.out))); have HC472 := Aside0.mk hC23; clear hA23 hC23 hi023 hsz23) | (go_at_call 134; (try (have hh_ : (x14_1 : Int) ≤ (l1.length : Int) := of_decide_eq_true Q1; rw [show (x14_1 : Int).toNat = (l1.take (x14_1 : Int).toNat).length from (by rw [List.length_take]; omega)]; clear hh_)); (with_reducible refine (spec_l1Has.calls k1 _ _ (l1.take (x14_1 : Int).toNat) (rd l1 x14_1) false _ ?side1 HC472.out A16.out).mono ?_); (case side1 => repeat (first | exact (Kd.C_below HR472.out HB.out) | (with_reducible first | refine Kd.C_alloc ?_ _ | refine Kd.C_drewN ?_ _ | refine Kd.C_drew ?_))); rintro e w' ⟨rfl, ⟨nd, rfl⟩⟩))
            go_roundg k1
            case measure => have := HK1.out; omega
            case rel => exact ⟨(wrap64 (x14_1 + 1)), Q3, H', ⟨Q42⟩, ⟨Q49⟩, ⟨qb⟩⟩
          ·
           rw [if_neg c15] at H
           exact absurd H (by simp)
         ·
          replace c13 := Bool.eq_false_iff.mpr c13
          subst c13
          have H1 : (some false) = some r := by first | (rw [if_neg (show ¬ (false = true) by decide)] at H; exact H) | rfl
          clear H
          have H := H1
          clear H1
          obtain rfl := Option.some.inj H
          have p469 : 0 ≤ (x14_1 : Int) := of_decide_eq_true Q1
          have q469 : x14_1 < (l1.length : Int) := of_decide_eq_true Q1
          obtain ⟨ad469, e469, hx469_0⟩ := Kd.at_int HR1.out x14_1 p469 q469
          cases e469
          replace hx469_0 := (HB.out.cell (World.block_lt_of_cell? w _ hx469_0)).trans hx469_0
          replace p469 := eq_true p469
          replace q469 := eq_true q469
          obtain ⟨zq12, zq13, zq14, fq12, fq13, fq14⟩ := qd BK468
          go_wp2_with (first | ((with_reducible refine gate_callee (f := 104) rfl ?_); refine qg (some 25) Try.func104 #[.int .i64 (rd l1 x14_1), .int .i64 0, .int .i64 (wrap64 (a0_1 - 1))] ?_; (with_reducible refine (spec_l1In.calls (rd l1 x14_1) 0 (wrap64 (a0_1 - 1)) true _ A10.out).mono ?_); rintro e w' ⟨rfl, ⟨nd, rfl⟩⟩; refine ⟨_, rfl, ?_⟩) | (go_at_call 133; (with_reducible refine (spec_boHas.calls a0_0 a0_1 _ _ l0_2 x14_1 (rd l1 x14_1) false _ ?side1 HC0_2.out A12.out).mono ?_); (case side1 => exact Q18); rintro e w25 ⟨rfl, hb⟩; replace BK468 := sqB BK468 hb; replace HB := qs hb; (try clear hb)))
          go_ret
          exact ⟨Q2, qb⟩
        ·
         replace c11 := Bool.eq_false_iff.mpr c11
         subst c11
         have H1 : (some false) = some r := by first | (rw [if_neg (show ¬ (false = true) by decide)] at H; exact H) | rfl
         clear H
         have H := H1
         clear H1
         obtain rfl := Option.some.inj H
         have p469 : 0 ≤ (x14_1 : Int) := of_decide_eq_true Q1
         have q469 : x14_1 < (l1.length : Int) := of_decide_eq_true Q1
         obtain ⟨ad469, e469, hx469_0⟩ := Kd.at_int HR1.out x14_1 p469 q469
         cases e469
         replace hx469_0 := (HB.out.cell (World.block_lt_of_cell? w _ hx469_0)).trans hx469_0
         replace p469 := eq_true p469
         replace q469 := eq_true q469
         obtain ⟨zq15, zq16, zq17, fq15, fq16, fq17⟩ := qd BK468
         go_wp2_with (first | ((with_reducible refine gate_callee (f := 104) rfl ?_); refine qg (some 25) Try.func104 #[.int .i64 (rd l1 x14_1), .int .i64 0, .int .i64 (wrap64 (a0_1 - 1))] ?_; (with_reducible refine (spec_l1In.calls (rd l1 x14_1) 0 (wrap64 (a0_1 - 1)) false _ A10.out).mono ?_); rintro e w' ⟨rfl, ⟨nd, rfl⟩⟩; refine ⟨_, rfl, ?_⟩))
         go_ret
         exact ⟨Q2, qb⟩
      ·
       rw [if_neg c8] at H
       exact absurd H (by simp)
     ·
      rw [if_neg c7] at H
      exact absurd H (by simp)
    ·
     rw [if_neg c6] at H
     have c6b0 : decide (x14_1 < (l1.length : Int)) = false := decide_eq_false c6
     clear c6
     obtain rfl := Option.some.inj H
     go_wp2
     go_ret
     exact ⟨Q2, qb⟩
 ·
  rw [if_neg c3] at H
  have c3b0 : ((l1.length : Int) == a0_0) = false := beq_eq_false_iff_ne.mpr c3
  have c3b1 : ((l1.length : Int) != a0_0) = true := bne_iff_ne.mpr c3
  obtain rfl := Option.some.inj H
  go_enter Try.func112, Try.ntmps112
  go_wp2_with (first | ((with_reducible refine gate_dst (N := 2) rfl ?_); refine qv 2 #[.int .i64 a0_0, .int .i64 a0_1, .slice A0_2 l0_2.length c0_2] 26 ?_; intro gb468 hg w27 hbox hb; have BK468 := am hbox; have GW468 := qw hg; have GE468 := qw hg; replace HB := qs hb; clear hb hbox hg; obtain ⟨zq18, zq19, zq20, fq18, fq19, fq20⟩ := qd BK468))
  go_ret
  exact ⟨Q2, qb⟩

end Go.Proofs.Ytllhofdgbpnkkaa.PFnPlacementsListed
