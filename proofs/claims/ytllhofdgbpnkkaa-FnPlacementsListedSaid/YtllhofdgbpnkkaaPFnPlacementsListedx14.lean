-- Printed for this claim by wip/pp.py over the kit's printer; Lean checks it.
import Derived.Test.YtllhofdgbpnkkaaPFnPlacementsListedx0
import Derived.Test.YtllhofdgbpnkkaaPFnPlacementsListedx1
import Derived.Test.YtllhofdgbpnkkaaPFnPlacementsListedx4
import Derived.Test.YtllhofdgbpnkkaaPFnPlacementsListedx13
namespace Go.Proofs.Ytllhofdgbpnkkaa.PFnPlacementsListed
open Go.RowKit Go.Proofs.YtllhofdgbpnkkaaW.PrintWords Go.Proofs.YtllhofdgbpnkkaaW.PrintLast Go.Proofs.YtllhofdgbpnkkaaW.PrintMore
attribute [local go_sem] max2_int min2_int max_two min_two max_three min_three max_four min_four   -- for this text's walks alone
set_option linter.unusedVariables false
set_option linter.unusedSimpArgs false

/-! ### spec_TurnPlacement: function 48 -/
mutual
def spec_TurnPlacement.j0 : Nat → List Int → Bool → Int → Int → List Int → Option (List Int × Bool)
 | 0, _, _, _, _, _ => none
 | k + 1, x1, x18, x475000, x475001, x475002 => if x18 = true then (some (([] : List Int), false)) else (spec_TurnPlacement.l0 k x1 ([] : List Int) 0 x475000 x475001 x475002)
def spec_TurnPlacement.l0 : Nat → List Int → List Int → Int → Int → Int → List Int → Option (List Int × Bool)
 | 0, _, _, _, _, _, _ => none
 | k + 1, x1, x6, x7, x475000, x475001, x475002 => if x7 < x475001 then (if x6.length < 17592186044416 then (spec_TurnPlacement.l0 k x1 (x6 ++ [(-1)]) (wrap64 (x7 + 1)) x475000 x475001 x475002) else (none)) else (spec_TurnPlacement.l1 k x6 x1 (x1.length : Int) 0)
def spec_TurnPlacement.l1 : Nat → List Int → List Int → Int → Int → Option (List Int × Bool)
 | 0, _, _, _, _ => none
 | k + 1, x6, x28, x29, x30 => if x30 < x29 then (if 0 ≤ x30 then (if x30 < (x28.length : Int) then (if (rd x28 x30) ≥ 0 then (if 0 ≤ (rd x28 x30) then (if (rd x28 x30) < (x6.length : Int) then (spec_TurnPlacement.l1 k (x6.set ((rd x28 x30) : Int).toNat x30) x28 x29 (wrap64 (x30 + 1))) else (none)) else (none)) else (spec_TurnPlacement.l1 k x6 x28 x29 (wrap64 (x30 + 1)))) else (none)) else (none)) else (some (x6, true))
end
def spec_TurnPlacement.f (k : Nat) (a0_0 : Int) (a0_1 : Int) (l0_2 : List Int) (l1 : List Int) : Option (List Int × Bool) := (spec_boGood.f k a0_0 a0_1 l0_2).bind fun t475 => (if t475 = true then ((spec_roGood.f k a0_0 a0_1 l0_2 l1).bind fun t476 => (spec_TurnPlacement.j0 k l1 (!t476) a0_0 a0_1 l0_2)) else (spec_TurnPlacement.j0 k l1 true a0_0 a0_1 l0_2))
set_option maxHeartbeats 8000000 in
set_option maxRecDepth 100000 in
theorem spec_TurnPlacement.calls (k : Nat) (a0_0 : Int) (a0_1 : Int) (A0_2 : Option Addr) (c0_2 : Nat) (l0_2 : List Int) (A1 : Option Addr) (c1 : Nat) (l1 : List Int) (r1 : List Int) (r2 : Bool) (w : World) (hr0_2 : Kd.C (Kd.int .i64) w A0_2 l0_2.length l0_2) (hc0_2 : l0_2.length ≤ c0_2) (hr1 : Kd.C (Kd.int .i64) w A1 l1.length l1) (hc1 : l1.length ≤ c1) (h : spec_TurnPlacement.f k a0_0 a0_1 l0_2 l1 = some (r1, r2)) :
  Calls Try.prog 48 #[.agg #[.int .i64 a0_0, .int .i64 a0_1, .slice A0_2 l0_2.length c0_2], .slice A1 l1.length c1] w fun e w' => ∃ v0_ : Value, e = .returned (.tuple #[v0_, .bool r2]) ∧ Kd.R (Kd.int .i64) 3 w' w.heap.size (fun _ => True) v0_ r1 ∧ Below w.heap.size w w' := by
 have hu26 := Try.underlying26
 have HR0_2 := Aside0.mk hr0_2
 have HC0_2 := Aside0.mk hc0_2
 clear hr0_2 hc0_2
 have HR1 := Aside0.mk hr1
 have HC1 := Aside0.mk hc1
 clear hr1 hc1
 have HB := am (Below.refl w.heap.size w)
 have H : ((spec_boGood.f k a0_0 a0_1 l0_2).bind fun t475 => (if t475 = true then ((spec_roGood.f k a0_0 a0_1 l0_2 l1).bind fun t476 => (spec_TurnPlacement.j0 k l1 (!t476) a0_0 a0_1 l0_2)) else (spec_TurnPlacement.j0 k l1 true a0_0 a0_1 l0_2))) = some (r1, r2) := h
 clear h
 have HC3 := Aside0.mk H
 clear H
 go_enter Try.func48, Try.ntmps48
 go_upto_region 1 with (first | ((with_reducible refine gate_dst (N := 2) rfl ?_); refine qv 2 #[.int .i64 a0_0, .int .i64 a0_1, .slice A0_2 l0_2.length c0_2] 26 ?_; intro gb474 hg w4 hbox hb; have BK474 := am hbox; have GW474 := qw hg; have GE474 := qw hg; replace HB := qs hb; clear hb hbox hg))
 (try simp only [Act.put, List.setIfInBounds_toArray, List.set_cons_zero, List.set_cons_succ])
 go_cut [18] (fun v18 wc => ∃ (kq : Nat) (x18_2 : Bool), v18 = .bool x18_2 ∧ Aside0 (spec_TurnPlacement.j0 kq l1 x18_2 a0_0 a0_1 l0_2 = some (r1, r2)) ∧ Aside0 (kq ≤ k) ∧ Aside0 (wc.heap[gb474]? = some (.cells #[.int .i64 a0_0, .int .i64 a0_1, (.slice A0_2 l0_2.length c0_2)] 26 (0, 0))) ∧ Aside0 (Below w.heap.size w wc))
 case first =>
  have H := HC3.out
  clear HC3
  replace H := qE H
  obtain ⟨t475, A5, H⟩ := H
  replace H : (if t475 = true then ((spec_roGood.f k a0_0 a0_1 l0_2 l1).bind fun t476 => (spec_TurnPlacement.j0 k l1 (!t476) a0_0 a0_1 l0_2)) else (spec_TurnPlacement.j0 k l1 true a0_0 a0_1 l0_2)) = some (r1, r2) := H
  by_cases c6 : t475 = true
  ·
   subst c6
   have H1 : ((spec_roGood.f k a0_0 a0_1 l0_2 l1).bind fun t476 => (spec_TurnPlacement.j0 k l1 (!t476) a0_0 a0_1 l0_2)) = some (r1, r2) := by first | (rw [if_pos rfl] at H; exact H) | rfl
   clear H
   have H := H1
   clear H1
   replace H := qE H
   obtain ⟨t476, A7, H⟩ := H
   replace H : (spec_TurnPlacement.j0 k l1 (!t476) a0_0 a0_1 l0_2) = some (r1, r2) := H
   have H' := Aside0.mk H
   clear H
   obtain ⟨zq33, zq34, zq35, fq33, fq34, fq35⟩ := qd BK474
   go_wp2_with (first | ((with_reducible refine gate_callee (f := 60) rfl ?_); refine qg (some 11) Try.func60 #[.agg #[.int .i64 a0_0, .int .i64 a0_1, .slice A0_2 l0_2.length c0_2]] ?_; (with_reducible refine (spec_boGood.calls k a0_0 a0_1 _ _ l0_2 true _ ?side1 HC0_2.out A5.out).mono ?_); (case side1 => exact Q0); rintro e w9 ⟨rfl, hb⟩; refine ⟨_, rfl, ?_⟩; replace BK474 := sqB BK474 hb; replace HB := qs hb; (try clear hb); obtain ⟨zq0, zq1, zq2, fq0, fq1, fq2⟩ := qd BK474) | (go_at_call 112; (with_reducible refine (spec_roGood.calls k a0_0 a0_1 _ _ l0_2 _ _ l1 t476 _ ?side1 HC0_2.out ?side3 HC1.out A7.out).mono ?_); (case side1 => exact Q0); (case side3 => exact Q10); rintro e w11 ⟨rfl, hb⟩; replace BK474 := sqB BK474 hb; replace HB := qs hb; (try clear hb)))
   go_meet
   case rel => exact ⟨_, (!t476), Q3, H', ⟨Q47⟩, ⟨Q26⟩, ⟨qb⟩⟩
  ·
   replace c6 := Bool.eq_false_iff.mpr c6
   subst c6
   have H1 : (spec_TurnPlacement.j0 k l1 true a0_0 a0_1 l0_2) = some (r1, r2) := by first | (rw [if_neg (show ¬ (false = true) by decide)] at H; exact H) | rfl
   clear H
   have H := H1
   clear H1
   have H' := Aside0.mk H
   clear H
   obtain ⟨zq6, zq7, zq8, fq6, fq7, fq8⟩ := qd BK474
   go_wp2_with (first | ((with_reducible refine gate_callee (f := 60) rfl ?_); refine qg (some 11) Try.func60 #[.agg #[.int .i64 a0_0, .int .i64 a0_1, .slice A0_2 l0_2.length c0_2]] ?_; (with_reducible refine (spec_boGood.calls k a0_0 a0_1 _ _ l0_2 false _ ?side1 HC0_2.out A5.out).mono ?_); (case side1 => exact Q0); rintro e w13 ⟨rfl, hb⟩; refine ⟨_, rfl, ?_⟩; replace BK474 := sqB BK474 hb; replace HB := qs hb; (try clear hb)))
   go_meet
   case rel => exact ⟨_, (true), Q3, H', ⟨Q47⟩, ⟨Q26⟩, ⟨qb⟩⟩
 case rest =>
  clear HC3
  try clear c6; try clear zq0; try clear zq1; try clear zq2; try clear zq6; try clear zq7; try clear zq8; try clear zq33; try clear zq34; try clear zq35; try clear fq0; try clear fq1; try clear fq2; try clear fq6; try clear fq7; try clear fq8; try clear fq33; try clear fq34; try clear fq35
  obtain ⟨kq, x18_2, rfl, HA, HJ2, BK474, HB⟩ := hcut
  cases kq with
  | zero => exact absurd HA.out (by simp [spec_TurnPlacement.j0])
  | succ kj2 =>
   have H := HA.out
   clear HA
   simp only [spec_TurnPlacement.j0] at H
   by_cases c14 : x18_2 = true
   ·
    subst c14
    have H1 : (some (([] : List Int), false)) = some (r1, r2) := by first | (rw [if_pos rfl] at H; exact H) | rfl
    clear H
    have H := H1
    clear H1
    simp only [Option.some.injEq, Prod.mk.injEq] at H
    obtain ⟨rfl, rfl⟩ := H
    go_wp2
    go_ret2
    exact ⟨_, Q2, Q14, qb⟩
   ·
    replace c14 := Bool.eq_false_iff.mpr c14
    subst c14
    have H1 : (spec_TurnPlacement.l0 kj2 l1 ([] : List Int) 0 a0_0 a0_1 l0_2) = some (r1, r2) := by first | (rw [if_neg (show ¬ (false = true) by decide)] at H; exact H) | rfl
    clear H
    have H := H1
    clear H1
    have H' := Aside0.mk H
    clear H
    go_wp2
    go_loopg [6, 7] kj2 (fun kq v6 v7 w' => ∃ (x6_2 : List Int) (x7_2 : Int), v7 = .int .i64 x7_2 ∧ Aside0 (spec_TurnPlacement.l0 kq l1 x6_2 x7_2 a0_0 a0_1 l0_2 = some (r1, r2)) ∧ Aside0 (kq ≤ kj2) ∧ Aside0 (Kd.R (Kd.int .i64) 3 w' w.heap.size (fun _ => True) v6 x6_2) ∧ Aside0 (w'.heap[gb474]? = some (.cells #[.int .i64 a0_0, .int .i64 a0_1, (.slice A0_2 l0_2.length c0_2)] 26 (0, 0))) ∧ Aside0 (Below w.heap.size w w'))
    case atStart => exact ⟨(([] : List Int)), (0), Q3, H', ⟨Nat.le_refl _⟩, ⟨Q14⟩, ⟨Q26⟩, ⟨qb⟩⟩
    case round =>
     clear H'
     try clear c6; try clear c14; try clear zq0; try clear zq1; try clear zq2; try clear zq6; try clear zq7; try clear zq8; try clear zq33; try clear zq34; try clear zq35; try clear fq0; try clear fq1; try clear fq2; try clear fq6; try clear fq7; try clear fq8; try clear fq33; try clear fq34; try clear fq35
     obtain ⟨x6_2, x7_2, rfl, HA, HK2, Oq4, BK474, HB⟩ := hrel
     cases gk with
     | zero => exact absurd HA.out (by simp [spec_TurnPlacement.l0])
     | succ k2 =>
      have H := HA.out
      clear HA
      simp only [spec_TurnPlacement.l0] at H
      by_cases c15 : x7_2 < a0_1
      ·
       rw [if_pos c15] at H
       have c15b0 : decide (x7_2 < a0_1) = true := decide_eq_true c15
       clear c15
       by_cases c16 : x6_2.length < 17592186044416
       ·
        rw [if_pos c16] at H
        have LMc16 := Aside0.mk c16
        clear c16
        obtain ⟨y477, hy_⟩ : ∃ y_ : List Int, y_ = ((x6_2 ++ [(-1)])) := ⟨_, rfl⟩
        replace H : (spec_TurnPlacement.l0 k2 l1 y477 (wrap64 (x7_2 + 1)) a0_0 a0_1 l0_2) = some (r1, r2) := qH
        have Ny477 := Aside0.mk hy_
        clear hy_
        have H' := Aside0.mk H
        clear H
        obtain ⟨zq12, zq13, zq14, fq12, fq13, fq14⟩ := qd BK474
        go_wp2_with (first | ((with_reducible refine gate_builtin (b := .append) (xs := #[.tmp 25, .tmp 26]) rfl ?_); at_builtin; refine Kd.R_append (Kd.int .i64) (w0 := w) w.heap.size rfl (.tmp 25) (.tmp 26) 24 3 (.int .i64 0) 8 rfl Try.underlying24 info3 rfl (by decide) (by omega) u6 x6_2 (-1) [.int .i64 (-1)] (fun _ => True) (fun _ => False) rfl rfl ?aP (fun _ hk => hk.elim) ?aF ?aO ?aB ?aS ?aL ?_; (case aP => exact rfl); (case aB => exact qb); (case aF => exact (fun _ _ => trivial)); (case aO => exact (sqr Oq4)); (case aS => exact (below_size qb)); (case aL => have := LMc16.out; omega); intro v478 w18 ho hb hg hat; rw [← Ny477.out] at ho; have Oq0 := am (ho); replace BK474 := am (blk_grown (g := gb474) (o := .cells #[.int .i64 a0_0, .int .i64 a0_1, .slice A0_2 l0_2.length c0_2] 26 (0, 0)) (sqb BK474) hg (Kd.R_ne Oq4.out BK474.out (by decide))); replace HB := am hb; clear Oq4; clear ho hb hg hat))
        go_roundg k2
        case measure => have := HJ2.out; have := HK2.out; omega
        case rel => exact ⟨(y477), (wrap64 (x7_2 + 1)), Q3, H', ⟨by have := HJ2.out; have := HK2.out; omega⟩, ⟨Q62⟩, ⟨Q26⟩, ⟨qb⟩⟩
       ·
        rw [if_neg c16] at H
        exact absurd H (by simp)
      ·
       rw [if_neg c15] at H
       have c15b0 : decide (x7_2 < a0_1) = false := decide_eq_false c15
       clear c15
       have H' := Aside0.mk H
       clear H
       obtain ⟨zq15, zq16, zq17, fq15, fq16, fq17⟩ := qd BK474
       go_wp2
       go_loopg [30] k2 (fun kq v30 w' => ∃ (x6_3 : List Int) (x30_3 : Int), v30 = .int .i64 x30_3 ∧ Aside0 (spec_TurnPlacement.l1 kq x6_3 l1 (l1.length : Int) x30_3 = some (r1, r2)) ∧ Aside0 (kq ≤ k2) ∧ Aside0 (Kd.R (Kd.int .i64) 3 w' w.heap.size (fun _ => True) u6 x6_3) ∧ Aside0 (w'.heap[gb474]? = some (.cells #[.int .i64 a0_0, .int .i64 a0_1, (.slice A0_2 l0_2.length c0_2)] 26 (0, 0))) ∧ Aside0 (Below w.heap.size w w'))
       case atStart => exact ⟨(x6_2), (0), Q3, H', ⟨Nat.le_refl _⟩, ⟨Q13⟩, ⟨Q26⟩, ⟨qb⟩⟩
       case round =>
        clear H'
        try clear c6; try clear c14; try clear c15; try clear c15b0; try clear c16; try clear zq0; try clear zq1; try clear zq2; try clear zq6; try clear zq7; try clear zq8; try clear zq12; try clear zq13; try clear zq14; try clear zq15; try clear zq16; try clear zq17; try clear zq33; try clear zq34; try clear zq35; try clear fq0; try clear fq1; try clear fq2; try clear fq6; try clear fq7; try clear fq8; try clear fq12; try clear fq13; try clear fq14; try clear fq15; try clear fq16; try clear fq17; try clear fq33; try clear fq34; try clear fq35
        obtain ⟨x6_3, x30_3, rfl, HA, HK3, Oq4, BK474, HB⟩ := hrel
        cases gk with
        | zero => exact absurd HA.out (by simp [spec_TurnPlacement.l1])
        | succ k3 =>
         have H := HA.out
         clear HA
         simp only [spec_TurnPlacement.l1] at H
         by_cases c20 : x30_3 < (l1.length : Int)
         ·
          rw [if_pos c20] at H
          have c20b0 : decide (x30_3 < (l1.length : Int)) = true := decide_eq_true c20
          clear c20
          by_cases c21 : 0 ≤ x30_3
          ·
           rw [if_pos c21] at H
           have c21b0 : decide (0 ≤ x30_3) = true := decide_eq_true c21
           clear c21
           by_cases c22 : x30_3 < (l1.length : Int)
           ·
            rw [if_pos c22] at H
            have c22b0 : decide (x30_3 < (l1.length : Int)) = true := decide_eq_true c22
            clear c22
            by_cases c23 : (rd l1 x30_3) ≥ 0
            ·
             rw [if_pos c23] at H
             have c23b0 : decide (0 ≤ (rd l1 x30_3)) = true := decide_eq_true c23
             clear c23
             by_cases c24 : 0 ≤ (rd l1 x30_3)
             ·
              rw [if_pos c24] at H
              have c24b0 : decide (0 ≤ (rd l1 x30_3)) = true := decide_eq_true c24
              clear c24
              by_cases c25 : (rd l1 x30_3) < (x6_3.length : Int)
              ·
               rw [if_pos c25] at H
               have c25b0 : decide ((rd l1 x30_3) < (x6_3.length : Int)) = true := decide_eq_true c25
               clear c25
               obtain ⟨y481, hy_⟩ : ∃ y_ : List Int, y_ = ((x6_3.set ((rd l1 x30_3) : Int).toNat x30_3)) := ⟨_, rfl⟩
               replace H : (spec_TurnPlacement.l1 k3 y481 l1 (l1.length : Int) (wrap64 (x30_3 + 1))) = some (r1, r2) := qH
               have Ny481 := Aside0.mk hy_
               clear hy_
               have H' := Aside0.mk H
               clear H
               have p480 : 0 ≤ (x30_3 : Int) := of_decide_eq_true Q1
               have q480 : x30_3 < (l1.length : Int) := of_decide_eq_true Q1
               obtain ⟨ad480, e480, hx480_0⟩ := Kd.at_int HR1.out x30_3 p480 q480
               cases e480
               replace hx480_0 := (HB.out.cell (World.block_lt_of_cell? w _ hx480_0)).trans hx480_0
               replace p480 := eq_true p480
               replace q480 := eq_true q480
               have p26 : 0 ≤ ((rd l1 x30_3) : Int) := of_decide_eq_true Q1
               have q26 : ((rd l1 x30_3) : Int) < ((x6_3.length : Int) : Int) := of_decide_eq_true Q1
               obtain ⟨go26, co26, eo26, gb26, gl26, cl26, HG26⟩ := Kd.R_form Oq4.out (by omega)
               (first | cases eo26 | (injection eo26 with ea_ en_ ec_; (first | subst ea_ | (injection ea_ with ea_; subst ea_)); subst ec_; clear en_))
               have GB26 := Aside0.mk gb26
               have GG26 := Aside0.mk HG26
               clear gb26 gl26 HG26
               obtain ⟨hx26_0, hf26_0⟩ := Kd.R_celln 0 Oq4.out ((rd l1 x30_3) : Int) p26 q26
               replace p26 := eq_true p26
               replace q26 := eq_true q26
               have HP27 := Kd.R_putg Oq4.out ((rd l1 x30_3) : Int) x30_3
               go_wp2_with (first | ((with_reducible refine gate_store (t := 3) (p := 40) rfl ?_); refine store_event (t := 3) (p := 40) (v := ?vo_w28) (w1 := (wr.setCell ⟨go26, ((rd l1 x30_3) : Int).toNat, none⟩ (.int .i64 x30_3))) ?hg ?ho ?hn ?hr ?_; (case ho => rfl); (case hg => rfl); (case hn => rfl); (case hr => first | (go_simp; done) | (go_simp; rfl)); intro w28 hw; have hg : wr.grownBy w28 (some go26) := (by rw [hw]; exact HP27.2); have hp_ : Kd.R (Kd.int .i64) 3 w28 w.heap.size (fun _ => True) (.slice (some ⟨go26, 0, none⟩) x6_3.length co26) y481 := (by rw [hw, Ny481.out]; exact HP27.1); clear HP27; replace BK474 := am (blk_grown (g := gb474) (o := .cells #[.int .i64 a0_0, .int .i64 a0_1, .slice A0_2 l0_2.length c0_2] 26 (0, 0)) (sqb BK474) hg (Kd.R_ne Oq4.out BK474.out (by decide))); replace Oq4 := am (hp_); replace HB := am ((by rw [hw]; exact below_set (HB.out) GB26.out : Below w.heap.size w w28)); clear hg hw hp_))
               go_roundg k3
               case measure => have := HJ2.out; have := HK2.out; have := HK3.out; omega
               case rel => exact ⟨(y481), (wrap64 (x30_3 + 1)), Q3, H', ⟨by have := HJ2.out; have := HK2.out; have := HK3.out; omega⟩, ⟨Q13⟩, ⟨Q26⟩, ⟨qb⟩⟩
              ·
               rw [if_neg c25] at H
               exact absurd H (by simp)
             ·
              rw [if_neg c24] at H
              exact absurd H (by simp)
            ·
             rw [if_neg c23] at H
             have c23b0 : decide (0 ≤ (rd l1 x30_3)) = false := decide_eq_false c23
             clear c23
             have H' := Aside0.mk H
             clear H
             have p480 : 0 ≤ (x30_3 : Int) := of_decide_eq_true Q1
             have q480 : x30_3 < (l1.length : Int) := of_decide_eq_true Q1
             obtain ⟨ad480, e480, hx480_0⟩ := Kd.at_int HR1.out x30_3 p480 q480
             cases e480
             replace hx480_0 := (HB.out.cell (World.block_lt_of_cell? w _ hx480_0)).trans hx480_0
             replace p480 := eq_true p480
             replace q480 := eq_true q480
             go_wp2
             go_roundg k3
             case measure => have := HJ2.out; have := HK2.out; have := HK3.out; omega
             case rel => exact ⟨(x6_3), (wrap64 (x30_3 + 1)), Q3, H', ⟨by have := HJ2.out; have := HK2.out; have := HK3.out; omega⟩, ⟨Q13⟩, ⟨Q26⟩, ⟨qb⟩⟩
           ·
            rw [if_neg c22] at H
            exact absurd H (by simp)
          ·
           rw [if_neg c21] at H
           exact absurd H (by simp)
         ·
          rw [if_neg c20] at H
          have c20b0 : decide (x30_3 < (l1.length : Int)) = false := decide_eq_false c20
          clear c20
          simp only [Option.some.injEq, Prod.mk.injEq] at H
          obtain ⟨rfl, rfl⟩ := H
          go_wp2
          go_ret2
          exact ⟨_, Q2, Q13, qb⟩

/-! ### impl_newBoard: function 119 -/
def impl_newBoard.f (a0 : Int) (a1 : Int) : Option (Int × Int × List Int) := if 0 ≤ a0 then (if (a0 : Int).toNat ≤ 35184372088832 then (some (a0, a1, (List.replicate (a0 : Int).toNat 0))) else (none)) else (none)
set_option maxHeartbeats 8000000 in
set_option maxRecDepth 100000 in
theorem impl_newBoard.calls (a0 : Int) (a1 : Int) (r1 : Int) (r2 : Int) (r3 : List Int) (w : World) (h : impl_newBoard.f a0 a1 = some (r1, r2, r3)) :
  Calls Try.prog 119 #[.int .i64 a0, .int .i64 a1] w fun e w' => ∃ v2_ : Value, e = .returned (.agg #[.int .i64 r1, .int .i64 r2, v2_]) ∧ Kd.R (Kd.int .i64) 3 w' w.heap.size (fun _ => True) v2_ r3 ∧ Below w.heap.size w w' := by
 have hu26 := Try.underlying26
 have HB := am (Below.refl w.heap.size w)
 have H : (if 0 ≤ a0 then (if (a0 : Int).toNat ≤ 35184372088832 then (some (a0, a1, (List.replicate (a0 : Int).toNat 0))) else (none)) else (none)) = some (r1, r2, r3) := h
 clear h
 by_cases c3 : 0 ≤ a0
 ·
  rw [if_pos c3] at H
  have c3b0 := eq_true c3
  have c3b1 : decide (0 ≤ a0) = true := decide_eq_true c3
  clear c3
  by_cases c4 : (a0 : Int).toNat ≤ 35184372088832
  ·
   rw [if_pos c4] at H
   have c4b0 := eq_true c4
   have c4b1 : decide ((a0 : Int).toNat ≤ 35184372088832) = true := decide_eq_true c4
   clear c4
   obtain ⟨y483, hy_⟩ : ∃ y_ : List Int, y_ = ((List.replicate (a0 : Int).toNat 0)) := ⟨_, rfl⟩
   replace H : (some (a0, a1, y483)) = some (r1, r2, r3) := qH
   have Ny483 := Aside0.mk hy_
   clear hy_
   simp only [Option.some.injEq, Prod.mk.injEq] at H
   obtain ⟨rfl, rfl, rfl⟩ := H
   go_enter Try.func119, Try.ntmps119
   go_wp2_with (first | ((with_reducible refine gate_dst (N := 4) rfl ?_); refine qv 4 #[.int .i64 0, .int .i64 0, .slice none 0 0] 26 ?_; intro gb482 hg w5 hbox hb; have BK482 := am hbox; have GW482 := qw hg; have GE482 := qw hg; replace HB := qs hb; clear hb hbox hg) | ((with_reducible refine gate_dst (N := 8) rfl ?_); refine Kd.R_make (Kd.int .i64) _ 3 rfl (N := 8) rfl 24 _ _ rfl a0 rfl rfl Try.underlying24 (.int .i64 0) 8 info3 rfl (by decide) (by omega) 0 (ok := fun _ => True) (okp := fun _ => True) rfl (fun _ hk => hk) trivial (of_decide_eq_true Q1) (Nat.le_trans (Nat.mul_le_mul_right _ (of_decide_eq_true Q1 : a0.toNat ≤ 35184372088832)) (by omega)) (Below.refl _ _) (Nat.le_refl _) ?_; intro v484 w6 ho7 hb hg_ hnew_; clear hg_ hnew_; (first | rw [← Ny483.out] at ho7 | (simp only [Int.reduceToNat] at ho7; rw [← Ny483.out] at ho7)); have Oq1 := ql ho7; replace BK482 := sqB BK482 hb; replace HB := qs hb; clear hb ho7; obtain ⟨Ao8, co8, eo8⟩ := Kd.R_slice Oq1.out; subst eo8; obtain ⟨zq36, zq37, zq38, fq36, fq37, fq38⟩ := qd BK482))
   refine bodyPost_ret (results_cell_row rfl _ _ gb482 26 #[.int .i64 a0, .int .i64 a1, .slice Ao8 y483.length co8] (0, 0) _ rfl (by (with_reducible repeat (first | refine blk_drewN ?_ _ | refine blk_drew ?_ | refine blk_alloc ?_ _)); refine blk_put (cs := #[.int .i64 a0, .int .i64 a1, .slice none 0 0]) ?_ 2 _ rfl; (with_reducible repeat (first | refine blk_drewN ?_ _ | refine blk_drew ?_ | refine blk_alloc ?_ _)); refine blk_put (cs := #[.int .i64 a0, .int .i64 0, .slice none 0 0]) ?_ 1 _ rfl; (with_reducible repeat (first | refine blk_drewN ?_ _ | refine blk_drew ?_ | refine blk_alloc ?_ _)); refine blk_put (cs := #[.int .i64 0, .int .i64 0, .slice none 0 0]) ?_ 0 _ rfl; (with_reducible repeat (first | refine blk_drewN ?_ _ | refine blk_drew ?_ | refine blk_alloc ?_ _)); exact BK482.out) Try.underlying26 rfl (by kernel_rfl)) rfl ?_
   exact ⟨_, Q2, by (with_reducible repeat (first | apply Kd.R_alloc | apply Kd.R_drewN | apply Kd.R_drew)); exact Kd.R_mono (Kd.R_far (p := ⟨gb482, 2, none⟩) (Kd.R_far (p := ⟨gb482, 1, none⟩) (Kd.R_far (p := ⟨gb482, 0, none⟩) (Kd.R_types Oq1.out BK482.out (by decide)) (fun _ hk => hk.2) (.int .i64 a0)) (fun _ hk => hk.2) (.int .i64 a1)) (fun _ hk => hk.2) (.slice Ao8 y483.length co8)) (fun _ hk => trivial), qb⟩
  ·
   rw [if_neg c4] at H
   exact absurd H (by simp)
 ·
  rw [if_neg c3] at H
  exact absurd H (by simp)

/-! ### impl_Board_turned: function 113 -/
mutual
def impl_Board_turned.l0 : Nat → Int → Int → Int → Int → List Int → Int → Int → List Int → Option (Int × Int × List Int)
 | 0, _, _, _, _, _, _, _, _ => none
 | k + 1, x12, x13, x487000, x487001, x487002, x494000, x494001, x494002 => if x13 < x12 then (impl_Board_turned.l1 k x13 x12 x13 x487001 0 x487000 x487001 x487002 x494000 x494001 x494002) else (some (x494000, x494001, x494002))
def impl_Board_turned.l1 : Nat → Int → Int → Int → Int → Int → Int → Int → List Int → Int → Int → List Int → Option (Int × Int × List Int)
 | 0, _, _, _, _, _, _, _, _, _, _, _ => none
 | k + 1, x4, x12, x13, x17, x18, x487000, x487001, x487002, x494000, x494001, x494002 => if x18 < x17 then ((impl_Board_has.f x487000 x487001 x487002 x4 x18).bind fun t494 => (if t494 = true then (if 0 ≤ x18 then (if x18 < (x494002.length : Int) then (if 0 ≤ x4 then (impl_Board_turned.l1 k x4 x12 x13 x17 (wrap64 (x18 + 1)) x487000 x487001 x487002 x494000 x494001 (x494002.set (x18 : Int).toNat (Go.bits .or .i64 (rd x494002 x18) (shl .i64 1 x4)))) else (none)) else (none)) else (none)) else (impl_Board_turned.l1 k x4 x12 x13 x17 (wrap64 (x18 + 1)) x487000 x487001 x487002 x494000 x494001 x494002))) else (impl_Board_turned.l0 k x12 (wrap64 (x13 + 1)) x487000 x487001 x487002 x494000 x494001 x494002)
end
def impl_Board_turned.f (k : Nat) (a0_0 : Int) (a0_1 : Int) (l0_2 : List Int) : Option (Int × Int × List Int) := (impl_newBoard.f a0_1 a0_0).bind fun bt488 => (impl_Board_turned.l0 k a0_0 0 a0_0 a0_1 l0_2 bt488.1 bt488.2.1 bt488.2.2)
def impl_Board_turned.T9 : Bool × List (List Nat × List Nat) := (true, [([], []), ([0], [0]), ([], []), ([1, 2], [1, 2]), ([3], [3]), ([], []), ([5], [5]), ([4, 6], [4, 6]), ([1, 2, 0, 1, 2, 3, 4, 5, 6, 7], [1, 2]), ([8, 7, 0, 1, 2, 3, 4, 5, 6, 7], [7, 8])])
def impl_Board_turned.B9 : List Nat := [0, 1, 0, 7, 15, 0, 32, 127, 255, 511]
theorem impl_Board_turned.tab9 : rtab .any (opsOf Try.f113 9) = impl_Board_turned.T9 := by kernel_rfl
theorem impl_Board_turned.bits9 : waitsOk impl_Board_turned.T9.2 impl_Board_turned.B9 = true := by kernel_rfl
set_option maxHeartbeats 8000000 in
set_option maxRecDepth 100000 in
theorem impl_Board_turned.calls (k : Nat) (a0_0 : Int) (a0_1 : Int) (A0_2 : Option Addr) (c0_2 : Nat) (l0_2 : List Int) (r1 : Int) (r2 : Int) (r3 : List Int) (w : World) (hr0_2 : Kd.C (Kd.int .i64) w A0_2 l0_2.length l0_2) (hc0_2 : l0_2.length ≤ c0_2) (h : impl_Board_turned.f k a0_0 a0_1 l0_2 = some (r1, r2, r3)) :
  Calls Try.prog 113 #[.agg #[.int .i64 a0_0, .int .i64 a0_1, .slice A0_2 l0_2.length c0_2]] w fun e w' => ∃ v2_ : Value, e = .returned (.agg #[.int .i64 r1, .int .i64 r2, v2_]) ∧ Kd.R (Kd.int .i64) 3 w' w.heap.size (fun _ => True) v2_ r3 ∧ Below w.heap.size w w' := by
 have hu26 := Try.underlying26
 have HR0_2 := Aside0.mk hr0_2
 have HC0_2 := Aside0.mk hc0_2
 clear hr0_2 hc0_2
 have HB := am (Below.refl w.heap.size w)
 have H : ((impl_newBoard.f a0_1 a0_0).bind fun bt488 => (impl_Board_turned.l0 k a0_0 0 a0_0 a0_1 l0_2 bt488.1 bt488.2.1 bt488.2.2)) = some (r1, r2, r3) := h
 clear h
 replace H := qE H
 obtain ⟨⟨t488, t489, t490⟩, A2, H⟩ := H
 replace H : (impl_Board_turned.l0 k a0_0 0 a0_0 a0_1 l0_2 t488 t489 t490) = some (r1, r2, r3) := H
 have H' := Aside0.mk H
 clear H
 go_enter Try.func113, Try.ntmps113
 go_wp2_with (first | ((with_reducible refine gate_dst (N := 1) rfl ?_); refine qv 1 #[.int .i64 a0_0, .int .i64 a0_1, .slice A0_2 l0_2.length c0_2] 26 ?_; intro gb486 hg w3 hbox hb; have BK486 := am hbox; have GW486 := qw hg; have GE486 := qw hg; replace HB := qs hb; clear hb hbox hg) | ((with_reducible refine gate_dst (N := 2) rfl ?_); refine qv 2 #[.int .i64 0, .int .i64 0, .slice none 0 0] 26 ?_; intro gb487 hg w4 hbox hb; have BK487 := am hbox; have GW487 := qw hg; have GE487 := qw hg; have Nq0 := qn hg BK486; have Nq2 := qN hg BK486; replace BK486 := sqB BK486 hb; replace HB := qs hb; clear hb hbox hg; have bq10 := Nq0.out; have cq10 := Nq2.out; obtain ⟨zq30, zq31, zq32, fq30, fq31, fq32⟩ := qd BK486) | ((with_reducible refine gate_callee (f := 119) rfl ?_); refine qg (some 10) Try.func119 #[.int .i64 a0_1, .int .i64 a0_0] ?_; (with_reducible refine (impl_newBoard.calls a0_1 a0_0 t488 t489 t490 _ A2.out).mono ?_); rintro e w7 ⟨v491, rfl, ho0, hb⟩; refine ⟨_, rfl, ?_⟩; have Oq2 := ql ho0; replace BK486 := sqB BK486 hb; replace BK487 := sqB BK487 hb; replace HB := qs hb; (try clear hb ho0)) | ((with_reducible refine gate_dst (N := 3) rfl ?_); refine qv 3 #[.int .i64 0, .int .i64 0, .slice none 0 0] 26 ?_; intro gb493 hg w8 hbox hb; have BK493 := am hbox; have GW493 := qw hg; have GE493 := qw hg; have Nq1 := qn hg BK486; have Nq4 := qN hg BK486; have Nq3 := qn hg BK487; have Nq5 := qN hg BK487; replace Oq2 := sqR Oq2 hb; replace BK486 := sqB BK486 hb; replace BK487 := sqB BK487 hb; replace HB := qs hb; clear hb hbox hg; have bq11 := Nq4.out; have cq11 := Nq1.out; have bq0 := Nq5.out; have cq0 := Nq3.out; obtain ⟨zq3, zq4, zq5, fq3, fq4, fq5⟩ := qd BK493; obtain ⟨Ao12, co12, eo12⟩ := Kd.R_slice Oq2.out; subst eo12; obtain ⟨zq9, zq10, zq11, fq9, fq10, fq11⟩ := qd BK486))
 go_loopg [13] k (fun kq v13 w' => ∃ (x13_1 : Int) (x494002_1 : List Int) (u494002 : Value), v13 = .int .i64 x13_1 ∧ Aside0 (impl_Board_turned.l0 kq a0_0 x13_1 a0_0 a0_1 l0_2 t488 t489 x494002_1 = some (r1, r2, r3)) ∧ Aside0 (kq ≤ k) ∧ Aside0 (Kd.R (Kd.int .i64) 3 w' w.heap.size (fun _ => True) u494002 x494002_1) ∧ Aside0 (w'.heap[gb486]? = some (.cells #[.int .i64 a0_0, .int .i64 a0_1, (.slice A0_2 l0_2.length c0_2)] 26 (0, 0))) ∧ Aside0 (w'.heap[gb487]? = some (.cells #[.int .i64 0, .int .i64 0, (.slice none 0 0)] 26 (0, 0))) ∧ Aside0 (w'.heap[gb493]? = some (.cells #[.int .i64 t488, .int .i64 t489, u494002] 26 (0, 0))) ∧ Aside0 (Below w.heap.size w w'))
 case atStart => exact ⟨(0), (t490), (.slice Ao12 t490.length co12), Q3, H', ⟨Nat.le_refl _⟩, ⟨by (with_reducible repeat (first | apply Kd.R_alloc | apply Kd.R_drewN | apply Kd.R_drew)); exact Kd.R_mono (Kd.R_far (p := ⟨gb493, 2, none⟩) (Kd.R_far (p := ⟨gb493, 1, none⟩) (Kd.R_far (p := ⟨gb493, 0, none⟩) (Kd.R_types Oq2.out BK493.out (by decide)) (fun _ hk => hk.2) (.int .i64 t488)) (fun _ hk => hk.2) (.int .i64 t489)) (fun _ hk => hk.2) (.slice Ao12 t490.length co12)) (fun _ hk => trivial)⟩, ⟨by (with_reducible repeat (first | refine blk_drewN ?_ _ | refine blk_drew ?_ | refine blk_alloc ?_ _)); refine blk_far ?_ Nq1.out _; (with_reducible repeat (first | refine blk_drewN ?_ _ | refine blk_drew ?_ | refine blk_alloc ?_ _)); refine blk_far ?_ Nq1.out _; (with_reducible repeat (first | refine blk_drewN ?_ _ | refine blk_drew ?_ | refine blk_alloc ?_ _)); refine blk_far ?_ Nq1.out _; (with_reducible repeat (first | refine blk_drewN ?_ _ | refine blk_drew ?_ | refine blk_alloc ?_ _)); exact BK486.out⟩, ⟨by (with_reducible repeat (first | refine blk_drewN ?_ _ | refine blk_drew ?_ | refine blk_alloc ?_ _)); refine blk_far ?_ Nq3.out _; (with_reducible repeat (first | refine blk_drewN ?_ _ | refine blk_drew ?_ | refine blk_alloc ?_ _)); refine blk_far ?_ Nq3.out _; (with_reducible repeat (first | refine blk_drewN ?_ _ | refine blk_drew ?_ | refine blk_alloc ?_ _)); refine blk_far ?_ Nq3.out _; (with_reducible repeat (first | refine blk_drewN ?_ _ | refine blk_drew ?_ | refine blk_alloc ?_ _)); exact BK487.out⟩, ⟨by (with_reducible repeat (first | refine blk_drewN ?_ _ | refine blk_drew ?_ | refine blk_alloc ?_ _)); refine blk_put (cs := #[.int .i64 t488, .int .i64 t489, .slice none 0 0]) ?_ 2 _ rfl; (with_reducible repeat (first | refine blk_drewN ?_ _ | refine blk_drew ?_ | refine blk_alloc ?_ _)); refine blk_put (cs := #[.int .i64 t488, .int .i64 0, .slice none 0 0]) ?_ 1 _ rfl; (with_reducible repeat (first | refine blk_drewN ?_ _ | refine blk_drew ?_ | refine blk_alloc ?_ _)); refine blk_put (cs := #[.int .i64 0, .int .i64 0, .slice none 0 0]) ?_ 0 _ rfl; (with_reducible repeat (first | refine blk_drewN ?_ _ | refine blk_drew ?_ | refine blk_alloc ?_ _)); exact BK493.out⟩, ⟨qb⟩⟩
 case round =>
  clear H'
  try clear zq3; try clear zq4; try clear zq5; try clear zq9; try clear zq10; try clear zq11; try clear zq30; try clear zq31; try clear zq32; try clear fq3; try clear fq4; try clear fq5; try clear fq9; try clear fq10; try clear fq11; try clear fq30; try clear fq31; try clear fq32
  obtain ⟨x13_1, x494002_1, u494002, rfl, HA, HK1, Oq3, BK486, BK487, BK493, HB⟩ := hrel
  cases gk with
  | zero => exact absurd HA.out (by simp [impl_Board_turned.l0])
  | succ k1 =>
   have H := HA.out
   clear HA
   simp only [impl_Board_turned.l0] at H
   by_cases c14 : x13_1 < a0_0
   ·
    rw [if_pos c14] at H
    have c14b0 : decide (x13_1 < a0_0) = true := decide_eq_true c14
    clear c14
    have H' := Aside0.mk H
    clear H
    have bq1 := Nq0.out
    have cq1 := Nq2.out
    have bq2 := Nq1.out
    have cq2 := Nq4.out
    obtain ⟨zq12, zq13, zq14, fq12, fq13, fq14⟩ := qd BK486
    go_wp2
    go_loopg [18] k1 (fun kq v18 w' => ∃ (x18_2 : Int) (x494002_2 : List Int) (u494002 : Value), v18 = .int .i64 x18_2 ∧ Aside0 (impl_Board_turned.l1 kq x13_1 a0_0 x13_1 a0_1 x18_2 a0_0 a0_1 l0_2 t488 t489 x494002_2 = some (r1, r2, r3)) ∧ Aside0 (kq ≤ k1) ∧ Aside0 (Kd.R (Kd.int .i64) 3 w' w.heap.size (fun _ => True) u494002 x494002_2) ∧ Aside0 (w'.heap[gb486]? = some (.cells #[.int .i64 a0_0, .int .i64 a0_1, (.slice A0_2 l0_2.length c0_2)] 26 (0, 0))) ∧ Aside0 (w'.heap[gb487]? = some (.cells #[.int .i64 0, .int .i64 0, (.slice none 0 0)] 26 (0, 0))) ∧ Aside0 (w'.heap[gb493]? = some (.cells #[.int .i64 t488, .int .i64 t489, u494002] 26 (0, 0))) ∧ Aside0 (Below w.heap.size w w'))
    case atStart => exact ⟨(0), (x494002_1), (u494002), Q3, H', ⟨Nat.le_refl _⟩, ⟨Q40⟩, ⟨Q51⟩, ⟨Q52⟩, ⟨Q53⟩, ⟨qb⟩⟩
    case round =>
     clear H'
     try clear c14; try clear c14b0; try clear zq3; try clear zq4; try clear zq5; try clear zq9; try clear zq10; try clear zq11; try clear zq12; try clear zq13; try clear zq14; try clear zq30; try clear zq31; try clear zq32; try clear fq3; try clear fq4; try clear fq5; try clear fq9; try clear fq10; try clear fq11; try clear fq12; try clear fq13; try clear fq14; try clear fq30; try clear fq31; try clear fq32
     obtain ⟨x18_2, x494002_2, u494002, rfl, HA, HK2, Oq3, BK486, BK487, BK493, HB⟩ := hrel
     cases gk with
     | zero => exact absurd HA.out (by simp [impl_Board_turned.l1])
     | succ k2 =>
      have H := HA.out
      clear HA
      simp only [impl_Board_turned.l1] at H
      by_cases c18 : x18_2 < a0_1
      ·
       rw [if_pos c18] at H
       have c18b0 : decide (x18_2 < a0_1) = true := decide_eq_true c18
       clear c18
       replace H := qE H
       obtain ⟨t494, A19, H⟩ := H
       replace H : (if t494 = true then (if 0 ≤ x18_2 then (if x18_2 < (x494002_2.length : Int) then (if 0 ≤ x13_1 then (impl_Board_turned.l1 k2 x13_1 a0_0 x13_1 a0_1 (wrap64 (x18_2 + 1)) a0_0 a0_1 l0_2 t488 t489 (x494002_2.set (x18_2 : Int).toNat (Go.bits .or .i64 (rd x494002_2 x18_2) (shl .i64 1 x13_1)))) else (none)) else (none)) else (none)) else (impl_Board_turned.l1 k2 x13_1 a0_0 x13_1 a0_1 (wrap64 (x18_2 + 1)) a0_0 a0_1 l0_2 t488 t489 x494002_2)) = some (r1, r2, r3) := H
       by_cases c20 : t494 = true
       ·
        subst c20
        have H1 : (if 0 ≤ x18_2 then (if x18_2 < (x494002_2.length : Int) then (if 0 ≤ x13_1 then (impl_Board_turned.l1 k2 x13_1 a0_0 x13_1 a0_1 (wrap64 (x18_2 + 1)) a0_0 a0_1 l0_2 t488 t489 (x494002_2.set (x18_2 : Int).toNat (Go.bits .or .i64 (rd x494002_2 x18_2) (shl .i64 1 x13_1)))) else (none)) else (none)) else (none)) = some (r1, r2, r3) := by first | (rw [if_pos rfl] at H; exact H) | rfl
        clear H
        have H := H1
        clear H1
        by_cases c21 : 0 ≤ x18_2
        ·
         rw [if_pos c21] at H
         have c21b0 : decide (0 ≤ x18_2) = true := decide_eq_true c21
         clear c21
         by_cases c22 : x18_2 < (x494002_2.length : Int)
         ·
          rw [if_pos c22] at H
          have c22b0 : decide (x18_2 < (x494002_2.length : Int)) = true := decide_eq_true c22
          clear c22
          by_cases c23 : 0 ≤ x13_1
          ·
           rw [if_pos c23] at H
           have c23b0 := eq_true c23
           have c23b1 : decide (0 ≤ x13_1) = true := decide_eq_true c23
           clear c23
           obtain ⟨ji24, hji24⟩ : ∃ j_ : Int, (shl .i64 1 x13_1) = j_ := ⟨_, rfl⟩
           replace H : (impl_Board_turned.l1 k2 x13_1 a0_0 x13_1 a0_1 (wrap64 (x18_2 + 1)) a0_0 a0_1 l0_2 t488 t489 (x494002_2.set (x18_2 : Int).toNat (Go.bits .or .i64 (rd x494002_2 x18_2) (ji24)))) = some (r1, r2, r3) := by first | (rw [hji24] at H; exact H) | (simp only [hji24] at H ⊢; exact H)
           (try rw [hji24] at A19)
           have hji24_ : (IntKind.i64.wrap (1 * 2 ^ min x13_1.toNat 64)) = ji24 := hji24
           have hji24z : x13_1 ≤ 64 → (IntKind.i64.wrap (1 * 2 ^ x13_1.toNat)) = ji24 := shl_small hji24
           have hji24u : (IntKind.i64.wrap (2 ^ min x13_1.toNat 64)) = ji24 := by have h_ := hji24_; rw [Int.one_mul] at h_; exact h_
           have hji24v : x13_1 ≤ 64 → (IntKind.i64.wrap (2 ^ x13_1.toNat)) = ji24 := fun hle_ => by have h_ := hji24z hle_; rw [Int.one_mul] at h_; exact h_
           have hji24y : (wrap64 (1 * 2 ^ min x13_1.toNat 64)) = ji24 := (i64_w _).symm.trans hji24_
           have hji24x : x13_1 ≤ 64 → (wrap64 (1 * 2 ^ x13_1.toNat)) = ji24 := fun h_ => (i64_w _).symm.trans (hji24z h_)
           obtain ⟨y496, hy_⟩ : ∃ y_ : List Int, y_ = ((x494002_2.set (x18_2 : Int).toNat (Go.bits .or .i64 (rd x494002_2 x18_2) (ji24)))) := ⟨_, rfl⟩
           replace H : (impl_Board_turned.l1 k2 x13_1 a0_0 x13_1 a0_1 (wrap64 (x18_2 + 1)) a0_0 a0_1 l0_2 t488 t489 y496) = some (r1, r2, r3) := qH
           have Ny496 := Aside0.mk hy_
           clear hy_
           have H' := Aside0.mk H
           clear H
           have bq3 := Nq0.out
           have cq3 := Nq2.out
           have bq4 := Nq1.out
           have cq4 := Nq4.out
           obtain ⟨zq18, zq19, zq20, fq18, fq19, fq20⟩ := qd BK486
           try go_wp2_with (first | ((with_reducible refine gate_callee (f := 120) rfl ?_); refine qg (some 24) Try.func120 #[.agg #[.int .i64 a0_0, .int .i64 a0_1, .slice A0_2 l0_2.length c0_2], .int .i64 x13_1, .int .i64 x18_2] ?_; (with_reducible refine (impl_Board_has.calls a0_0 a0_1 _ _ l0_2 x13_1 x18_2 true _ ?side1 HC0_2.out A19.out).mono ?_); (case side1 => exact Q0); rintro e w29 ⟨rfl, hb⟩; refine ⟨_, rfl, ?_⟩; replace Oq3 := sqR Oq3 hb; replace BK486 := sqB BK486 hb; replace BK487 := sqB BK487 hb; replace BK493 := sqB BK493 hb; replace HB := qs hb; (try clear hb)))
           replace Oq3 := am (Kd.R_drew Oq3.out)
           replace BK486 := am (blk_drew BK486.out)
           replace BK487 := am (blk_drew BK487.out)
           replace BK493 := am (blk_drew BK493.out)
           replace HB := am (below_drew1 HB.out)
           obtain ⟨Ao31, co31, eo31⟩ := Kd.R_slice Oq3.out
           (first | subst eo31 | (injection eo31 with f1_ f2_ f3_; have f4_ := f1_.symm; have f5_ := f3_.symm; clear f1_ f2_ f3_; subst f4_; subst f5_))
           have p495 : 0 ≤ (x18_2 : Int) := of_decide_eq_true Q1
           have q495 : x18_2 < (x494002_2.length : Int) := of_decide_eq_true Q1
           obtain ⟨ad495, e495, hx495_0⟩ := Kd.at_int (Kd.R_reads' Oq3.out).2.2 x18_2 p495 q495
           cases e495
           replace p495 := eq_true p495
           replace q495 := eq_true q495
           have p25 : 0 ≤ (x18_2 : Int) := of_decide_eq_true Q1
           have q25 : (x18_2 : Int) < ((x494002_2.length : Int) : Int) := of_decide_eq_true Q1
           obtain ⟨go25, co25, eo25, gb25, gl25, cl25, HG25⟩ := Kd.R_form Oq3.out (by omega)
           (first | cases eo25 | (injection eo25 with ea_ en_ ec_; (first | subst ea_ | (injection ea_ with ea_; subst ea_)); subst ec_; clear en_))
           have GB25 := Aside0.mk gb25
           have GG25 := Aside0.mk HG25
           clear gb25 gl25 HG25
           (first | simp only [add_plain] at hx495_0 | skip)
           obtain ⟨hx25_0, hf25_0⟩ := Kd.R_celln 0 Oq3.out (x18_2 : Int) p25 q25
           replace p25 := eq_true p25
           replace q25 := eq_true q25
           have HP32 := Kd.R_putn Oq3.out (x18_2 : Int) (Go.bits .or .i64 (rd x494002_2 x18_2) (ji24))
           rw [← Ny496.out] at HP32
           have HQ32 := Aside0.mk HP32
           clear HP32
           refine start_ (n := 10) (S := fun w' => w'.cell? ⟨gb493, 0, none⟩ = some (.int .i64 t488) ∧ w'.cell? ⟨gb493, 1, none⟩ = some (.int .i64 t489) ∧ w'.cell? ⟨gb493, 2, none⟩ = some (.slice (some ⟨go25, 0, none⟩) x494002_2.length co31) ∧ w'.cell? ⟨go25, (x18_2).toNat, none⟩ = some (.int .i64 (rd x494002_2 x18_2))) (ds := [9]) #[false, false, false, false, false, false, false, false, false, false] (by kernel_rfl) rfl rfl ⟨sqc BK493 0, sqc BK493 1, sqc BK493 2, hx495_0⟩ (fun hHeld => ?_); refine with_tabW impl_Board_turned.tab9 impl_Board_turned.bits9 (fun HT_ HW_ => ?_)
           generalize w29.drew = w30 at Oq3 BK486 BK487 BK493 HB GG25 HQ32 hf25_0 hx25_0 hx495_0 hHeld ⊢
           refine qp 0 (some 25) #[true, false, false, false, false, false, false, false, false, false] ?_
           refine qp 2 (some 27) #[true, false, true, false, false, false, false, false, false, false] ?_
           refine qp 5 (some 30) #[true, false, true, false, false, true, false, false, false, false] ?_
           refine qp 6 (some 31) #[true, false, true, false, false, true, true, false, false, false] ?_
           refine take_ (i := 1) (N := some 26) (v := ?_) (a' := ?_) #[true, true, true, false, false, true, true, false, false, false] rfl rfl (take_ofW HT_.out HW_.out (by kernel_rfl)) (fun _ _ _ h => h) (Or.inl ⟨by rfl, ?_⟩) hHeld ?_ ?_
           rotate_left
           ·
            rintro w' ⟨s0, s1, s2, s3⟩
            go_simp
            with_reducible rfl
           rotate_left
           ·
            simp only [Act.put, List.setIfInBounds_toArray, List.set_cons_zero, List.set_cons_succ, i64_w, i32_w]
            rfl
           refine qp 3 (some 28) #[true, true, true, true, false, true, true, false, false, false] ?_
           refine take_ (i := 4) (N := some 29) (v := ?_) (a' := ?_) #[true, true, true, true, true, true, true, false, false, false] rfl rfl (take_ofW HT_.out HW_.out (by kernel_rfl)) (fun _ _ _ h => h) (Or.inl ⟨by rfl, ?_⟩) hHeld ?_ ?_
           rotate_left
           ·
            rintro w' ⟨s0, s1, s2, s3⟩
            go_simp
            with_reducible rfl
           rotate_left
           ·
            simp only [Act.put, List.setIfInBounds_toArray, List.set_cons_zero, List.set_cons_succ, i64_w, i32_w]
            rfl
           refine qp 7 (some 32) #[true, true, true, true, true, true, true, true, false, false] ?_
           refine qp 8 (some 33) #[true, true, true, true, true, true, true, true, true, false] ?_
           refine last_ (i := 9) (N := none) #[true, true, true, true, true, true, true, true, true, true] rfl rfl (one_of HT_.out (by kernel_rfl)) (by decide) fun K hK => ?_
           refine skip_ (w1 := ?_) (by rfl) rfl ?_ ?_
           rotate_left
           ·
            go_simp
            rfl
           refine hK.out _ _ ?_
           clear hK K
           refine done_ (done_of HT_.out (by kernel_rfl)) ?_
           try go_wp2
           go_roundg k2
           case measure => have := HK1.out; have := HK2.out; omega
           case rel => exact ⟨(wrap64 (x18_2 + 1)), (y496), (.slice (some ⟨go25, 0, none⟩) x494002_2.length co31), Q3, H', ⟨by have := HK1.out; have := HK2.out; omega⟩, ⟨by (with_reducible repeat (first | apply Kd.R_alloc | apply Kd.R_drewN | apply Kd.R_drew)); exact HQ32.out⟩, ⟨by (with_reducible repeat (first | refine blk_drewN ?_ _ | refine blk_drew ?_ | refine blk_alloc ?_ _)); refine blk_far ?_ (by have h_ := Kd.R_ne Oq3.out BK486.out (by decide); intro e_; exact h_ (by rw [e_]; rfl)) _; (with_reducible repeat (first | refine blk_drewN ?_ _ | refine blk_drew ?_ | refine blk_alloc ?_ _)); exact BK486.out⟩, ⟨by (with_reducible repeat (first | refine blk_drewN ?_ _ | refine blk_drew ?_ | refine blk_alloc ?_ _)); refine blk_far ?_ (by have h_ := Kd.R_ne Oq3.out BK487.out (by decide); intro e_; exact h_ (by rw [e_]; rfl)) _; (with_reducible repeat (first | refine blk_drewN ?_ _ | refine blk_drew ?_ | refine blk_alloc ?_ _)); exact BK487.out⟩, ⟨by (with_reducible repeat (first | refine blk_drewN ?_ _ | refine blk_drew ?_ | refine blk_alloc ?_ _)); refine blk_far ?_ (by have h_ := Kd.R_ne Oq3.out BK493.out (by decide); intro e_; exact h_ (by rw [e_]; rfl)) _; (with_reducible repeat (first | refine blk_drewN ?_ _ | refine blk_drew ?_ | refine blk_alloc ?_ _)); exact BK493.out⟩, ⟨by repeat (first | (with_reducible first | exact HB.out | apply below_alloc | apply pw_below_drewN | apply below_drew1 | refine below_set ?_ GB25.out | refine below_set ?_ GE486.out | refine below_set ?_ GE487.out | refine below_set ?_ GE493.out) | exact HB.out)⟩⟩
          ·
           rw [if_neg c23] at H
           exact absurd H (by simp)
         ·
          rw [if_neg c22] at H
          exact absurd H (by simp)
        ·
         rw [if_neg c21] at H
         exact absurd H (by simp)
       ·
        replace c20 := Bool.eq_false_iff.mpr c20
        subst c20
        have H1 : (impl_Board_turned.l1 k2 x13_1 a0_0 x13_1 a0_1 (wrap64 (x18_2 + 1)) a0_0 a0_1 l0_2 t488 t489 x494002_2) = some (r1, r2, r3) := by first | (rw [if_neg (show ¬ (false = true) by decide)] at H; exact H) | rfl
        clear H
        have H := H1
        clear H1
        have H' := Aside0.mk H
        clear H
        have bq5 := Nq0.out
        have cq5 := Nq2.out
        have bq6 := Nq1.out
        have cq6 := Nq4.out
        obtain ⟨zq21, zq22, zq23, fq21, fq22, fq23⟩ := qd BK486
        go_wp2_with (first | ((with_reducible refine gate_callee (f := 120) rfl ?_); refine qg (some 24) Try.func120 #[.agg #[.int .i64 a0_0, .int .i64 a0_1, .slice A0_2 l0_2.length c0_2], .int .i64 x13_1, .int .i64 x18_2] ?_; (with_reducible refine (impl_Board_has.calls a0_0 a0_1 _ _ l0_2 x13_1 x18_2 false _ ?side1 HC0_2.out A19.out).mono ?_); (case side1 => exact Q0); rintro e w36 ⟨rfl, hb⟩; refine ⟨_, rfl, ?_⟩; replace Oq3 := sqR Oq3 hb; replace BK486 := sqB BK486 hb; replace BK487 := sqB BK487 hb; replace BK493 := sqB BK493 hb; replace HB := qs hb; (try clear hb)))
        go_roundg k2
        case measure => have := HK1.out; have := HK2.out; omega
        case rel => exact ⟨(wrap64 (x18_2 + 1)), (x494002_2), (u494002), Q3, H', ⟨by have := HK1.out; have := HK2.out; omega⟩, ⟨Q40⟩, ⟨Q51⟩, ⟨Q52⟩, ⟨Q53⟩, ⟨qb⟩⟩
      ·
       rw [if_neg c18] at H
       have c18b0 : decide (x18_2 < a0_1) = false := decide_eq_false c18
       clear c18
       have H' := Aside0.mk H
       clear H
       go_wp2
       go_roundg k2
       case measure => have := HK1.out; have := HK2.out; omega
       case rel => exact ⟨(wrap64 (x13_1 + 1)), (x494002_2), (u494002), Q3, H', ⟨by have := HK1.out; have := HK2.out; omega⟩, ⟨Q40⟩, ⟨Q51⟩, ⟨Q52⟩, ⟨Q53⟩, ⟨qb⟩⟩
   ·
    rw [if_neg c14] at H
    have c14b0 : decide (x13_1 < a0_0) = false := decide_eq_false c14
    clear c14
    simp only [Option.some.injEq, Prod.mk.injEq] at H
    obtain ⟨rfl, rfl, rfl⟩ := H
    have bq7 := Nq4.out
    have cq7 := Nq1.out
    have bq8 := Nq5.out
    have cq8 := Nq3.out
    obtain ⟨zq24, zq25, zq26, fq24, fq25, fq26⟩ := qd BK493
    have bq9 := Nq2.out
    have cq9 := Nq0.out
    obtain ⟨zq27, zq28, zq29, fq27, fq28, fq29⟩ := qd BK487
    obtain ⟨Ao42, co42, eo42⟩ := Kd.R_slice Oq3.out
    subst eo42
    go_wp2
    refine bodyPost_ret (results_cell_row rfl _ _ gb487 26 #[.int .i64 t488, .int .i64 t489, .slice Ao42 x494002_1.length co42] (0, 0) _ rfl (by (with_reducible repeat (first | refine blk_drewN ?_ _ | refine blk_drew ?_ | refine blk_alloc ?_ _)); refine blk_put (cs := #[.int .i64 t488, .int .i64 t489, .slice none 0 0]) ?_ 2 _ rfl; (with_reducible repeat (first | refine blk_drewN ?_ _ | refine blk_drew ?_ | refine blk_alloc ?_ _)); refine blk_put (cs := #[.int .i64 t488, .int .i64 0, .slice none 0 0]) ?_ 1 _ rfl; (with_reducible repeat (first | refine blk_drewN ?_ _ | refine blk_drew ?_ | refine blk_alloc ?_ _)); refine blk_put (cs := #[.int .i64 0, .int .i64 0, .slice none 0 0]) ?_ 0 _ rfl; (with_reducible repeat (first | refine blk_drewN ?_ _ | refine blk_drew ?_ | refine blk_alloc ?_ _)); exact BK487.out) Try.underlying26 rfl (by kernel_rfl)) rfl ?_
    exact ⟨_, Q2, by (with_reducible repeat (first | apply Kd.R_alloc | apply Kd.R_drewN | apply Kd.R_drew)); exact Kd.R_mono (Kd.R_far (p := ⟨gb487, 2, none⟩) (Kd.R_far (p := ⟨gb487, 1, none⟩) (Kd.R_far (p := ⟨gb487, 0, none⟩) (Kd.R_types Oq3.out BK487.out (by decide)) (fun _ hk => hk.2) (.int .i64 t488)) (fun _ hk => hk.2) (.int .i64 t489)) (fun _ hk => hk.2) (.slice Ao42 x494002_1.length co42)) (fun _ hk => trivial), qb⟩

end Go.Proofs.Ytllhofdgbpnkkaa.PFnPlacementsListed
