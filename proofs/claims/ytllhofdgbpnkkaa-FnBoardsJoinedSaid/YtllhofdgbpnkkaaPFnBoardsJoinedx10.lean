-- Printed for this claim by wip/pp.py over the kit's printer; Lean checks it.
import Derived.Test.YtllhofdgbpnkkaaPFnBoardsJoinedx0
import Derived.Test.YtllhofdgbpnkkaaPFnBoardsJoinedx1
import Derived.Test.YtllhofdgbpnkkaaPFnBoardsJoinedx3
import Derived.Test.YtllhofdgbpnkkaaPFnBoardsJoinedx5
import Derived.Test.YtllhofdgbpnkkaaPFnBoardsJoinedx9
namespace Go.Proofs.Ytllhofdgbpnkkaa.PFnBoardsJoined
open Go.RowKit Go.Proofs.YtllhofdgbpnkkaaW.PrintWords Go.Proofs.YtllhofdgbpnkkaaW.PrintLast Go.Proofs.YtllhofdgbpnkkaaW.PrintMore
attribute [local go_sem] max2_int min2_int max_two min_two max_three min_three max_four min_four   -- for this text's walks alone
set_option linter.unusedVariables false
set_option linter.unusedSimpArgs false

/-! ### impl_CellsOf: function 61 -/
mutual
def impl_CellsOf.l0 : Nat → List (List Int) → Int → Int → Int → Int → List Int → Option ((List (List Int)) × Bool)
 | 0, _, _, _, _, _, _ => none
 | k + 1, x4, x12, x13, x316000, x316001, x316002 => if x13 < x12 then (impl_CellsOf.l1 k x4 x13 x12 x13 x316001 0 x316000 x316001 x316002) else (some (x4, true))
def impl_CellsOf.l1 : Nat → List (List Int) → Int → Int → Int → Int → Int → Int → Int → List Int → Option ((List (List Int)) × Bool)
 | 0, _, _, _, _, _, _, _, _, _ => none
 | k + 1, x4, x5, x12, x13, x17, x18, x316000, x316001, x316002 => if x18 < x17 then ((impl_Board_has.f x316000 x316001 x316002 x5 x18).bind fun t320 => (if t320 = true then (if x4.length < 5864062014805 then (impl_CellsOf.l1 k (x4 ++ [(([x5, x18] : List Int))]) x5 x12 x13 x17 (wrap64 (x18 + 1)) x316000 x316001 x316002) else (none)) else (impl_CellsOf.l1 k x4 x5 x12 x13 x17 (wrap64 (x18 + 1)) x316000 x316001 x316002))) else (impl_CellsOf.l0 k x4 x12 (wrap64 (x13 + 1)) x316000 x316001 x316002)
end
def impl_CellsOf.f (k : Nat) (a0_0 : Int) (a0_1 : Int) (l0_2 : List Int) : Option ((List (List Int)) × Bool) := (impl_IsBoard.f a0_0 a0_1 l0_2).bind fun t316 => (if t316 = true then (impl_CellsOf.l0 k (([] : List (List Int))) a0_0 0 a0_0 a0_1 l0_2) else (some (([] : List (List Int)), false)))
set_option maxHeartbeats 8000000 in
set_option maxRecDepth 100000 in
theorem impl_CellsOf.calls (k : Nat) (a0_0 : Int) (a0_1 : Int) (A0_2 : Option Addr) (c0_2 : Nat) (l0_2 : List Int) (r1 : List (List Int)) (r2 : Bool) (w : World) (hr0_2 : Kd.C (Kd.int .i64) w A0_2 l0_2.length l0_2) (hc0_2 : l0_2.length ≤ c0_2) (h : impl_CellsOf.f k a0_0 a0_1 l0_2 = some (r1, r2)) :
  Calls Try.prog 61 #[.agg #[.int .i64 a0_0, .int .i64 a0_1, .slice A0_2 l0_2.length c0_2]] w fun e w' => ∃ v0_ : Value, e = .returned (.tuple #[v0_, .bool r2]) ∧ Kd.S (Kd.slice 3 (Kd.int .i64)) 24 w' w.heap.size (fun _ => True) v0_ r1 ∧ Below w.heap.size w w' := by
 have hu26 := Try.underlying26
 have HR0_2 := Aside0.mk hr0_2
 have HC0_2 := Aside0.mk hc0_2
 clear hr0_2 hc0_2
 have HB := am (Below.refl w.heap.size w)
 have H : ((impl_IsBoard.f a0_0 a0_1 l0_2).bind fun t316 => (if t316 = true then (impl_CellsOf.l0 k (([] : List (List Int))) a0_0 0 a0_0 a0_1 l0_2) else (some (([] : List (List Int)), false)))) = some (r1, r2) := h
 clear h
 replace H := qE H
 obtain ⟨t316, A2, H⟩ := H
 replace H : (if t316 = true then (impl_CellsOf.l0 k (([] : List (List Int))) a0_0 0 a0_0 a0_1 l0_2) else (some (([] : List (List Int)), false))) = some (r1, r2) := H
 by_cases c3 : t316 = true
 ·
  subst c3
  have H1 : (impl_CellsOf.l0 k (([] : List (List Int))) a0_0 0 a0_0 a0_1 l0_2) = some (r1, r2) := by first | (rw [if_pos rfl] at H; exact H) | rfl
  clear H
  have H := H1
  clear H1
  obtain ⟨y317, hy_⟩ : ∃ y_ : List (List Int), y_ = ((([] : List (List Int)))) := ⟨_, rfl⟩
  replace H : (impl_CellsOf.l0 k y317 a0_0 0 a0_0 a0_1 l0_2) = some (r1, r2) := qH
  have Ny317 := Aside0.mk hy_
  clear hy_
  have H' := Aside0.mk H
  clear H
  go_enter Try.func61, Try.ntmps61
  go_wp2_with (first | ((with_reducible refine gate_dst (N := 1) rfl ?_); refine qv 1 #[.int .i64 a0_0, .int .i64 a0_1, .slice A0_2 l0_2.length c0_2] 26 ?_; intro gb315 hg w4 hbox hb; have BK315 := am hbox; have GW315 := qw hg; have GE315 := qw hg; replace HB := qs hb; clear hb hbox hg; obtain ⟨zq21, zq22, zq23, fq21, fq22, fq23⟩ := qd BK315) | ((with_reducible refine gate_callee (f := 66) rfl ?_); refine qg (some 8) Try.func66 #[.agg #[.int .i64 a0_0, .int .i64 a0_1, .slice A0_2 l0_2.length c0_2]] ?_; (with_reducible refine (impl_IsBoard.calls a0_0 a0_1 _ _ l0_2 true _ ?side1 HC0_2.out A2.out).mono ?_); (case side1 => exact Q0); rintro e w6 ⟨rfl, hb⟩; refine ⟨_, rfl, ?_⟩; replace BK315 := sqB BK315 hb; replace HB := qs hb; (try clear hb)) | ((with_reducible refine gate_dst (N := 10) rfl ?_); refine Kd.S_lit (Kd.slice 3 (Kd.int .i64)) _ 24 ?hg (N := 10) ?hd (xs := ([] : List (List Int))) (inner := []) (ok := fun _ => True) (okp := fun _ => True) ?hr ?hp (fun _ hk => hk) trivial (Below.refl _ _) (Nat.le_refl _) (by simp) ?_; (case hd => rfl); (case hg => rfl); (case hr => first | (go_simp; done) | (go_simp; rfl)); (case hp => exact (Reps.none _ _)); intro v318 w7 ho8 hb hg_ hnew_; clear hg_ hnew_; (first | rw [← Ny317.out] at ho8 | (simp only [Int.reduceToNat] at ho8; rw [← Ny317.out] at ho8)); have Oq0 := am (Kd.S_lower ho8 (below_size qb)); replace BK315 := sqB BK315 hb; replace HB := qs hb; clear hb ho8; obtain ⟨zq27, zq28, zq29, fq27, fq28, fq29⟩ := qd BK315))
  go_loopg [4, 13] k (fun kq v4 v13 w' => ∃ (x4_1 : List (List Int)) (x13_1 : Int), v13 = .int .i64 x13_1 ∧ Aside0 (impl_CellsOf.l0 kq x4_1 a0_0 x13_1 a0_0 a0_1 l0_2 = some (r1, r2)) ∧ Aside0 (kq ≤ k) ∧ Aside0 (Kd.S (Kd.slice 3 (Kd.int .i64)) 24 w' w.heap.size (fun _ => True) v4 x4_1) ∧ Aside0 (w'.heap[gb315]? = some (.cells #[.int .i64 a0_0, .int .i64 a0_1, (.slice A0_2 l0_2.length c0_2)] 26 (0, 0))) ∧ Aside0 (Below w.heap.size w w'))
  case atStart => exact ⟨(y317), (0), Q3, H', ⟨Nat.le_refl _⟩, ⟨by (with_reducible repeat (first | apply Kd.S_alloc | apply Kd.S_drewN | apply Kd.S_drew)); exact Oq0.out⟩, ⟨Q26⟩, ⟨qb⟩⟩
  case round =>
   clear H'
   try clear c3; try clear zq21; try clear zq22; try clear zq23; try clear zq27; try clear zq28; try clear zq29; try clear fq21; try clear fq22; try clear fq23; try clear fq27; try clear fq28; try clear fq29
   obtain ⟨x4_1, x13_1, rfl, HA, HK1, Oq5, BK315, HB⟩ := hrel
   cases gk with
   | zero => exact absurd HA.out (by simp [impl_CellsOf.l0])
   | succ k1 =>
    have H := HA.out
    clear HA
    simp only [impl_CellsOf.l0] at H
    by_cases c10 : x13_1 < a0_0
    ·
     rw [if_pos c10] at H
     have c10b0 : decide (x13_1 < a0_0) = true := decide_eq_true c10
     clear c10
     have H' := Aside0.mk H
     clear H
     obtain ⟨zq3, zq4, zq5, fq3, fq4, fq5⟩ := qd BK315
     go_wp2
     go_loopg [4, 18] k1 (fun kq v4 v18 w' => ∃ (x4_2 : List (List Int)) (x18_2 : Int), v18 = .int .i64 x18_2 ∧ Aside0 (impl_CellsOf.l1 kq x4_2 x13_1 a0_0 x13_1 a0_1 x18_2 a0_0 a0_1 l0_2 = some (r1, r2)) ∧ Aside0 (kq ≤ k1) ∧ Aside0 (Kd.S (Kd.slice 3 (Kd.int .i64)) 24 w' w.heap.size (fun _ => True) v4 x4_2) ∧ Aside0 (w'.heap[gb315]? = some (.cells #[.int .i64 a0_0, .int .i64 a0_1, (.slice A0_2 l0_2.length c0_2)] 26 (0, 0))) ∧ Aside0 (Below w.heap.size w w'))
     case atStart => exact ⟨(x4_1), (0), Q3, H', ⟨Nat.le_refl _⟩, ⟨Q24⟩, ⟨Q26⟩, ⟨qb⟩⟩
     case round =>
      clear H'
      try clear c3; try clear c10; try clear c10b0; try clear zq3; try clear zq4; try clear zq5; try clear zq21; try clear zq22; try clear zq23; try clear zq27; try clear zq28; try clear zq29; try clear fq3; try clear fq4; try clear fq5; try clear fq21; try clear fq22; try clear fq23; try clear fq27; try clear fq28; try clear fq29
      obtain ⟨x4_2, x18_2, rfl, HA, HK2, Oq5, BK315, HB⟩ := hrel
      cases gk with
      | zero => exact absurd HA.out (by simp [impl_CellsOf.l1])
      | succ k2 =>
       have H := HA.out
       clear HA
       simp only [impl_CellsOf.l1] at H
       by_cases c12 : x18_2 < a0_1
       ·
        rw [if_pos c12] at H
        have c12b0 : decide (x18_2 < a0_1) = true := decide_eq_true c12
        clear c12
        replace H := qE H
        obtain ⟨t320, A13, H⟩ := H
        replace H : (if t320 = true then (if x4_2.length < 5864062014805 then (impl_CellsOf.l1 k2 (x4_2 ++ [(([x13_1, x18_2] : List Int))]) x13_1 a0_0 x13_1 a0_1 (wrap64 (x18_2 + 1)) a0_0 a0_1 l0_2) else (none)) else (impl_CellsOf.l1 k2 x4_2 x13_1 a0_0 x13_1 a0_1 (wrap64 (x18_2 + 1)) a0_0 a0_1 l0_2)) = some (r1, r2) := H
        by_cases c14 : t320 = true
        ·
         subst c14
         have H1 : (if x4_2.length < 5864062014805 then (impl_CellsOf.l1 k2 (x4_2 ++ [(([x13_1, x18_2] : List Int))]) x13_1 a0_0 x13_1 a0_1 (wrap64 (x18_2 + 1)) a0_0 a0_1 l0_2) else (none)) = some (r1, r2) := by first | (rw [if_pos rfl] at H; exact H) | rfl
         clear H
         have H := H1
         clear H1
         obtain ⟨y321, hy_⟩ : ∃ y_ : List Int, y_ = ((([x13_1, x18_2] : List Int))) := ⟨_, rfl⟩
         replace H : (if x4_2.length < 5864062014805 then (impl_CellsOf.l1 k2 (x4_2 ++ [y321]) x13_1 a0_0 x13_1 a0_1 (wrap64 (x18_2 + 1)) a0_0 a0_1 l0_2) else (none)) = some (r1, r2) := qH
         have Ny321 := Aside0.mk hy_
         clear hy_
         by_cases c15 : x4_2.length < 5864062014805
         ·
          rw [if_pos c15] at H
          have LMc15 := Aside0.mk c15
          clear c15
          obtain ⟨y324, hy_⟩ : ∃ y_ : List (List Int), y_ = ((x4_2 ++ [y321])) := ⟨_, rfl⟩
          replace H : (impl_CellsOf.l1 k2 y324 x13_1 a0_0 x13_1 a0_1 (wrap64 (x18_2 + 1)) a0_0 a0_1 l0_2) = some (r1, r2) := qH
          have Ny324 := Aside0.mk hy_
          clear hy_
          have H' := Aside0.mk H
          clear H
          obtain ⟨zq9, zq10, zq11, fq9, fq10, fq11⟩ := qd BK315
          go_wp2_with (first | ((with_reducible refine gate_callee (f := 120) rfl ?_); refine qg (some 24) Try.func120 #[.agg #[.int .i64 a0_0, .int .i64 a0_1, .slice A0_2 l0_2.length c0_2], .int .i64 x13_1, .int .i64 x18_2] ?_; (with_reducible refine (impl_Board_has.calls a0_0 a0_1 _ _ l0_2 x13_1 x18_2 true _ ?side1 HC0_2.out A13.out).mono ?_); (case side1 => exact Q0); rintro e w17 ⟨rfl, hb⟩; refine ⟨_, rfl, ?_⟩; replace BK315 := sqB BK315 hb; replace Oq5 := am (Kd.S_below Q24 hb); replace HB := qs hb; (try clear hb)) | ((with_reducible refine gate_dst (N := 28) rfl ?_); refine Kd.R_lit (Kd.int .i64) _ 3 ?hg (N := 28) ?hd (xs := ([x13_1, x18_2] : List Int)) (inner := [.int .i64 x13_1, .int .i64 x18_2]) (ok := fun _ => True) (okp := fun _ => True) ?hr ?hp (fun _ hk => hk) trivial (Below.refl _ _) (Nat.le_refl _) (by simp) ?_; (case hd => rfl); (case hg => rfl); (case hr => first | (go_simp; done) | (go_simp; rfl)); (case hp => exact (Reps.one (show Kd.M (Kd.int .i64) _ _ _ x13_1 [.int .i64 x13_1] from rfl) (Reps.one (show Kd.M (Kd.int .i64) _ _ _ x18_2 [.int .i64 x18_2] from rfl) (Reps.none _ _)))); intro v322 w18 ho19 hb hg_ hnew_; clear hg_ hnew_; (first | rw [← Ny321.out] at ho19 | (simp only [Int.reduceToNat] at ho19; rw [← Ny321.out] at ho19)); have Oq1 := ql ho19; replace BK315 := sqB BK315 hb; replace Oq5 := am (Kd.S_elder' Q24 (Kd.R_base ho19) hb); replace HB := qs hb; clear hb ho19; obtain ⟨Ao21, co21, eo21⟩ := Kd.R_slice Oq1.out; subst eo21) | ((with_reducible refine gate_builtin (b := .append) (xs := #[.tmp 25, .tmp 29]) rfl ?_); at_builtin; refine Kd.S_append (Kd.slice 3 (Kd.int .i64)) (w0 := w) w.heap.size rfl (.tmp 25) (.tmp 29) 52 24 (.slice none 0 0) 24 rfl Try.underlying52 info24 rfl (by decide) (by omega) u4 x4_2 y321 [.slice Ao21 y321.length co21] (fun _ => True) (fun k_ => some k_ = (.slice Ao21 y321.length co21 : Value).ownBlock) rfl rfl ?aP (fun k_ hk_ => ((Kd.R_mono (ok' := fun k_ => ((fun _ => True)) k_ ∧ some k_ ≠ (u4 : Value).ownBlock) (Kd.R_apart' (Oq1.out) (Kd.S_typed Oq5.out) (by decide)) (fun k_ hk => ⟨trivial, hk.2⟩))).1 k_ hk_.symm) ?aF ?aO ?aB ?aS ?aL ?_; (case aP => exact Kd.M_row (Kd.R_mono (Kd.R_tight rfl (Kd.R_mono (ok' := fun k_ => ((fun _ => True)) k_ ∧ some k_ ≠ (u4 : Value).ownBlock) (Kd.R_apart' (Oq1.out) (Kd.S_typed Oq5.out) (by decide)) (fun k_ hk => ⟨trivial, hk.2⟩))) (fun _ h_ => h_))); (case aB => exact qb); (case aF => exact (fun _ _ => trivial)); (case aO => exact (by (with_reducible repeat (first | apply Kd.S_alloc | apply Kd.S_drewN | apply Kd.S_drew)); exact Kd.S_mono Oq5.out (fun k_ hk => ⟨trivial, fun e_ => hk.2 e_⟩))); (case aS => exact (below_size qb)); (case aL => have := LMc15.out; omega); intro v325 w20 ho hb hg hat; rw [← Ny324.out] at ho; have Oq2 := am (ho); replace BK315 := am (blk_grown (g := gb315) (o := .cells #[.int .i64 a0_0, .int .i64 a0_1, .slice A0_2 l0_2.length c0_2] 26 (0, 0)) (sqb BK315) hg (Kd.S_ne Oq5.out BK315.out (by decide))); replace HB := am hb; clear Oq5 Oq1; clear ho hb hg hat))
          go_roundg k2
          case measure => have := HK1.out; have := HK2.out; omega
          case rel => exact ⟨(y324), (wrap64 (x18_2 + 1)), Q3, H', ⟨by have := HK1.out; have := HK2.out; omega⟩, ⟨by (with_reducible repeat (first | apply Kd.S_alloc | apply Kd.S_drewN | apply Kd.S_drew)); exact Oq2.out⟩, ⟨Q26⟩, ⟨qb⟩⟩
         ·
          rw [if_neg c15] at H
          exact absurd H (by simp)
        ·
         replace c14 := Bool.eq_false_iff.mpr c14
         subst c14
         have H1 : (impl_CellsOf.l1 k2 x4_2 x13_1 a0_0 x13_1 a0_1 (wrap64 (x18_2 + 1)) a0_0 a0_1 l0_2) = some (r1, r2) := by first | (rw [if_neg (show ¬ (false = true) by decide)] at H; exact H) | rfl
         clear H
         have H := H1
         clear H1
         have H' := Aside0.mk H
         clear H
         obtain ⟨zq12, zq13, zq14, fq12, fq13, fq14⟩ := qd BK315
         go_wp2_with (first | ((with_reducible refine gate_callee (f := 120) rfl ?_); refine qg (some 24) Try.func120 #[.agg #[.int .i64 a0_0, .int .i64 a0_1, .slice A0_2 l0_2.length c0_2], .int .i64 x13_1, .int .i64 x18_2] ?_; (with_reducible refine (impl_Board_has.calls a0_0 a0_1 _ _ l0_2 x13_1 x18_2 false _ ?side1 HC0_2.out A13.out).mono ?_); (case side1 => exact Q0); rintro e w23 ⟨rfl, hb⟩; refine ⟨_, rfl, ?_⟩; replace BK315 := sqB BK315 hb; replace Oq5 := am (Kd.S_below Q24 hb); replace HB := qs hb; (try clear hb)))
         go_roundg k2
         case measure => have := HK1.out; have := HK2.out; omega
         case rel => exact ⟨(x4_2), (wrap64 (x18_2 + 1)), Q3, H', ⟨by have := HK1.out; have := HK2.out; omega⟩, ⟨Q24⟩, ⟨Q26⟩, ⟨qb⟩⟩
       ·
        rw [if_neg c12] at H
        have c12b0 : decide (x18_2 < a0_1) = false := decide_eq_false c12
        clear c12
        have H' := Aside0.mk H
        clear H
        go_wp2
        go_roundg k2
        case measure => have := HK1.out; have := HK2.out; omega
        case rel => exact ⟨(x4_2), (wrap64 (x13_1 + 1)), Q3, H', ⟨by have := HK1.out; have := HK2.out; omega⟩, ⟨Q24⟩, ⟨Q26⟩, ⟨qb⟩⟩
    ·
     rw [if_neg c10] at H
     have c10b0 : decide (x13_1 < a0_0) = false := decide_eq_false c10
     clear c10
     simp only [Option.some.injEq, Prod.mk.injEq] at H
     obtain ⟨rfl, rfl⟩ := H
     go_wp2
     go_ret2
     exact ⟨_, Q1, Q24, qb⟩
 ·
  replace c3 := Bool.eq_false_iff.mpr c3
  subst c3
  have H1 : (some (([] : List (List Int)), false)) = some (r1, r2) := by first | (rw [if_neg (show ¬ (false = true) by decide)] at H; exact H) | rfl
  clear H
  have H := H1
  clear H1
  simp only [Option.some.injEq, Prod.mk.injEq] at H
  obtain ⟨rfl, rfl⟩ := H
  go_enter Try.func61, Try.ntmps61
  go_wp2_with (first | ((with_reducible refine gate_dst (N := 1) rfl ?_); refine qv 1 #[.int .i64 a0_0, .int .i64 a0_1, .slice A0_2 l0_2.length c0_2] 26 ?_; intro gb315 hg w24 hbox hb; have BK315 := am hbox; have GW315 := qw hg; have GE315 := qw hg; replace HB := qs hb; clear hb hbox hg; obtain ⟨zq15, zq16, zq17, fq15, fq16, fq17⟩ := qd BK315) | ((with_reducible refine gate_callee (f := 66) rfl ?_); refine qg (some 8) Try.func66 #[.agg #[.int .i64 a0_0, .int .i64 a0_1, .slice A0_2 l0_2.length c0_2]] ?_; (with_reducible refine (impl_IsBoard.calls a0_0 a0_1 _ _ l0_2 false _ ?side1 HC0_2.out A2.out).mono ?_); (case side1 => exact Q0); rintro e w26 ⟨rfl, hb⟩; refine ⟨_, rfl, ?_⟩; replace BK315 := sqB BK315 hb; replace HB := qs hb; (try clear hb)))
  go_ret2
  exact ⟨_, Q1, by first | exact Kd.S_nil _ _ _ _ _ | exact Kd.N_nil _ _ _ _ _ | exact Kd.V_nil _ _ _ _ _ | exact Kd.Q_nil _ _ _ _ _ | exact Kd.R_nil _ _ _ _ _, qb⟩

/-! ### impl_CountCells: function 15 -/
def impl_CountCells.f (k : Nat) (a0_0 : Int) (a0_1 : Int) (l0_2 : List Int) : Option (Int × Bool) := (impl_CellsOf.f k a0_0 a0_1 l0_2).bind fun bt328 => (some ((bt328.1.length : Int), bt328.2))
set_option maxHeartbeats 8000000 in
set_option maxRecDepth 100000 in
theorem impl_CountCells.calls (k : Nat) (a0_0 : Int) (a0_1 : Int) (A0_2 : Option Addr) (c0_2 : Nat) (l0_2 : List Int) (r1 : Int) (r2 : Bool) (w : World) (hr0_2 : Kd.C (Kd.int .i64) w A0_2 l0_2.length l0_2) (hc0_2 : l0_2.length ≤ c0_2) (h : impl_CountCells.f k a0_0 a0_1 l0_2 = some (r1, r2)) :
  Calls Try.prog 15 #[.agg #[.int .i64 a0_0, .int .i64 a0_1, .slice A0_2 l0_2.length c0_2]] w fun e w' => e = .returned (.tuple #[.int .i64 r1, .bool r2]) ∧ Below w.heap.size w w' := by
 have hu26 := Try.underlying26
 have HR0_2 := Aside0.mk hr0_2
 have HC0_2 := Aside0.mk hc0_2
 clear hr0_2 hc0_2
 have HB := am (Below.refl w.heap.size w)
 have H : ((impl_CellsOf.f k a0_0 a0_1 l0_2).bind fun bt328 => (some ((bt328.1.length : Int), bt328.2))) = some (r1, r2) := h
 clear h
 replace H := qE H
 obtain ⟨⟨t328, t331⟩, A2, H⟩ := H
 replace H : (some ((t328.length : Int), t331)) = some (r1, r2) := H
 simp only [Option.some.injEq, Prod.mk.injEq] at H
 obtain ⟨rfl, rfl⟩ := H
 go_enter Try.func15, Try.ntmps15
 go_wp2_with (first | ((with_reducible refine gate_dst (N := 1) rfl ?_); refine qv 1 #[.int .i64 a0_0, .int .i64 a0_1, .slice A0_2 l0_2.length c0_2] 26 ?_; intro gb327 hg w3 hbox hb; have BK327 := am hbox; have GW327 := qw hg; have GE327 := qw hg; replace HB := qs hb; clear hb hbox hg; obtain ⟨zq18, zq19, zq20, fq18, fq19, fq20⟩ := qd BK327) | ((with_reducible refine gate_callee (f := 61) rfl ?_); refine qg (some 8) Try.func61 #[.agg #[.int .i64 a0_0, .int .i64 a0_1, .slice A0_2 l0_2.length c0_2]] ?_; (with_reducible refine (impl_CellsOf.calls k a0_0 a0_1 _ _ l0_2 t328 t331 _ ?side1 HC0_2.out A2.out).mono ?_); (case side1 => exact Q0); rintro e w5 ⟨v329, rfl, ho0, hb⟩; refine ⟨_, rfl, ?_⟩; have Oq3 := am (Kd.S_lower ho0 (below_size qb)); replace BK327 := sqB BK327 hb; replace HB := qs hb; (try clear hb ho0); obtain ⟨Ao6, co6, eo6⟩ := Kd.S_slice Oq3.out; subst eo6))
 go_ret2
 exact ⟨Q1, qb⟩

/-! ### spec_l1Most: function 64 -/
def spec_l1Most.f (a0 : Int) (a1 : Int) : Option (Int) := if a0 > a1 then (some a0) else (some a1)
set_option maxHeartbeats 8000000 in
set_option maxRecDepth 100000 in
theorem spec_l1Most.calls (a0 : Int) (a1 : Int) (r : Int) (w : World) (h : spec_l1Most.f a0 a1 = some r) :
  Calls Try.prog 64 #[.int .i64 a0, .int .i64 a1] w fun e w' => e = .returned (.int .i64 r) ∧ Drawn0 w w' := by
 have H : (if a0 > a1 then (some a0) else (some a1)) = some r := h
 clear h
 by_cases c3 : a0 > a1
 ·
  rw [if_pos c3] at H
  have c3b0 : decide (a1 < a0) = true := decide_eq_true c3
  clear c3
  obtain rfl := Option.some.inj H
  go_enter Try.func64, Try.ntmps64
  go_wp2
  go_ret
  exact ⟨Q3, Q12⟩
 ·
  rw [if_neg c3] at H
  have c3b0 : decide (a1 < a0) = false := decide_eq_false c3
  clear c3
  obtain rfl := Option.some.inj H
  go_enter Try.func64, Try.ntmps64
  go_wp2
  go_ret
  exact ⟨Q3, Q12⟩

/-! ### spec_l1Least: function 65 -/
def spec_l1Least.f (a0 : Int) (a1 : Int) : Option (Int) := if a0 < a1 then (some a0) else (some a1)
set_option maxHeartbeats 8000000 in
set_option maxRecDepth 100000 in
theorem spec_l1Least.calls (a0 : Int) (a1 : Int) (r : Int) (w : World) (h : spec_l1Least.f a0 a1 = some r) :
  Calls Try.prog 65 #[.int .i64 a0, .int .i64 a1] w fun e w' => e = .returned (.int .i64 r) ∧ Drawn0 w w' := by
 have H : (if a0 < a1 then (some a0) else (some a1)) = some r := h
 clear h
 by_cases c3 : a0 < a1
 ·
  rw [if_pos c3] at H
  have c3b0 : decide (a0 < a1) = true := decide_eq_true c3
  clear c3
  obtain rfl := Option.some.inj H
  go_enter Try.func65, Try.ntmps65
  go_wp2
  go_ret
  exact ⟨Q3, Q12⟩
 ·
  rw [if_neg c3] at H
  have c3b0 : decide (a0 < a1) = false := decide_eq_false c3
  clear c3
  obtain rfl := Option.some.inj H
  go_enter Try.func65, Try.ntmps65
  go_wp2
  go_ret
  exact ⟨Q3, Q12⟩

/-! ### spec_DrawStrikeCell: function 16 -/
def spec_DrawStrikeCell.f (k : Nat) (l0 : List Int) : Option (Int × Int × List Int × Int × Int) := (spec_l1Cur_board.f k l0 0 0).bind fun bt334 => ((spec_l1Least.f bt334.1 7).bind fun t342 => ((spec_l1Most.f 1 t342).bind fun t343 => ((spec_l1Cur_pick.f l0 bt334.2.2.2.1 bt334.2.2.2.2 (wrap64 (t343 + 1))).bind fun bt344 => ((spec_l1Least.f bt334.2.1 7).bind fun t347 => ((spec_l1Most.f 1 t347).bind fun t348 => ((spec_l1Cur_pick.f l0 bt344.2.1 bt344.2.2 (wrap64 (t348 + 1))).bind fun bt349 => (some (bt334.1, bt334.2.1, bt334.2.2.1, bt344.1, bt349.1))))))))
def spec_DrawStrikeCell.T3 : Bool × List (List Nat × List Nat) := (true, [([], []), ([], []), ([], []), ([2], [2]), ([3], [3]), ([4, 4], [4]), ([5], [5]), ([1, 6, 5], [1, 6]), ([], []), ([], []), ([9], [9]), ([10, 7], [10]), ([11, 11], [11]), ([12], [12]), ([8, 13, 12], [8, 13]), ([0, 14, 0], [0]), ([7, 15, 0, 1, 2, 3, 4, 5, 6, 7, 15], [7]), ([14, 16, 0, 1, 2, 3, 4, 5, 6, 7, 8, 9, 10, 11, 12, 13, 14, 15, 16], [14])])
def spec_DrawStrikeCell.B3 : List Nat := [0, 0, 0, 4, 12, 28, 60, 126, 0, 0, 512, 1790, 3838, 7934, 16382, 32767, 65535, 131071]
theorem spec_DrawStrikeCell.tab3 : rtab .any (opsOf Try.f16 3) = spec_DrawStrikeCell.T3 := by kernel_rfl
theorem spec_DrawStrikeCell.bits3 : waitsOk spec_DrawStrikeCell.T3.2 spec_DrawStrikeCell.B3 = true := by kernel_rfl
set_option maxHeartbeats 8000000 in
set_option maxRecDepth 100000 in
theorem spec_DrawStrikeCell.calls (k : Nat) (A0 : Option Addr) (c0 : Nat) (l0 : List Int) (r1 : Int) (r2 : Int) (r3 : List Int) (r4 : Int) (r5 : Int) (w : World) (hr0 : Kd.C (Kd.int .u8) w A0 l0.length l0) (hc0 : l0.length ≤ c0) (h : spec_DrawStrikeCell.f k l0 = some (r1, r2, r3, r4, r5)) :
  Calls Try.prog 16 #[.slice A0 l0.length c0] w fun e w' => ∃ v2_ : Value, e = .returned (.tuple #[.agg #[.int .i64 r1, .int .i64 r2, v2_], .int .i64 r4, .int .i64 r5]) ∧ Kd.R (Kd.int .i64) 3 w' w.heap.size (fun _ => True) v2_ r3 ∧ Below w.heap.size w w' := by
 have hu26 := Try.underlying26
 have hu66 := Try.underlying66
 have HR0 := Aside0.mk hr0
 have HC0 := Aside0.mk hc0
 clear hr0 hc0
 have HB := am (Below.refl w.heap.size w)
 have H : ((spec_l1Cur_board.f k l0 0 0).bind fun bt334 => ((spec_l1Least.f bt334.1 7).bind fun t342 => ((spec_l1Most.f 1 t342).bind fun t343 => ((spec_l1Cur_pick.f l0 bt334.2.2.2.1 bt334.2.2.2.2 (wrap64 (t343 + 1))).bind fun bt344 => ((spec_l1Least.f bt334.2.1 7).bind fun t347 => ((spec_l1Most.f 1 t347).bind fun t348 => ((spec_l1Cur_pick.f l0 bt344.2.1 bt344.2.2 (wrap64 (t348 + 1))).bind fun bt349 => (some (bt334.1, bt334.2.1, bt334.2.2.1, bt344.1, bt349.1))))))))) = some (r1, r2, r3, r4, r5) := h
 clear h
 replace H := qE H
 obtain ⟨⟨t334, t335, t336, t339, t340⟩, A2, H⟩ := H
 replace H : ((spec_l1Least.f t334 7).bind fun t342 => ((spec_l1Most.f 1 t342).bind fun t343 => ((spec_l1Cur_pick.f l0 t339 t340 (wrap64 (t343 + 1))).bind fun bt344 => ((spec_l1Least.f t335 7).bind fun t347 => ((spec_l1Most.f 1 t347).bind fun t348 => ((spec_l1Cur_pick.f l0 bt344.2.1 bt344.2.2 (wrap64 (t348 + 1))).bind fun bt349 => (some (t334, t335, t336, bt344.1, bt349.1)))))))) = some (r1, r2, r3, r4, r5) := H
 replace H := qE H
 obtain ⟨t342, A3, H⟩ := H
 replace H : ((spec_l1Most.f 1 t342).bind fun t343 => ((spec_l1Cur_pick.f l0 t339 t340 (wrap64 (t343 + 1))).bind fun bt344 => ((spec_l1Least.f t335 7).bind fun t347 => ((spec_l1Most.f 1 t347).bind fun t348 => ((spec_l1Cur_pick.f l0 bt344.2.1 bt344.2.2 (wrap64 (t348 + 1))).bind fun bt349 => (some (t334, t335, t336, bt344.1, bt349.1))))))) = some (r1, r2, r3, r4, r5) := H
 replace H := qE H
 obtain ⟨t343, A4, H⟩ := H
 replace H : ((spec_l1Cur_pick.f l0 t339 t340 (wrap64 (t343 + 1))).bind fun bt344 => ((spec_l1Least.f t335 7).bind fun t347 => ((spec_l1Most.f 1 t347).bind fun t348 => ((spec_l1Cur_pick.f l0 bt344.2.1 bt344.2.2 (wrap64 (t348 + 1))).bind fun bt349 => (some (t334, t335, t336, bt344.1, bt349.1)))))) = some (r1, r2, r3, r4, r5) := H
 replace H := qE H
 obtain ⟨⟨t344, t345, t346⟩, A5, H⟩ := H
 replace H : ((spec_l1Least.f t335 7).bind fun t347 => ((spec_l1Most.f 1 t347).bind fun t348 => ((spec_l1Cur_pick.f l0 t345 t346 (wrap64 (t348 + 1))).bind fun bt349 => (some (t334, t335, t336, t344, bt349.1))))) = some (r1, r2, r3, r4, r5) := H
 replace H := qE H
 obtain ⟨t347, A6, H⟩ := H
 replace H : ((spec_l1Most.f 1 t347).bind fun t348 => ((spec_l1Cur_pick.f l0 t345 t346 (wrap64 (t348 + 1))).bind fun bt349 => (some (t334, t335, t336, t344, bt349.1)))) = some (r1, r2, r3, r4, r5) := H
 replace H := qE H
 obtain ⟨t348, A7, H⟩ := H
 replace H : ((spec_l1Cur_pick.f l0 t345 t346 (wrap64 (t348 + 1))).bind fun bt349 => (some (t334, t335, t336, t344, bt349.1))) = some (r1, r2, r3, r4, r5) := H
 replace H := qE H
 obtain ⟨⟨t349, t350, t351⟩, A8, H⟩ := H
 replace H : (some (t334, t335, t336, t344, t349)) = some (r1, r2, r3, r4, r5) := H
 simp only [Option.some.injEq, Prod.mk.injEq] at H
 obtain ⟨rfl, rfl, rfl, rfl, rfl⟩ := H
 go_enter Try.func16, Try.ntmps16
 try go_wp2_with (first | ((with_reducible refine gate_dst (N := 2) rfl ?_); refine qv 2 #[.int .i64 0, .int .i64 0, .slice none 0 0] 26 ?_; intro gb332 hg w9 hbox hb; have BK332 := am hbox; have GW332 := qw hg; have GE332 := qw hg; replace HB := qs hb; clear hb hbox hg) | ((with_reducible refine gate_dst (N := 9) rfl ?_); refine qv 9 #[.slice A0 l0.length c0, .int .i64 0, .int .u64 0] 66 ?_; intro gb333 hg w10 hbox hb; have HI333 := am ((show IsS66 w w10 gb333 l0 0 0 from ⟨_, _, hbox, (by rw [hg]; exact (below_size qb) : w.heap.size ≤ gb333), HR0.out⟩)); have GW333 := qw hg; have GE333 := qw hg; have Nq0 := qn hg BK332; have Nq2 := qN hg BK332; replace BK332 := sqB BK332 hb; replace HB := qs hb; clear hb hbox hg) | ((with_reducible refine gate_callee (f := 62) rfl ?_); refine qg (some 11) Try.func62 #[.pointer (some ⟨gb333, 0, none⟩)] ?_; (with_reducible refine (spec_l1Cur_board.calls k gb333 l0 0 0 t334 t335 t336 t339 t340 w _ ?side1 ?side2 A2.out).mono ?_); (case side1 => exact qi); (case side2 => exact qc); rintro e w11 ⟨v337, rfl, ho0, hi, hb, hk⟩; refine ⟨_, rfl, ?_⟩; have Oq4 := qL ho0; replace BK332 := qK BK332 hk Nq0; replace HB := am hb; replace HI333 := am hi; (try clear hb hk hi ho0)) | ((with_reducible refine gate_dst (N := 6) rfl ?_); refine qv 6 #[.int .i64 0, .int .i64 0, .slice none 0 0] 26 ?_; intro gb341 hg w12 hbox hb; have BK341 := am hbox; have GW341 := qW hg; have GE341 := qW hg; have Nq1 := qn hg BK332; have Nq4 := qN hg BK332; have Nq3 := qo hg gb333; have Nq5 := qO hg gb333; replace Oq4 := sqR Oq4 hb; replace BK332 := sqB BK332 hb; replace HB := qt hb; replace HI333 := qj hb; clear hb hbox hg; have bq0 := Nq4.out; have cq0 := Nq1.out; have bq1 := Nq5.out; have cq1 := Nq3.out; obtain ⟨zq6, zq7, zq8, fq6, fq7, fq8⟩ := qd BK341; obtain ⟨Ao16, co16, eo16⟩ := Kd.R_slice Oq4.out; subst eo16))
 have n0_ : Aside0 (Kd.R (Kd.int .i64) 3 (((w12.setCell ⟨gb341, 0, none⟩ (.int .i64 t334)).setCell ⟨gb341, 1, none⟩ (.int .i64 t335)).setCell ⟨gb341, 2, none⟩ (.slice Ao16 t336.length co16)) w.heap.size (fun _ => True) (.slice Ao16 t336.length co16) t336) := ⟨by (with_reducible repeat (first | apply Kd.R_alloc | apply Kd.R_drewN | apply Kd.R_drew)); exact Kd.R_mono (Kd.R_far (p := ⟨gb341, 2, none⟩) (Kd.R_far (p := ⟨gb341, 1, none⟩) (Kd.R_far (p := ⟨gb341, 0, none⟩) (Kd.R_types Oq4.out BK341.out (by decide)) (fun _ hk => hk.2) (.int .i64 t334)) (fun _ hk => hk.2) (.int .i64 t335)) (fun _ hk => hk.2) (.slice Ao16 t336.length co16)) (fun _ hk => trivial)⟩
 have n1_ : Aside0 ((((w12.setCell ⟨gb341, 0, none⟩ (.int .i64 t334)).setCell ⟨gb341, 1, none⟩ (.int .i64 t335)).setCell ⟨gb341, 2, none⟩ (.slice Ao16 t336.length co16)).heap[gb332]? = some (.cells #[.int .i64 0, .int .i64 0, .slice none 0 0] 26 (0, 0))) := ⟨by (with_reducible repeat (first | refine blk_drewN ?_ _ | refine blk_drew ?_ | refine blk_alloc ?_ _)); refine blk_far ?_ Nq1.out _; (with_reducible repeat (first | refine blk_drewN ?_ _ | refine blk_drew ?_ | refine blk_alloc ?_ _)); refine blk_far ?_ Nq1.out _; (with_reducible repeat (first | refine blk_drewN ?_ _ | refine blk_drew ?_ | refine blk_alloc ?_ _)); refine blk_far ?_ Nq1.out _; (with_reducible repeat (first | refine blk_drewN ?_ _ | refine blk_drew ?_ | refine blk_alloc ?_ _)); exact BK332.out⟩
 have n2_ : Aside0 ((((w12.setCell ⟨gb341, 0, none⟩ (.int .i64 t334)).setCell ⟨gb341, 1, none⟩ (.int .i64 t335)).setCell ⟨gb341, 2, none⟩ (.slice Ao16 t336.length co16)).heap[gb341]? = some (.cells #[.int .i64 t334, .int .i64 t335, .slice Ao16 t336.length co16] 26 (0, 0))) := ⟨by (with_reducible repeat (first | refine blk_drewN ?_ _ | refine blk_drew ?_ | refine blk_alloc ?_ _)); refine blk_put (cs := #[.int .i64 t334, .int .i64 t335, .slice none 0 0]) ?_ 2 _ rfl; (with_reducible repeat (first | refine blk_drewN ?_ _ | refine blk_drew ?_ | refine blk_alloc ?_ _)); refine blk_put (cs := #[.int .i64 t334, .int .i64 0, .slice none 0 0]) ?_ 1 _ rfl; (with_reducible repeat (first | refine blk_drewN ?_ _ | refine blk_drew ?_ | refine blk_alloc ?_ _)); refine blk_put (cs := #[.int .i64 0, .int .i64 0, .slice none 0 0]) ?_ 0 _ rfl; (with_reducible repeat (first | refine blk_drewN ?_ _ | refine blk_drew ?_ | refine blk_alloc ?_ _)); exact BK341.out⟩
 have n3_ : Aside0 (IsS66 w (((w12.setCell ⟨gb341, 0, none⟩ (.int .i64 t334)).setCell ⟨gb341, 1, none⟩ (.int .i64 t335)).setCell ⟨gb341, 2, none⟩ (.slice Ao16 t336.length co16)) gb333 l0 t339 t340) := ⟨qi⟩
 have n4_ : Aside0 (Below w.heap.size w (((w12.setCell ⟨gb341, 0, none⟩ (.int .i64 t334)).setCell ⟨gb341, 1, none⟩ (.int .i64 t335)).setCell ⟨gb341, 2, none⟩ (.slice Ao16 t336.length co16))) := ⟨qc⟩
 generalize (((w12.setCell ⟨gb341, 0, none⟩ (.int .i64 t334)).setCell ⟨gb341, 1, none⟩ (.int .i64 t335)).setCell ⟨gb341, 2, none⟩ (.slice Ao16 t336.length co16)) = w17 at n0_ n1_ n2_ n3_ n4_ ⊢
 have Oq4 := n0_
 have BK332 := n1_
 have BK341 := n2_
 have HI333 := n3_
 have HB := n4_
 clear n0_ n1_ n2_ n3_ n4_
 replace Oq4 := am (Kd.R_drew Oq4.out)
 replace BK332 := am (blk_drew BK332.out)
 replace BK341 := am (blk_drew BK341.out)
 replace HI333 := am (IsS66.drew HI333.out)
 replace HB := am (below_drew1 HB.out)
 refine start_ (n := 18) (S := fun w' => w'.cell? ⟨gb341, 0, none⟩ = some (.int .i64 t334) ∧ w'.cell? ⟨gb341, 1, none⟩ = some (.int .i64 t335) ∧ w'.cell? ⟨gb341, 2, none⟩ = some (.slice Ao16 t336.length co16)) (ds := []) #[false, false, false, false, false, false, false, false, false, false, false, false, false, false, false, false, false, false] (by kernel_rfl) rfl rfl ⟨sqc BK341 0, sqc BK341 1, sqc BK341 2⟩ (fun hHeld => ?_); refine with_tabW spec_DrawStrikeCell.tab3 spec_DrawStrikeCell.bits3 (fun HT_ HW_ => ?_)
 generalize w17.drew = w18 at Oq4 BK332 BK341 HI333 HB hHeld ⊢
 refine qp 1 (some 13) #[false, true, false, false, false, false, false, false, false, false, false, false, false, false, false, false, false, false] ?_
 refine qp 2 (some 14) #[false, true, true, false, false, false, false, false, false, false, false, false, false, false, false, false, false, false] ?_
 refine qp 8 (some 20) #[false, true, true, false, false, false, false, false, true, false, false, false, false, false, false, false, false, false] ?_
 refine qp 9 (some 21) #[false, true, true, false, false, false, false, false, true, true, false, false, false, false, false, false, false, false] ?_
 refine take_ (i := 0) (N := some 12) (v := ?_) (a' := ?_) #[true, true, true, false, false, false, false, false, true, true, false, false, false, false, false, false, false, false] rfl rfl (take_ofW HT_.out HW_.out (by kernel_rfl)) (fun _ _ _ h => h) (Or.inl ⟨by rfl, ?_⟩) hHeld ?_ ?_
 rotate_left
 ·
  rintro w' ⟨s0, s1, s2⟩
  go_simp
  with_reducible rfl
 rotate_left
 ·
  simp only [Act.put, List.setIfInBounds_toArray, List.set_cons_zero, List.set_cons_succ, i64_w, i32_w]
  rfl
 refine take_ (i := 3) (N := some 15) (v := ?_) (a' := ?_) #[true, true, true, true, false, false, false, false, true, true, false, false, false, false, false, false, false, false] rfl rfl (take_ofW HT_.out HW_.out (by kernel_rfl)) (fun _ _ _ h => h) (Or.inl ⟨by rfl, ?_⟩) hHeld ?_ ?_
 rotate_left
 ·
  rintro w' ⟨s0, s1, s2⟩
  go_simp
  with_reducible rfl
 rotate_left
 ·
  simp only [Act.put, List.setIfInBounds_toArray, List.set_cons_zero, List.set_cons_succ, i64_w, i32_w]
  rfl
 refine take_ (i := 10) (N := some 22) (v := ?_) (a' := ?_) #[true, true, true, true, false, false, false, false, true, true, true, false, false, false, false, false, false, false] rfl rfl (take_ofW HT_.out HW_.out (by kernel_rfl)) (fun _ _ _ h => h) (Or.inl ⟨by rfl, ?_⟩) hHeld ?_ ?_
 rotate_left
 ·
  rintro w' ⟨s0, s1, s2⟩
  go_simp
  with_reducible rfl
 rotate_left
 ·
  simp only [Act.put, List.setIfInBounds_toArray, List.set_cons_zero, List.set_cons_succ, i64_w, i32_w]
  rfl
 refine one_ (i := 4) (N := some 16) #[true, true, true, true, true, false, false, false, true, true, true, false, false, false, false, false, false, false] rfl rfl (one_of HT_.out (by kernel_rfl)) (by decide) fun K hK => ?_
 refine qG Try.func65 #[.int .i64 t334, .int .i64 7] ?_
 with_reducible refine (spec_l1Least.calls t334 7 t342 _ A3.out).mono ?_
 rintro e w' ⟨rfl, ⟨nd, rfl⟩⟩
 refine ⟨_, rfl, ?_⟩
 refine hK.out _ _ ⟨sqc BK341 0, sqc BK341 1, sqc BK341 2⟩ (fun hHeld => ?_)
 clear hK K
 refine qq (some 16) ?_
 refine one_ (i := 5) (N := some 17) #[true, true, true, true, true, true, false, false, true, true, true, false, false, false, false, false, false, false] rfl rfl (one_of HT_.out (by kernel_rfl)) (by decide) fun K hK => ?_
 refine qG Try.func64 #[.int .i64 1, .int .i64 t342] ?_
 with_reducible refine (spec_l1Most.calls 1 t342 t343 _ A4.out).mono ?_
 rintro e w' ⟨rfl, ⟨nd, rfl⟩⟩
 refine ⟨_, rfl, ?_⟩
 refine hK.out _ _ ⟨sqc BK341 0, sqc BK341 1, sqc BK341 2⟩ (fun hHeld => ?_)
 clear hK K
 refine qq (some 17) ?_
 refine qp 6 (some 18) #[true, true, true, true, true, true, true, false, true, true, true, false, false, false, false, false, false, false] ?_
 refine one_ (i := 7) (N := some 19) #[true, true, true, true, true, true, true, true, true, true, true, false, false, false, false, false, false, false] rfl rfl (one_of HT_.out (by kernel_rfl)) (by decide) fun K hK => ?_
 refine qG Try.func63 #[.pointer (some ⟨gb333, 0, none⟩), .int .i64 (wrap64 (t343 + 1))] ?_
 with_reducible refine (spec_l1Cur_pick.calls gb333 l0 t339 t340 (wrap64 (t343 + 1)) t344 t345 t346 w _ ?side1 ?side2 A5.out).mono ?_
 (case side1 => exact qi)
 (case side2 => exact qc)
 rintro e w19 ⟨rfl, hi, hb, hk⟩
 refine ⟨_, rfl, ?_⟩
 replace BK332 := qK BK332 hk Nq0
 replace Oq4 := qR Oq4 hk
 replace BK341 := qK BK341 hk Nq5
 replace HB := am hb
 replace HI333 := am hi
 (try clear hb hk hi)
 refine hK.out _ _ ⟨sqc BK341 0, sqc BK341 1, sqc BK341 2⟩ (fun hHeld => ?_)
 clear hK K
 refine qq (some 19) ?_
 refine one_ (i := 11) (N := some 23) #[true, true, true, true, true, true, true, true, true, true, true, true, false, false, false, false, false, false] rfl rfl (one_of HT_.out (by kernel_rfl)) (by decide) fun K hK => ?_
 refine qG Try.func65 #[.int .i64 t335, .int .i64 7] ?_
 with_reducible refine (spec_l1Least.calls t335 7 t347 _ A6.out).mono ?_
 rintro e w' ⟨rfl, ⟨nd, rfl⟩⟩
 refine ⟨_, rfl, ?_⟩
 refine hK.out _ _ ⟨sqc BK341 0, sqc BK341 1, sqc BK341 2⟩ (fun hHeld => ?_)
 clear hK K
 refine qq (some 23) ?_
 refine one_ (i := 12) (N := some 24) #[true, true, true, true, true, true, true, true, true, true, true, true, true, false, false, false, false, false] rfl rfl (one_of HT_.out (by kernel_rfl)) (by decide) fun K hK => ?_
 refine qG Try.func64 #[.int .i64 1, .int .i64 t347] ?_
 with_reducible refine (spec_l1Most.calls 1 t347 t348 _ A7.out).mono ?_
 rintro e w' ⟨rfl, ⟨nd, rfl⟩⟩
 refine ⟨_, rfl, ?_⟩
 refine hK.out _ _ ⟨sqc BK341 0, sqc BK341 1, sqc BK341 2⟩ (fun hHeld => ?_)
 clear hK K
 refine qq (some 24) ?_
 refine qp 13 (some 25) #[true, true, true, true, true, true, true, true, true, true, true, true, true, true, false, false, false, false] ?_
 refine one_ (i := 14) (N := some 26) #[true, true, true, true, true, true, true, true, true, true, true, true, true, true, true, false, false, false] rfl rfl (one_of HT_.out (by kernel_rfl)) (by decide) fun K hK => ?_
 refine qG Try.func63 #[.pointer (some ⟨gb333, 0, none⟩), .int .i64 (wrap64 (t348 + 1))] ?_
 with_reducible refine (spec_l1Cur_pick.calls gb333 l0 t345 t346 (wrap64 (t348 + 1)) t349 t350 t351 w _ ?side1 ?side2 A8.out).mono ?_
 (case side1 => exact qi)
 (case side2 => exact qc)
 rintro e w20 ⟨rfl, hi, hb, hk⟩
 refine ⟨_, rfl, ?_⟩
 replace BK332 := qK BK332 hk Nq0
 replace Oq4 := qR Oq4 hk
 replace BK341 := qK BK341 hk Nq5
 replace HB := am hb
 replace HI333 := am hi
 (try clear hb hk hi)
 refine hK.out _ _ ⟨sqc BK341 0, sqc BK341 1, sqc BK341 2⟩ (fun hHeld => ?_)
 clear hK K
 refine qq (some 26) ?_
 refine one_ (i := 15) (N := none) #[true, true, true, true, true, true, true, true, true, true, true, true, true, true, true, true, false, false] rfl rfl (one_of HT_.out (by kernel_rfl)) (by decide) fun K hK => ?_
 have hs21 : w20.cell? ⟨gb332, 0, none⟩ = some (.int .i64 0) := sqc BK332 0
 have hfs21 := blk_frozen BK332.out 0
 have hq0 := Nq4.out
 have hms21_1 := Nq1.out
 have hs22 : w20.cell? ⟨gb332, 1, none⟩ = some (.int .i64 0) := sqc BK332 1
 have hfs22 := blk_frozen BK332.out 1
 have hq1 := Nq4.out
 have hms22_1 := Nq1.out
 have hs23 : w20.cell? ⟨gb332, 2, none⟩ = some (.slice none 0 0) := sqc BK332 2
 have hfs23 := blk_frozen BK332.out 2
 have hq2 := Nq4.out
 have hms23_1 := Nq1.out
 refine skip_ (w1 := ?_) (by rfl) rfl ?_ ?_
 rotate_left
 ·
  go_simp
  rfl
 refine hK.out _ _ ⟨((cell_far (p := ⟨gb332, _, none⟩) Nq4.out _).trans (((cell_far (p := ⟨gb332, _, none⟩) Nq4.out _).trans (((cell_far (p := ⟨gb332, _, none⟩) Nq4.out _).trans (hHeld.1)))))), ((cell_far (p := ⟨gb332, _, none⟩) Nq4.out _).trans (((cell_far (p := ⟨gb332, _, none⟩) Nq4.out _).trans (((cell_far (p := ⟨gb332, _, none⟩) Nq4.out _).trans (hHeld.2.1)))))), ((cell_far (p := ⟨gb332, _, none⟩) Nq4.out _).trans (((cell_far (p := ⟨gb332, _, none⟩) Nq4.out _).trans (((cell_far (p := ⟨gb332, _, none⟩) Nq4.out _).trans (hHeld.2.2))))))⟩ (fun hHeld => ?_)
 clear hK K
 refine qp 16 (some 3) #[true, true, true, true, true, true, true, true, true, true, true, true, true, true, true, true, true, false] ?_
 refine qp 17 (some 4) #[true, true, true, true, true, true, true, true, true, true, true, true, true, true, true, true, true, true] ?_
 refine done_ (done_of HT_.out (by kernel_rfl)) ?_
 try go_wp2
 refine bodyPost_ret (results_ctt rfl _ _ gb332 26 #[.int .i64 t334, .int .i64 t335, .slice Ao16 t336.length co16] (0, 0) _ rfl (by (with_reducible repeat (first | refine blk_drewN ?_ _ | refine blk_drew ?_ | refine blk_alloc ?_ _)); refine blk_put (cs := #[.int .i64 t334, .int .i64 t335, .slice none 0 0]) ?_ 2 _ rfl; (with_reducible repeat (first | refine blk_drewN ?_ _ | refine blk_drew ?_ | refine blk_alloc ?_ _)); refine blk_put (cs := #[.int .i64 t334, .int .i64 0, .slice none 0 0]) ?_ 1 _ rfl; (with_reducible repeat (first | refine blk_drewN ?_ _ | refine blk_drew ?_ | refine blk_alloc ?_ _)); refine blk_put (cs := #[.int .i64 0, .int .i64 0, .slice none 0 0]) ?_ 0 _ rfl; (with_reducible repeat (first | refine blk_drewN ?_ _ | refine blk_drew ?_ | refine blk_alloc ?_ _)); exact BK332.out) Try.underlying26 rfl (by kernel_rfl)) rfl ?_
 exact ⟨_, Q1, by (with_reducible repeat (first | apply Kd.R_alloc | apply Kd.R_drewN | apply Kd.R_drew)); exact Kd.R_mono (Kd.R_far (p := ⟨gb332, 2, none⟩) (Kd.R_far (p := ⟨gb332, 1, none⟩) (Kd.R_far (p := ⟨gb332, 0, none⟩) (Kd.R_types Oq4.out BK332.out (by decide)) (fun _ hk => hk.2) (.int .i64 t334)) (fun _ hk => hk.2) (.int .i64 t335)) (fun _ hk => hk.2) (.slice Ao16 t336.length co16)) (fun _ hk => trivial), qc⟩

/-! ### impl_Board_place: function 67 -/
def impl_Board_place.f (a0_0 : Int) (a0_1 : Int) (l0_2 : List Int) (a1 : Int) (a2 : Int) : Option (Bool) := (impl_within.f a1 0 (wrap64 (a0_0 - 1))).bind fun t353 => (if t353 = true then ((impl_within.f a2 0 (wrap64 (a0_1 - 1))).bind fun t354 => (some t354)) else (some false))
set_option maxHeartbeats 8000000 in
set_option maxRecDepth 100000 in
theorem impl_Board_place.calls (a0_0 : Int) (a0_1 : Int) (A0_2 : Option Addr) (c0_2 : Nat) (l0_2 : List Int) (a1 : Int) (a2 : Int) (r : Bool) (w : World) (hr0_2 : Kd.C (Kd.int .i64) w A0_2 l0_2.length l0_2) (hc0_2 : l0_2.length ≤ c0_2) (h : impl_Board_place.f a0_0 a0_1 l0_2 a1 a2 = some r) :
  Calls Try.prog 67 #[.agg #[.int .i64 a0_0, .int .i64 a0_1, .slice A0_2 l0_2.length c0_2], .int .i64 a1, .int .i64 a2] w fun e w' => e = .returned (.bool r) ∧ Below w.heap.size w w' := by
 have hu26 := Try.underlying26
 have HR0_2 := Aside0.mk hr0_2
 have HC0_2 := Aside0.mk hc0_2
 clear hr0_2 hc0_2
 have HB := am (Below.refl w.heap.size w)
 have H : ((impl_within.f a1 0 (wrap64 (a0_0 - 1))).bind fun t353 => (if t353 = true then ((impl_within.f a2 0 (wrap64 (a0_1 - 1))).bind fun t354 => (some t354)) else (some false))) = some r := h
 clear h
 replace H := qE H
 obtain ⟨t353, A4, H⟩ := H
 replace H : (if t353 = true then ((impl_within.f a2 0 (wrap64 (a0_1 - 1))).bind fun t354 => (some t354)) else (some false)) = some r := H
 by_cases c5 : t353 = true
 ·
  subst c5
  have H1 : ((impl_within.f a2 0 (wrap64 (a0_1 - 1))).bind fun t354 => (some t354)) = some r := by first | (rw [if_pos rfl] at H; exact H) | rfl
  clear H
  have H := H1
  clear H1
  replace H := qE H
  obtain ⟨t354, A6, H⟩ := H
  replace H : (some t354) = some r := H
  obtain rfl := Option.some.inj H
  go_enter Try.func67, Try.ntmps67
  go_wp2_with (first | ((with_reducible refine gate_dst (N := 3) rfl ?_); refine qv 3 #[.int .i64 a0_0, .int .i64 a0_1, .slice A0_2 l0_2.length c0_2] 26 ?_; intro gb352 hg w7 hbox hb; have BK352 := am hbox; have GW352 := qw hg; have GE352 := qw hg; replace HB := qs hb; clear hb hbox hg; obtain ⟨zq24, zq25, zq26, fq24, fq25, fq26⟩ := qd BK352) | ((with_reducible refine gate_callee (f := 79) rfl ?_); refine qg (some 11) Try.func79 #[.int .i64 a1, .int .i64 0, .int .i64 (wrap64 (a0_0 - 1))] ?_; (with_reducible refine (impl_within.calls a1 0 (wrap64 (a0_0 - 1)) true _ A4.out).mono ?_); rintro e w' ⟨rfl, ⟨nd, rfl⟩⟩; refine ⟨_, rfl, ?_⟩) | (go_at_call 79; (with_reducible refine (impl_within.calls a2 0 (wrap64 (a0_1 - 1)) t354 _ A6.out).mono ?_); rintro e w' ⟨rfl, ⟨nd, rfl⟩⟩))
  go_ret
  exact ⟨Q1, qb⟩
 ·
  replace c5 := Bool.eq_false_iff.mpr c5
  subst c5
  have H1 : (some false) = some r := by first | (rw [if_neg (show ¬ (false = true) by decide)] at H; exact H) | rfl
  clear H
  have H := H1
  clear H1
  obtain rfl := Option.some.inj H
  go_enter Try.func67, Try.ntmps67
  go_wp2_with (first | ((with_reducible refine gate_dst (N := 3) rfl ?_); refine qv 3 #[.int .i64 a0_0, .int .i64 a0_1, .slice A0_2 l0_2.length c0_2] 26 ?_; intro gb352 hg w9 hbox hb; have BK352 := am hbox; have GW352 := qw hg; have GE352 := qw hg; replace HB := qs hb; clear hb hbox hg; obtain ⟨zq0, zq1, zq2, fq0, fq1, fq2⟩ := qd BK352) | ((with_reducible refine gate_callee (f := 79) rfl ?_); refine qg (some 11) Try.func79 #[.int .i64 a1, .int .i64 0, .int .i64 (wrap64 (a0_0 - 1))] ?_; (with_reducible refine (impl_within.calls a1 0 (wrap64 (a0_0 - 1)) false _ A4.out).mono ?_); rintro e w' ⟨rfl, ⟨nd, rfl⟩⟩; refine ⟨_, rfl, ?_⟩))
  go_ret
  exact ⟨Q1, qb⟩

end Go.Proofs.Ytllhofdgbpnkkaa.PFnBoardsJoined
