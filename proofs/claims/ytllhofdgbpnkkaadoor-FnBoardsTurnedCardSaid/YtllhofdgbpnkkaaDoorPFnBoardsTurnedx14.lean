-- Printed for this claim by wip/pp.py over the kit's printer; Lean checks it.
import Derived.Test.YtllhofdgbpnkkaaDoorPFnBoardsTurnedx0
import Derived.Test.YtllhofdgbpnkkaaDoorPFnBoardsTurnedx3
import Derived.Test.YtllhofdgbpnkkaaDoorPFnBoardsTurnedx4
import Derived.Test.YtllhofdgbpnkkaaDoorPFnBoardsTurnedx13
namespace Go.Proofs.YtllhofdgbpnkkaaDoor.PFnBoardsTurned
open Go.RowKit Go.Proofs.YtllhofdgbpnkkaaDoorW.PrintWords Go.Proofs.YtllhofdgbpnkkaaDoorW.PrintLast Go.Proofs.YtllhofdgbpnkkaaDoorW.PrintMore
attribute [local go_sem] max2_int min2_int max_two min_two max_three min_three max_four min_four   -- for this text's walks alone
set_option linter.unusedVariables false
set_option linter.unusedSimpArgs false

/-! ### spec_FullBoard: function 22 -/
def spec_FullBoard.f (k : Nat) (a0 : Int) (a1 : Int) : Option (Int × Int × List Int × Bool) := (spec_boSide.f a0).bind fun t514 => (if t514 = true then ((spec_boSide.f a1).bind fun t515 => (if t515 = true then ((spec_boFull.f k a0 a1).bind fun bt516 => (some (bt516.1, bt516.2.1, bt516.2.2, true))) else (some (0, 0, ([] : List Int), false)))) else (some (0, 0, ([] : List Int), false)))
set_option maxHeartbeats 8000000 in
set_option maxRecDepth 100000 in
theorem spec_FullBoard.calls (k : Nat) (a0 : Int) (a1 : Int) (r1 : Int) (r2 : Int) (r3 : List Int) (r4 : Bool) (w : World) (h : spec_FullBoard.f k a0 a1 = some (r1, r2, r3, r4)) :
  Calls Tryd.prog 22 #[.int .i64 a0, .int .i64 a1] w fun e w' => ∃ v2_ : Value, e = .returned (.tuple #[.agg #[.int .i64 r1, .int .i64 r2, v2_], .bool r4]) ∧ Kd.R (Kd.int .i64) 3 w' w.heap.size (fun _ => True) v2_ r3 ∧ Below w.heap.size w w' := by
 have hu26 := Tryd.underlying26
 have HB := am (Below.refl w.heap.size w)
 have H : ((spec_boSide.f a0).bind fun t514 => (if t514 = true then ((spec_boSide.f a1).bind fun t515 => (if t515 = true then ((spec_boFull.f k a0 a1).bind fun bt516 => (some (bt516.1, bt516.2.1, bt516.2.2, true))) else (some (0, 0, ([] : List Int), false)))) else (some (0, 0, ([] : List Int), false)))) = some (r1, r2, r3, r4) := h
 clear h
 replace H := qE H
 obtain ⟨t514, A3, H⟩ := H
 replace H : (if t514 = true then ((spec_boSide.f a1).bind fun t515 => (if t515 = true then ((spec_boFull.f k a0 a1).bind fun bt516 => (some (bt516.1, bt516.2.1, bt516.2.2, true))) else (some (0, 0, ([] : List Int), false)))) else (some (0, 0, ([] : List Int), false))) = some (r1, r2, r3, r4) := H
 by_cases c4 : t514 = true
 ·
  subst c4
  have H1 : ((spec_boSide.f a1).bind fun t515 => (if t515 = true then ((spec_boFull.f k a0 a1).bind fun bt516 => (some (bt516.1, bt516.2.1, bt516.2.2, true))) else (some (0, 0, ([] : List Int), false)))) = some (r1, r2, r3, r4) := by first | (rw [if_pos rfl] at H; exact H) | rfl
  clear H
  have H := H1
  clear H1
  replace H := qE H
  obtain ⟨t515, A5, H⟩ := H
  replace H : (if t515 = true then ((spec_boFull.f k a0 a1).bind fun bt516 => (some (bt516.1, bt516.2.1, bt516.2.2, true))) else (some (0, 0, ([] : List Int), false))) = some (r1, r2, r3, r4) := H
  by_cases c6 : t515 = true
  ·
   subst c6
   have H1 : ((spec_boFull.f k a0 a1).bind fun bt516 => (some (bt516.1, bt516.2.1, bt516.2.2, true))) = some (r1, r2, r3, r4) := by first | (rw [if_pos rfl] at H; exact H) | rfl
   clear H
   have H := H1
   clear H1
   replace H := qE H
   obtain ⟨⟨t516, t517, t518⟩, A7, H⟩ := H
   replace H : (some (t516, t517, t518, true)) = some (r1, r2, r3, r4) := H
   simp only [Option.some.injEq, Prod.mk.injEq] at H
   obtain ⟨rfl, rfl, rfl, rfl⟩ := H
   go_enter Tryd.func22, Tryd.ntmps22
   go_wp2_with (first | ((with_reducible refine gate_dst (N := 4) rfl ?_); refine qv 4 #[.int .i64 0, .int .i64 0, .slice none 0 0] 26 ?_; intro gb513 hg w8 hbox hb; have BK513 := am hbox; have GW513 := qw hg; have GE513 := qw hg; replace HB := qs hb; clear hb hbox hg) | ((with_reducible refine gate_callee (f := 56) rfl ?_); refine qg (some 7) Tryd.func56 #[.int .i64 a0] ?_; (with_reducible refine (spec_boSide.calls a0 true _ A3.out).mono ?_); rintro e w' ⟨rfl, ⟨nd, rfl⟩⟩; refine ⟨_, rfl, ?_⟩; (try (rw [drewN_self w8]; generalize hq_ : World.drewN w8 _ = w8; have n0_ : Aside0 (w8.heap[gb513]? = some (.cells #[.int .i64 0, .int .i64 0, .slice none 0 0] 26 (0, 0))) := ⟨by rw [← hq_]; exact (sqb BK513)⟩; have n1_ : Aside0 (Below w.heap.size w w8) := ⟨by rw [← hq_]; exact qb⟩; clear BK513 HB hq_; have BK513 := n0_; have HB := n1_; clear n0_ n1_))) | (go_at_call 56; (with_reducible refine (spec_boSide.calls a1 true _ A5.out).mono ?_); rintro e w' ⟨rfl, ⟨nd, rfl⟩⟩; (try (rw [drewN_self w8]; generalize hq_ : World.drewN w8 _ = w8; have n0_ : Aside0 (w8.heap[gb513]? = some (.cells #[.int .i64 0, .int .i64 0, .slice none 0 0] 26 (0, 0))) := ⟨by rw [← hq_]; exact (sqb BK513)⟩; have n1_ : Aside0 (Below w.heap.size w w8) := ⟨by rw [← hq_]; exact qb⟩; clear BK513 HB hq_; have BK513 := n0_; have HB := n1_; clear n0_ n1_))) | ((with_reducible refine gate_callee (f := 57) rfl ?_); refine qg (some 17) Tryd.func57 #[.int .i64 a0, .int .i64 a1] ?_; (with_reducible refine (spec_boFull.calls k a0 a1 t516 t517 t518 _ A7.out).mono ?_); rintro e w9 ⟨v519, rfl, ho0, hb⟩; refine ⟨_, rfl, ?_⟩; have Oq0 := ql ho0; replace BK513 := sqB BK513 hb; replace HB := qs hb; (try clear hb ho0); obtain ⟨zq0, zq1, zq2, fq0, fq1, fq2⟩ := qd BK513; obtain ⟨Ao11, co11, eo11⟩ := Kd.R_slice Oq0.out; subst eo11))
   refine bodyPost_ret (results_ct rfl _ _ gb513 26 #[.int .i64 t516, .int .i64 t517, .slice Ao11 t518.length co11] (0, 0) _ rfl (by (with_reducible repeat (first | refine blk_drewN ?_ _ | refine blk_drew ?_ | refine blk_alloc ?_ _)); refine blk_put (cs := #[.int .i64 t516, .int .i64 t517, .slice none 0 0]) ?_ 2 _ rfl; (with_reducible repeat (first | refine blk_drewN ?_ _ | refine blk_drew ?_ | refine blk_alloc ?_ _)); refine blk_put (cs := #[.int .i64 t516, .int .i64 0, .slice none 0 0]) ?_ 1 _ rfl; (with_reducible repeat (first | refine blk_drewN ?_ _ | refine blk_drew ?_ | refine blk_alloc ?_ _)); refine blk_put (cs := #[.int .i64 0, .int .i64 0, .slice none 0 0]) ?_ 0 _ rfl; (with_reducible repeat (first | refine blk_drewN ?_ _ | refine blk_drew ?_ | refine blk_alloc ?_ _)); exact BK513.out) Tryd.underlying26 rfl (by kernel_rfl)) rfl ?_
   exact ⟨_, Q1, by (with_reducible repeat (first | apply Kd.R_alloc | apply Kd.R_drewN | apply Kd.R_drew)); exact Kd.R_mono (Kd.R_far (p := ⟨gb513, 2, none⟩) (Kd.R_far (p := ⟨gb513, 1, none⟩) (Kd.R_far (p := ⟨gb513, 0, none⟩) (Kd.R_types Oq0.out BK513.out (by decide)) (fun _ hk => hk.2) (.int .i64 t516)) (fun _ hk => hk.2) (.int .i64 t517)) (fun _ hk => hk.2) (.slice Ao11 t518.length co11)) (fun _ hk => trivial), qb⟩
  ·
   replace c6 := Bool.eq_false_iff.mpr c6
   subst c6
   have H1 : (some (0, 0, ([] : List Int), false)) = some (r1, r2, r3, r4) := by first | (rw [if_neg (show ¬ (false = true) by decide)] at H; exact H) | rfl
   clear H
   have H := H1
   clear H1
   simp only [Option.some.injEq, Prod.mk.injEq] at H
   obtain ⟨rfl, rfl, rfl, rfl⟩ := H
   go_enter Tryd.func22, Tryd.ntmps22
   go_wp2_with (first | ((with_reducible refine gate_dst (N := 4) rfl ?_); refine qv 4 #[.int .i64 0, .int .i64 0, .slice none 0 0] 26 ?_; intro gb513 hg w12 hbox hb; have BK513 := am hbox; have GW513 := qw hg; have GE513 := qw hg; replace HB := qs hb; clear hb hbox hg) | ((with_reducible refine gate_callee (f := 56) rfl ?_); refine qg (some 7) Tryd.func56 #[.int .i64 a0] ?_; (with_reducible refine (spec_boSide.calls a0 true _ A3.out).mono ?_); rintro e w' ⟨rfl, ⟨nd, rfl⟩⟩; refine ⟨_, rfl, ?_⟩; (try (rw [drewN_self w12]; generalize hq_ : World.drewN w12 _ = w12; have n0_ : Aside0 (w12.heap[gb513]? = some (.cells #[.int .i64 0, .int .i64 0, .slice none 0 0] 26 (0, 0))) := ⟨by rw [← hq_]; exact (sqb BK513)⟩; have n1_ : Aside0 (Below w.heap.size w w12) := ⟨by rw [← hq_]; exact qb⟩; clear BK513 HB hq_; have BK513 := n0_; have HB := n1_; clear n0_ n1_))) | (go_at_call 56; (with_reducible refine (spec_boSide.calls a1 false _ A5.out).mono ?_); rintro e w' ⟨rfl, ⟨nd, rfl⟩⟩; (try (rw [drewN_self w12]; generalize hq_ : World.drewN w12 _ = w12; have n0_ : Aside0 (w12.heap[gb513]? = some (.cells #[.int .i64 0, .int .i64 0, .slice none 0 0] 26 (0, 0))) := ⟨by rw [← hq_]; exact (sqb BK513)⟩; have n1_ : Aside0 (Below w.heap.size w w12) := ⟨by rw [← hq_]; exact qb⟩; clear BK513 HB hq_; have BK513 := n0_; have HB := n1_; clear n0_ n1_)); obtain ⟨zq9, zq10, zq11, fq9, fq10, fq11⟩ := qd BK513))
   refine bodyPost_ret (results_ct rfl _ _ gb513 26 #[.int .i64 0, .int .i64 0, .slice none 0 0] (0, 0) _ rfl Q17 Tryd.underlying26 rfl (by kernel_rfl)) rfl ?_
   exact ⟨_, Q1, Q6, qb⟩
 ·
  replace c4 := Bool.eq_false_iff.mpr c4
  subst c4
  have H1 : (some (0, 0, ([] : List Int), false)) = some (r1, r2, r3, r4) := by first | (rw [if_neg (show ¬ (false = true) by decide)] at H; exact H) | rfl
  clear H
  have H := H1
  clear H1
  simp only [Option.some.injEq, Prod.mk.injEq] at H
  obtain ⟨rfl, rfl, rfl, rfl⟩ := H
  go_enter Tryd.func22, Tryd.ntmps22
  go_wp2_with (first | ((with_reducible refine gate_dst (N := 4) rfl ?_); refine qv 4 #[.int .i64 0, .int .i64 0, .slice none 0 0] 26 ?_; intro gb513 hg w14 hbox hb; have BK513 := am hbox; have GW513 := qw hg; have GE513 := qw hg; replace HB := qs hb; clear hb hbox hg) | ((with_reducible refine gate_callee (f := 56) rfl ?_); refine qg (some 7) Tryd.func56 #[.int .i64 a0] ?_; (with_reducible refine (spec_boSide.calls a0 false _ A3.out).mono ?_); rintro e w' ⟨rfl, ⟨nd, rfl⟩⟩; refine ⟨_, rfl, ?_⟩; (try (rw [drewN_self w14]; generalize hq_ : World.drewN w14 _ = w14; have n0_ : Aside0 (w14.heap[gb513]? = some (.cells #[.int .i64 0, .int .i64 0, .slice none 0 0] 26 (0, 0))) := ⟨by rw [← hq_]; exact (sqb BK513)⟩; have n1_ : Aside0 (Below w.heap.size w w14) := ⟨by rw [← hq_]; exact qb⟩; clear BK513 HB hq_; have BK513 := n0_; have HB := n1_; clear n0_ n1_)); obtain ⟨zq15, zq16, zq17, fq15, fq16, fq17⟩ := qd BK513))
  refine bodyPost_ret (results_ct rfl _ _ gb513 26 #[.int .i64 0, .int .i64 0, .slice none 0 0] (0, 0) _ rfl Q17 Tryd.underlying26 rfl (by kernel_rfl)) rfl ?_
  exact ⟨_, Q1, Q6, qb⟩

/-! ### impl_CellsOf: function 58 -/
mutual
def impl_CellsOf.l0 : Nat → List (List Int) → Int → Int → Int → Int → List Int → Option ((List (List Int)) × Bool)
 | 0, _, _, _, _, _, _ => none
 | k + 1, x4, x12, x13, x522000, x522001, x522002 => if x13 < x12 then (impl_CellsOf.l1 k x4 x13 x12 x13 x522001 0 x522000 x522001 x522002) else (some (x4, true))
def impl_CellsOf.l1 : Nat → List (List Int) → Int → Int → Int → Int → Int → Int → Int → List Int → Option ((List (List Int)) × Bool)
 | 0, _, _, _, _, _, _, _, _, _ => none
 | k + 1, x4, x5, x12, x13, x17, x18, x522000, x522001, x522002 => if x18 < x17 then ((impl_Board_has.f x522000 x522001 x522002 x5 x18).bind fun t526 => (if t526 = true then (if x4.length < 5864062014805 then (impl_CellsOf.l1 k (x4 ++ [(([x5, x18] : List Int))]) x5 x12 x13 x17 (wrap64 (x18 + 1)) x522000 x522001 x522002) else (none)) else (impl_CellsOf.l1 k x4 x5 x12 x13 x17 (wrap64 (x18 + 1)) x522000 x522001 x522002))) else (impl_CellsOf.l0 k x4 x12 (wrap64 (x13 + 1)) x522000 x522001 x522002)
end
def impl_CellsOf.f (k : Nat) (a0_0 : Int) (a0_1 : Int) (l0_2 : List Int) : Option ((List (List Int)) × Bool) := (impl_IsBoard.f a0_0 a0_1 l0_2).bind fun t522 => (if t522 = true then (impl_CellsOf.l0 k (([] : List (List Int))) a0_0 0 a0_0 a0_1 l0_2) else (some (([] : List (List Int)), false)))
set_option maxHeartbeats 8000000 in
set_option maxRecDepth 100000 in
theorem impl_CellsOf.calls (k : Nat) (a0_0 : Int) (a0_1 : Int) (A0_2 : Option Addr) (c0_2 : Nat) (l0_2 : List Int) (r1 : List (List Int)) (r2 : Bool) (w : World) (hr0_2 : Kd.C (Kd.int .i64) w A0_2 l0_2.length l0_2) (hc0_2 : l0_2.length ≤ c0_2) (h : impl_CellsOf.f k a0_0 a0_1 l0_2 = some (r1, r2)) :
  Calls Tryd.prog 58 #[.agg #[.int .i64 a0_0, .int .i64 a0_1, .slice A0_2 l0_2.length c0_2]] w fun e w' => ∃ v0_ : Value, e = .returned (.tuple #[v0_, .bool r2]) ∧ Kd.S (Kd.slice 3 (Kd.int .i64)) 24 w' w.heap.size (fun _ => True) v0_ r1 ∧ Below w.heap.size w w' := by
 have hu26 := Tryd.underlying26
 have HR0_2 := Aside0.mk hr0_2
 have HC0_2 := Aside0.mk hc0_2
 clear hr0_2 hc0_2
 have HB := am (Below.refl w.heap.size w)
 have H : ((impl_IsBoard.f a0_0 a0_1 l0_2).bind fun t522 => (if t522 = true then (impl_CellsOf.l0 k (([] : List (List Int))) a0_0 0 a0_0 a0_1 l0_2) else (some (([] : List (List Int)), false)))) = some (r1, r2) := h
 clear h
 replace H := qE H
 obtain ⟨t522, A2, H⟩ := H
 replace H : (if t522 = true then (impl_CellsOf.l0 k (([] : List (List Int))) a0_0 0 a0_0 a0_1 l0_2) else (some (([] : List (List Int)), false))) = some (r1, r2) := H
 by_cases c3 : t522 = true
 ·
  subst c3
  have H1 : (impl_CellsOf.l0 k (([] : List (List Int))) a0_0 0 a0_0 a0_1 l0_2) = some (r1, r2) := by first | (rw [if_pos rfl] at H; exact H) | rfl
  clear H
  have H := H1
  clear H1
  obtain ⟨y523, hy_⟩ : ∃ y_ : List (List Int), y_ = ((([] : List (List Int)))) := ⟨_, rfl⟩
  replace H : (impl_CellsOf.l0 k y523 a0_0 0 a0_0 a0_1 l0_2) = some (r1, r2) := qH
  have Ny523 := Aside0.mk hy_
  clear hy_
  have H' := Aside0.mk H
  clear H
  go_enter Tryd.func58, Tryd.ntmps58
  go_wp2_with (first | ((with_reducible refine gate_dst (N := 1) rfl ?_); refine qv 1 #[.int .i64 a0_0, .int .i64 a0_1, .slice A0_2 l0_2.length c0_2] 26 ?_; intro gb521 hg w4 hbox hb; have BK521 := am hbox; have GW521 := qw hg; have GE521 := qw hg; replace HB := qs hb; clear hb hbox hg; obtain ⟨zq36, zq37, zq38, fq36, fq37, fq38⟩ := qd BK521) | ((with_reducible refine gate_callee (f := 26) rfl ?_); refine qg (some 8) Tryd.func26 #[.agg #[.int .i64 a0_0, .int .i64 a0_1, .slice A0_2 l0_2.length c0_2]] ?_; (with_reducible refine (impl_IsBoard.calls a0_0 a0_1 _ _ l0_2 true _ ?side1 HC0_2.out A2.out).mono ?_); (case side1 => exact Q3); rintro e w6 ⟨rfl, hb⟩; refine ⟨_, rfl, ?_⟩; replace BK521 := sqB BK521 hb; replace HB := qs hb; (try clear hb)) | ((with_reducible refine gate_dst (N := 10) rfl ?_); refine Kd.S_lit (Kd.slice 3 (Kd.int .i64)) _ 24 ?hg (N := 10) ?hd (xs := ([] : List (List Int))) (inner := []) (ok := fun _ => True) (okp := fun _ => True) ?hr ?hp (fun _ hk => hk) trivial (Below.refl _ _) (Nat.le_refl _) (by simp) ?_; (case hd => rfl); (case hg => rfl); (case hr => first | (go_simp; done) | (go_simp; rfl)); (case hp => exact (Reps.none _ _)); intro v524 w7 ho8 hb hg_ hnew_; clear hg_ hnew_; (first | rw [← Ny523.out] at ho8 | (simp only [Int.reduceToNat] at ho8; rw [← Ny523.out] at ho8)); have Oq1 := am (Kd.S_lower ho8 (below_size qb)); replace BK521 := sqB BK521 hb; replace HB := qs hb; clear hb ho8; obtain ⟨zq45, zq46, zq47, fq45, fq46, fq47⟩ := qd BK521))
  go_loopg [4, 13] k (fun kq v4 v13 w' => ∃ (x4_1 : List (List Int)) (x13_1 : Int), v13 = .int .i64 x13_1 ∧ Aside0 (impl_CellsOf.l0 kq x4_1 a0_0 x13_1 a0_0 a0_1 l0_2 = some (r1, r2)) ∧ Aside0 (kq ≤ k) ∧ Aside0 (Kd.S (Kd.slice 3 (Kd.int .i64)) 24 w' w.heap.size (fun _ => True) v4 x4_1) ∧ Aside0 (w'.heap[gb521]? = some (.cells #[.int .i64 a0_0, .int .i64 a0_1, (.slice A0_2 l0_2.length c0_2)] 26 (0, 0))) ∧ Aside0 (Below w.heap.size w w'))
  case atStart => exact ⟨(y523), (0), Q2, H', ⟨Nat.le_refl _⟩, ⟨by (with_reducible repeat (first | apply Kd.S_alloc | apply Kd.S_drewN | apply Kd.S_drew)); exact Oq1.out⟩, ⟨Q30⟩, ⟨qb⟩⟩
  case round =>
   clear H'
   try clear c3; try clear zq36; try clear zq37; try clear zq38; try clear zq45; try clear zq46; try clear zq47; try clear fq36; try clear fq37; try clear fq38; try clear fq45; try clear fq46; try clear fq47
   obtain ⟨x4_1, x13_1, rfl, HA, HK1, Oq5, BK521, HB⟩ := hrel
   cases gk with
   | zero => exact absurd HA.out (by simp [impl_CellsOf.l0])
   | succ k1 =>
    have H := HA.out
    clear HA
    simp only [impl_CellsOf.l0] at H
    by_cases c10 : x13_1 < a0_0
    ·
     rw [if_pos c10] at H
     have c10b0 : decide (x13_1 < a0_0) = true := decide_eq_true c10
     clear c10
     have H' := Aside0.mk H
     clear H
     obtain ⟨zq3, zq4, zq5, fq3, fq4, fq5⟩ := qd BK521
     go_wp2
     go_loopg [4, 18] k1 (fun kq v4 v18 w' => ∃ (x4_2 : List (List Int)) (x18_2 : Int), v18 = .int .i64 x18_2 ∧ Aside0 (impl_CellsOf.l1 kq x4_2 x13_1 a0_0 x13_1 a0_1 x18_2 a0_0 a0_1 l0_2 = some (r1, r2)) ∧ Aside0 (kq ≤ k1) ∧ Aside0 (Kd.S (Kd.slice 3 (Kd.int .i64)) 24 w' w.heap.size (fun _ => True) v4 x4_2) ∧ Aside0 (w'.heap[gb521]? = some (.cells #[.int .i64 a0_0, .int .i64 a0_1, (.slice A0_2 l0_2.length c0_2)] 26 (0, 0))) ∧ Aside0 (Below w.heap.size w w'))
     case atStart => exact ⟨(x4_1), (0), Q2, H', ⟨Nat.le_refl _⟩, ⟨Q24⟩, ⟨Q30⟩, ⟨qb⟩⟩
     case round =>
      clear H'
      try clear c3; try clear c10; try clear c10b0; try clear zq3; try clear zq4; try clear zq5; try clear zq36; try clear zq37; try clear zq38; try clear zq45; try clear zq46; try clear zq47; try clear fq3; try clear fq4; try clear fq5; try clear fq36; try clear fq37; try clear fq38; try clear fq45; try clear fq46; try clear fq47
      obtain ⟨x4_2, x18_2, rfl, HA, HK2, Oq5, BK521, HB⟩ := hrel
      cases gk with
      | zero => exact absurd HA.out (by simp [impl_CellsOf.l1])
      | succ k2 =>
       have H := HA.out
       clear HA
       simp only [impl_CellsOf.l1] at H
       by_cases c12 : x18_2 < a0_1
       ·
        rw [if_pos c12] at H
        have c12b0 : decide (x18_2 < a0_1) = true := decide_eq_true c12
        clear c12
        replace H := qE H
        obtain ⟨t526, A13, H⟩ := H
        replace H : (if t526 = true then (if x4_2.length < 5864062014805 then (impl_CellsOf.l1 k2 (x4_2 ++ [(([x13_1, x18_2] : List Int))]) x13_1 a0_0 x13_1 a0_1 (wrap64 (x18_2 + 1)) a0_0 a0_1 l0_2) else (none)) else (impl_CellsOf.l1 k2 x4_2 x13_1 a0_0 x13_1 a0_1 (wrap64 (x18_2 + 1)) a0_0 a0_1 l0_2)) = some (r1, r2) := H
        by_cases c14 : t526 = true
        ·
         subst c14
         have H1 : (if x4_2.length < 5864062014805 then (impl_CellsOf.l1 k2 (x4_2 ++ [(([x13_1, x18_2] : List Int))]) x13_1 a0_0 x13_1 a0_1 (wrap64 (x18_2 + 1)) a0_0 a0_1 l0_2) else (none)) = some (r1, r2) := by first | (rw [if_pos rfl] at H; exact H) | rfl
         clear H
         have H := H1
         clear H1
         obtain ⟨y527, hy_⟩ : ∃ y_ : List Int, y_ = ((([x13_1, x18_2] : List Int))) := ⟨_, rfl⟩
         replace H : (if x4_2.length < 5864062014805 then (impl_CellsOf.l1 k2 (x4_2 ++ [y527]) x13_1 a0_0 x13_1 a0_1 (wrap64 (x18_2 + 1)) a0_0 a0_1 l0_2) else (none)) = some (r1, r2) := qH
         have Ny527 := Aside0.mk hy_
         clear hy_
         by_cases c15 : x4_2.length < 5864062014805
         ·
          rw [if_pos c15] at H
          have LMc15 := Aside0.mk c15
          clear c15
          obtain ⟨y530, hy_⟩ : ∃ y_ : List (List Int), y_ = ((x4_2 ++ [y527])) := ⟨_, rfl⟩
          replace H : (impl_CellsOf.l1 k2 y530 x13_1 a0_0 x13_1 a0_1 (wrap64 (x18_2 + 1)) a0_0 a0_1 l0_2) = some (r1, r2) := qH
          have Ny530 := Aside0.mk hy_
          clear hy_
          have H' := Aside0.mk H
          clear H
          obtain ⟨zq18, zq19, zq20, fq18, fq19, fq20⟩ := qd BK521
          go_wp2_with (first | ((with_reducible refine gate_callee (f := 32) rfl ?_); refine qg (some 24) Tryd.func32 #[.agg #[.int .i64 a0_0, .int .i64 a0_1, .slice A0_2 l0_2.length c0_2], .int .i64 x13_1, .int .i64 x18_2] ?_; (with_reducible refine (impl_Board_has.calls a0_0 a0_1 _ _ l0_2 x13_1 x18_2 true _ ?side1 HC0_2.out A13.out).mono ?_); (case side1 => exact Q3); rintro e w17 ⟨rfl, hb⟩; refine ⟨_, rfl, ?_⟩; replace BK521 := sqB BK521 hb; replace Oq5 := am (Kd.S_below Q24 hb); replace HB := qs hb; (try clear hb)) | ((with_reducible refine gate_dst (N := 28) rfl ?_); refine Kd.R_lit (Kd.int .i64) _ 3 ?hg (N := 28) ?hd (xs := ([x13_1, x18_2] : List Int)) (inner := [.int .i64 x13_1, .int .i64 x18_2]) (ok := fun _ => True) (okp := fun _ => True) ?hr ?hp (fun _ hk => hk) trivial (Below.refl _ _) (Nat.le_refl _) (by simp) ?_; (case hd => rfl); (case hg => rfl); (case hr => first | (go_simp; done) | (go_simp; rfl)); (case hp => exact (Reps.one (show Kd.M (Kd.int .i64) _ _ _ x13_1 [.int .i64 x13_1] from rfl) (Reps.one (show Kd.M (Kd.int .i64) _ _ _ x18_2 [.int .i64 x18_2] from rfl) (Reps.none _ _)))); intro v528 w18 ho19 hb hg_ hnew_; clear hg_ hnew_; (first | rw [← Ny527.out] at ho19 | (simp only [Int.reduceToNat] at ho19; rw [← Ny527.out] at ho19)); have Oq2 := ql ho19; replace BK521 := sqB BK521 hb; replace Oq5 := am (Kd.S_elder' Q24 (Kd.R_base ho19) hb); replace HB := qs hb; clear hb ho19; obtain ⟨Ao21, co21, eo21⟩ := Kd.R_slice Oq2.out; subst eo21) | ((with_reducible refine gate_builtin (b := .append) (xs := #[.tmp 25, .tmp 29]) rfl ?_); at_builtin; refine Kd.S_append (Kd.slice 3 (Kd.int .i64)) (w0 := w) w.heap.size rfl (.tmp 25) (.tmp 29) 51 24 (.slice none 0 0) 24 rfl Tryd.underlying51 info24 rfl (by decide) (by omega) u4 x4_2 y527 [.slice Ao21 y527.length co21] (fun _ => True) (fun k_ => some k_ = (.slice Ao21 y527.length co21 : Value).ownBlock) rfl rfl ?aP (fun k_ hk_ => ((Kd.R_mono (ok' := fun k_ => ((fun _ => True)) k_ ∧ some k_ ≠ (u4 : Value).ownBlock) (Kd.R_apart' (Oq2.out) (Kd.S_typed Oq5.out) (by decide)) (fun k_ hk => ⟨trivial, hk.2⟩))).1 k_ hk_.symm) ?aF ?aO ?aB ?aS ?aL ?_; (case aP => exact Kd.M_row (Kd.R_mono (Kd.R_tight rfl (Kd.R_mono (ok' := fun k_ => ((fun _ => True)) k_ ∧ some k_ ≠ (u4 : Value).ownBlock) (Kd.R_apart' (Oq2.out) (Kd.S_typed Oq5.out) (by decide)) (fun k_ hk => ⟨trivial, hk.2⟩))) (fun _ h_ => h_))); (case aB => exact qb); (case aF => exact (fun _ _ => trivial)); (case aO => exact (by (with_reducible repeat (first | apply Kd.S_alloc | apply Kd.S_drewN | apply Kd.S_drew)); exact Kd.S_mono Oq5.out (fun k_ hk => ⟨trivial, fun e_ => hk.2 e_⟩))); (case aS => exact (below_size qb)); (case aL => have := LMc15.out; omega); intro v531 w20 ho hb hg hat; rw [← Ny530.out] at ho; have Oq3 := am (ho); replace BK521 := am (blk_grown (g := gb521) (o := .cells #[.int .i64 a0_0, .int .i64 a0_1, .slice A0_2 l0_2.length c0_2] 26 (0, 0)) (sqb BK521) hg (Kd.S_ne Oq5.out BK521.out (by decide))); replace HB := am hb; clear Oq5 Oq2; clear ho hb hg hat))
          go_roundg k2
          case measure => have := HK1.out; have := HK2.out; omega
          case rel => exact ⟨(y530), (wrap64 (x18_2 + 1)), Q2, H', ⟨Q32⟩, ⟨by (with_reducible repeat (first | apply Kd.S_alloc | apply Kd.S_drewN | apply Kd.S_drew)); exact Oq3.out⟩, ⟨Q30⟩, ⟨qb⟩⟩
         ·
          rw [if_neg c15] at H
          exact absurd H (by simp)
        ·
         replace c14 := Bool.eq_false_iff.mpr c14
         subst c14
         have H1 : (impl_CellsOf.l1 k2 x4_2 x13_1 a0_0 x13_1 a0_1 (wrap64 (x18_2 + 1)) a0_0 a0_1 l0_2) = some (r1, r2) := by first | (rw [if_neg (show ¬ (false = true) by decide)] at H; exact H) | rfl
         clear H
         have H := H1
         clear H1
         have H' := Aside0.mk H
         clear H
         obtain ⟨zq27, zq28, zq29, fq27, fq28, fq29⟩ := qd BK521
         go_wp2_with (first | ((with_reducible refine gate_callee (f := 32) rfl ?_); refine qg (some 24) Tryd.func32 #[.agg #[.int .i64 a0_0, .int .i64 a0_1, .slice A0_2 l0_2.length c0_2], .int .i64 x13_1, .int .i64 x18_2] ?_; (with_reducible refine (impl_Board_has.calls a0_0 a0_1 _ _ l0_2 x13_1 x18_2 false _ ?side1 HC0_2.out A13.out).mono ?_); (case side1 => exact Q3); rintro e w23 ⟨rfl, hb⟩; refine ⟨_, rfl, ?_⟩; replace BK521 := sqB BK521 hb; replace Oq5 := am (Kd.S_below Q24 hb); replace HB := qs hb; (try clear hb)))
         go_roundg k2
         case measure => have := HK1.out; have := HK2.out; omega
         case rel => exact ⟨(x4_2), (wrap64 (x18_2 + 1)), Q2, H', ⟨Q32⟩, ⟨Q24⟩, ⟨Q30⟩, ⟨qb⟩⟩
       ·
        rw [if_neg c12] at H
        have c12b0 : decide (x18_2 < a0_1) = false := decide_eq_false c12
        clear c12
        have H' := Aside0.mk H
        clear H
        go_wp2
        go_roundg k2
        case measure => have := HK1.out; have := HK2.out; omega
        case rel => exact ⟨(x4_2), (wrap64 (x13_1 + 1)), Q2, H', ⟨Q32⟩, ⟨Q24⟩, ⟨Q30⟩, ⟨qb⟩⟩
    ·
     rw [if_neg c10] at H
     have c10b0 : decide (x13_1 < a0_0) = false := decide_eq_false c10
     clear c10
     simp only [Option.some.injEq, Prod.mk.injEq] at H
     obtain ⟨rfl, rfl⟩ := H
     go_wp2
     go_ret2
     exact ⟨_, Q1, Q24, qb⟩
 ·
  replace c3 := Bool.eq_false_iff.mpr c3
  subst c3
  have H1 : (some (([] : List (List Int)), false)) = some (r1, r2) := by first | (rw [if_neg (show ¬ (false = true) by decide)] at H; exact H) | rfl
  clear H
  have H := H1
  clear H1
  simp only [Option.some.injEq, Prod.mk.injEq] at H
  obtain ⟨rfl, rfl⟩ := H
  go_enter Tryd.func58, Tryd.ntmps58
  go_wp2_with (first | ((with_reducible refine gate_dst (N := 1) rfl ?_); refine qv 1 #[.int .i64 a0_0, .int .i64 a0_1, .slice A0_2 l0_2.length c0_2] 26 ?_; intro gb521 hg w24 hbox hb; have BK521 := am hbox; have GW521 := qw hg; have GE521 := qw hg; replace HB := qs hb; clear hb hbox hg; obtain ⟨zq30, zq31, zq32, fq30, fq31, fq32⟩ := qd BK521) | ((with_reducible refine gate_callee (f := 26) rfl ?_); refine qg (some 8) Tryd.func26 #[.agg #[.int .i64 a0_0, .int .i64 a0_1, .slice A0_2 l0_2.length c0_2]] ?_; (with_reducible refine (impl_IsBoard.calls a0_0 a0_1 _ _ l0_2 false _ ?side1 HC0_2.out A2.out).mono ?_); (case side1 => exact Q3); rintro e w26 ⟨rfl, hb⟩; refine ⟨_, rfl, ?_⟩; replace BK521 := sqB BK521 hb; replace HB := qs hb; (try clear hb)))
  go_ret2
  exact ⟨_, Q1, by first | exact Kd.S_nil _ _ _ _ _ | exact Kd.N_nil _ _ _ _ _ | exact Kd.V_nil _ _ _ _ _ | exact Kd.Q_nil _ _ _ _ _ | exact Kd.R_nil _ _ _ _ _, qb⟩

/-! ### impl_CountCells: function 23 -/
def impl_CountCells.f (k : Nat) (a0_0 : Int) (a0_1 : Int) (l0_2 : List Int) : Option (Int × Bool) := (impl_CellsOf.f k a0_0 a0_1 l0_2).bind fun bt534 => (some ((bt534.1.length : Int), bt534.2))
set_option maxHeartbeats 8000000 in
set_option maxRecDepth 100000 in
theorem impl_CountCells.calls (k : Nat) (a0_0 : Int) (a0_1 : Int) (A0_2 : Option Addr) (c0_2 : Nat) (l0_2 : List Int) (r1 : Int) (r2 : Bool) (w : World) (hr0_2 : Kd.C (Kd.int .i64) w A0_2 l0_2.length l0_2) (hc0_2 : l0_2.length ≤ c0_2) (h : impl_CountCells.f k a0_0 a0_1 l0_2 = some (r1, r2)) :
  Calls Tryd.prog 23 #[.agg #[.int .i64 a0_0, .int .i64 a0_1, .slice A0_2 l0_2.length c0_2]] w fun e w' => e = .returned (.tuple #[.int .i64 r1, .bool r2]) ∧ Below w.heap.size w w' := by
 have hu26 := Tryd.underlying26
 have HR0_2 := Aside0.mk hr0_2
 have HC0_2 := Aside0.mk hc0_2
 clear hr0_2 hc0_2
 have HB := am (Below.refl w.heap.size w)
 have H : ((impl_CellsOf.f k a0_0 a0_1 l0_2).bind fun bt534 => (some ((bt534.1.length : Int), bt534.2))) = some (r1, r2) := h
 clear h
 replace H := qE H
 obtain ⟨⟨t534, t537⟩, A2, H⟩ := H
 replace H : (some ((t534.length : Int), t537)) = some (r1, r2) := H
 simp only [Option.some.injEq, Prod.mk.injEq] at H
 obtain ⟨rfl, rfl⟩ := H
 go_enter Tryd.func23, Tryd.ntmps23
 go_wp2_with (first | ((with_reducible refine gate_dst (N := 1) rfl ?_); refine qv 1 #[.int .i64 a0_0, .int .i64 a0_1, .slice A0_2 l0_2.length c0_2] 26 ?_; intro gb533 hg w3 hbox hb; have BK533 := am hbox; have GW533 := qw hg; have GE533 := qw hg; replace HB := qs hb; clear hb hbox hg; obtain ⟨zq33, zq34, zq35, fq33, fq34, fq35⟩ := qd BK533) | ((with_reducible refine gate_callee (f := 58) rfl ?_); refine qg (some 8) Tryd.func58 #[.agg #[.int .i64 a0_0, .int .i64 a0_1, .slice A0_2 l0_2.length c0_2]] ?_; (with_reducible refine (impl_CellsOf.calls k a0_0 a0_1 _ _ l0_2 t534 t537 _ ?side1 HC0_2.out A2.out).mono ?_); (case side1 => exact Q3); rintro e w5 ⟨v535, rfl, ho0, hb⟩; refine ⟨_, rfl, ?_⟩; have Oq4 := am (Kd.S_lower ho0 (below_size qb)); replace BK533 := sqB BK533 hb; replace HB := qs hb; (try clear hb ho0); obtain ⟨Ao6, co6, eo6⟩ := Kd.S_slice Oq4.out; subst eo6))
 go_ret2
 exact ⟨Q1, qb⟩

/-! ### impl_Board_place: function 74 -/
def impl_Board_place.f (a0_0 : Int) (a0_1 : Int) (l0_2 : List Int) (a1 : Int) (a2 : Int) : Option (Bool) := (impl_within.f a1 0 (wrap64 (a0_0 - 1))).bind fun t539 => (if t539 = true then ((impl_within.f a2 0 (wrap64 (a0_1 - 1))).bind fun t540 => (some t540)) else (some false))
set_option maxHeartbeats 8000000 in
set_option maxRecDepth 100000 in
theorem impl_Board_place.calls (a0_0 : Int) (a0_1 : Int) (A0_2 : Option Addr) (c0_2 : Nat) (l0_2 : List Int) (a1 : Int) (a2 : Int) (r : Bool) (w : World) (hr0_2 : Kd.C (Kd.int .i64) w A0_2 l0_2.length l0_2) (hc0_2 : l0_2.length ≤ c0_2) (h : impl_Board_place.f a0_0 a0_1 l0_2 a1 a2 = some r) :
  Calls Tryd.prog 74 #[.agg #[.int .i64 a0_0, .int .i64 a0_1, .slice A0_2 l0_2.length c0_2], .int .i64 a1, .int .i64 a2] w fun e w' => e = .returned (.bool r) ∧ Below w.heap.size w w' := by
 have hu26 := Tryd.underlying26
 have HR0_2 := Aside0.mk hr0_2
 have HC0_2 := Aside0.mk hc0_2
 clear hr0_2 hc0_2
 have HB := am (Below.refl w.heap.size w)
 have H : ((impl_within.f a1 0 (wrap64 (a0_0 - 1))).bind fun t539 => (if t539 = true then ((impl_within.f a2 0 (wrap64 (a0_1 - 1))).bind fun t540 => (some t540)) else (some false))) = some r := h
 clear h
 replace H := qE H
 obtain ⟨t539, A4, H⟩ := H
 replace H : (if t539 = true then ((impl_within.f a2 0 (wrap64 (a0_1 - 1))).bind fun t540 => (some t540)) else (some false)) = some r := H
 by_cases c5 : t539 = true
 ·
  subst c5
  have H1 : ((impl_within.f a2 0 (wrap64 (a0_1 - 1))).bind fun t540 => (some t540)) = some r := by first | (rw [if_pos rfl] at H; exact H) | rfl
  clear H
  have H := H1
  clear H1
  replace H := qE H
  obtain ⟨t540, A6, H⟩ := H
  replace H : (some t540) = some r := H
  obtain rfl := Option.some.inj H
  go_enter Tryd.func74, Tryd.ntmps74
  go_wp2_with (first | ((with_reducible refine gate_dst (N := 3) rfl ?_); refine qv 3 #[.int .i64 a0_0, .int .i64 a0_1, .slice A0_2 l0_2.length c0_2] 26 ?_; intro gb538 hg w7 hbox hb; have BK538 := am hbox; have GW538 := qw hg; have GE538 := qw hg; replace HB := qs hb; clear hb hbox hg; obtain ⟨zq42, zq43, zq44, fq42, fq43, fq44⟩ := qd BK538) | ((with_reducible refine gate_callee (f := 62) rfl ?_); refine qg (some 11) Tryd.func62 #[.int .i64 a1, .int .i64 0, .int .i64 (wrap64 (a0_0 - 1))] ?_; (with_reducible refine (impl_within.calls a1 0 (wrap64 (a0_0 - 1)) true _ A4.out).mono ?_); rintro e w' ⟨rfl, ⟨nd, rfl⟩⟩; refine ⟨_, rfl, ?_⟩) | (go_at_call 62; (with_reducible refine (impl_within.calls a2 0 (wrap64 (a0_1 - 1)) t540 _ A6.out).mono ?_); rintro e w' ⟨rfl, ⟨nd, rfl⟩⟩))
  go_ret
  exact ⟨Q1, qb⟩
 ·
  replace c5 := Bool.eq_false_iff.mpr c5
  subst c5
  have H1 : (some false) = some r := by first | (rw [if_neg (show ¬ (false = true) by decide)] at H; exact H) | rfl
  clear H
  have H := H1
  clear H1
  obtain rfl := Option.some.inj H
  go_enter Tryd.func74, Tryd.ntmps74
  go_wp2_with (first | ((with_reducible refine gate_dst (N := 3) rfl ?_); refine qv 3 #[.int .i64 a0_0, .int .i64 a0_1, .slice A0_2 l0_2.length c0_2] 26 ?_; intro gb538 hg w9 hbox hb; have BK538 := am hbox; have GW538 := qw hg; have GE538 := qw hg; replace HB := qs hb; clear hb hbox hg; obtain ⟨zq0, zq1, zq2, fq0, fq1, fq2⟩ := qd BK538) | ((with_reducible refine gate_callee (f := 62) rfl ?_); refine qg (some 11) Tryd.func62 #[.int .i64 a1, .int .i64 0, .int .i64 (wrap64 (a0_0 - 1))] ?_; (with_reducible refine (impl_within.calls a1 0 (wrap64 (a0_0 - 1)) false _ A4.out).mono ?_); rintro e w' ⟨rfl, ⟨nd, rfl⟩⟩; refine ⟨_, rfl, ?_⟩))
  go_ret
  exact ⟨Q1, qb⟩

/-! ### impl_HasCell: function 59 -/
def impl_HasCell.f (a0_0 : Int) (a0_1 : Int) (l0_2 : List Int) (a1 : Int) (a2 : Int) : Option (Bool × Bool) := (impl_IsBoard.f a0_0 a0_1 l0_2).bind fun t542 => (if t542 = true then ((impl_Board_place.f a0_0 a0_1 l0_2 a1 a2).bind fun t543 => (if t543 = true then ((impl_Board_has.f a0_0 a0_1 l0_2 a1 a2).bind fun t544 => (some (t544, true))) else (some (false, false)))) else (some (false, false)))
set_option maxHeartbeats 8000000 in
set_option maxRecDepth 100000 in
theorem impl_HasCell.calls (a0_0 : Int) (a0_1 : Int) (A0_2 : Option Addr) (c0_2 : Nat) (l0_2 : List Int) (a1 : Int) (a2 : Int) (r1 : Bool) (r2 : Bool) (w : World) (hr0_2 : Kd.C (Kd.int .i64) w A0_2 l0_2.length l0_2) (hc0_2 : l0_2.length ≤ c0_2) (h : impl_HasCell.f a0_0 a0_1 l0_2 a1 a2 = some (r1, r2)) :
  Calls Tryd.prog 59 #[.agg #[.int .i64 a0_0, .int .i64 a0_1, .slice A0_2 l0_2.length c0_2], .int .i64 a1, .int .i64 a2] w fun e w' => e = .returned (.tuple #[.bool r1, .bool r2]) ∧ Below w.heap.size w w' := by
 have hu26 := Tryd.underlying26
 have HR0_2 := Aside0.mk hr0_2
 have HC0_2 := Aside0.mk hc0_2
 clear hr0_2 hc0_2
 have HB := am (Below.refl w.heap.size w)
 have H : ((impl_IsBoard.f a0_0 a0_1 l0_2).bind fun t542 => (if t542 = true then ((impl_Board_place.f a0_0 a0_1 l0_2 a1 a2).bind fun t543 => (if t543 = true then ((impl_Board_has.f a0_0 a0_1 l0_2 a1 a2).bind fun t544 => (some (t544, true))) else (some (false, false)))) else (some (false, false)))) = some (r1, r2) := h
 clear h
 replace H := qE H
 obtain ⟨t542, A4, H⟩ := H
 replace H : (if t542 = true then ((impl_Board_place.f a0_0 a0_1 l0_2 a1 a2).bind fun t543 => (if t543 = true then ((impl_Board_has.f a0_0 a0_1 l0_2 a1 a2).bind fun t544 => (some (t544, true))) else (some (false, false)))) else (some (false, false))) = some (r1, r2) := H
 by_cases c5 : t542 = true
 ·
  subst c5
  have H1 : ((impl_Board_place.f a0_0 a0_1 l0_2 a1 a2).bind fun t543 => (if t543 = true then ((impl_Board_has.f a0_0 a0_1 l0_2 a1 a2).bind fun t544 => (some (t544, true))) else (some (false, false)))) = some (r1, r2) := by first | (rw [if_pos rfl] at H; exact H) | rfl
  clear H
  have H := H1
  clear H1
  replace H := qE H
  obtain ⟨t543, A6, H⟩ := H
  replace H : (if t543 = true then ((impl_Board_has.f a0_0 a0_1 l0_2 a1 a2).bind fun t544 => (some (t544, true))) else (some (false, false))) = some (r1, r2) := H
  by_cases c7 : t543 = true
  ·
   subst c7
   have H1 : ((impl_Board_has.f a0_0 a0_1 l0_2 a1 a2).bind fun t544 => (some (t544, true))) = some (r1, r2) := by first | (rw [if_pos rfl] at H; exact H) | rfl
   clear H
   have H := H1
   clear H1
   replace H := qE H
   obtain ⟨t544, A8, H⟩ := H
   replace H : (some (t544, true)) = some (r1, r2) := H
   simp only [Option.some.injEq, Prod.mk.injEq] at H
   obtain ⟨rfl, rfl⟩ := H
   go_enter Tryd.func59, Tryd.ntmps59
   go_wp2_with (first | ((with_reducible refine gate_dst (N := 3) rfl ?_); refine qv 3 #[.int .i64 a0_0, .int .i64 a0_1, .slice A0_2 l0_2.length c0_2] 26 ?_; intro gb541 hg w9 hbox hb; have BK541 := am hbox; have GW541 := qw hg; have GE541 := qw hg; replace HB := qs hb; clear hb hbox hg; obtain ⟨zq0, zq1, zq2, fq0, fq1, fq2⟩ := qd BK541) | ((with_reducible refine gate_callee (f := 26) rfl ?_); refine qg (some 9) Tryd.func26 #[.agg #[.int .i64 a0_0, .int .i64 a0_1, .slice A0_2 l0_2.length c0_2]] ?_; (with_reducible refine (impl_IsBoard.calls a0_0 a0_1 _ _ l0_2 true _ ?side1 HC0_2.out A4.out).mono ?_); (case side1 => exact Q3); rintro e w11 ⟨rfl, hb⟩; refine ⟨_, rfl, ?_⟩; replace BK541 := sqB BK541 hb; replace HB := qs hb; (try clear hb); obtain ⟨zq6, zq7, zq8, fq6, fq7, fq8⟩ := qd BK541) | (go_at_call 74; (with_reducible refine (impl_Board_place.calls a0_0 a0_1 _ _ l0_2 a1 a2 true _ ?side1 HC0_2.out A6.out).mono ?_); (case side1 => exact Q3); rintro e w13 ⟨rfl, hb⟩; replace BK541 := sqB BK541 hb; replace HB := qs hb; (try clear hb); obtain ⟨zq12, zq13, zq14, fq12, fq13, fq14⟩ := qd BK541) | ((with_reducible refine gate_callee (f := 32) rfl ?_); refine qg (some 21) Tryd.func32 #[.agg #[.int .i64 a0_0, .int .i64 a0_1, .slice A0_2 l0_2.length c0_2], .int .i64 a1, .int .i64 a2] ?_; (with_reducible refine (impl_Board_has.calls a0_0 a0_1 _ _ l0_2 a1 a2 t544 _ ?side1 HC0_2.out A8.out).mono ?_); (case side1 => exact Q3); rintro e w15 ⟨rfl, hb⟩; refine ⟨_, rfl, ?_⟩; replace BK541 := sqB BK541 hb; replace HB := qs hb; (try clear hb)))
   go_ret2
   exact ⟨Q1, qb⟩
  ·
   replace c7 := Bool.eq_false_iff.mpr c7
   subst c7
   have H1 : (some (false, false)) = some (r1, r2) := by first | (rw [if_neg (show ¬ (false = true) by decide)] at H; exact H) | rfl
   clear H
   have H := H1
   clear H1
   simp only [Option.some.injEq, Prod.mk.injEq] at H
   obtain ⟨rfl, rfl⟩ := H
   go_enter Tryd.func59, Tryd.ntmps59
   go_wp2_with (first | ((with_reducible refine gate_dst (N := 3) rfl ?_); refine qv 3 #[.int .i64 a0_0, .int .i64 a0_1, .slice A0_2 l0_2.length c0_2] 26 ?_; intro gb541 hg w16 hbox hb; have BK541 := am hbox; have GW541 := qw hg; have GE541 := qw hg; replace HB := qs hb; clear hb hbox hg; obtain ⟨zq21, zq22, zq23, fq21, fq22, fq23⟩ := qd BK541) | ((with_reducible refine gate_callee (f := 26) rfl ?_); refine qg (some 9) Tryd.func26 #[.agg #[.int .i64 a0_0, .int .i64 a0_1, .slice A0_2 l0_2.length c0_2]] ?_; (with_reducible refine (impl_IsBoard.calls a0_0 a0_1 _ _ l0_2 true _ ?side1 HC0_2.out A4.out).mono ?_); (case side1 => exact Q3); rintro e w18 ⟨rfl, hb⟩; refine ⟨_, rfl, ?_⟩; replace BK541 := sqB BK541 hb; replace HB := qs hb; (try clear hb); obtain ⟨zq24, zq25, zq26, fq24, fq25, fq26⟩ := qd BK541) | (go_at_call 74; (with_reducible refine (impl_Board_place.calls a0_0 a0_1 _ _ l0_2 a1 a2 false _ ?side1 HC0_2.out A6.out).mono ?_); (case side1 => exact Q3); rintro e w20 ⟨rfl, hb⟩; replace BK541 := sqB BK541 hb; replace HB := qs hb; (try clear hb)))
   go_ret2
   exact ⟨Q1, qb⟩
 ·
  replace c5 := Bool.eq_false_iff.mpr c5
  subst c5
  have H1 : (some (false, false)) = some (r1, r2) := by first | (rw [if_neg (show ¬ (false = true) by decide)] at H; exact H) | rfl
  clear H
  have H := H1
  clear H1
  simp only [Option.some.injEq, Prod.mk.injEq] at H
  obtain ⟨rfl, rfl⟩ := H
  go_enter Tryd.func59, Tryd.ntmps59
  go_wp2_with (first | ((with_reducible refine gate_dst (N := 3) rfl ?_); refine qv 3 #[.int .i64 a0_0, .int .i64 a0_1, .slice A0_2 l0_2.length c0_2] 26 ?_; intro gb541 hg w21 hbox hb; have BK541 := am hbox; have GW541 := qw hg; have GE541 := qw hg; replace HB := qs hb; clear hb hbox hg; obtain ⟨zq27, zq28, zq29, fq27, fq28, fq29⟩ := qd BK541) | ((with_reducible refine gate_callee (f := 26) rfl ?_); refine qg (some 9) Tryd.func26 #[.agg #[.int .i64 a0_0, .int .i64 a0_1, .slice A0_2 l0_2.length c0_2]] ?_; (with_reducible refine (impl_IsBoard.calls a0_0 a0_1 _ _ l0_2 false _ ?side1 HC0_2.out A4.out).mono ?_); (case side1 => exact Q3); rintro e w23 ⟨rfl, hb⟩; refine ⟨_, rfl, ?_⟩; replace BK541 := sqB BK541 hb; replace HB := qs hb; (try clear hb)))
  go_ret2
  exact ⟨Q1, qb⟩

/-! ### laws_rOn: function 24 -/
def laws_rOn.f (a0_0 : Int) (a0_1 : Int) (l0_2 : List Int) (a1 : Int) (a2 : Int) : Option (Bool) := (impl_HasCell.f a0_0 a0_1 l0_2 a1 a2).bind fun bt546 => (if bt546.2 = true then (some bt546.1) else (some false))
set_option maxHeartbeats 8000000 in
set_option maxRecDepth 100000 in
theorem laws_rOn.calls (a0_0 : Int) (a0_1 : Int) (A0_2 : Option Addr) (c0_2 : Nat) (l0_2 : List Int) (a1 : Int) (a2 : Int) (r : Bool) (w : World) (hr0_2 : Kd.C (Kd.int .i64) w A0_2 l0_2.length l0_2) (hc0_2 : l0_2.length ≤ c0_2) (h : laws_rOn.f a0_0 a0_1 l0_2 a1 a2 = some r) :
  Calls Tryd.prog 24 #[.agg #[.int .i64 a0_0, .int .i64 a0_1, .slice A0_2 l0_2.length c0_2], .int .i64 a1, .int .i64 a2] w fun e w' => e = .returned (.bool r) ∧ Below w.heap.size w w' := by
 have hu26 := Tryd.underlying26
 have HR0_2 := Aside0.mk hr0_2
 have HC0_2 := Aside0.mk hc0_2
 clear hr0_2 hc0_2
 have HB := am (Below.refl w.heap.size w)
 have H : ((impl_HasCell.f a0_0 a0_1 l0_2 a1 a2).bind fun bt546 => (if bt546.2 = true then (some bt546.1) else (some false))) = some r := h
 clear h
 replace H := qE H
 obtain ⟨⟨t546, t547⟩, A4, H⟩ := H
 replace H : (if t547 = true then (some t546) else (some false)) = some r := H
 by_cases c5 : t547 = true
 ·
  subst c5
  have H1 : (some t546) = some r := by first | (rw [if_pos rfl] at H; exact H) | rfl
  clear H
  have H := H1
  clear H1
  obtain rfl := Option.some.inj H
  go_enter Tryd.func24, Tryd.ntmps24
  go_wp2_with (first | ((with_reducible refine gate_dst (N := 3) rfl ?_); refine qv 3 #[.int .i64 a0_0, .int .i64 a0_1, .slice A0_2 l0_2.length c0_2] 26 ?_; intro gb545 hg w6 hbox hb; have BK545 := am hbox; have GW545 := qw hg; have GE545 := qw hg; replace HB := qs hb; clear hb hbox hg; obtain ⟨zq39, zq40, zq41, fq39, fq40, fq41⟩ := qd BK545) | ((with_reducible refine gate_callee (f := 59) rfl ?_); refine qg (some 13) Tryd.func59 #[.agg #[.int .i64 a0_0, .int .i64 a0_1, .slice A0_2 l0_2.length c0_2], .int .i64 a1, .int .i64 a2] ?_; (with_reducible refine (impl_HasCell.calls a0_0 a0_1 _ _ l0_2 a1 a2 t546 true _ ?side1 HC0_2.out A4.out).mono ?_); (case side1 => exact Q3); rintro e w8 ⟨rfl, hb⟩; refine ⟨_, rfl, ?_⟩; replace BK545 := sqB BK545 hb; replace HB := qs hb; (try clear hb)))
  go_ret
  exact ⟨Q1, qb⟩
 ·
  replace c5 := Bool.eq_false_iff.mpr c5
  subst c5
  have H1 : (some false) = some r := by first | (rw [if_neg (show ¬ (false = true) by decide)] at H; exact H) | rfl
  clear H
  have H := H1
  clear H1
  obtain rfl := Option.some.inj H
  go_enter Tryd.func24, Tryd.ntmps24
  go_wp2_with (first | ((with_reducible refine gate_dst (N := 3) rfl ?_); refine qv 3 #[.int .i64 a0_0, .int .i64 a0_1, .slice A0_2 l0_2.length c0_2] 26 ?_; intro gb545 hg w9 hbox hb; have BK545 := am hbox; have GW545 := qw hg; have GE545 := qw hg; replace HB := qs hb; clear hb hbox hg; obtain ⟨zq0, zq1, zq2, fq0, fq1, fq2⟩ := qd BK545) | ((with_reducible refine gate_callee (f := 59) rfl ?_); refine qg (some 13) Tryd.func59 #[.agg #[.int .i64 a0_0, .int .i64 a0_1, .slice A0_2 l0_2.length c0_2], .int .i64 a1, .int .i64 a2] ?_; (with_reducible refine (impl_HasCell.calls a0_0 a0_1 _ _ l0_2 a1 a2 t546 false _ ?side1 HC0_2.out A4.out).mono ?_); (case side1 => exact Q3); rintro e w11 ⟨rfl, hb⟩; refine ⟨_, rfl, ?_⟩; replace BK545 := sqB BK545 hb; replace HB := qs hb; (try clear hb)))
  go_ret
  exact ⟨Q1, qb⟩

end Go.Proofs.YtllhofdgbpnkkaaDoor.PFnBoardsTurned
