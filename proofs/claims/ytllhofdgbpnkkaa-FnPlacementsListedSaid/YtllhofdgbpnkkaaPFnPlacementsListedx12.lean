-- Printed for this claim by wip/pp.py over the kit's printer; Lean checks it.
import Derived.Test.YtllhofdgbpnkkaaPFnPlacementsListedx0
import Derived.Test.YtllhofdgbpnkkaaPFnPlacementsListedx2
import Derived.Test.YtllhofdgbpnkkaaPFnPlacementsListedx4
import Derived.Test.YtllhofdgbpnkkaaPFnPlacementsListedx5
import Derived.Test.YtllhofdgbpnkkaaPFnPlacementsListedx8
namespace Go.Proofs.Ytllhofdgbpnkkaa.PFnPlacementsListed
open Go.RowKit Go.Proofs.YtllhofdgbpnkkaaW.PrintWords Go.Proofs.YtllhofdgbpnkkaaW.PrintLast Go.Proofs.YtllhofdgbpnkkaaW.PrintMore
attribute [local go_sem] max2_int min2_int max_two min_two max_three min_three max_four min_four   -- for this text's walks alone
set_option linter.unusedVariables false
set_option linter.unusedSimpArgs false

/-! ### spec_l1Cur_placed: function 114 -/
def spec_l1Cur_placed.l0 : Nat → List Int → Int → List Int → Int → Int → Int → Int → List Int → Option (Int × Int × List Int × List Int × Int × Int)
 | 0, _, _, _, _, _, _, _, _ => none
 | k + 1, x5, x6, x1000, x1001, x1002, x400000, x400001, x400002 => if x6 < x400000 then ((spec_l1Cur_pick.f x1000 x1001 x1002 (wrap64 (x400001 + 1))).bind fun bt404 => (if (wrap64 (bt404.1 - 1)) ≥ 0 then ((spec_boHas.f x400000 x400001 x400002 x6 (wrap64 (bt404.1 - 1))).bind fun t407 => (if t407 = true then ((spec_l1Has.f k x5 (wrap64 (bt404.1 - 1))).bind fun t408 => (if t408 = true then (if x5.length < 17592186044416 then (spec_l1Cur_placed.l0 k (x5 ++ [(-1)]) (wrap64 (x6 + 1)) x1000 bt404.2.1 bt404.2.2 x400000 x400001 x400002) else (none)) else (if x5.length < 17592186044416 then (spec_l1Cur_placed.l0 k (x5 ++ [wrap64 (bt404.1 - 1)]) (wrap64 (x6 + 1)) x1000 bt404.2.1 bt404.2.2 x400000 x400001 x400002) else (none)))) else (if x5.length < 17592186044416 then (spec_l1Cur_placed.l0 k (x5 ++ [(-1)]) (wrap64 (x6 + 1)) x1000 bt404.2.1 bt404.2.2 x400000 x400001 x400002) else (none)))) else (if x5.length < 17592186044416 then (spec_l1Cur_placed.l0 k (x5 ++ [wrap64 (bt404.1 - 1)]) (wrap64 (x6 + 1)) x1000 bt404.2.1 bt404.2.2 x400000 x400001 x400002) else (none)))) else ((spec_l1Cur_pick.f x1000 x1001 x1002 12).bind fun bt421 => (if bt421.1 = 0 then ((spec_l1Cur_pick.f x1000 bt421.2.1 bt421.2.2 (x5.length : Int)).bind fun bt424 => ((spec_l1Cur_pick.f x1000 bt424.2.1 bt424.2.2 9).bind fun bt427 => (if 0 ≤ bt424.1 then (if bt424.1 < (x5.length : Int) then (some (x400000, x400001, x400002, (x5.set (bt424.1 : Int).toNat (wrap64 (bt427.1 - 2))), bt427.2.1, bt427.2.2)) else (none)) else (none)))) else (if bt421.1 = 1 then (if x5.length < 17592186044416 then (some (x400000, x400001, x400002, (x5 ++ [(-1)]), bt421.2.1, bt421.2.2)) else (none)) else (some (x400000, x400001, x400002, x5, bt421.2.1, bt421.2.2)))))
def spec_l1Cur_placed.f (k : Nat) (s0_0 : List Int) (s0_1 : Int) (s0_2 : Int) : Option (Int × Int × List Int × List Int × Int × Int) := (spec_l1Cur_board.f k s0_0 s0_1 s0_2).bind fun bt392 => ((spec_boGood.f k bt392.1 bt392.2.1 bt392.2.2.1).bind fun t400 => (if t400 = true then (spec_l1Cur_placed.l0 k ([] : List Int) 0 s0_0 bt392.2.2.2.1 bt392.2.2.2.2 bt392.1 bt392.2.1 bt392.2.2.1) else (some (bt392.1, bt392.2.1, bt392.2.2.1, (([0] : List Int)), bt392.2.2.2.1, bt392.2.2.2.2))))
set_option maxHeartbeats 8000000 in
set_option maxRecDepth 100000 in
theorem spec_l1Cur_placed.calls (k : Nat) (g : Nat) (s0_0 : List Int) (s0_1 : Int) (s0_2 : Int) (r1 : Int) (r2 : Int) (r3 : List Int) (r4 : List Int) (r5 : Int) (r6 : Int) (w0 w : World) (hI : IsS66 w0 w g s0_0 s0_1 s0_2) (hB : Below w0.heap.size w0 w) (h : spec_l1Cur_placed.f k s0_0 s0_1 s0_2 = some (r1, r2, r3, r4, r5, r6)) :
  Calls Try.prog 114 #[.pointer (some ⟨g, 0, none⟩)] w fun e w' => ∃ v2_ v3_ : Value, e = .returned (.tuple #[.agg #[.int .i64 r1, .int .i64 r2, v2_], v3_]) ∧ Kd.R (Kd.int .i64) 3 w' w.heap.size (fun k_ => some k_ ≠ (v3_ : Value).ownBlock) v2_ r3 ∧ Kd.R (Kd.int .i64) 3 w' w.heap.size (fun k_ => some k_ ≠ (v2_ : Value).ownBlock) v3_ r4 ∧ IsS66 w0 w' g s0_0 r5 r6 ∧ Below w0.heap.size w0 w' ∧ KeepBut w w' g none := by
 have hu26 := Try.underlying26
 have HI0 := Aside0.mk hI
 have HK := am (KeepBut.refl w g none)
 have HL := Aside0.mk hB.size
 clear hI
 have HW0 := Aside0.mk hB.size
 have HB := Aside0.mk hB
 clear hB
 have H : ((spec_l1Cur_board.f k s0_0 s0_1 s0_2).bind fun bt392 => ((spec_boGood.f k bt392.1 bt392.2.1 bt392.2.2.1).bind fun t400 => (if t400 = true then (spec_l1Cur_placed.l0 k ([] : List Int) 0 s0_0 bt392.2.2.2.1 bt392.2.2.2.2 bt392.1 bt392.2.1 bt392.2.2.1) else (some (bt392.1, bt392.2.1, bt392.2.2.1, (([0] : List Int)), bt392.2.2.2.1, bt392.2.2.2.2))))) = some (r1, r2, r3, r4, r5, r6) := h
 clear h
 replace H := qE H
 obtain ⟨⟨t392, t393, t394, t397, t398⟩, A2, H⟩ := H
 replace H : ((spec_boGood.f k t392 t393 t394).bind fun t400 => (if t400 = true then (spec_l1Cur_placed.l0 k ([] : List Int) 0 s0_0 t397 t398 t392 t393 t394) else (some (t392, t393, t394, (([0] : List Int)), t397, t398)))) = some (r1, r2, r3, r4, r5, r6) := H
 replace H := qE H
 obtain ⟨t400, A3, H⟩ := H
 replace H : (if t400 = true then (spec_l1Cur_placed.l0 k ([] : List Int) 0 s0_0 t397 t398 t392 t393 t394) else (some (t392, t393, t394, (([0] : List Int)), t397, t398))) = some (r1, r2, r3, r4, r5, r6) := H
 by_cases c4 : t400 = true
 ·
  subst c4
  have H1 : (spec_l1Cur_placed.l0 k ([] : List Int) 0 s0_0 t397 t398 t392 t393 t394) = some (r1, r2, r3, r4, r5, r6) := by first | (rw [if_pos rfl] at H; exact H) | rfl
  clear H
  have H := H1
  clear H1
  have H' := Aside0.mk H
  clear H
  go_enter Try.func114, Try.ntmps114
  go_wp2_with (first | ((with_reducible refine gate_dst (N := 2) rfl ?_); refine qv 2 #[.int .i64 0, .int .i64 0, .slice none 0 0] 26 ?_; intro gb391 hg w5 hbox hb; have BK391 := am hbox; have GW391 := qx hg; have GE391 := qy HW0 (qx hg); have Nq0 := qo hg g; have Nq2 := qO hg g; replace HK := qU hb; replace HB := qt hb; replace HI0 := qj hb; clear hb hbox hg) | ((with_reducible refine gate_callee (f := 62) rfl ?_); refine qg (some 9) Try.func62 #[.pointer (some ⟨g, 0, none⟩)] ?_; (with_reducible refine (spec_l1Cur_board.calls k g s0_0 s0_1 s0_2 t392 t393 t394 t397 t398 w0 _ ?side1 ?side2 A2.out).mono ?_); (case side1 => exact qi); (case side2 => exact qc); rintro e w6 ⟨v395, rfl, ho0, hi, hb, hk⟩; refine ⟨_, rfl, ?_⟩; have Oq0 := qm ho0; replace BK391 := qK BK391 hk Nq2; replace HK := qT hk; replace HB := am hb; replace HI0 := am hi; (try clear hb hk hi ho0)) | ((with_reducible refine gate_dst (N := 4) rfl ?_); refine qv 4 #[.int .i64 0, .int .i64 0, .slice none 0 0] 26 ?_; intro gb399 hg w7 hbox hb; have BK399 := am hbox; have GW399 := qx hg; have GE399 := qy HW0 (qx hg); have Nq3 := qn hg BK391; have Nq5 := qN hg BK391; have Nq1 := qo hg g; have Nq4 := qO hg g; replace Oq0 := sqR Oq0 hb; replace BK391 := sqB BK391 hb; replace HK := qU hb; replace HB := qt hb; replace HI0 := qj hb; clear hb hbox hg; have bq15 := Nq5.out; have cq16 := Nq3.out; have bq19 := Nq4.out; have cq20 := Nq1.out; obtain ⟨zq3, zq4, zq5, fq3, fq4, fq5⟩ := qd BK399; obtain ⟨Ao11, co11, eo11⟩ := Kd.R_slice Oq0.out; subst eo11) | ((with_reducible refine gate_callee (f := 60) rfl ?_); refine qg (some 11) Try.func60 #[.agg #[.int .i64 t392, .int .i64 t393, .slice Ao11 t394.length co11]] ?_; (with_reducible refine (spec_boGood.calls k t392 t393 _ _ t394 true _ ?side1 ?side2 A3.out).mono ?_); (case side1 => refine (Kd.R_reads' (e := 3) (base := w.heap.size) (ok := fun k_ => True) (n := t394.length) (c := co11) ?_).2.2; exact (sqw (sqo Oq0 BK399))); (case side2 => exact (Kd.R_reads' Oq0.out).2.1); rintro e w12 ⟨rfl, hb⟩; refine ⟨_, rfl, ?_⟩; replace Oq0 := am (Kd.R_below (sqw (sqo Oq0 BK399)) hb); replace BK391 := sqBf BK391 Nq3 (.int .i64 t392) (.int .i64 t393) (.slice Ao11 t394.length co11) hb; replace BK399 := sqBp BK399 (.int .i64 t392) (.int .i64 t393) (.slice Ao11 t394.length co11) hb; replace HK := qU hb; replace HB := qt hb; replace HI0 := am (IsS66.below (show IsS66 w0 (((w7.setCell ⟨gb399, 0, none⟩ (.int .i64 t392)).setCell ⟨gb399, 1, none⟩ (.int .i64 t393)).setCell ⟨gb399, 2, none⟩ (.slice Ao11 t394.length co11)) g s0_0 t397 t398 from by repeat (first | (with_reducible first | exact HI0.out | apply IsS66.alloc | apply IsS66.drewN | apply IsS66.drew | apply IsS66.set_1 | apply IsS66.set_2 | refine IsS66.far ?_ Nq0.out _ | refine IsS66.far ?_ Nq1.out _) | exact HI0.out)) hb); (try clear hb)))
  go_loopg [5, 6] k (fun kq v5 v6 w' => ∃ (x5_1 : List Int) (x6_1 : Int) (x1001_1 : Int) (x1002_1 : Int), v6 = .int .i64 x6_1 ∧ Aside0 (spec_l1Cur_placed.l0 kq x5_1 x6_1 s0_0 x1001_1 x1002_1 t392 t393 t394 = some (r1, r2, r3, r4, r5, r6)) ∧ Aside0 (kq ≤ k) ∧ Aside0 (Kd.R (Kd.int .i64) 3 w' w.heap.size (fun k_ => some k_ ≠ ((.slice Ao11 t394.length co11) : Value).ownBlock) v5 x5_1) ∧ Aside0 (Kd.R (Kd.int .i64) 3 w' w.heap.size (fun k_ => some k_ ≠ (v5 : Value).ownBlock) (.slice Ao11 t394.length co11) t394) ∧ Aside0 (w'.heap[gb391]? = some (.cells #[.int .i64 0, .int .i64 0, (.slice none 0 0)] 26 (0, 0))) ∧ Aside0 (w'.heap[gb399]? = some (.cells #[.int .i64 t392, .int .i64 t393, (.slice Ao11 t394.length co11)] 26 (0, 0))) ∧ Aside0 (IsS66 w0 w' g s0_0 x1001_1 x1002_1) ∧ Aside0 (KeepBut w w' g none) ∧ Aside0 (Below w0.heap.size w0 w'))
  case atStart => exact ⟨(([] : List Int)), (0), (t397), (t398), Q3, H', ⟨Nat.le_refl _⟩, ⟨Q14⟩, ⟨by exact sqm Oq0 (fun _ hk => (by simp [Value.ownBlock]))⟩, ⟨Q33⟩, ⟨Q34⟩, ⟨qi⟩, ⟨qk⟩, ⟨qc⟩⟩
  case round =>
   clear H'
   try clear c4; try clear zq3; try clear zq4; try clear zq5; try clear fq3; try clear fq4; try clear fq5
   obtain ⟨x5_1, x6_1, x1001_1, x1002_1, rfl, HA, HK1, Oq13, Oq12, BK391, BK399, HI0, HK, HB⟩ := hrel
   cases gk with
   | zero => exact absurd HA.out (by simp [spec_l1Cur_placed.l0])
   | succ k1 =>
    have H := HA.out
    clear HA
    simp only [spec_l1Cur_placed.l0] at H
    by_cases c13 : x6_1 < t392
    ·
     rw [if_pos c13] at H
     have c13b0 : decide (x6_1 < t392) = true := decide_eq_true c13
     clear c13
     replace H := qE H
     obtain ⟨⟨t404, t405, t406⟩, A14, H⟩ := H
     replace H : (if (wrap64 (t404 - 1)) ≥ 0 then ((spec_boHas.f t392 t393 t394 x6_1 (wrap64 (t404 - 1))).bind fun t407 => (if t407 = true then ((spec_l1Has.f k1 x5_1 (wrap64 (t404 - 1))).bind fun t408 => (if t408 = true then (if x5_1.length < 17592186044416 then (spec_l1Cur_placed.l0 k1 (x5_1 ++ [(-1)]) (wrap64 (x6_1 + 1)) s0_0 t405 t406 t392 t393 t394) else (none)) else (if x5_1.length < 17592186044416 then (spec_l1Cur_placed.l0 k1 (x5_1 ++ [wrap64 (t404 - 1)]) (wrap64 (x6_1 + 1)) s0_0 t405 t406 t392 t393 t394) else (none)))) else (if x5_1.length < 17592186044416 then (spec_l1Cur_placed.l0 k1 (x5_1 ++ [(-1)]) (wrap64 (x6_1 + 1)) s0_0 t405 t406 t392 t393 t394) else (none)))) else (if x5_1.length < 17592186044416 then (spec_l1Cur_placed.l0 k1 (x5_1 ++ [wrap64 (t404 - 1)]) (wrap64 (x6_1 + 1)) s0_0 t405 t406 t392 t393 t394) else (none))) = some (r1, r2, r3, r4, r5, r6) := H
     by_cases c15 : (wrap64 (t404 - 1)) ≥ 0
     ·
      rw [if_pos c15] at H
      have c15b0 : decide (0 ≤ (wrap64 (t404 - 1))) = true := decide_eq_true c15
      clear c15
      replace H := qE H
      obtain ⟨t407, A16, H⟩ := H
      replace H : (if t407 = true then ((spec_l1Has.f k1 x5_1 (wrap64 (t404 - 1))).bind fun t408 => (if t408 = true then (if x5_1.length < 17592186044416 then (spec_l1Cur_placed.l0 k1 (x5_1 ++ [(-1)]) (wrap64 (x6_1 + 1)) s0_0 t405 t406 t392 t393 t394) else (none)) else (if x5_1.length < 17592186044416 then (spec_l1Cur_placed.l0 k1 (x5_1 ++ [wrap64 (t404 - 1)]) (wrap64 (x6_1 + 1)) s0_0 t405 t406 t392 t393 t394) else (none)))) else (if x5_1.length < 17592186044416 then (spec_l1Cur_placed.l0 k1 (x5_1 ++ [(-1)]) (wrap64 (x6_1 + 1)) s0_0 t405 t406 t392 t393 t394) else (none))) = some (r1, r2, r3, r4, r5, r6) := H
      by_cases c17 : t407 = true
      ·
       subst c17
       have H1 : ((spec_l1Has.f k1 x5_1 (wrap64 (t404 - 1))).bind fun t408 => (if t408 = true then (if x5_1.length < 17592186044416 then (spec_l1Cur_placed.l0 k1 (x5_1 ++ [(-1)]) (wrap64 (x6_1 + 1)) s0_0 t405 t406 t392 t393 t394) else (none)) else (if x5_1.length < 17592186044416 then (spec_l1Cur_placed.l0 k1 (x5_1 ++ [wrap64 (t404 - 1)]) (wrap64 (x6_1 + 1)) s0_0 t405 t406 t392 t393 t394) else (none)))) = some (r1, r2, r3, r4, r5, r6) := by first | (rw [if_pos rfl] at H; exact H) | rfl
       clear H
       have H := H1
       clear H1
       replace H := qE H
       obtain ⟨t408, A18, H⟩ := H
       replace H : (if t408 = true then (if x5_1.length < 17592186044416 then (spec_l1Cur_placed.l0 k1 (x5_1 ++ [(-1)]) (wrap64 (x6_1 + 1)) s0_0 t405 t406 t392 t393 t394) else (none)) else (if x5_1.length < 17592186044416 then (spec_l1Cur_placed.l0 k1 (x5_1 ++ [wrap64 (t404 - 1)]) (wrap64 (x6_1 + 1)) s0_0 t405 t406 t392 t393 t394) else (none))) = some (r1, r2, r3, r4, r5, r6) := H
       by_cases c19 : t408 = true
       ·
        subst c19
        have H1 : (if x5_1.length < 17592186044416 then (spec_l1Cur_placed.l0 k1 (x5_1 ++ [(-1)]) (wrap64 (x6_1 + 1)) s0_0 t405 t406 t392 t393 t394) else (none)) = some (r1, r2, r3, r4, r5, r6) := by first | (rw [if_pos rfl] at H; exact H) | rfl
        clear H
        have H := H1
        clear H1
        by_cases c20 : x5_1.length < 17592186044416
        ·
         rw [if_pos c20] at H
         have LMc20 := Aside0.mk c20
         clear c20
         obtain ⟨y409, hy_⟩ : ∃ y_ : List Int, y_ = ((x5_1 ++ [(-1)])) := ⟨_, rfl⟩
         replace H : (spec_l1Cur_placed.l0 k1 y409 (wrap64 (x6_1 + 1)) s0_0 t405 t406 t392 t393 t394) = some (r1, r2, r3, r4, r5, r6) := qH
         have Ny409 := Aside0.mk hy_
         clear hy_
         have H' := Aside0.mk H
         clear H
         have bq0 := Nq5.out
         have cq1 := Nq3.out
         have bq1 := Nq4.out
         have cq2 := Nq1.out
         obtain ⟨zq6, zq7, zq8, fq6, fq7, fq8⟩ := qd BK399
         go_wp2_with (first | ((with_reducible refine gate_callee (f := 63) rfl ?_); refine qg (some 25) Try.func63 #[.pointer (some ⟨g, 0, none⟩), .int .i64 (wrap64 (t393 + 1))] ?_; (with_reducible refine (spec_l1Cur_pick.calls g s0_0 x1001_1 x1002_1 (wrap64 (t393 + 1)) t404 t405 t406 w0 _ ?side1 ?side2 A14.out).mono ?_); (case side1 => exact qi); (case side2 => exact qc); rintro e w24 ⟨rfl, hi, hb, hk⟩; refine ⟨_, rfl, ?_⟩; replace Oq13 := qR Oq13 hk; replace Oq12 := qR Oq12 hk; replace BK391 := qK BK391 hk Nq2; replace BK399 := qK BK399 hk Nq4; replace HK := qT hk; replace HB := am hb; replace HI0 := am hi; (try clear hb hk hi); obtain ⟨zq9, zq10, zq11, fq9, fq10, fq11⟩ := qd BK399) | (go_at_call 133; (with_reducible refine (spec_boHas.calls t392 t393 _ _ t394 x6_1 (wrap64 (t404 - 1)) true _ ?side1 ?side2 A16.out).mono ?_); (case side1 => exact Q35); (case side2 => exact (Kd.R_reads' Oq12.out).2.1); rintro e w26 ⟨rfl, hb⟩; replace Oq13 := sqR Oq13 hb; replace Oq12 := sqR Oq12 hb; replace BK391 := sqB BK391 hb; replace BK399 := sqB BK399 hb; replace HK := qU hb; replace HB := qt hb; replace HI0 := qj hb; (try clear hb); obtain ⟨Ao27, co27, eo27⟩ := Kd.R_slice Oq13.out; subst eo27) | (go_at_call 134; (with_reducible refine (spec_l1Has.calls k1 _ _ x5_1 (wrap64 (t404 - 1)) true _ ?side1 ?side2 A18.out).mono ?_); (case side1 => exact Q36); (case side2 => exact (Kd.R_reads' Oq13.out).2.1); rintro e w' ⟨rfl, ⟨nd, rfl⟩⟩) | ((with_reducible refine gate_builtin (b := .append) (xs := #[.tmp 41, .tmp 43]) rfl ?_); at_builtin; refine Kd.R_append (Kd.int .i64) w.heap.size rfl (.tmp 41) (.tmp 43) 24 3 (.int .i64 0) 8 rfl Try.underlying24 info3 rfl (by decide) (by omega) (.slice Ao27 x5_1.length co27) x5_1 (-1) [.int .i64 (-1)] (fun k_ => some k_ ≠ (.slice Ao11 t394.length co11 : Value).ownBlock) (fun _ => False) rfl rfl ?aP (fun _ hk => hk.elim) ?aF ?aO (Below.refl _ _) ?aS ?aL ?_; (case aP => exact rfl); (case aF => exact (fun k_ hk => Kd.fresh' (sqL Oq12) k_ hk)); (case aO => exact (sqr Oq13)); (case aS => exact (qz w g)); (case aL => have := LMc20.out; omega); intro v410 w28 ho hb hg hat; rw [← Ny409.out] at ho; have Oq3 := am (ho); replace Oq12 := am (Kd.R_after (ok := (fun _ => True)) Q64 hg hat); replace BK391 := am (blk_grown (g := gb391) (o := .cells #[.int .i64 0, .int .i64 0, .slice none 0 0] 26 (0, 0)) (sqb BK391) hg (Kd.R_ne Oq13.out BK391.out (by decide))); replace BK399 := am (blk_grown (g := gb399) (o := .cells #[.int .i64 t392, .int .i64 t393, .slice Ao11 t394.length co11] 26 (0, 0)) (sqb BK399) hg (Kd.R_ne Oq13.out BK399.out (by decide))); replace HB := am (below_weaken qc HL.out hb); replace HI0 := am (IsS66.grown qi hg (IsS66.own_ne HI0.out Oq13.out (by decide))); replace HK := am (KeepBut.trans qk (KeepBut.of_grown hg g) (Kd.R_base2 Oq13.out)); clear Oq13; clear ho hb hg hat))
         go_roundg k1
         case measure => have := HK1.out; omega
         case rel => exact ⟨(y409), (wrap64 (x6_1 + 1)), (t405), (t406), Q3, H', ⟨Q42⟩, ⟨Q40⟩, ⟨by exact sqm Oq12 (fun _ hk => hk.2)⟩, ⟨Q33⟩, ⟨Q34⟩, ⟨qi⟩, ⟨qk⟩, ⟨qc⟩⟩
        ·
         rw [if_neg c20] at H
         exact absurd H (by simp)
       ·
        replace c19 := Bool.eq_false_iff.mpr c19
        subst c19
        have H1 : (if x5_1.length < 17592186044416 then (spec_l1Cur_placed.l0 k1 (x5_1 ++ [wrap64 (t404 - 1)]) (wrap64 (x6_1 + 1)) s0_0 t405 t406 t392 t393 t394) else (none)) = some (r1, r2, r3, r4, r5, r6) := by first | (rw [if_neg (show ¬ (false = true) by decide)] at H; exact H) | rfl
        clear H
        have H := H1
        clear H1
        by_cases c29 : x5_1.length < 17592186044416
        ·
         rw [if_pos c29] at H
         have LMc29 := Aside0.mk c29
         clear c29
         obtain ⟨y412, hy_⟩ : ∃ y_ : List Int, y_ = ((x5_1 ++ [wrap64 (t404 - 1)])) := ⟨_, rfl⟩
         replace H : (spec_l1Cur_placed.l0 k1 y412 (wrap64 (x6_1 + 1)) s0_0 t405 t406 t392 t393 t394) = some (r1, r2, r3, r4, r5, r6) := qH
         have Ny412 := Aside0.mk hy_
         clear hy_
         have H' := Aside0.mk H
         clear H
         have bq2 := Nq5.out
         have cq3 := Nq3.out
         have bq3 := Nq4.out
         have cq4 := Nq1.out
         obtain ⟨zq12, zq13, zq14, fq12, fq13, fq14⟩ := qd BK399
         go_wp2_with (first | ((with_reducible refine gate_callee (f := 63) rfl ?_); refine qg (some 25) Try.func63 #[.pointer (some ⟨g, 0, none⟩), .int .i64 (wrap64 (t393 + 1))] ?_; (with_reducible refine (spec_l1Cur_pick.calls g s0_0 x1001_1 x1002_1 (wrap64 (t393 + 1)) t404 t405 t406 w0 _ ?side1 ?side2 A14.out).mono ?_); (case side1 => exact qi); (case side2 => exact qc); rintro e w33 ⟨rfl, hi, hb, hk⟩; refine ⟨_, rfl, ?_⟩; replace Oq13 := qR Oq13 hk; replace Oq12 := qR Oq12 hk; replace BK391 := qK BK391 hk Nq2; replace BK399 := qK BK399 hk Nq4; replace HK := qT hk; replace HB := am hb; replace HI0 := am hi; (try clear hb hk hi); obtain ⟨zq15, zq16, zq17, fq15, fq16, fq17⟩ := qd BK399) | (go_at_call 133; (with_reducible refine (spec_boHas.calls t392 t393 _ _ t394 x6_1 (wrap64 (t404 - 1)) true _ ?side1 ?side2 A16.out).mono ?_); (case side1 => exact Q35); (case side2 => exact (Kd.R_reads' Oq12.out).2.1); rintro e w35 ⟨rfl, hb⟩; replace Oq13 := sqR Oq13 hb; replace Oq12 := sqR Oq12 hb; replace BK391 := sqB BK391 hb; replace BK399 := sqB BK399 hb; replace HK := qU hb; replace HB := qt hb; replace HI0 := qj hb; (try clear hb); obtain ⟨Ao36, co36, eo36⟩ := Kd.R_slice Oq13.out; subst eo36) | (go_at_call 134; (with_reducible refine (spec_l1Has.calls k1 _ _ x5_1 (wrap64 (t404 - 1)) false _ ?side1 ?side2 A18.out).mono ?_); (case side1 => exact Q36); (case side2 => exact (Kd.R_reads' Oq13.out).2.1); rintro e w' ⟨rfl, ⟨nd, rfl⟩⟩) | ((with_reducible refine gate_builtin (b := .append) (xs := #[.tmp 41, .tmp 43]) rfl ?_); at_builtin; refine Kd.R_append (Kd.int .i64) w.heap.size rfl (.tmp 41) (.tmp 43) 24 3 (.int .i64 0) 8 rfl Try.underlying24 info3 rfl (by decide) (by omega) (.slice Ao36 x5_1.length co36) x5_1 (wrap64 (t404 - 1)) [.int .i64 (wrap64 (t404 - 1))] (fun k_ => some k_ ≠ (.slice Ao11 t394.length co11 : Value).ownBlock) (fun _ => False) rfl rfl ?aP (fun _ hk => hk.elim) ?aF ?aO (Below.refl _ _) ?aS ?aL ?_; (case aP => exact rfl); (case aF => exact (fun k_ hk => Kd.fresh' (sqL Oq12) k_ hk)); (case aO => exact (sqr Oq13)); (case aS => exact (qz w g)); (case aL => have := LMc29.out; omega); intro v413 w37 ho hb hg hat; rw [← Ny412.out] at ho; have Oq4 := am (ho); replace Oq12 := am (Kd.R_after (ok := (fun _ => True)) Q64 hg hat); replace BK391 := am (blk_grown (g := gb391) (o := .cells #[.int .i64 0, .int .i64 0, .slice none 0 0] 26 (0, 0)) (sqb BK391) hg (Kd.R_ne Oq13.out BK391.out (by decide))); replace BK399 := am (blk_grown (g := gb399) (o := .cells #[.int .i64 t392, .int .i64 t393, .slice Ao11 t394.length co11] 26 (0, 0)) (sqb BK399) hg (Kd.R_ne Oq13.out BK399.out (by decide))); replace HB := am (below_weaken qc HL.out hb); replace HI0 := am (IsS66.grown qi hg (IsS66.own_ne HI0.out Oq13.out (by decide))); replace HK := am (KeepBut.trans qk (KeepBut.of_grown hg g) (Kd.R_base2 Oq13.out)); clear Oq13; clear ho hb hg hat))
         go_roundg k1
         case measure => have := HK1.out; omega
         case rel => exact ⟨(y412), (wrap64 (x6_1 + 1)), (t405), (t406), Q3, H', ⟨Q42⟩, ⟨Q13⟩, ⟨by exact sqm Oq12 (fun _ hk => hk.2)⟩, ⟨Q33⟩, ⟨Q34⟩, ⟨qi⟩, ⟨qk⟩, ⟨qc⟩⟩
        ·
         rw [if_neg c29] at H
         exact absurd H (by simp)
      ·
       replace c17 := Bool.eq_false_iff.mpr c17
       subst c17
       have H1 : (if x5_1.length < 17592186044416 then (spec_l1Cur_placed.l0 k1 (x5_1 ++ [(-1)]) (wrap64 (x6_1 + 1)) s0_0 t405 t406 t392 t393 t394) else (none)) = some (r1, r2, r3, r4, r5, r6) := by first | (rw [if_neg (show ¬ (false = true) by decide)] at H; exact H) | rfl
       clear H
       have H := H1
       clear H1
       by_cases c38 : x5_1.length < 17592186044416
       ·
        rw [if_pos c38] at H
        have LMc38 := Aside0.mk c38
        clear c38
        obtain ⟨y415, hy_⟩ : ∃ y_ : List Int, y_ = ((x5_1 ++ [(-1)])) := ⟨_, rfl⟩
        replace H : (spec_l1Cur_placed.l0 k1 y415 (wrap64 (x6_1 + 1)) s0_0 t405 t406 t392 t393 t394) = some (r1, r2, r3, r4, r5, r6) := qH
        have Ny415 := Aside0.mk hy_
        clear hy_
        have H' := Aside0.mk H
        clear H
        have bq4 := Nq5.out
        have cq5 := Nq3.out
        have bq5 := Nq4.out
        have cq6 := Nq1.out
        obtain ⟨zq18, zq19, zq20, fq18, fq19, fq20⟩ := qd BK399
        go_wp2_with (first | ((with_reducible refine gate_callee (f := 63) rfl ?_); refine qg (some 25) Try.func63 #[.pointer (some ⟨g, 0, none⟩), .int .i64 (wrap64 (t393 + 1))] ?_; (with_reducible refine (spec_l1Cur_pick.calls g s0_0 x1001_1 x1002_1 (wrap64 (t393 + 1)) t404 t405 t406 w0 _ ?side1 ?side2 A14.out).mono ?_); (case side1 => exact qi); (case side2 => exact qc); rintro e w42 ⟨rfl, hi, hb, hk⟩; refine ⟨_, rfl, ?_⟩; replace Oq13 := qR Oq13 hk; replace Oq12 := qR Oq12 hk; replace BK391 := qK BK391 hk Nq2; replace BK399 := qK BK399 hk Nq4; replace HK := qT hk; replace HB := am hb; replace HI0 := am hi; (try clear hb hk hi); obtain ⟨zq21, zq22, zq23, fq21, fq22, fq23⟩ := qd BK399) | (go_at_call 133; (with_reducible refine (spec_boHas.calls t392 t393 _ _ t394 x6_1 (wrap64 (t404 - 1)) false _ ?side1 ?side2 A16.out).mono ?_); (case side1 => exact Q35); (case side2 => exact (Kd.R_reads' Oq12.out).2.1); rintro e w44 ⟨rfl, hb⟩; replace Oq13 := sqR Oq13 hb; replace Oq12 := sqR Oq12 hb; replace BK391 := sqB BK391 hb; replace BK399 := sqB BK399 hb; replace HK := qU hb; replace HB := qt hb; replace HI0 := qj hb; (try clear hb)) | ((with_reducible refine gate_builtin (b := .append) (xs := #[.tmp 41, .tmp 43]) rfl ?_); at_builtin; refine Kd.R_append (Kd.int .i64) w.heap.size rfl (.tmp 41) (.tmp 43) 24 3 (.int .i64 0) 8 rfl Try.underlying24 info3 rfl (by decide) (by omega) u5 x5_1 (-1) [.int .i64 (-1)] (fun k_ => some k_ ≠ (.slice Ao11 t394.length co11 : Value).ownBlock) (fun _ => False) rfl rfl ?aP (fun _ hk => hk.elim) ?aF ?aO (Below.refl _ _) ?aS ?aL ?_; (case aP => exact rfl); (case aF => exact (fun k_ hk => Kd.fresh' (sqL Oq12) k_ hk)); (case aO => exact (sqr Oq13)); (case aS => exact (qz w g)); (case aL => have := LMc38.out; omega); intro v416 w45 ho hb hg hat; rw [← Ny415.out] at ho; have Oq5 := am (ho); replace Oq12 := am (Kd.R_after (ok := (fun _ => True)) Q64 hg hat); replace BK391 := am (blk_grown (g := gb391) (o := .cells #[.int .i64 0, .int .i64 0, .slice none 0 0] 26 (0, 0)) (sqb BK391) hg (Kd.R_ne Oq13.out BK391.out (by decide))); replace BK399 := am (blk_grown (g := gb399) (o := .cells #[.int .i64 t392, .int .i64 t393, .slice Ao11 t394.length co11] 26 (0, 0)) (sqb BK399) hg (Kd.R_ne Oq13.out BK399.out (by decide))); replace HB := am (below_weaken qc HL.out hb); replace HI0 := am (IsS66.grown qi hg (IsS66.own_ne HI0.out Oq13.out (by decide))); replace HK := am (KeepBut.trans qk (KeepBut.of_grown hg g) (Kd.R_base2 Oq13.out)); clear Oq13; clear ho hb hg hat))
        go_roundg k1
        case measure => have := HK1.out; omega
        case rel => exact ⟨(y415), (wrap64 (x6_1 + 1)), (t405), (t406), Q3, H', ⟨Q42⟩, ⟨by (with_reducible repeat (first | apply Kd.R_alloc | apply Kd.R_drewN | apply Kd.R_drew)); exact Oq5.out⟩, ⟨by exact sqm Oq12 (fun _ hk => hk.2)⟩, ⟨Q33⟩, ⟨Q34⟩, ⟨qi⟩, ⟨qk⟩, ⟨qc⟩⟩
       ·
        rw [if_neg c38] at H
        exact absurd H (by simp)
     ·
      rw [if_neg c15] at H
      have c15b0 : decide (0 ≤ (wrap64 (t404 - 1))) = false := decide_eq_false c15
      clear c15
      by_cases c46 : x5_1.length < 17592186044416
      ·
       rw [if_pos c46] at H
       have LMc46 := Aside0.mk c46
       clear c46
       obtain ⟨y418, hy_⟩ : ∃ y_ : List Int, y_ = ((x5_1 ++ [wrap64 (t404 - 1)])) := ⟨_, rfl⟩
       replace H : (spec_l1Cur_placed.l0 k1 y418 (wrap64 (x6_1 + 1)) s0_0 t405 t406 t392 t393 t394) = some (r1, r2, r3, r4, r5, r6) := qH
       have Ny418 := Aside0.mk hy_
       clear hy_
       have H' := Aside0.mk H
       clear H
       have bq6 := Nq5.out
       have cq7 := Nq3.out
       have bq7 := Nq4.out
       have cq8 := Nq1.out
       obtain ⟨zq24, zq25, zq26, fq24, fq25, fq26⟩ := qd BK399
       go_wp2_with (first | ((with_reducible refine gate_callee (f := 63) rfl ?_); refine qg (some 25) Try.func63 #[.pointer (some ⟨g, 0, none⟩), .int .i64 (wrap64 (t393 + 1))] ?_; (with_reducible refine (spec_l1Cur_pick.calls g s0_0 x1001_1 x1002_1 (wrap64 (t393 + 1)) t404 t405 t406 w0 _ ?side1 ?side2 A14.out).mono ?_); (case side1 => exact qi); (case side2 => exact qc); rintro e w50 ⟨rfl, hi, hb, hk⟩; refine ⟨_, rfl, ?_⟩; replace Oq13 := qR Oq13 hk; replace Oq12 := qR Oq12 hk; replace BK391 := qK BK391 hk Nq2; replace BK399 := qK BK399 hk Nq4; replace HK := qT hk; replace HB := am hb; replace HI0 := am hi; (try clear hb hk hi)) | ((with_reducible refine gate_builtin (b := .append) (xs := #[.tmp 41, .tmp 43]) rfl ?_); at_builtin; refine Kd.R_append (Kd.int .i64) w.heap.size rfl (.tmp 41) (.tmp 43) 24 3 (.int .i64 0) 8 rfl Try.underlying24 info3 rfl (by decide) (by omega) u5 x5_1 (wrap64 (t404 - 1)) [.int .i64 (wrap64 (t404 - 1))] (fun k_ => some k_ ≠ (.slice Ao11 t394.length co11 : Value).ownBlock) (fun _ => False) rfl rfl ?aP (fun _ hk => hk.elim) ?aF ?aO (Below.refl _ _) ?aS ?aL ?_; (case aP => exact rfl); (case aF => exact (fun k_ hk => Kd.fresh' (sqL Oq12) k_ hk)); (case aO => exact (sqr Oq13)); (case aS => exact (qz w g)); (case aL => have := LMc46.out; omega); intro v419 w51 ho hb hg hat; rw [← Ny418.out] at ho; have Oq6 := am (ho); replace Oq12 := am (Kd.R_after (ok := (fun _ => True)) Q64 hg hat); replace BK391 := am (blk_grown (g := gb391) (o := .cells #[.int .i64 0, .int .i64 0, .slice none 0 0] 26 (0, 0)) (sqb BK391) hg (Kd.R_ne Oq13.out BK391.out (by decide))); replace BK399 := am (blk_grown (g := gb399) (o := .cells #[.int .i64 t392, .int .i64 t393, .slice Ao11 t394.length co11] 26 (0, 0)) (sqb BK399) hg (Kd.R_ne Oq13.out BK399.out (by decide))); replace HB := am (below_weaken qc HL.out hb); replace HI0 := am (IsS66.grown qi hg (IsS66.own_ne HI0.out Oq13.out (by decide))); replace HK := am (KeepBut.trans qk (KeepBut.of_grown hg g) (Kd.R_base2 Oq13.out)); clear Oq13; clear ho hb hg hat))
       go_roundg k1
       case measure => have := HK1.out; omega
       case rel => exact ⟨(y418), (wrap64 (x6_1 + 1)), (t405), (t406), Q3, H', ⟨Q42⟩, ⟨by (with_reducible repeat (first | apply Kd.R_alloc | apply Kd.R_drewN | apply Kd.R_drew)); exact Oq6.out⟩, ⟨by exact sqm Oq12 (fun _ hk => hk.2)⟩, ⟨Q33⟩, ⟨Q34⟩, ⟨qi⟩, ⟨qk⟩, ⟨qc⟩⟩
      ·
       rw [if_neg c46] at H
       exact absurd H (by simp)
    ·
     rw [if_neg c13] at H
     have c13b0 : decide (x6_1 < t392) = false := decide_eq_false c13
     clear c13
     replace H := qE H
     obtain ⟨⟨t421, t422, t423⟩, A52, H⟩ := H
     replace H : (if t421 = 0 then ((spec_l1Cur_pick.f s0_0 t422 t423 (x5_1.length : Int)).bind fun bt424 => ((spec_l1Cur_pick.f s0_0 bt424.2.1 bt424.2.2 9).bind fun bt427 => (if 0 ≤ bt424.1 then (if bt424.1 < (x5_1.length : Int) then (some (t392, t393, t394, (x5_1.set (bt424.1 : Int).toNat (wrap64 (bt427.1 - 2))), bt427.2.1, bt427.2.2)) else (none)) else (none)))) else (if t421 = 1 then (if x5_1.length < 17592186044416 then (some (t392, t393, t394, (x5_1 ++ [(-1)]), t422, t423)) else (none)) else (some (t392, t393, t394, x5_1, t422, t423)))) = some (r1, r2, r3, r4, r5, r6) := H
     by_cases c53 : t421 = 0
     ·
      rw [if_pos c53] at H
      have c53b0 : (t421 == 0) = true := beq_iff_eq.mpr c53
      have c53b1 : (t421 != 0) = false := bne_eq_false_iff_eq.mpr c53
      clear c53
      replace H := qE H
      obtain ⟨⟨t424, t425, t426⟩, A54, H⟩ := H
      replace H : ((spec_l1Cur_pick.f s0_0 t425 t426 9).bind fun bt427 => (if 0 ≤ t424 then (if t424 < (x5_1.length : Int) then (some (t392, t393, t394, (x5_1.set (t424 : Int).toNat (wrap64 (bt427.1 - 2))), bt427.2.1, bt427.2.2)) else (none)) else (none))) = some (r1, r2, r3, r4, r5, r6) := H
      replace H := qE H
      obtain ⟨⟨t427, t428, t429⟩, A55, H⟩ := H
      replace H : (if 0 ≤ t424 then (if t424 < (x5_1.length : Int) then (some (t392, t393, t394, (x5_1.set (t424 : Int).toNat (wrap64 (t427 - 2))), t428, t429)) else (none)) else (none)) = some (r1, r2, r3, r4, r5, r6) := H
      by_cases c56 : 0 ≤ t424
      ·
       rw [if_pos c56] at H
       have c56b0 : decide (0 ≤ t424) = true := decide_eq_true c56
       clear c56
       by_cases c57 : t424 < (x5_1.length : Int)
       ·
        rw [if_pos c57] at H
        have c57b0 : decide (t424 < (x5_1.length : Int)) = true := decide_eq_true c57
        clear c57
        obtain ⟨y430, hy_⟩ : ∃ y_ : List Int, y_ = ((x5_1.set (t424 : Int).toNat (wrap64 (t427 - 2)))) := ⟨_, rfl⟩
        replace H : (some (t392, t393, t394, y430, t428, t429)) = some (r1, r2, r3, r4, r5, r6) := qH
        have Ny430 := Aside0.mk hy_
        clear hy_
        simp only [Option.some.injEq, Prod.mk.injEq] at H
        obtain ⟨rfl, rfl, rfl, rfl, rfl, rfl⟩ := H
        have bq8 := Nq5.out
        have cq9 := Nq3.out
        have bq10 := Nq4.out
        have cq11 := Nq1.out
        obtain ⟨zq30, zq31, zq32, fq30, fq31, fq32⟩ := qd BK399
        go_wp2_with (first | ((with_reducible refine gate_callee (f := 63) rfl ?_); refine qg (some 46) Try.func63 #[.pointer (some ⟨g, 0, none⟩), .int .i64 12] ?_; (with_reducible refine (spec_l1Cur_pick.calls g s0_0 x1001_1 x1002_1 12 t421 t422 t423 w0 _ ?side1 ?side2 A52.out).mono ?_); (case side1 => exact qi); (case side2 => exact qc); rintro e w62 ⟨rfl, hi, hb, hk⟩; refine ⟨_, rfl, ?_⟩; replace Oq13 := qR Oq13 hk; replace Oq12 := qR Oq12 hk; replace BK391 := qK BK391 hk Nq2; replace BK399 := qK BK399 hk Nq4; replace HK := qT hk; replace HB := am hb; replace HI0 := am hi; (try clear hb hk hi); obtain ⟨Ao63, co63, eo63⟩ := Kd.R_slice Oq13.out; subst eo63) | ((with_reducible refine gate_callee (f := 63) rfl ?_); refine qg (some 53) Try.func63 #[.pointer (some ⟨g, 0, none⟩), .int .i64 (x5_1.length : Int)] ?_; (with_reducible refine (spec_l1Cur_pick.calls g s0_0 t422 t423 (x5_1.length : Int) t424 t425 t426 w0 _ ?side1 ?side2 A54.out).mono ?_); (case side1 => exact qi); (case side2 => exact qc); rintro e w64 ⟨rfl, hi, hb, hk⟩; refine ⟨_, rfl, ?_⟩; replace Oq13 := qR Oq13 hk; replace Oq12 := qR Oq12 hk; replace BK391 := qK BK391 hk Nq2; replace BK399 := qK BK399 hk Nq4; replace HK := qT hk; replace HB := am hb; replace HI0 := am hi; (try clear hb hk hi)) | ((with_reducible refine gate_callee (f := 63) rfl ?_); refine qg (some 55) Try.func63 #[.pointer (some ⟨g, 0, none⟩), .int .i64 9] ?_; (with_reducible refine (spec_l1Cur_pick.calls g s0_0 t425 t426 9 t427 t428 t429 w0 _ ?side1 ?side2 A55.out).mono ?_); (case side1 => exact qi); (case side2 => exact qc); rintro e w65 ⟨rfl, hi, hb, hk⟩; refine ⟨_, rfl, ?_⟩; replace Oq13 := qR Oq13 hk; replace Oq12 := qR Oq12 hk; replace BK391 := qK BK391 hk Nq2; replace BK399 := qK BK399 hk Nq4; replace HK := qT hk; replace HB := am hb; replace HI0 := am hi; (try clear hb hk hi); have p58 : 0 ≤ (t424 : Int) := of_decide_eq_true Q1; have q58 : (t424 : Int) < ((x5_1.length : Int) : Int) := of_decide_eq_true Q1; obtain ⟨go58, co58, eo58, gb58, gl58, cl58, HG58⟩ := Kd.R_form Oq13.out (by omega); (first | cases eo58 | (injection eo58 with ea_ en_ ec_; (first | subst ea_ | (injection ea_ with ea_; subst ea_)); subst ec_; clear en_)); have GB58 := Aside0.mk gb58; have GG58 := Aside0.mk HG58; clear gb58 gl58 HG58; obtain ⟨hx58_0, hf58_0⟩ := Kd.R_celln 0 Oq13.out (t424 : Int) p58 q58; replace p58 := eq_true p58; replace q58 := eq_true q58; obtain ⟨hy66_, hz66_⟩ := Kd.R_celln 0 Oq13.out (t424 : Int) (of_decide_eq_true Q1) (of_decide_eq_true Q1); have HP66 := Kd.R_putg Oq13.out (t424 : Int) (wrap64 (t427 - 2))) | ((with_reducible refine gate_store (t := 3) (p := 57) rfl ?_); refine store_event (t := 3) (p := 57) (v := ?vo_w67) (w1 := (w65.setCell ⟨go58, (t424 : Int).toNat, none⟩ (.int .i64 (wrap64 (t427 - 2))))) ?hg ?ho ?hn ?hr ?_; (case ho => rfl); (case hg => rfl); (case hn => rfl); (case hr => first | (go_simp; done) | (go_simp; rfl)); intro w67 hw; have hg : w65.grownBy w67 (some go58) := (by rw [hw]; exact HP66.2); have hp_ : Kd.R (Kd.int .i64) 3 w67 w.heap.size (fun k_ => some k_ ≠ (.slice Ao11 t394.length co11 : Value).ownBlock) (.slice (some ⟨go58, 0, none⟩) x5_1.length co63) y430 := (by rw [hw, Ny430.out]; exact HP66.1); clear HP66; replace Oq12 := am (Kd.R_after (v := (.slice (some ⟨go58, 0, none⟩) x5_1.length co63)) (v1 := (.slice (some ⟨go58, 0, none⟩) x5_1.length co63)) (ok := (fun _ => True)) Q64 hg (.inl rfl)); replace BK391 := am (blk_grown (g := gb391) (o := .cells #[.int .i64 0, .int .i64 0, .slice none 0 0] 26 (0, 0)) (sqb BK391) hg (Kd.R_ne Oq13.out BK391.out (by decide))); replace BK399 := am (blk_grown (g := gb399) (o := .cells #[.int .i64 t392, .int .i64 t393, .slice Ao11 t394.length co11] 26 (0, 0)) (sqb BK399) hg (Kd.R_ne Oq13.out BK399.out (by decide))); replace HI0 := am (IsS66.grown qi hg (IsS66.own_ne HI0.out Oq13.out (by decide))); replace HB := am ((by rw [hw]; exact below_set (HB.out) (Nat.le_trans HL.out GB58.out) : Below w0.heap.size w0 w67)); replace HK := am (KeepBut.trans qk (KeepBut.of_grown hg g) (Kd.R_base2 Oq13.out)); replace Oq13 := am (hp_); clear hg hw hp_; obtain ⟨zq33, zq34, zq35, fq33, fq34, fq35⟩ := qd BK399; have bq11 := Nq2.out; have cq12 := Nq0.out; obtain ⟨zq36, zq37, zq38, fq36, fq37, fq38⟩ := qd BK391))
        refine bodyPost_ret (results_ct rfl _ _ gb391 26 #[.int .i64 t392, .int .i64 t393, .slice Ao11 t394.length co11] (0, 0) _ rfl Q6 Try.underlying26 rfl (by kernel_rfl)) rfl ?_
        exact ⟨_, _, Q2, Q30, Q31, qi, qc, qk⟩
       ·
        rw [if_neg c57] at H
        exact absurd H (by simp)
      ·
       rw [if_neg c56] at H
       exact absurd H (by simp)
     ·
      rw [if_neg c53] at H
      have c53b0 : (t421 == 0) = false := beq_eq_false_iff_ne.mpr c53
      have c53b1 : (t421 != 0) = true := bne_iff_ne.mpr c53
      by_cases c71 : t421 = 1
      ·
       rw [if_pos c71] at H
       have c71b0 : (t421 == 1) = true := beq_iff_eq.mpr c71
       have c71b1 : (t421 != 1) = false := bne_eq_false_iff_eq.mpr c71
       clear c71
       by_cases c72 : x5_1.length < 17592186044416
       ·
        rw [if_pos c72] at H
        have LMc72 := Aside0.mk c72
        clear c72
        obtain ⟨y431, hy_⟩ : ∃ y_ : List Int, y_ = ((x5_1 ++ [(-1)])) := ⟨_, rfl⟩
        replace H : (some (t392, t393, t394, y431, t422, t423)) = some (r1, r2, r3, r4, r5, r6) := qH
        have Ny431 := Aside0.mk hy_
        clear hy_
        simp only [Option.some.injEq, Prod.mk.injEq] at H
        obtain ⟨rfl, rfl, rfl, rfl, rfl, rfl⟩ := H
        have bq12 := Nq5.out
        have cq13 := Nq3.out
        have bq13 := Nq4.out
        have cq14 := Nq1.out
        obtain ⟨zq39, zq40, zq41, fq39, fq40, fq41⟩ := qd BK399
        go_wp2_with (first | ((with_reducible refine gate_callee (f := 63) rfl ?_); refine qg (some 46) Try.func63 #[.pointer (some ⟨g, 0, none⟩), .int .i64 12] ?_; (with_reducible refine (spec_l1Cur_pick.calls g s0_0 x1001_1 x1002_1 12 t421 t422 t423 w0 _ ?side1 ?side2 A52.out).mono ?_); (case side1 => exact qi); (case side2 => exact qc); rintro e w76 ⟨rfl, hi, hb, hk⟩; refine ⟨_, rfl, ?_⟩; replace Oq13 := qR Oq13 hk; replace Oq12 := qR Oq12 hk; replace BK391 := qK BK391 hk Nq2; replace BK399 := qK BK399 hk Nq4; replace HK := qT hk; replace HB := am hb; replace HI0 := am hi; (try clear hb hk hi)) | ((with_reducible refine gate_builtin (b := .append) (xs := #[.tmp 60, .tmp 61]) rfl ?_); at_builtin; refine Kd.R_append (Kd.int .i64) w.heap.size rfl (.tmp 60) (.tmp 61) 24 3 (.int .i64 0) 8 rfl Try.underlying24 info3 rfl (by decide) (by omega) u5 x5_1 (-1) [.int .i64 (-1)] (fun k_ => some k_ ≠ (.slice Ao11 t394.length co11 : Value).ownBlock) (fun _ => False) rfl rfl ?aP (fun _ hk => hk.elim) ?aF ?aO (Below.refl _ _) ?aS ?aL ?_; (case aP => exact rfl); (case aF => exact (fun k_ hk => Kd.fresh' (sqL Oq12) k_ hk)); (case aO => exact (sqr Oq13)); (case aS => exact (qz w g)); (case aL => have := LMc72.out; omega); intro v432 w77 ho hb hg hat; rw [← Ny431.out] at ho; have Oq7 := am (ho); replace Oq12 := am (Kd.R_after (ok := (fun _ => True)) Q64 hg hat); replace BK391 := am (blk_grown (g := gb391) (o := .cells #[.int .i64 0, .int .i64 0, .slice none 0 0] 26 (0, 0)) (sqb BK391) hg (Kd.R_ne Oq13.out BK391.out (by decide))); replace BK399 := am (blk_grown (g := gb399) (o := .cells #[.int .i64 t392, .int .i64 t393, .slice Ao11 t394.length co11] 26 (0, 0)) (sqb BK399) hg (Kd.R_ne Oq13.out BK399.out (by decide))); replace HB := am (below_weaken qc HL.out hb); replace HI0 := am (IsS66.grown qi hg (IsS66.own_ne HI0.out Oq13.out (by decide))); replace HK := am (KeepBut.trans qk (KeepBut.of_grown hg g) (Kd.R_base2 Oq13.out)); clear Oq13; clear ho hb hg hat; obtain ⟨zq42, zq43, zq44, fq42, fq43, fq44⟩ := qd BK399; have bq14 := Nq2.out; have cq15 := Nq0.out; obtain ⟨zq48, zq49, zq50, fq48, fq49, fq50⟩ := qd BK391))
        refine bodyPost_ret (results_ct rfl _ _ gb391 26 #[.int .i64 t392, .int .i64 t393, .slice Ao11 t394.length co11] (0, 0) _ rfl Q6 Try.underlying26 rfl (by kernel_rfl)) rfl ?_
        exact ⟨_, _, Q2, Q30, by (with_reducible repeat (first | apply Kd.R_alloc | apply Kd.R_drewN | apply Kd.R_drew)); exact Kd.R_mono (Kd.R_far (p := ⟨gb391, 2, none⟩) (Kd.R_far (p := ⟨gb391, 1, none⟩) (Kd.R_far (p := ⟨gb391, 0, none⟩) (Kd.R_types Oq7.out BK391.out (by decide)) (fun _ hk => hk.2) (.int .i64 t392)) (fun _ hk => hk.2) (.int .i64 t393)) (fun _ hk => hk.2) (.slice Ao11 t394.length co11)) (fun _ hk => hk.1), qi, qc, qk⟩
       ·
        rw [if_neg c72] at H
        exact absurd H (by simp)
      ·
       rw [if_neg c71] at H
       have c71b0 : (t421 == 1) = false := beq_eq_false_iff_ne.mpr c71
       have c71b1 : (t421 != 1) = true := bne_iff_ne.mpr c71
       simp only [Option.some.injEq, Prod.mk.injEq] at H
       obtain ⟨rfl, rfl, rfl, rfl, rfl, rfl⟩ := H
       have bq16 := Nq5.out
       have cq17 := Nq3.out
       have bq17 := Nq4.out
       have cq18 := Nq1.out
       obtain ⟨zq51, zq52, zq53, fq51, fq52, fq53⟩ := qd BK399
       go_wp2_with (first | ((with_reducible refine gate_callee (f := 63) rfl ?_); refine qg (some 46) Try.func63 #[.pointer (some ⟨g, 0, none⟩), .int .i64 12] ?_; (with_reducible refine (spec_l1Cur_pick.calls g s0_0 x1001_1 x1002_1 12 t421 t422 t423 w0 _ ?side1 ?side2 A52.out).mono ?_); (case side1 => exact qi); (case side2 => exact qc); rintro e w84 ⟨rfl, hi, hb, hk⟩; refine ⟨_, rfl, ?_⟩; replace Oq13 := qR Oq13 hk; replace Oq12 := qR Oq12 hk; replace BK391 := qK BK391 hk Nq2; replace BK399 := qK BK399 hk Nq4; replace HK := qT hk; replace HB := am hb; replace HI0 := am hi; (try clear hb hk hi); obtain ⟨zq54, zq55, zq56, fq54, fq55, fq56⟩ := qd BK399; have bq18 := Nq2.out; have cq19 := Nq0.out; obtain ⟨zq57, zq58, zq59, fq57, fq58, fq59⟩ := qd BK391))
       refine bodyPost_ret (results_ct rfl _ _ gb391 26 #[.int .i64 t392, .int .i64 t393, .slice Ao11 t394.length co11] (0, 0) _ rfl Q6 Try.underlying26 rfl (by kernel_rfl)) rfl ?_
       exact ⟨_, _, Q2, by (with_reducible repeat (first | apply Kd.R_alloc | apply Kd.R_drewN | apply Kd.R_drew)); exact Kd.R_mono (Kd.R_far (p := ⟨gb391, 2, none⟩) (Kd.R_far (p := ⟨gb391, 1, none⟩) (Kd.R_far (p := ⟨gb391, 0, none⟩) (Kd.R_types Oq12.out BK391.out (by decide)) (fun _ hk => hk.2) (.int .i64 t392)) (fun _ hk => hk.2) (.int .i64 t393)) (fun _ hk => hk.2) (.slice Ao11 t394.length co11)) (fun _ hk => hk.1), Q31, qi, qc, qk⟩
 ·
  replace c4 := Bool.eq_false_iff.mpr c4
  subst c4
  have H1 : (some (t392, t393, t394, (([0] : List Int)), t397, t398)) = some (r1, r2, r3, r4, r5, r6) := by first | (rw [if_neg (show ¬ (false = true) by decide)] at H; exact H) | rfl
  clear H
  have H := H1
  clear H1
  obtain ⟨y401, hy_⟩ : ∃ y_ : List Int, y_ = ((([0] : List Int))) := ⟨_, rfl⟩
  replace H : (some (t392, t393, t394, y401, t397, t398)) = some (r1, r2, r3, r4, r5, r6) := qH
  have Ny401 := Aside0.mk hy_
  clear hy_
  simp only [Option.some.injEq, Prod.mk.injEq] at H
  obtain ⟨rfl, rfl, rfl, rfl, rfl, rfl⟩ := H
  go_enter Try.func114, Try.ntmps114
  go_wp2_with (first | ((with_reducible refine gate_dst (N := 2) rfl ?_); refine qv 2 #[.int .i64 0, .int .i64 0, .slice none 0 0] 26 ?_; intro gb391 hg w88 hbox hb; have BK391 := am hbox; have GW391 := qx hg; have GE391 := qy HW0 (qx hg); have Nq0 := qo hg g; have Nq2 := qO hg g; replace HK := qU hb; replace HB := qt hb; replace HI0 := qj hb; clear hb hbox hg) | ((with_reducible refine gate_callee (f := 62) rfl ?_); refine qg (some 9) Try.func62 #[.pointer (some ⟨g, 0, none⟩)] ?_; (with_reducible refine (spec_l1Cur_board.calls k g s0_0 s0_1 s0_2 t392 t393 t394 t397 t398 w0 _ ?side1 ?side2 A2.out).mono ?_); (case side1 => exact qi); (case side2 => exact qc); rintro e w89 ⟨v395, rfl, ho0, hi, hb, hk⟩; refine ⟨_, rfl, ?_⟩; have Oq0 := qm ho0; replace BK391 := qK BK391 hk Nq2; replace HK := qT hk; replace HB := am hb; replace HI0 := am hi; (try clear hb hk hi ho0)) | ((with_reducible refine gate_dst (N := 4) rfl ?_); refine qv 4 #[.int .i64 0, .int .i64 0, .slice none 0 0] 26 ?_; intro gb399 hg w90 hbox hb; have BK399 := am hbox; have GW399 := qx hg; have GE399 := qy HW0 (qx hg); have Nq3 := qn hg BK391; have Nq5 := qN hg BK391; have Nq1 := qo hg g; have Nq4 := qO hg g; replace Oq0 := sqR Oq0 hb; replace BK391 := sqB BK391 hb; replace HK := qU hb; replace HB := qt hb; replace HI0 := qj hb; clear hb hbox hg; have bq20 := Nq5.out; have cq21 := Nq3.out; have bq21 := Nq4.out; have cq22 := Nq1.out; obtain ⟨zq60, zq61, zq62, fq60, fq61, fq62⟩ := qd BK399; obtain ⟨Ao94, co94, eo94⟩ := Kd.R_slice Oq0.out; subst eo94) | ((with_reducible refine gate_callee (f := 60) rfl ?_); refine qg (some 11) Try.func60 #[.agg #[.int .i64 t392, .int .i64 t393, .slice Ao94 t394.length co94]] ?_; (with_reducible refine (spec_boGood.calls k t392 t393 _ _ t394 false _ ?side1 ?side2 A3.out).mono ?_); (case side1 => refine (Kd.R_reads' (e := 3) (base := w.heap.size) (ok := fun k_ => True) (n := t394.length) (c := co94) ?_).2.2; exact (sqw (sqo Oq0 BK399))); (case side2 => exact (Kd.R_reads' Oq0.out).2.1); rintro e w95 ⟨rfl, hb⟩; refine ⟨_, rfl, ?_⟩; replace Oq0 := am (Kd.R_below (sqw (sqo Oq0 BK399)) hb); replace BK391 := sqBf BK391 Nq3 (.int .i64 t392) (.int .i64 t393) (.slice Ao94 t394.length co94) hb; replace BK399 := sqBp BK399 (.int .i64 t392) (.int .i64 t393) (.slice Ao94 t394.length co94) hb; replace HK := qU hb; replace HB := qt hb; replace HI0 := am (IsS66.below (show IsS66 w0 (((w90.setCell ⟨gb399, 0, none⟩ (.int .i64 t392)).setCell ⟨gb399, 1, none⟩ (.int .i64 t393)).setCell ⟨gb399, 2, none⟩ (.slice Ao94 t394.length co94)) g s0_0 t397 t398 from by repeat (first | (with_reducible first | exact HI0.out | apply IsS66.alloc | apply IsS66.drewN | apply IsS66.drew | apply IsS66.set_1 | apply IsS66.set_2 | refine IsS66.far ?_ Nq0.out _ | refine IsS66.far ?_ Nq1.out _) | exact HI0.out)) hb); (try clear hb); obtain ⟨zq63, zq64, zq65, fq63, fq64, fq65⟩ := qd BK399) | ((with_reducible refine gate_dst (N := 14) rfl ?_); refine Kd.R_lit (Kd.int .i64) _ 3 ?hg (N := 14) ?hd (xs := ([0] : List Int)) (inner := [.int .i64 0]) (ok := fun _ => True) (okp := fun _ => True) ?hr ?hp (fun _ hk => hk) trivial (Below.refl _ _) (Nat.le_refl _) (by simp) ?_; (case hd => rfl); (case hg => rfl); (case hr => first | (go_simp; done) | (go_simp; rfl)); (case hp => exact (Reps.one (show Kd.M (Kd.int .i64) _ _ _ 0 [.int .i64 0] from rfl) (Reps.none _ _))); intro v402 w97 ho98 hb hg_ hnew_; clear hg_ hnew_; (first | rw [← Ny401.out] at ho98 | (simp only [Int.reduceToNat] at ho98; rw [← Ny401.out] at ho98)); have Oq2 := am (Kd.R_lower (Kd.R_new' ho98 (sqL Oq0)) (qz w g)); replace BK391 := sqB BK391 hb; replace BK399 := sqB BK399 hb; replace Oq0 := qe (sqr Oq0) ho98 hb; replace HK := qU hb; replace HB := qt hb; replace HI0 := qj hb; clear hb ho98; have bq22 := Nq2.out; have cq23 := Nq0.out; obtain ⟨zq0, zq1, zq2, fq0, fq1, fq2⟩ := qd BK391))
  refine bodyPost_ret (results_ct rfl _ _ gb391 26 #[.int .i64 t392, .int .i64 t393, .slice Ao94 t394.length co94] (0, 0) _ rfl Q6 Try.underlying26 rfl (by kernel_rfl)) rfl ?_
  exact ⟨_, _, Q2, by (with_reducible repeat (first | apply Kd.R_alloc | apply Kd.R_drewN | apply Kd.R_drew)); exact Kd.R_mono (Kd.R_far (p := ⟨gb391, 2, none⟩) (Kd.R_far (p := ⟨gb391, 1, none⟩) (Kd.R_far (p := ⟨gb391, 0, none⟩) (Kd.R_types Oq0.out BK391.out (by decide)) (fun _ hk => hk.2) (.int .i64 t392)) (fun _ hk => hk.2) (.int .i64 t393)) (fun _ hk => hk.2) (.slice Ao94 t394.length co94)) (fun _ hk => hk.1.2), by (with_reducible repeat (first | apply Kd.R_alloc | apply Kd.R_drewN | apply Kd.R_drew)); exact Kd.R_mono (Kd.R_far (p := ⟨gb391, 2, none⟩) (Kd.R_far (p := ⟨gb391, 1, none⟩) (Kd.R_far (p := ⟨gb391, 0, none⟩) (Kd.R_types Oq2.out BK391.out (by decide)) (fun _ hk => hk.2) (.int .i64 t392)) (fun _ hk => hk.2) (.int .i64 t393)) (fun _ hk => hk.2) (.slice Ao94 t394.length co94)) (fun _ hk => hk.1.2), qi, qc, qk⟩

/-! ### spec_DrawIsPlacement: function 109 -/
def spec_DrawIsPlacement.f (k : Nat) (l0 : List Int) : Option (Int × Int × List Int × List Int) := (spec_l1Cur_placed.f k l0 0 0).bind fun bt436 => (some (bt436.1, bt436.2.1, bt436.2.2.1, bt436.2.2.2.1))
set_option maxHeartbeats 8000000 in
set_option maxRecDepth 100000 in
theorem spec_DrawIsPlacement.calls (k : Nat) (A0 : Option Addr) (c0 : Nat) (l0 : List Int) (r1 : Int) (r2 : Int) (r3 : List Int) (r4 : List Int) (w : World) (hr0 : Kd.C (Kd.int .u8) w A0 l0.length l0) (hc0 : l0.length ≤ c0) (h : spec_DrawIsPlacement.f k l0 = some (r1, r2, r3, r4)) :
  Calls Try.prog 109 #[.slice A0 l0.length c0] w fun e w' => ∃ v2_ v3_ : Value, e = .returned (.tuple #[.agg #[.int .i64 r1, .int .i64 r2, v2_], v3_]) ∧ Kd.R (Kd.int .i64) 3 w' w.heap.size (fun k_ => some k_ ≠ (v3_ : Value).ownBlock) v2_ r3 ∧ Kd.R (Kd.int .i64) 3 w' w.heap.size (fun k_ => some k_ ≠ (v2_ : Value).ownBlock) v3_ r4 ∧ Below w.heap.size w w' := by
 have hu26 := Try.underlying26
 have hu66 := Try.underlying66
 have HR0 := Aside0.mk hr0
 have HC0 := Aside0.mk hc0
 clear hr0 hc0
 have HB := am (Below.refl w.heap.size w)
 have H : ((spec_l1Cur_placed.f k l0 0 0).bind fun bt436 => (some (bt436.1, bt436.2.1, bt436.2.2.1, bt436.2.2.2.1))) = some (r1, r2, r3, r4) := h
 clear h
 replace H := qE H
 obtain ⟨⟨t436, t437, t438, t441, t444, t445⟩, A2, H⟩ := H
 replace H : (some (t436, t437, t438, t441)) = some (r1, r2, r3, r4) := H
 simp only [Option.some.injEq, Prod.mk.injEq] at H
 obtain ⟨rfl, rfl, rfl, rfl⟩ := H
 go_enter Try.func109, Try.ntmps109
 go_wp2_with (first | ((with_reducible refine gate_dst (N := 2) rfl ?_); refine qv 2 #[.int .i64 0, .int .i64 0, .slice none 0 0] 26 ?_; intro gb434 hg w3 hbox hb; have BK434 := am hbox; have GW434 := qw hg; have GE434 := qw hg; replace HB := qs hb; clear hb hbox hg) | ((with_reducible refine gate_dst (N := 7) rfl ?_); refine qv 7 #[.slice A0 l0.length c0, .int .i64 0, .int .u64 0] 66 ?_; intro gb435 hg w4 hbox hb; have HI435 := am ((show IsS66 w w4 gb435 l0 0 0 from ⟨_, _, hbox, (by rw [hg]; exact (below_size qb) : w.heap.size ≤ gb435), HR0.out⟩)); have GW435 := qw hg; have GE435 := qw hg; have Nq6 := qn hg BK434; have Nq7 := qN hg BK434; replace BK434 := sqB BK434 hb; replace HB := qs hb; clear hb hbox hg) | ((with_reducible refine gate_callee (f := 114) rfl ?_); refine qg (some 9) Try.func114 #[.pointer (some ⟨gb435, 0, none⟩)] ?_; (with_reducible refine (spec_l1Cur_placed.calls k gb435 l0 0 0 t436 t437 t438 t441 t444 t445 w _ ?side1 ?side2 A2.out).mono ?_); (case side1 => exact qi); (case side2 => exact qc); rintro e w5 ⟨v439, v442, rfl, ho0, ho1, hi, hb, hk⟩; refine ⟨_, rfl, ?_⟩; have Oq8 := qL ho0; have Oq9 := qL ho1; replace BK434 := qK BK434 hk Nq6; replace HB := am hb; replace HI435 := am hi; (try clear hb hk hi ho0 ho1); have bq9 := Nq6.out; have cq10 := Nq7.out; obtain ⟨zq45, zq46, zq47, fq45, fq46, fq47⟩ := qd BK434; obtain ⟨Ao8, co8, eo8⟩ := Kd.R_slice Oq8.out; subst eo8))
 refine bodyPost_ret (results_ct rfl _ _ gb434 26 #[.int .i64 t436, .int .i64 t437, .slice Ao8 t438.length co8] (0, 0) _ rfl (by (with_reducible repeat (first | refine blk_drewN ?_ _ | refine blk_drew ?_ | refine blk_alloc ?_ _)); refine blk_put (cs := #[.int .i64 t436, .int .i64 t437, .slice none 0 0]) ?_ 2 _ rfl; (with_reducible repeat (first | refine blk_drewN ?_ _ | refine blk_drew ?_ | refine blk_alloc ?_ _)); refine blk_put (cs := #[.int .i64 t436, .int .i64 0, .slice none 0 0]) ?_ 1 _ rfl; (with_reducible repeat (first | refine blk_drewN ?_ _ | refine blk_drew ?_ | refine blk_alloc ?_ _)); refine blk_put (cs := #[.int .i64 0, .int .i64 0, .slice none 0 0]) ?_ 0 _ rfl; (with_reducible repeat (first | refine blk_drewN ?_ _ | refine blk_drew ?_ | refine blk_alloc ?_ _)); exact BK434.out) Try.underlying26 rfl (by kernel_rfl)) rfl ?_
 exact ⟨_, _, Q2, by (with_reducible repeat (first | apply Kd.R_alloc | apply Kd.R_drewN | apply Kd.R_drew)); exact Kd.R_mono (Kd.R_far (p := ⟨gb434, 2, none⟩) (Kd.R_far (p := ⟨gb434, 1, none⟩) (Kd.R_far (p := ⟨gb434, 0, none⟩) (Kd.R_types Oq8.out BK434.out (by decide)) (fun _ hk => hk.2) (.int .i64 t436)) (fun _ hk => hk.2) (.int .i64 t437)) (fun _ hk => hk.2) (.slice Ao8 t438.length co8)) (fun _ hk => hk.1), by (with_reducible repeat (first | apply Kd.R_alloc | apply Kd.R_drewN | apply Kd.R_drew)); exact Kd.R_mono (Kd.R_far (p := ⟨gb434, 2, none⟩) (Kd.R_far (p := ⟨gb434, 1, none⟩) (Kd.R_far (p := ⟨gb434, 0, none⟩) (Kd.R_types Oq9.out BK434.out (by decide)) (fun _ hk => hk.2) (.int .i64 t436)) (fun _ hk => hk.2) (.int .i64 t437)) (fun _ hk => hk.2) (.slice Ao8 t438.length co8)) (fun _ hk => hk.1), qc⟩

/-! ### spec_DrawTurnPlacement: function 46 -/
def spec_DrawTurnPlacement.f (k : Nat) (l0 : List Int) : Option (Int × Int × List Int × List Int) := (spec_DrawIsPlacement.f k l0).bind fun bt447 => (some (bt447.1, bt447.2.1, bt447.2.2.1, bt447.2.2.2))
set_option maxHeartbeats 8000000 in
set_option maxRecDepth 100000 in
theorem spec_DrawTurnPlacement.calls (k : Nat) (A0 : Option Addr) (c0 : Nat) (l0 : List Int) (r1 : Int) (r2 : Int) (r3 : List Int) (r4 : List Int) (w : World) (hr0 : Kd.C (Kd.int .u8) w A0 l0.length l0) (hc0 : l0.length ≤ c0) (h : spec_DrawTurnPlacement.f k l0 = some (r1, r2, r3, r4)) :
  Calls Try.prog 46 #[.slice A0 l0.length c0] w fun e w' => ∃ v2_ v3_ : Value, e = .returned (.tuple #[.agg #[.int .i64 r1, .int .i64 r2, v2_], v3_]) ∧ Kd.R (Kd.int .i64) 3 w' w.heap.size (fun k_ => some k_ ≠ (v3_ : Value).ownBlock) v2_ r3 ∧ Kd.R (Kd.int .i64) 3 w' w.heap.size (fun k_ => some k_ ≠ (v2_ : Value).ownBlock) v3_ r4 ∧ Below w.heap.size w w' := by
 have hu26 := Try.underlying26
 have HR0 := Aside0.mk hr0
 have HC0 := Aside0.mk hc0
 clear hr0 hc0
 have HB := am (Below.refl w.heap.size w)
 have H : ((spec_DrawIsPlacement.f k l0).bind fun bt447 => (some (bt447.1, bt447.2.1, bt447.2.2.1, bt447.2.2.2))) = some (r1, r2, r3, r4) := h
 clear h
 replace H := qE H
 obtain ⟨⟨t447, t448, t449, t452⟩, A2, H⟩ := H
 replace H : (some (t447, t448, t449, t452)) = some (r1, r2, r3, r4) := H
 simp only [Option.some.injEq, Prod.mk.injEq] at H
 obtain ⟨rfl, rfl, rfl, rfl⟩ := H
 go_enter Try.func46, Try.ntmps46
 go_wp2_with (first | ((with_reducible refine gate_dst (N := 2) rfl ?_); refine qv 2 #[.int .i64 0, .int .i64 0, .slice none 0 0] 26 ?_; intro gb446 hg w3 hbox hb; have BK446 := am hbox; have GW446 := qw hg; have GE446 := qw hg; replace HB := qs hb; clear hb hbox hg) | ((with_reducible refine gate_callee (f := 109) rfl ?_); refine qg (some 5) Try.func109 #[.slice A0 l0.length c0] ?_; (with_reducible refine (spec_DrawIsPlacement.calls k _ _ l0 t447 t448 t449 t452 _ ?side1 HC0.out A2.out).mono ?_); (case side1 => repeat (first | exact (Kd.C_below HR0.out HB.out) | (with_reducible first | refine Kd.C_alloc ?_ _ | refine Kd.C_drewN ?_ _ | refine Kd.C_drew ?_))); rintro e w4 ⟨v450, v453, rfl, ho0, ho1, hb⟩; refine ⟨_, rfl, ?_⟩; have Oq10 := ql ho0; have Oq11 := ql ho1; replace BK446 := sqB BK446 hb; replace HB := qs hb; (try clear hb ho0 ho1); obtain ⟨zq27, zq28, zq29, fq27, fq28, fq29⟩ := qd BK446; obtain ⟨Ao6, co6, eo6⟩ := Kd.R_slice Oq10.out; subst eo6))
 refine bodyPost_ret (results_ct rfl _ _ gb446 26 #[.int .i64 t447, .int .i64 t448, .slice Ao6 t449.length co6] (0, 0) _ rfl (by (with_reducible repeat (first | refine blk_drewN ?_ _ | refine blk_drew ?_ | refine blk_alloc ?_ _)); refine blk_put (cs := #[.int .i64 t447, .int .i64 t448, .slice none 0 0]) ?_ 2 _ rfl; (with_reducible repeat (first | refine blk_drewN ?_ _ | refine blk_drew ?_ | refine blk_alloc ?_ _)); refine blk_put (cs := #[.int .i64 t447, .int .i64 0, .slice none 0 0]) ?_ 1 _ rfl; (with_reducible repeat (first | refine blk_drewN ?_ _ | refine blk_drew ?_ | refine blk_alloc ?_ _)); refine blk_put (cs := #[.int .i64 0, .int .i64 0, .slice none 0 0]) ?_ 0 _ rfl; (with_reducible repeat (first | refine blk_drewN ?_ _ | refine blk_drew ?_ | refine blk_alloc ?_ _)); exact BK446.out) Try.underlying26 rfl (by kernel_rfl)) rfl ?_
 exact ⟨_, _, Q2, by (with_reducible repeat (first | apply Kd.R_alloc | apply Kd.R_drewN | apply Kd.R_drew)); exact Kd.R_mono (Kd.R_far (p := ⟨gb446, 2, none⟩) (Kd.R_far (p := ⟨gb446, 1, none⟩) (Kd.R_far (p := ⟨gb446, 0, none⟩) (Kd.R_types Oq10.out BK446.out (by decide)) (fun _ hk => hk.2) (.int .i64 t447)) (fun _ hk => hk.2) (.int .i64 t448)) (fun _ hk => hk.2) (.slice Ao6 t449.length co6)) (fun _ hk => hk.1), by (with_reducible repeat (first | apply Kd.R_alloc | apply Kd.R_drewN | apply Kd.R_drew)); exact Kd.R_mono (Kd.R_far (p := ⟨gb446, 2, none⟩) (Kd.R_far (p := ⟨gb446, 1, none⟩) (Kd.R_far (p := ⟨gb446, 0, none⟩) (Kd.R_types Oq11.out BK446.out (by decide)) (fun _ hk => hk.2) (.int .i64 t447)) (fun _ hk => hk.2) (.int .i64 t448)) (fun _ hk => hk.2) (.slice Ao6 t449.length co6)) (fun _ hk => hk.1), qb⟩

/-! ### bits_Mul32: function 139 -/
def bits_Mul32.f (a0 : Int) (a1 : Int) : Option (Int × Int) := some (((IntKind.u64.wrap ((IntKind.u64.wrap (a0)) * (IntKind.u64.wrap (a1)))) / 4294967296) % 4294967296, (IntKind.u64.wrap ((IntKind.u64.wrap (a0)) * (IntKind.u64.wrap (a1)))) % 4294967296)
set_option maxHeartbeats 8000000 in
set_option maxRecDepth 100000 in
theorem bits_Mul32.calls (a0 : Int) (a1 : Int) (r1 : Int) (r2 : Int) (w : World) (h : bits_Mul32.f a0 a1 = some (r1, r2)) :
  Calls Try.prog 139 #[.int .u32 a0, .int .u32 a1] w fun e w' => e = .returned (.tuple #[.int .u32 r1, .int .u32 r2]) ∧ Drawn0 w w' := by
 have H : (some (((IntKind.u64.wrap ((IntKind.u64.wrap (a0)) * (IntKind.u64.wrap (a1)))) / 4294967296) % 4294967296, (IntKind.u64.wrap ((IntKind.u64.wrap (a0)) * (IntKind.u64.wrap (a1)))) % 4294967296)) = some (r1, r2) := h
 clear h
 simp only [Option.some.injEq, Prod.mk.injEq] at H
 obtain ⟨rfl, rfl⟩ := H
 go_enter Try.func139, Try.ntmps139
 go_wp2
 go_ret2
 exact ⟨Q3, Q4⟩

/-! ### bits_Mul64: function 140 -/
def bits_Mul64.f (a0 : Int) (a1 : Int) : Option (Int × Int) := some (IntKind.u64.wrap ((IntKind.u64.wrap ((IntKind.u64.wrap ((a0 / 4294967296) * (a1 / 4294967296))) + ((IntKind.u64.wrap ((IntKind.u64.wrap ((a0 / 4294967296) * (Go.bits .and .u64 a1 4294967295))) + ((IntKind.u64.wrap ((Go.bits .and .u64 a0 4294967295) * (Go.bits .and .u64 a1 4294967295))) / 4294967296))) / 4294967296))) + ((IntKind.u64.wrap ((Go.bits .and .u64 (IntKind.u64.wrap ((IntKind.u64.wrap ((a0 / 4294967296) * (Go.bits .and .u64 a1 4294967295))) + ((IntKind.u64.wrap ((Go.bits .and .u64 a0 4294967295) * (Go.bits .and .u64 a1 4294967295))) / 4294967296))) 4294967295) + (IntKind.u64.wrap ((Go.bits .and .u64 a0 4294967295) * (a1 / 4294967296))))) / 4294967296)), IntKind.u64.wrap (a0 * a1))
set_option maxHeartbeats 8000000 in
set_option maxRecDepth 100000 in
theorem bits_Mul64.calls (a0 : Int) (a1 : Int) (r1 : Int) (r2 : Int) (w : World) (h : bits_Mul64.f a0 a1 = some (r1, r2)) :
  Calls Try.prog 140 #[.int .u64 a0, .int .u64 a1] w fun e w' => e = .returned (.tuple #[.int .u64 r1, .int .u64 r2]) ∧ Drawn0 w w' := by
 have H : (some (IntKind.u64.wrap ((IntKind.u64.wrap ((IntKind.u64.wrap ((a0 / 4294967296) * (a1 / 4294967296))) + ((IntKind.u64.wrap ((IntKind.u64.wrap ((a0 / 4294967296) * (Go.bits .and .u64 a1 4294967295))) + ((IntKind.u64.wrap ((Go.bits .and .u64 a0 4294967295) * (Go.bits .and .u64 a1 4294967295))) / 4294967296))) / 4294967296))) + ((IntKind.u64.wrap ((Go.bits .and .u64 (IntKind.u64.wrap ((IntKind.u64.wrap ((a0 / 4294967296) * (Go.bits .and .u64 a1 4294967295))) + ((IntKind.u64.wrap ((Go.bits .and .u64 a0 4294967295) * (Go.bits .and .u64 a1 4294967295))) / 4294967296))) 4294967295) + (IntKind.u64.wrap ((Go.bits .and .u64 a0 4294967295) * (a1 / 4294967296))))) / 4294967296)), IntKind.u64.wrap (a0 * a1))) = some (r1, r2) := h
 clear h
 simp only [Option.some.injEq, Prod.mk.injEq] at H
 obtain ⟨rfl, rfl⟩ := H
 go_enter Try.func140, Try.ntmps140
 go_wp2
 go_ret2
 exact ⟨Q3, Q4⟩

/-! ### bits_Mul: function 136 -/
def bits_Mul.f (a0 : Int) (a1 : Int) : Option (Int × Int) := (bits_Mul64.f a0 a1).bind fun bt455 => (some (bt455.1, bt455.2))
set_option maxHeartbeats 8000000 in
set_option maxRecDepth 100000 in
theorem bits_Mul.calls (a0 : Int) (a1 : Int) (r1 : Int) (r2 : Int) (w : World) (h : bits_Mul.f a0 a1 = some (r1, r2)) :
  Calls Try.prog 136 #[.int .u64 a0, .int .u64 a1] w fun e w' => e = .returned (.tuple #[.int .u64 r1, .int .u64 r2]) ∧ Drawn0 w w' := by
 have H : ((bits_Mul64.f a0 a1).bind fun bt455 => (some (bt455.1, bt455.2))) = some (r1, r2) := h
 clear h
 replace H := qE H
 obtain ⟨⟨t455, t456⟩, A3, H⟩ := H
 replace H : (some (t455, t456)) = some (r1, r2) := H
 simp only [Option.some.injEq, Prod.mk.injEq] at H
 obtain ⟨rfl, rfl⟩ := H
 go_enter Try.func136, Try.ntmps136
 go_wp2_with (first | ((with_reducible refine gate_callee (f := 140) rfl ?_); refine qg (some 25) Try.func140 #[.int .u64 a0, .int .u64 a1] ?_; (with_reducible refine (bits_Mul64.calls a0 a1 t455 t456 _ A3.out).mono ?_); rintro e w' ⟨rfl, ⟨nd, rfl⟩⟩; refine ⟨_, rfl, ?_⟩))
 go_ret2
 exact ⟨Q3, Q4⟩

/-! ### slices_Repeat_int_int: function 111 (by hand) -/
/-- One number, some times over. -/
def slices_Repeat_int_int.f (l0 : List Int) (a1 : Int) : Option (List Int) := if l0.length = 1 ∧ 1 ≤ a1 ∧ a1 ≤ 6 then some (List.replicate a1.toNat (l0.getD 0 0)) else none
-- (walk)
theorem rp_puts {e base g N c : Nat} {ok : Nat → Prop} {v : Int} : ∀ (m n : Nat) (W : World), n + m ≤ N → Kd.R (Kd.int .i64) e W base ok (.slice (some ⟨g, 0, none⟩) N c) (List.replicate n v ++ List.replicate (N - n) 0) → ∀ w0 : World, Below base w0 W → base ≤ g → Kd.R (Kd.int .i64) e (W.setCells g n (List.replicate m (.int .i64 v))) base ok (.slice (some ⟨g, 0, none⟩) N c) (List.replicate (n + m) v ++ List.replicate (N - (n + m)) 0) ∧ Below base w0 (W.setCells g n (List.replicate m (.int .i64 v)))
 | 0, n, W, h, hR, w0, hB, hg => ⟨hR, hB⟩
 | m + 1, n, W, h, hR, w0, hB, hg => by
  have hp := Kd.R_putn hR (n : Int) v
  rw [Int.toNat_natCast] at hp
  have e : (List.replicate n v ++ List.replicate (N - n) (0 : Int)).set n v = List.replicate (n + 1) v ++ List.replicate (N - (n + 1)) 0 := by
   rw [List.set_append_right _ _ (by simp), List.length_replicate, Nat.sub_self, show N - n = (N - (n + 1)) + 1 by omega, List.replicate_succ (n := N - (n + 1)), List.set_cons_zero, List.replicate_succ', List.append_assoc]; rfl
  rw [e] at hp
  have := rp_puts m (n + 1) (W.setCell ⟨g, n, none⟩ (.int .i64 v)) (by omega) hp w0 (hB.setCell (p := ⟨g, n, none⟩) hg _) hg
  rw [show n + 1 + m = n + (m + 1) by omega] at this
  rw [List.replicate_succ]
  exact this
theorem rp_copy {ops : Array Oper} {o : Oper} {a : Act} {W w0 : World} {K : Act → World → Prop} {Q : Exit → Act → World → Prop} {E : Prop} {g n N c dc base : Nat} {v : Int} {ok : Nat → Prop} (hw : Region.wanted o (yielded ops a.tmps) = true) (s x : Operand)
  (ho : o.op = .call { callee := .builtin .copy, args := #[s, x], argTypes := #[24, 24] }) (hs : a.eval s = .slice (some ⟨g, n, none⟩) (N - n) dc) (hx : a.eval x = .slice (some ⟨g, 0, none⟩) n c) (hn : 0 < n) (hnN : n ≤ N)
  (hR : Kd.R (Kd.int .i64) 3 W base ok (.slice (some ⟨g, 0, none⟩) N c) (List.replicate n v ++ List.replicate (N - n) 0)) (hB : Below base w0 W) (hg : base ≤ g)
  (h : ∀ w1, Kd.R (Kd.int .i64) 3 w1 base ok (.slice (some ⟨g, 0, none⟩) N c) (List.replicate (n + min n (N - n)) v ++ List.replicate (N - (n + min n (N - n))) 0) → Below base w0 w1 → K (a.put o.dst (.int .i64 ((min n (N - n) : Nat) : Int))) w1) :
  if Region.wanted o (yielded ops a.tmps) = true then Oper.wp Try.prog o a W K Q else E := by
 rw [if_pos hw]
 have hl : (List.replicate n v ++ List.replicate (N - n) (0 : Int)).length = N := by simp; omega
 have hcell : ∀ j, j < N → W.cell? ⟨g, j, none⟩ = some (.int .i64 (rd (List.replicate n v ++ List.replicate (N - n) 0) (j : Int))) ∧ W.frozen? ⟨g, j, none⟩ = false := fun j hj => by
  have := Kd.R_celln (0 : Int) hR (j : Int) (by omega) (by omega)
  rwa [Int.toNat_natCast] at this
 have hr := run_copy_cells (P := Try.prog) W 24 24 o.type 3 g n (N - n) dc ⟨g, 0, none⟩ n c (List.replicate (min n (N - n)) (.int .i64 v)) Try.underlying24 (by kernel_rfl) (by simp [Nat.min_def]) (fun j u hu => by
   obtain ⟨hj, he⟩ := List.getElem?_eq_some_iff.1 hu
   rw [List.length_replicate] at hj
   rw [List.getElem_replicate] at he
   subst he
   have h1 := (hcell j (by omega)).1
   rw [show rd (List.replicate n v ++ List.replicate (N - n) 0) (j : Int) = v by unfold rd; simp [List.getD, List.getElem?_append, show j < n by omega]] at h1
   rw [show (Addr.mk g 0 none).add j = ⟨g, j, none⟩ by (unfold Addr.add; by_cases h0 : j = 0; subst h0; rfl; simp [h0])]; exact h1) (fun j hj => by rw [List.length_replicate] at hj; rw [(hcell (n + j) (by omega)).1]; rfl) (fun j hj => by rw [List.length_replicate] at hj; exact (hcell (n + j) (by omega)).2) (fun u hu => by rw [List.eq_of_mem_replicate hu]; rfl)
 rw [List.length_replicate] at hr
 obtain ⟨h1, h2⟩ := rp_puts (min n (N - n)) n W (by omega) hR w0 hB hg
 unfold Oper.wp execOp
 simp only [ho, resolve, invoke, builtin, Sem.run_bind, Sem.run_pure, Result.andThen_ok, List.map_toArray, List.map_cons, List.map_nil, hs, hx, hr]
 exact h _ h1 h2
set_option maxHeartbeats 2000000 in
set_option maxRecDepth 4000 in
theorem slices_Repeat_int_int.calls (A0 : Option Addr) (c0 : Nat) (l0 : List Int) (a1 : Int) (r : List Int) (w : World) (hr0 : Kd.C (Kd.int .i64) w A0 l0.length l0) (hc0 : l0.length ≤ c0) (h : slices_Repeat_int_int.f l0 a1 = some r) :
  Calls Try.prog 111 #[.slice A0 l0.length c0, .int .i64 a1] w fun e w' => ∃ v0_ : Value, e = .returned (v0_) ∧ Kd.R (Kd.int .i64) 3 w' w.heap.size (fun _ => True) v0_ r ∧ Below w.heap.size w w' := by
 unfold slices_Repeat_int_int.f at h
 by_cases hc : l0.length = 1 ∧ 1 ≤ a1 ∧ a1 ≤ 6
 case neg => rw [if_neg hc] at h; exact absurd h (by simp)
 rw [if_pos hc] at h
 have HRes := am (Option.some.inj h)
 obtain ⟨h1, h2, h3⟩ := hc
 obtain ⟨N, rfl⟩ := Int.eq_ofNat_of_zero_le (show 0 ≤ a1 by omega)
 match l0, h1 with
 | [v], _ =>
  clear h
  have HA := Aside0.mk hr0
  clear hr0
  have info3 := info3
  have HM := am (show bits_Mul.f 1 (N : Int) = some (0, (N : Int)) by
   obtain h | h | h | h | h | h : N = 1 ∨ N = 2 ∨ N = 3 ∨ N = 4 ∨ N = 5 ∨ N = 6 := by omega
   all_goals (subst h; decide +kernel))
  have hng : decide ((N : Int) < 0) = false := decide_eq_false (by omega)
  go_enter Try.func111, Try.ntmps111
  go_wp2_with (first
   | (go_at_call 136; refine (bits_Mul.calls _ _ _ _ _ HM.out).mono ?_; rintro e w' ⟨rfl, ⟨nd, rfl⟩⟩)
   | ((with_reducible refine gate_dst (N := 30) rfl ?_); refine Kd.R_make (Kd.int .i64) (w0 := w) w.heap.size 3 rfl (N := 30) rfl 24 _ _ rfl (N : Int) rfl rfl Try.underlying24 (.int .i64 0) 8 info3 rfl (by decide) (by omega) 0 (ok := fun _ => True) (okp := fun _ => True) rfl (fun _ hk => hk) trivial (by omega) (by omega) (pw_below_drewN (Below.refl _ _) nd) (Nat.le_refl _) ?_; intro v1 w3 ho hb3 hgr3 hnw3; rw [Int.toNat_natCast] at ho; obtain ⟨gq, cq, ev, hq1, hq2, hq3⟩ := Kd.R_form ho (by rw [List.length_replicate]; omega); rw [List.length_replicate] at ev; subst ev; have HQ1 := Aside0.mk hq1; clear hq1 hq2 hq3; have HO := Aside0.mk ho; have HB3 := Aside0.mk hb3; clear ho hb3 hgr3 hnw3)
   | ((with_reducible refine gate_builtin (b := .copy) (xs := #[.tmp 31, .tmp 32]) rfl ?_); refine Kd.R_copy (0 : Int) (w0 := w) w.heap.size ?hgd (.tmp 31) (.tmp 32) 24 24 3 ?hop Try.underlying24 (by kernel_rfl) (.slice (some ⟨gq, 0, none⟩) N cq) (List.replicate N 0) [v] A0 1 c0 (fun _ => True) ?hs ?hx HO.out (Kd.C_below HA.out HB3.out) HB3.out HB3.out.size ?_; (case hgd => rfl); (case hop => rfl); (case hs => rfl); (case hx => rfl); intro w4 ho4 hb4 hg4; have Oq1 := Aside0.mk ho4; have HB4 := Aside0.mk hb4; rw [show ((min 1 (List.replicate N (0 : Int)).length : Nat) : Int) = ((1 : Nat) : Int) by rw [List.length_replicate]; omega]; clear ho4 hb4 hg4)
   )
  have HI := am (show Kd.R (Kd.int .i64) 3 w4 w.heap.size (fun _ => True) (.slice (some ⟨gq, 0, none⟩) N cq) (List.replicate 1 v ++ List.replicate (N - 1) 0) ∧ Below w.heap.size w w4 from ⟨by
   have := Oq1.out
   rw [List.length_replicate, show min 1 N = 1 by omega, show [v].take 1 = List.replicate 1 v from rfl, List.drop_replicate] at this
   exact this, HB4.out⟩)
  have hcap : N ≤ cq := (Kd.R_reads' HI.out.1).2.1
  go_loopw [8] (fun v8 w' => ∃ n : Nat, 1 ≤ n ∧ n ≤ N ∧ v8 = .int .i64 n ∧ Aside0 (Kd.R (Kd.int .i64) 3 w' w.heap.size (fun _ => True) (.slice (some ⟨gq, 0, none⟩) N cq) (List.replicate n v ++ List.replicate (N - n) 0) ∧ Below w.heap.size w w')) (fun v8 _ => ((N : Int) - intOf v8).toNat)
  case atStart => exact ⟨1, by omega, by omega, rfl, HI⟩
  case round =>
   clear HI
   obtain ⟨n, hn1, hnN, rfl, HI⟩ := hrel
   by_cases hlt : n < N
   ·
    have hlt2 : decide ((n : Int) < (N : Int)) = true := decide_eq_true (by omega)
    have hge : decide ((0 : Int) ≤ (n : Int)) = true := decide_eq_true (by omega)
    have hnc : n ≤ cq := by omega
    have cq0 : ¬ (cq = n) := by omega
    go_wp2_with fail
    go_region_law (first
     | (refine rp_copy (W := wr.drew) (g := gq) (n := n) (N := N) (c := cq) (dc := cq - n) (base := w.heap.size) (w0 := w) (v := v) (ok := fun _ => True) ?hw (.tmp 41) (.tmp 44) ?hop ?hs ?hx ?hn ?hN ?hR ?hB HQ1.out ?_; (case hw => (simp [Region.wanted]; done)); (case hop => with_reducible rfl); (case hs => first | (go_simp; done) | (go_simp; rfl)); (case hx => first | (go_simp; done) | (go_simp; rfl)); (case hn => omega); (case hN => omega); (case hR => exact Kd.R_drew HI.out.1); (case hB => exact below_drew HI.out.2); intro w5 ho5 hb5; have HI5 := am (And.intro ho5 hb5); clear ho5 hb5; (try simp only [Act.put, List.setIfInBounds_toArray, List.set_cons_zero, List.set_cons_succ])))
    have HI6 := am (show Kd.R (Kd.int .i64) 3 w5 w.heap.size (fun _ => True) (.slice (some ⟨gq, 0, none⟩) N cq) (List.replicate (n + min n (N - n)) v ++ List.replicate (N - (n + min n (N - n))) 0) ∧ Below w.heap.size w w5 from HI5.out)
    simp only [Exit.inBlock, Exit.then]
    go_simp
    rw [i64_w, show wrap64 ((n : Int) + ((min n (N - n) : Nat) : Int)) = ((n + min n (N - n) : Nat) : Int) by unfold wrap64; omega]
    go_roundw
    case rel => exact ⟨_, _, _, _, _, _, _, _, _, _, _, _, _, _, ⟨n + min n (N - n), by omega, by omega, rfl, HI6⟩, rfl⟩
    case measure => simp [intOf]; omega
   ·
    obtain rfl : n = N := by omega
    have hlt2 : decide ((n : Int) < (n : Int)) = false := decide_eq_false (by omega)
    go_wp2
    go_ret
    exact ⟨_, rfl, by
     have := HI.out.1
     rw [Nat.sub_self, List.replicate_zero, List.append_nil] at this
     rw [← HRes.out, Int.toNat_natCast]
     exact this, HI.out.2⟩

end Go.Proofs.Ytllhofdgbpnkkaa.PFnPlacementsListed
