-- Printed for this claim by wip/pp.py over the kit's printer; Lean checks it.
import Derived.Test.YtllhofdgbpnkkaaPFnPlacementsListedx0
import Derived.Test.YtllhofdgbpnkkaaPFnPlacementsListedx2
import Derived.Test.YtllhofdgbpnkkaaPFnPlacementsListedx3
namespace Go.Proofs.Ytllhofdgbpnkkaa.PFnPlacementsListed
open Go.RowKit Go.Proofs.YtllhofdgbpnkkaaW.PrintWords Go.Proofs.YtllhofdgbpnkkaaW.PrintLast Go.Proofs.YtllhofdgbpnkkaaW.PrintMore
attribute [local go_sem] max2_int min2_int max_two min_two max_three min_three max_four min_four   -- for this text's walks alone
set_option linter.unusedVariables false
set_option linter.unusedSimpArgs false

/-! ### spec_l1Cur_board: function 62 -/
def spec_l1Cur_board.f (k : Nat) (s0_0 : List Int) (s0_1 : Int) (s0_2 : Int) : Option (Int × Int × List Int × Int × Int) := (spec_l1Cur_sides.f s0_0 s0_1 s0_2).bind fun bt154 => ((spec_l1Cur_sides.f s0_0 bt154.2.1 bt154.2.2).bind fun bt157 => ((spec_l1Cur_boardOf.f k s0_0 bt157.2.1 bt157.2.2 bt154.1 bt157.1).bind fun bt160 => ((spec_l1Cur_pick.f s0_0 bt160.2.2.2.1 bt160.2.2.2.2 18).bind fun bt168 => (if bt168.1 = 0 then ((spec_l1Cur_among.f s0_0 bt168.2.1 bt168.2.2 (([(-1), 0, wrap64 (bt160.1 + 1), 7] : List Int))).bind fun bt174 => (some (bt174.1, bt160.2.1, bt160.2.2.1, bt174.2.1, bt174.2.2))) else (if bt168.1 = 1 then ((spec_l1Cur_among.f s0_0 bt168.2.1 bt168.2.2 (([(-1), 0, 7, 4611686018427387904] : List Int))).bind fun bt180 => (some (bt160.1, bt180.1, bt160.2.2.1, bt180.2.1, bt180.2.2))) else (if bt168.1 = 2 then ((spec_l1Cur_pick.f s0_0 bt168.2.1 bt168.2.2 (bt160.2.2.1.length : Int)).bind fun bt183 => ((spec_l1Cur_among.f s0_0 bt183.2.1 bt183.2.2 (([(-1), 64, 4611686018427387904] : List Int))).bind fun bt189 => (if 0 ≤ bt183.1 then (if bt183.1 < (bt160.2.2.1.length : Int) then (some (bt160.1, bt160.2.1, (bt160.2.2.1.set (bt183.1 : Int).toNat bt189.1), bt189.2.1, bt189.2.2)) else (none)) else (none)))) else (if bt168.1 = 3 then (if bt160.2.2.1.length < 17592186044416 then (some (bt160.1, bt160.2.1, (bt160.2.2.1 ++ [0]), bt168.2.1, bt168.2.2)) else (none)) else (some (bt160.1, bt160.2.1, bt160.2.2.1, bt168.2.1, bt168.2.2)))))))))
def spec_l1Cur_board.T8 : Bool × List (List Nat × List Nat) := (true, [([], []), ([0], [0]), ([], []), ([], []), ([3], [3]), ([4], [4]), ([2, 5], [2, 5]), ([], []), ([], []), ([7, 8, 6], [7, 8]), ([1, 6, 0, 1, 2, 3, 4, 5, 6, 7, 8, 9], [1, 6]), ([10, 9, 9, 0, 1, 2, 3, 4, 5, 6, 7, 8, 9], [9, 10])])
def spec_l1Cur_board.B8 : List Nat := [0, 1, 0, 0, 8, 24, 60, 0, 0, 508, 1023, 2047]
theorem spec_l1Cur_board.tab8 : rtab .any (opsOf Try.f62 8) = spec_l1Cur_board.T8 := by kernel_rfl
theorem spec_l1Cur_board.bits8 : waitsOk spec_l1Cur_board.T8.2 spec_l1Cur_board.B8 = true := by kernel_rfl
set_option maxHeartbeats 8000000 in
set_option maxRecDepth 100000 in
theorem spec_l1Cur_board.calls (k : Nat) (g : Nat) (s0_0 : List Int) (s0_1 : Int) (s0_2 : Int) (r1 : Int) (r2 : Int) (r3 : List Int) (r4 : Int) (r5 : Int) (w0 w : World) (hI : IsS66 w0 w g s0_0 s0_1 s0_2) (hB : Below w0.heap.size w0 w) (h : spec_l1Cur_board.f k s0_0 s0_1 s0_2 = some (r1, r2, r3, r4, r5)) :
  Calls Try.prog 62 #[.pointer (some ⟨g, 0, none⟩)] w fun e w' => ∃ v2_ : Value, e = .returned (.agg #[.int .i64 r1, .int .i64 r2, v2_]) ∧ Kd.R (Kd.int .i64) 3 w' w.heap.size (fun _ => True) v2_ r3 ∧ IsS66 w0 w' g s0_0 r4 r5 ∧ Below w0.heap.size w0 w' ∧ KeepBut w w' g none := by
 have hu26 := Try.underlying26
 have HI0 := Aside0.mk hI
 have HK := am (KeepBut.refl w g none)
 have HL := Aside0.mk hB.size
 clear hI
 have HW0 := Aside0.mk hB.size
 have HB := Aside0.mk hB
 clear hB
 have H : ((spec_l1Cur_sides.f s0_0 s0_1 s0_2).bind fun bt154 => ((spec_l1Cur_sides.f s0_0 bt154.2.1 bt154.2.2).bind fun bt157 => ((spec_l1Cur_boardOf.f k s0_0 bt157.2.1 bt157.2.2 bt154.1 bt157.1).bind fun bt160 => ((spec_l1Cur_pick.f s0_0 bt160.2.2.2.1 bt160.2.2.2.2 18).bind fun bt168 => (if bt168.1 = 0 then ((spec_l1Cur_among.f s0_0 bt168.2.1 bt168.2.2 (([(-1), 0, wrap64 (bt160.1 + 1), 7] : List Int))).bind fun bt174 => (some (bt174.1, bt160.2.1, bt160.2.2.1, bt174.2.1, bt174.2.2))) else (if bt168.1 = 1 then ((spec_l1Cur_among.f s0_0 bt168.2.1 bt168.2.2 (([(-1), 0, 7, 4611686018427387904] : List Int))).bind fun bt180 => (some (bt160.1, bt180.1, bt160.2.2.1, bt180.2.1, bt180.2.2))) else (if bt168.1 = 2 then ((spec_l1Cur_pick.f s0_0 bt168.2.1 bt168.2.2 (bt160.2.2.1.length : Int)).bind fun bt183 => ((spec_l1Cur_among.f s0_0 bt183.2.1 bt183.2.2 (([(-1), 64, 4611686018427387904] : List Int))).bind fun bt189 => (if 0 ≤ bt183.1 then (if bt183.1 < (bt160.2.2.1.length : Int) then (some (bt160.1, bt160.2.1, (bt160.2.2.1.set (bt183.1 : Int).toNat bt189.1), bt189.2.1, bt189.2.2)) else (none)) else (none)))) else (if bt168.1 = 3 then (if bt160.2.2.1.length < 17592186044416 then (some (bt160.1, bt160.2.1, (bt160.2.2.1 ++ [0]), bt168.2.1, bt168.2.2)) else (none)) else (some (bt160.1, bt160.2.1, bt160.2.2.1, bt168.2.1, bt168.2.2)))))))))) = some (r1, r2, r3, r4, r5) := h
 clear h
 replace H := qE H
 obtain ⟨⟨t154, t155, t156⟩, A2, H⟩ := H
 replace H : ((spec_l1Cur_sides.f s0_0 t155 t156).bind fun bt157 => ((spec_l1Cur_boardOf.f k s0_0 bt157.2.1 bt157.2.2 t154 bt157.1).bind fun bt160 => ((spec_l1Cur_pick.f s0_0 bt160.2.2.2.1 bt160.2.2.2.2 18).bind fun bt168 => (if bt168.1 = 0 then ((spec_l1Cur_among.f s0_0 bt168.2.1 bt168.2.2 (([(-1), 0, wrap64 (bt160.1 + 1), 7] : List Int))).bind fun bt174 => (some (bt174.1, bt160.2.1, bt160.2.2.1, bt174.2.1, bt174.2.2))) else (if bt168.1 = 1 then ((spec_l1Cur_among.f s0_0 bt168.2.1 bt168.2.2 (([(-1), 0, 7, 4611686018427387904] : List Int))).bind fun bt180 => (some (bt160.1, bt180.1, bt160.2.2.1, bt180.2.1, bt180.2.2))) else (if bt168.1 = 2 then ((spec_l1Cur_pick.f s0_0 bt168.2.1 bt168.2.2 (bt160.2.2.1.length : Int)).bind fun bt183 => ((spec_l1Cur_among.f s0_0 bt183.2.1 bt183.2.2 (([(-1), 64, 4611686018427387904] : List Int))).bind fun bt189 => (if 0 ≤ bt183.1 then (if bt183.1 < (bt160.2.2.1.length : Int) then (some (bt160.1, bt160.2.1, (bt160.2.2.1.set (bt183.1 : Int).toNat bt189.1), bt189.2.1, bt189.2.2)) else (none)) else (none)))) else (if bt168.1 = 3 then (if bt160.2.2.1.length < 17592186044416 then (some (bt160.1, bt160.2.1, (bt160.2.2.1 ++ [0]), bt168.2.1, bt168.2.2)) else (none)) else (some (bt160.1, bt160.2.1, bt160.2.2.1, bt168.2.1, bt168.2.2))))))))) = some (r1, r2, r3, r4, r5) := H
 replace H := qE H
 obtain ⟨⟨t157, t158, t159⟩, A3, H⟩ := H
 replace H : ((spec_l1Cur_boardOf.f k s0_0 t158 t159 t154 t157).bind fun bt160 => ((spec_l1Cur_pick.f s0_0 bt160.2.2.2.1 bt160.2.2.2.2 18).bind fun bt168 => (if bt168.1 = 0 then ((spec_l1Cur_among.f s0_0 bt168.2.1 bt168.2.2 (([(-1), 0, wrap64 (bt160.1 + 1), 7] : List Int))).bind fun bt174 => (some (bt174.1, bt160.2.1, bt160.2.2.1, bt174.2.1, bt174.2.2))) else (if bt168.1 = 1 then ((spec_l1Cur_among.f s0_0 bt168.2.1 bt168.2.2 (([(-1), 0, 7, 4611686018427387904] : List Int))).bind fun bt180 => (some (bt160.1, bt180.1, bt160.2.2.1, bt180.2.1, bt180.2.2))) else (if bt168.1 = 2 then ((spec_l1Cur_pick.f s0_0 bt168.2.1 bt168.2.2 (bt160.2.2.1.length : Int)).bind fun bt183 => ((spec_l1Cur_among.f s0_0 bt183.2.1 bt183.2.2 (([(-1), 64, 4611686018427387904] : List Int))).bind fun bt189 => (if 0 ≤ bt183.1 then (if bt183.1 < (bt160.2.2.1.length : Int) then (some (bt160.1, bt160.2.1, (bt160.2.2.1.set (bt183.1 : Int).toNat bt189.1), bt189.2.1, bt189.2.2)) else (none)) else (none)))) else (if bt168.1 = 3 then (if bt160.2.2.1.length < 17592186044416 then (some (bt160.1, bt160.2.1, (bt160.2.2.1 ++ [0]), bt168.2.1, bt168.2.2)) else (none)) else (some (bt160.1, bt160.2.1, bt160.2.2.1, bt168.2.1, bt168.2.2)))))))) = some (r1, r2, r3, r4, r5) := H
 replace H := qE H
 obtain ⟨⟨t160, t161, t162, t165, t166⟩, A4, H⟩ := H
 replace H : ((spec_l1Cur_pick.f s0_0 t165 t166 18).bind fun bt168 => (if bt168.1 = 0 then ((spec_l1Cur_among.f s0_0 bt168.2.1 bt168.2.2 (([(-1), 0, wrap64 (t160 + 1), 7] : List Int))).bind fun bt174 => (some (bt174.1, t161, t162, bt174.2.1, bt174.2.2))) else (if bt168.1 = 1 then ((spec_l1Cur_among.f s0_0 bt168.2.1 bt168.2.2 (([(-1), 0, 7, 4611686018427387904] : List Int))).bind fun bt180 => (some (t160, bt180.1, t162, bt180.2.1, bt180.2.2))) else (if bt168.1 = 2 then ((spec_l1Cur_pick.f s0_0 bt168.2.1 bt168.2.2 (t162.length : Int)).bind fun bt183 => ((spec_l1Cur_among.f s0_0 bt183.2.1 bt183.2.2 (([(-1), 64, 4611686018427387904] : List Int))).bind fun bt189 => (if 0 ≤ bt183.1 then (if bt183.1 < (t162.length : Int) then (some (t160, t161, (t162.set (bt183.1 : Int).toNat bt189.1), bt189.2.1, bt189.2.2)) else (none)) else (none)))) else (if bt168.1 = 3 then (if t162.length < 17592186044416 then (some (t160, t161, (t162 ++ [0]), bt168.2.1, bt168.2.2)) else (none)) else (some (t160, t161, t162, bt168.2.1, bt168.2.2))))))) = some (r1, r2, r3, r4, r5) := H
 replace H := qE H
 obtain ⟨⟨t168, t169, t170⟩, A5, H⟩ := H
 replace H : (if t168 = 0 then ((spec_l1Cur_among.f s0_0 t169 t170 (([(-1), 0, wrap64 (t160 + 1), 7] : List Int))).bind fun bt174 => (some (bt174.1, t161, t162, bt174.2.1, bt174.2.2))) else (if t168 = 1 then ((spec_l1Cur_among.f s0_0 t169 t170 (([(-1), 0, 7, 4611686018427387904] : List Int))).bind fun bt180 => (some (t160, bt180.1, t162, bt180.2.1, bt180.2.2))) else (if t168 = 2 then ((spec_l1Cur_pick.f s0_0 t169 t170 (t162.length : Int)).bind fun bt183 => ((spec_l1Cur_among.f s0_0 bt183.2.1 bt183.2.2 (([(-1), 64, 4611686018427387904] : List Int))).bind fun bt189 => (if 0 ≤ bt183.1 then (if bt183.1 < (t162.length : Int) then (some (t160, t161, (t162.set (bt183.1 : Int).toNat bt189.1), bt189.2.1, bt189.2.2)) else (none)) else (none)))) else (if t168 = 3 then (if t162.length < 17592186044416 then (some (t160, t161, (t162 ++ [0]), t169, t170)) else (none)) else (some (t160, t161, t162, t169, t170)))))) = some (r1, r2, r3, r4, r5) := H
 by_cases c6 : t168 = 0
 ·
  rw [if_pos c6] at H
  have c6b0 : (t168 == 0) = true := beq_iff_eq.mpr c6
  have c6b1 : (t168 != 0) = false := bne_eq_false_iff_eq.mpr c6
  clear c6
  obtain ⟨y171, hy_⟩ : ∃ y_ : List Int, y_ = ((([(-1), 0, wrap64 (t160 + 1), 7] : List Int))) := ⟨_, rfl⟩
  replace H : ((spec_l1Cur_among.f s0_0 t169 t170 y171).bind fun bt174 => (some (bt174.1, t161, t162, bt174.2.1, bt174.2.2))) = some (r1, r2, r3, r4, r5) := qH
  have Ny171 := Aside0.mk hy_
  clear hy_
  replace H := qE H
  obtain ⟨⟨t174, t175, t176⟩, A7, H⟩ := H
  replace H : (some (t174, t161, t162, t175, t176)) = some (r1, r2, r3, r4, r5) := H
  simp only [Option.some.injEq, Prod.mk.injEq] at H
  obtain ⟨rfl, rfl, rfl, rfl, rfl⟩ := H
  go_enter Try.func62, Try.ntmps62
  go_wp2_with (first | ((with_reducible refine gate_dst (N := 2) rfl ?_); refine qv 2 #[.int .i64 0, .int .i64 0, .slice none 0 0] 26 ?_; intro gb153 hg w8 hbox hb; have BK153 := am hbox; have GW153 := qx hg; have GE153 := qy HW0 (qx hg); have Nq0 := qo hg g; have Nq2 := qO hg g; replace HK := qU hb; replace HB := qt hb; replace HI0 := qj hb; clear hb hbox hg) | ((with_reducible refine gate_callee (f := 121) rfl ?_); refine qg (some 6) Try.func121 #[.pointer (some ⟨g, 0, none⟩)] ?_; (with_reducible refine (spec_l1Cur_sides.calls g s0_0 s0_1 s0_2 t154 t155 t156 w0 _ ?side1 ?side2 A2.out).mono ?_); (case side1 => exact qi); (case side2 => exact qc); rintro e w9 ⟨rfl, hi, hb, hk⟩; refine ⟨_, rfl, ?_⟩; replace BK153 := qK BK153 hk Nq2; replace HK := qT hk; replace HB := am hb; replace HI0 := am hi; (try clear hb hk hi)) | ((with_reducible refine gate_callee (f := 121) rfl ?_); refine qg (some 8) Try.func121 #[.pointer (some ⟨g, 0, none⟩)] ?_; (with_reducible refine (spec_l1Cur_sides.calls g s0_0 t155 t156 t157 t158 t159 w0 _ ?side1 ?side2 A3.out).mono ?_); (case side1 => exact qi); (case side2 => exact qc); rintro e w10 ⟨rfl, hi, hb, hk⟩; refine ⟨_, rfl, ?_⟩; replace BK153 := qK BK153 hk Nq2; replace HK := qT hk; replace HB := am hb; replace HI0 := am hi; (try clear hb hk hi)) | ((with_reducible refine gate_callee (f := 73) rfl ?_); refine qg (some 9) Try.func73 #[.pointer (some ⟨g, 0, none⟩), .int .i64 t154, .int .i64 t157] ?_; (with_reducible refine (spec_l1Cur_boardOf.calls k g s0_0 t158 t159 t154 t157 t160 t161 t162 t165 t166 w0 _ ?side1 ?side2 A4.out).mono ?_); (case side1 => exact qi); (case side2 => exact qc); rintro e w11 ⟨v163, rfl, ho0, hi, hb, hk⟩; refine ⟨_, rfl, ?_⟩; have Oq0 := qm ho0; replace BK153 := qK BK153 hk Nq2; replace HK := qT hk; replace HB := am hb; replace HI0 := am hi; (try clear hb hk hi ho0)) | ((with_reducible refine gate_dst (N := 3) rfl ?_); refine qv 3 #[.int .i64 0, .int .i64 0, .slice none 0 0] 26 ?_; intro gb167 hg w12 hbox hb; have BK167 := am hbox; have GW167 := qx hg; have GE167 := qy HW0 (qx hg); have Nq3 := qn hg BK153; have Nq5 := qN hg BK153; have Nq1 := qo hg g; have Nq4 := qO hg g; replace Oq0 := sqR Oq0 hb; replace BK153 := sqB BK153 hb; replace HK := qU hb; replace HB := qt hb; replace HI0 := qj hb; clear hb hbox hg; have bq1 := Nq5.out; have cq1 := Nq3.out; have bq2 := Nq4.out; have cq2 := Nq1.out; obtain ⟨zq12, zq13, zq14, fq12, fq13, fq14⟩ := qd BK167; obtain ⟨Ao16, co16, eo16⟩ := Kd.R_slice Oq0.out; subst eo16) | ((with_reducible refine gate_callee (f := 63) rfl ?_); refine qg (some 11) Try.func63 #[.pointer (some ⟨g, 0, none⟩), .int .i64 18] ?_; (with_reducible refine (spec_l1Cur_pick.calls g s0_0 t165 t166 18 t168 t169 t170 w0 _ ?side1 ?side2 A5.out).mono ?_); (case side1 => exact qi); (case side2 => exact qc); rintro e w17 ⟨rfl, hi, hb, hk⟩; refine ⟨_, rfl, ?_⟩; replace BK153 := am (KeepBut.blk hk (g' := gb153) (o := .cells #[.int .i64 0, .int .i64 0, .slice none 0 0] 26 (0, 0)) Q7 Nq2.out (by simp)); replace Oq0 := am (Kd.R_mono (Kd.R_keep (IsS66.apart (show IsS66 w0 _ g s0_0 t165 t166 from qi) (sqw (sqo Oq0 BK167)) (by decide)) hk (fun _ h => h.2)) (fun _ h => h.1)); replace BK167 := am (KeepBut.blk hk (g' := gb167) (o := .cells #[.int .i64 t160, .int .i64 t161, .slice Ao16 t162.length co16] 26 (0, 0)) Q5 Nq4.out (by simp)); replace HK := qT hk; replace HB := am hb; replace HI0 := am hi; (try clear hb hk hi); obtain ⟨zq18, zq19, zq20, fq18, fq19, fq20⟩ := qd BK167) | ((with_reducible refine gate_dst (N := 18) rfl ?_); refine Kd.R_lit (Kd.int .i64) _ 3 ?hg (N := 18) ?hd (xs := ([(-1), 0, wrap64 (t160 + 1), 7] : List Int)) (inner := [.int .i64 (-1), .int .i64 0, .int .i64 (wrap64 (t160 + 1)), .int .i64 7]) (ok := fun _ => True) (okp := fun _ => True) ?hr ?hp (fun _ hk => hk) trivial (Below.refl _ _) (Nat.le_refl _) (by simp) ?_; (case hd => rfl); (case hg => rfl); (case hr => first | (go_simp; done) | (go_simp; rfl)); (case hp => exact (Reps.one (show Kd.M (Kd.int .i64) _ _ _ (-1) [.int .i64 (-1)] from rfl) (Reps.one (show Kd.M (Kd.int .i64) _ _ _ 0 [.int .i64 0] from rfl) (Reps.one (show Kd.M (Kd.int .i64) _ _ _ (wrap64 (t160 + 1)) [.int .i64 (wrap64 (t160 + 1))] from rfl) (Reps.one (show Kd.M (Kd.int .i64) _ _ _ 7 [.int .i64 7] from rfl) (Reps.none _ _)))))); intro v172 w19 ho20 hb hg_ hnew_; clear hg_ hnew_; (first | rw [← Ny171.out] at ho20 | (simp only [Int.reduceToNat] at ho20; rw [← Ny171.out] at ho20)); have Oq1 := am (Kd.R_lower (Kd.R_new' ho20 (sqL Oq0)) (qz w g)); replace BK153 := sqB BK153 hb; replace BK167 := sqB BK167 hb; replace Oq0 := qe (sqr Oq0) ho20 hb; replace HK := qU hb; replace HB := qt hb; replace HI0 := qj hb; clear hb ho20; obtain ⟨Ao21, co21, eo21⟩ := Kd.R_slice Oq1.out; subst eo21) | ((with_reducible refine gate_callee (f := 84) rfl ?_); refine qg (some 19) Try.func84 #[.pointer (some ⟨g, 0, none⟩), .slice Ao21 y171.length co21] ?_; (with_reducible refine (spec_l1Cur_among.calls g s0_0 t169 t170 _ _ y171 t174 t175 t176 w0 _ ?side1 ?side2 ?side3 ?side4 ?side5 A7.out).mono ?_); (case side1 => exact qi); (case side2 => exact qc); (case side3 => repeat (first | exact (Kd.R_reads' Oq1.out).2.2 | (with_reducible first | refine Kd.C_alloc ?_ _ | refine Kd.C_drewN ?_ _ | refine Kd.C_drew ?_))); (case side4 => exact (Kd.R_reads' Oq1.out).2.1); (case side5 => exact far_slice (IsS66.own_ne HI0.out Oq1.out (by decide))); rintro e w22 ⟨rfl, hi, hb, hk⟩; refine ⟨_, rfl, ?_⟩; replace BK153 := qK BK153 hk Nq2; replace Oq0 := qR Oq0 hk; replace BK167 := qK BK167 hk Nq4; replace Oq1 := qR Oq1 hk; replace HK := qT hk; replace HB := am hb; replace HI0 := am hi; (try clear hb hk hi); obtain ⟨zq21, zq22, zq23, fq21, fq22, fq23⟩ := qd BK167; have bq3 := Nq2.out; have cq3 := Nq0.out; obtain ⟨zq24, zq25, zq26, fq24, fq25, fq26⟩ := qd BK153))
  refine bodyPost_ret (results_cell_row rfl _ _ gb153 26 #[.int .i64 t174, .int .i64 t161, .slice Ao16 t162.length co16] (0, 0) _ rfl (by (with_reducible repeat (first | refine blk_drewN ?_ _ | refine blk_drew ?_ | refine blk_alloc ?_ _)); refine blk_put (cs := #[.int .i64 t174, .int .i64 t161, .slice none 0 0]) ?_ 2 _ rfl; (with_reducible repeat (first | refine blk_drewN ?_ _ | refine blk_drew ?_ | refine blk_alloc ?_ _)); refine blk_put (cs := #[.int .i64 t174, .int .i64 0, .slice none 0 0]) ?_ 1 _ rfl; (with_reducible repeat (first | refine blk_drewN ?_ _ | refine blk_drew ?_ | refine blk_alloc ?_ _)); refine blk_put (cs := #[.int .i64 0, .int .i64 0, .slice none 0 0]) ?_ 0 _ rfl; (with_reducible repeat (first | refine blk_drewN ?_ _ | refine blk_drew ?_ | refine blk_alloc ?_ _)); refine blk_far ?_ Nq3.out _; (with_reducible repeat (first | refine blk_drewN ?_ _ | refine blk_drew ?_ | refine blk_alloc ?_ _)); exact BK153.out) Try.underlying26 rfl (by kernel_rfl)) rfl ?_
  exact ⟨_, Q2, by (with_reducible repeat (first | apply Kd.R_alloc | apply Kd.R_drewN | apply Kd.R_drew)); exact Kd.R_mono (Kd.R_far (p := ⟨gb153, 2, none⟩) (Kd.R_far (p := ⟨gb153, 1, none⟩) (Kd.R_far (p := ⟨gb153, 0, none⟩) (Kd.R_far (p := ⟨gb167, 0, none⟩) (Kd.R_types (Kd.R_types Oq0.out BK167.out (by decide)) BK153.out (by decide)) (fun _ hk => hk.1.2) (.int .i64 t174)) (fun _ hk => hk.2) (.int .i64 t174)) (fun _ hk => hk.2) (.int .i64 t161)) (fun _ hk => hk.2) (.slice Ao16 t162.length co16)) (fun _ hk => trivial), qi, qc, qk⟩
 ·
  rw [if_neg c6] at H
  have c6b0 : (t168 == 0) = false := beq_eq_false_iff_ne.mpr c6
  have c6b1 : (t168 != 0) = true := bne_iff_ne.mpr c6
  by_cases c26 : t168 = 1
  ·
   rw [if_pos c26] at H
   have c26b0 : (t168 == 1) = true := beq_iff_eq.mpr c26
   have c26b1 : (t168 != 1) = false := bne_eq_false_iff_eq.mpr c26
   clear c26
   obtain ⟨y177, hy_⟩ : ∃ y_ : List Int, y_ = ((([(-1), 0, 7, 4611686018427387904] : List Int))) := ⟨_, rfl⟩
   replace H : ((spec_l1Cur_among.f s0_0 t169 t170 y177).bind fun bt180 => (some (t160, bt180.1, t162, bt180.2.1, bt180.2.2))) = some (r1, r2, r3, r4, r5) := qH
   have Ny177 := Aside0.mk hy_
   clear hy_
   replace H := qE H
   obtain ⟨⟨t180, t181, t182⟩, A27, H⟩ := H
   replace H : (some (t160, t180, t162, t181, t182)) = some (r1, r2, r3, r4, r5) := H
   simp only [Option.some.injEq, Prod.mk.injEq] at H
   obtain ⟨rfl, rfl, rfl, rfl, rfl⟩ := H
   go_enter Try.func62, Try.ntmps62
   go_wp2_with (first | ((with_reducible refine gate_dst (N := 2) rfl ?_); refine qv 2 #[.int .i64 0, .int .i64 0, .slice none 0 0] 26 ?_; intro gb153 hg w28 hbox hb; have BK153 := am hbox; have GW153 := qx hg; have GE153 := qy HW0 (qx hg); have Nq0 := qo hg g; have Nq2 := qO hg g; replace HK := qU hb; replace HB := qt hb; replace HI0 := qj hb; clear hb hbox hg) | ((with_reducible refine gate_callee (f := 121) rfl ?_); refine qg (some 6) Try.func121 #[.pointer (some ⟨g, 0, none⟩)] ?_; (with_reducible refine (spec_l1Cur_sides.calls g s0_0 s0_1 s0_2 t154 t155 t156 w0 _ ?side1 ?side2 A2.out).mono ?_); (case side1 => exact qi); (case side2 => exact qc); rintro e w29 ⟨rfl, hi, hb, hk⟩; refine ⟨_, rfl, ?_⟩; replace BK153 := qK BK153 hk Nq2; replace HK := qT hk; replace HB := am hb; replace HI0 := am hi; (try clear hb hk hi)) | ((with_reducible refine gate_callee (f := 121) rfl ?_); refine qg (some 8) Try.func121 #[.pointer (some ⟨g, 0, none⟩)] ?_; (with_reducible refine (spec_l1Cur_sides.calls g s0_0 t155 t156 t157 t158 t159 w0 _ ?side1 ?side2 A3.out).mono ?_); (case side1 => exact qi); (case side2 => exact qc); rintro e w30 ⟨rfl, hi, hb, hk⟩; refine ⟨_, rfl, ?_⟩; replace BK153 := qK BK153 hk Nq2; replace HK := qT hk; replace HB := am hb; replace HI0 := am hi; (try clear hb hk hi)) | ((with_reducible refine gate_callee (f := 73) rfl ?_); refine qg (some 9) Try.func73 #[.pointer (some ⟨g, 0, none⟩), .int .i64 t154, .int .i64 t157] ?_; (with_reducible refine (spec_l1Cur_boardOf.calls k g s0_0 t158 t159 t154 t157 t160 t161 t162 t165 t166 w0 _ ?side1 ?side2 A4.out).mono ?_); (case side1 => exact qi); (case side2 => exact qc); rintro e w31 ⟨v163, rfl, ho0, hi, hb, hk⟩; refine ⟨_, rfl, ?_⟩; have Oq0 := qm ho0; replace BK153 := qK BK153 hk Nq2; replace HK := qT hk; replace HB := am hb; replace HI0 := am hi; (try clear hb hk hi ho0)) | ((with_reducible refine gate_dst (N := 3) rfl ?_); refine qv 3 #[.int .i64 0, .int .i64 0, .slice none 0 0] 26 ?_; intro gb167 hg w32 hbox hb; have BK167 := am hbox; have GW167 := qx hg; have GE167 := qy HW0 (qx hg); have Nq3 := qn hg BK153; have Nq5 := qN hg BK153; have Nq1 := qo hg g; have Nq4 := qO hg g; replace Oq0 := sqR Oq0 hb; replace BK153 := sqB BK153 hb; replace HK := qU hb; replace HB := qt hb; replace HI0 := qj hb; clear hb hbox hg; have bq4 := Nq5.out; have cq4 := Nq3.out; have bq5 := Nq4.out; have cq5 := Nq1.out; obtain ⟨zq27, zq28, zq29, fq27, fq28, fq29⟩ := qd BK167; obtain ⟨Ao36, co36, eo36⟩ := Kd.R_slice Oq0.out; subst eo36) | ((with_reducible refine gate_callee (f := 63) rfl ?_); refine qg (some 11) Try.func63 #[.pointer (some ⟨g, 0, none⟩), .int .i64 18] ?_; (with_reducible refine (spec_l1Cur_pick.calls g s0_0 t165 t166 18 t168 t169 t170 w0 _ ?side1 ?side2 A5.out).mono ?_); (case side1 => exact qi); (case side2 => exact qc); rintro e w37 ⟨rfl, hi, hb, hk⟩; refine ⟨_, rfl, ?_⟩; replace BK153 := am (KeepBut.blk hk (g' := gb153) (o := .cells #[.int .i64 0, .int .i64 0, .slice none 0 0] 26 (0, 0)) Q7 Nq2.out (by simp)); replace Oq0 := am (Kd.R_mono (Kd.R_keep (IsS66.apart (show IsS66 w0 _ g s0_0 t165 t166 from qi) (sqw (sqo Oq0 BK167)) (by decide)) hk (fun _ h => h.2)) (fun _ h => h.1)); replace BK167 := am (KeepBut.blk hk (g' := gb167) (o := .cells #[.int .i64 t160, .int .i64 t161, .slice Ao36 t162.length co36] 26 (0, 0)) Q5 Nq4.out (by simp)); replace HK := qT hk; replace HB := am hb; replace HI0 := am hi; (try clear hb hk hi)) | ((with_reducible refine gate_dst (N := 24) rfl ?_); refine Kd.R_lit (Kd.int .i64) _ 3 ?hg (N := 24) ?hd (xs := ([(-1), 0, 7, 4611686018427387904] : List Int)) (inner := [.int .i64 (-1), .int .i64 0, .int .i64 7, .int .i64 4611686018427387904]) (ok := fun _ => True) (okp := fun _ => True) ?hr ?hp (fun _ hk => hk) trivial (Below.refl _ _) (Nat.le_refl _) (by simp) ?_; (case hd => rfl); (case hg => rfl); (case hr => first | (go_simp; done) | (go_simp; rfl)); (case hp => exact (Reps.one (show Kd.M (Kd.int .i64) _ _ _ (-1) [.int .i64 (-1)] from rfl) (Reps.one (show Kd.M (Kd.int .i64) _ _ _ 0 [.int .i64 0] from rfl) (Reps.one (show Kd.M (Kd.int .i64) _ _ _ 7 [.int .i64 7] from rfl) (Reps.one (show Kd.M (Kd.int .i64) _ _ _ 4611686018427387904 [.int .i64 4611686018427387904] from rfl) (Reps.none _ _)))))); intro v178 w38 ho39 hb hg_ hnew_; clear hg_ hnew_; (first | rw [← Ny177.out] at ho39 | (simp only [Int.reduceToNat] at ho39; rw [← Ny177.out] at ho39)); have Oq2 := am (Kd.R_lower (Kd.R_new' ho39 (sqL Oq0)) (qz w g)); replace BK153 := sqB BK153 hb; replace BK167 := sqB BK167 hb; replace Oq0 := qe (sqr Oq0) ho39 hb; replace HK := qU hb; replace HB := qt hb; replace HI0 := qj hb; clear hb ho39; obtain ⟨Ao40, co40, eo40⟩ := Kd.R_slice Oq2.out; subst eo40) | ((with_reducible refine gate_callee (f := 84) rfl ?_); refine qg (some 25) Try.func84 #[.pointer (some ⟨g, 0, none⟩), .slice Ao40 y177.length co40] ?_; (with_reducible refine (spec_l1Cur_among.calls g s0_0 t169 t170 _ _ y177 t180 t181 t182 w0 _ ?side1 ?side2 ?side3 ?side4 ?side5 A27.out).mono ?_); (case side1 => exact qi); (case side2 => exact qc); (case side3 => repeat (first | exact (Kd.R_reads' Oq2.out).2.2 | (with_reducible first | refine Kd.C_alloc ?_ _ | refine Kd.C_drewN ?_ _ | refine Kd.C_drew ?_))); (case side4 => exact (Kd.R_reads' Oq2.out).2.1); (case side5 => exact far_slice (IsS66.own_ne HI0.out Oq2.out (by decide))); rintro e w41 ⟨rfl, hi, hb, hk⟩; refine ⟨_, rfl, ?_⟩; replace BK153 := qK BK153 hk Nq2; replace Oq0 := qR Oq0 hk; replace BK167 := qK BK167 hk Nq4; replace Oq2 := qR Oq2 hk; replace HK := qT hk; replace HB := am hb; replace HI0 := am hi; (try clear hb hk hi); obtain ⟨zq30, zq31, zq32, fq30, fq31, fq32⟩ := qd BK167; have bq6 := Nq2.out; have cq6 := Nq0.out; obtain ⟨zq33, zq34, zq35, fq33, fq34, fq35⟩ := qd BK153))
   refine bodyPost_ret (results_cell_row rfl _ _ gb153 26 #[.int .i64 t160, .int .i64 t180, .slice Ao36 t162.length co36] (0, 0) _ rfl (by (with_reducible repeat (first | refine blk_drewN ?_ _ | refine blk_drew ?_ | refine blk_alloc ?_ _)); refine blk_put (cs := #[.int .i64 t160, .int .i64 t180, .slice none 0 0]) ?_ 2 _ rfl; (with_reducible repeat (first | refine blk_drewN ?_ _ | refine blk_drew ?_ | refine blk_alloc ?_ _)); refine blk_put (cs := #[.int .i64 t160, .int .i64 0, .slice none 0 0]) ?_ 1 _ rfl; (with_reducible repeat (first | refine blk_drewN ?_ _ | refine blk_drew ?_ | refine blk_alloc ?_ _)); refine blk_put (cs := #[.int .i64 0, .int .i64 0, .slice none 0 0]) ?_ 0 _ rfl; (with_reducible repeat (first | refine blk_drewN ?_ _ | refine blk_drew ?_ | refine blk_alloc ?_ _)); refine blk_far ?_ Nq3.out _; (with_reducible repeat (first | refine blk_drewN ?_ _ | refine blk_drew ?_ | refine blk_alloc ?_ _)); exact BK153.out) Try.underlying26 rfl (by kernel_rfl)) rfl ?_
   exact ⟨_, Q2, by (with_reducible repeat (first | apply Kd.R_alloc | apply Kd.R_drewN | apply Kd.R_drew)); exact Kd.R_mono (Kd.R_far (p := ⟨gb153, 2, none⟩) (Kd.R_far (p := ⟨gb153, 1, none⟩) (Kd.R_far (p := ⟨gb153, 0, none⟩) (Kd.R_far (p := ⟨gb167, 1, none⟩) (Kd.R_types (Kd.R_types Oq0.out BK167.out (by decide)) BK153.out (by decide)) (fun _ hk => hk.1.2) (.int .i64 t180)) (fun _ hk => hk.2) (.int .i64 t160)) (fun _ hk => hk.2) (.int .i64 t180)) (fun _ hk => hk.2) (.slice Ao36 t162.length co36)) (fun _ hk => trivial), qi, qc, qk⟩
  ·
   rw [if_neg c26] at H
   have c26b0 : (t168 == 1) = false := beq_eq_false_iff_ne.mpr c26
   have c26b1 : (t168 != 1) = true := bne_iff_ne.mpr c26
   by_cases c45 : t168 = 2
   ·
    rw [if_pos c45] at H
    have c45b0 : (t168 == 2) = true := beq_iff_eq.mpr c45
    have c45b1 : (t168 != 2) = false := bne_eq_false_iff_eq.mpr c45
    clear c45
    replace H := qE H
    obtain ⟨⟨t183, t184, t185⟩, A46, H⟩ := H
    replace H : ((spec_l1Cur_among.f s0_0 t184 t185 (([(-1), 64, 4611686018427387904] : List Int))).bind fun bt189 => (if 0 ≤ t183 then (if t183 < (t162.length : Int) then (some (t160, t161, (t162.set (t183 : Int).toNat bt189.1), bt189.2.1, bt189.2.2)) else (none)) else (none))) = some (r1, r2, r3, r4, r5) := H
    obtain ⟨y186, hy_⟩ : ∃ y_ : List Int, y_ = ((([(-1), 64, 4611686018427387904] : List Int))) := ⟨_, rfl⟩
    replace H : ((spec_l1Cur_among.f s0_0 t184 t185 y186).bind fun bt189 => (if 0 ≤ t183 then (if t183 < (t162.length : Int) then (some (t160, t161, (t162.set (t183 : Int).toNat bt189.1), bt189.2.1, bt189.2.2)) else (none)) else (none))) = some (r1, r2, r3, r4, r5) := qH
    have Ny186 := Aside0.mk hy_
    clear hy_
    replace H := qE H
    obtain ⟨⟨t189, t190, t191⟩, A47, H⟩ := H
    replace H : (if 0 ≤ t183 then (if t183 < (t162.length : Int) then (some (t160, t161, (t162.set (t183 : Int).toNat t189), t190, t191)) else (none)) else (none)) = some (r1, r2, r3, r4, r5) := H
    by_cases c48 : 0 ≤ t183
    ·
     rw [if_pos c48] at H
     have c48b0 : decide (0 ≤ t183) = true := decide_eq_true c48
     clear c48
     by_cases c49 : t183 < (t162.length : Int)
     ·
      rw [if_pos c49] at H
      have c49b0 : decide (t183 < (t162.length : Int)) = true := decide_eq_true c49
      clear c49
      obtain ⟨y192, hy_⟩ : ∃ y_ : List Int, y_ = ((t162.set (t183 : Int).toNat t189)) := ⟨_, rfl⟩
      replace H : (some (t160, t161, y192, t190, t191)) = some (r1, r2, r3, r4, r5) := qH
      have Ny192 := Aside0.mk hy_
      clear hy_
      simp only [Option.some.injEq, Prod.mk.injEq] at H
      obtain ⟨rfl, rfl, rfl, rfl, rfl⟩ := H
      go_enter Try.func62, Try.ntmps62
      try go_wp2_with (first | ((with_reducible refine gate_dst (N := 2) rfl ?_); refine qv 2 #[.int .i64 0, .int .i64 0, .slice none 0 0] 26 ?_; intro gb153 hg w51 hbox hb; have BK153 := am hbox; have GW153 := qx hg; have GE153 := qy HW0 (qx hg); have Nq0 := qo hg g; have Nq2 := qO hg g; replace HK := qU hb; replace HB := qt hb; replace HI0 := qj hb; clear hb hbox hg) | ((with_reducible refine gate_callee (f := 121) rfl ?_); refine qg (some 6) Try.func121 #[.pointer (some ⟨g, 0, none⟩)] ?_; (with_reducible refine (spec_l1Cur_sides.calls g s0_0 s0_1 s0_2 t154 t155 t156 w0 _ ?side1 ?side2 A2.out).mono ?_); (case side1 => exact qi); (case side2 => exact qc); rintro e w52 ⟨rfl, hi, hb, hk⟩; refine ⟨_, rfl, ?_⟩; replace BK153 := qK BK153 hk Nq2; replace HK := qT hk; replace HB := am hb; replace HI0 := am hi; (try clear hb hk hi)) | ((with_reducible refine gate_callee (f := 121) rfl ?_); refine qg (some 8) Try.func121 #[.pointer (some ⟨g, 0, none⟩)] ?_; (with_reducible refine (spec_l1Cur_sides.calls g s0_0 t155 t156 t157 t158 t159 w0 _ ?side1 ?side2 A3.out).mono ?_); (case side1 => exact qi); (case side2 => exact qc); rintro e w53 ⟨rfl, hi, hb, hk⟩; refine ⟨_, rfl, ?_⟩; replace BK153 := qK BK153 hk Nq2; replace HK := qT hk; replace HB := am hb; replace HI0 := am hi; (try clear hb hk hi)) | ((with_reducible refine gate_callee (f := 73) rfl ?_); refine qg (some 9) Try.func73 #[.pointer (some ⟨g, 0, none⟩), .int .i64 t154, .int .i64 t157] ?_; (with_reducible refine (spec_l1Cur_boardOf.calls k g s0_0 t158 t159 t154 t157 t160 t161 t162 t165 t166 w0 _ ?side1 ?side2 A4.out).mono ?_); (case side1 => exact qi); (case side2 => exact qc); rintro e w54 ⟨v163, rfl, ho0, hi, hb, hk⟩; refine ⟨_, rfl, ?_⟩; have Oq0 := qm ho0; replace BK153 := qK BK153 hk Nq2; replace HK := qT hk; replace HB := am hb; replace HI0 := am hi; (try clear hb hk hi ho0)) | ((with_reducible refine gate_dst (N := 3) rfl ?_); refine qv 3 #[.int .i64 0, .int .i64 0, .slice none 0 0] 26 ?_; intro gb167 hg w55 hbox hb; have BK167 := am hbox; have GW167 := qx hg; have GE167 := qy HW0 (qx hg); have Nq3 := qn hg BK153; have Nq5 := qN hg BK153; have Nq1 := qo hg g; have Nq4 := qO hg g; replace Oq0 := sqR Oq0 hb; replace BK153 := sqB BK153 hb; replace HK := qU hb; replace HB := qt hb; replace HI0 := qj hb; clear hb hbox hg; have bq7 := Nq5.out; have cq7 := Nq3.out; have bq8 := Nq4.out; have cq8 := Nq1.out; obtain ⟨zq36, zq37, zq38, fq36, fq37, fq38⟩ := qd BK167; obtain ⟨Ao59, co59, eo59⟩ := Kd.R_slice Oq0.out; subst eo59) | ((with_reducible refine gate_callee (f := 63) rfl ?_); refine qg (some 11) Try.func63 #[.pointer (some ⟨g, 0, none⟩), .int .i64 18] ?_; (with_reducible refine (spec_l1Cur_pick.calls g s0_0 t165 t166 18 t168 t169 t170 w0 _ ?side1 ?side2 A5.out).mono ?_); (case side1 => exact qi); (case side2 => exact qc); rintro e w60 ⟨rfl, hi, hb, hk⟩; refine ⟨_, rfl, ?_⟩; replace BK153 := am (KeepBut.blk hk (g' := gb153) (o := .cells #[.int .i64 0, .int .i64 0, .slice none 0 0] 26 (0, 0)) Q7 Nq2.out (by simp)); replace Oq0 := am (Kd.R_mono (Kd.R_keep (IsS66.apart (show IsS66 w0 _ g s0_0 t165 t166 from qi) (sqw (sqo Oq0 BK167)) (by decide)) hk (fun _ h => h.2)) (fun _ h => h.1)); replace BK167 := am (KeepBut.blk hk (g' := gb167) (o := .cells #[.int .i64 t160, .int .i64 t161, .slice Ao59 t162.length co59] 26 (0, 0)) Q5 Nq4.out (by simp)); replace HK := qT hk; replace HB := am hb; replace HI0 := am hi; (try clear hb hk hi)))
      replace Oq0 := am (Kd.R_drew Oq0.out)
      replace BK153 := am (blk_drew BK153.out)
      replace BK167 := am (blk_drew BK167.out)
      replace HI0 := am (IsS66.drew HI0.out)
      replace HK := am (keep_drew HK.out)
      replace HB := am (below_drew1 HB.out)
      refine start_ (n := 12) (S := fun w' => w'.cell? ⟨gb167, 0, none⟩ = some (.int .i64 t160) ∧ w'.cell? ⟨gb167, 1, none⟩ = some (.int .i64 t161) ∧ w'.cell? ⟨gb167, 2, none⟩ = some (.slice Ao59 t162.length co59)) (ds := [11]) #[false, false, false, false, false, false, false, false, false, false, false, false] (by kernel_rfl) rfl rfl ⟨sqc BK167 0, sqc BK167 1, sqc BK167 2⟩ (fun hHeld => ?_); refine with_tabW spec_l1Cur_board.tab8 spec_l1Cur_board.bits8 (fun HT_ HW_ => ?_)
      generalize w60.drew = w61 at Oq0 BK153 BK167 HI0 HK HB hHeld ⊢
      refine qp 0 (some 29) #[true, false, false, false, false, false, false, false, false, false, false, false] ?_
      refine qp 2 (some 31) #[true, false, true, false, false, false, false, false, false, false, false, false] ?_
      refine qp 3 (some 32) #[true, false, true, true, false, false, false, false, false, false, false, false] ?_
      refine qp 7 (some 36) #[true, false, true, true, false, false, false, true, false, false, false, false] ?_
      refine take_ (i := 1) (N := some 30) (v := ?_) (a' := ?_) #[true, true, true, true, false, false, false, true, false, false, false, false] rfl rfl (take_ofW HT_.out HW_.out (by kernel_rfl)) (fun _ _ _ h => h) (Or.inl ⟨by rfl, ?_⟩) hHeld ?_ ?_
      rotate_left
      ·
       rintro w' ⟨s0, s1, s2⟩
       go_simp
       with_reducible rfl
      rotate_left
      ·
       simp only [Act.put, List.setIfInBounds_toArray, List.set_cons_zero, List.set_cons_succ, i64_w, i32_w]
       rfl
      refine take_ (i := 4) (N := some 33) (v := ?_) (a' := ?_) #[true, true, true, true, true, false, false, true, false, false, false, false] rfl rfl (take_ofW HT_.out HW_.out (by kernel_rfl)) (fun _ _ _ h => h) (Or.inl ⟨by rfl, ?_⟩) hHeld ?_ ?_
      rotate_left
      ·
       rintro w' ⟨s0, s1, s2⟩
       go_simp
       with_reducible rfl
      rotate_left
      ·
       simp only [Act.put, List.setIfInBounds_toArray, List.set_cons_zero, List.set_cons_succ, i64_w, i32_w]
       rfl
      refine qp 5 (some 34) #[true, true, true, true, true, true, false, true, false, false, false, false] ?_
      refine join_ (σ := Value) 3 #[true, true, true, true, true, true, true, true, true, false, false, false] (fun s_ => [(35, .int .i64 t183), (37, s_)]) (fun s_ w' => (w'.cell? ⟨gb167, 0, none⟩ = some (.int .i64 t160) ∧ w'.cell? ⟨gb167, 1, none⟩ = some (.int .i64 t161) ∧ w'.cell? ⟨gb167, 2, none⟩ = some (.slice Ao59 t162.length co59)) ∧ (Kd.R (Kd.int .i64) 3 w' w.heap.size (fun k_ => some k_ ≠ (s_ : Value).ownBlock) (.slice Ao59 t162.length co59) t162) ∧ (Kd.R (Kd.int .i64) 3 w' w.heap.size (fun k_ => some k_ ≠ (.slice Ao59 t162.length co59 : Value).ownBlock) s_ y186) ∧ (w'.heap[gb153]? = some (.cells #[.int .i64 0, .int .i64 0, .slice none 0 0] 26 (0, 0))) ∧ (w'.heap[gb167]? = some (.cells #[.int .i64 t160, .int .i64 t161, .slice Ao59 t162.length co59] 26 (0, 0))) ∧ (IsS66 w0 w' g s0_0 t184 t185) ∧ (KeepBut w w' g none) ∧ (Below w0.heap.size w0 w')) ?_ ?_
      rotate_left
      ·
       intro hCont
       refine two_ (i := 6) (j := 8) (Ni := some 35) (Nj := some 37) #[true, true, true, true, true, true, true, true, false, false, false, false] #[true, true, true, true, true, true, false, true, true, false, false, false] rfl rfl rfl rfl (two_of HT_.out (by kernel_rfl)) (by decide) (by decide) (fun K hK => ?_) (fun K hK => ?_)
       ·
        skip
        refine qG Try.func63 #[.pointer (some ⟨g, 0, none⟩), .int .i64 (t162.length : Int)] ?_
        with_reducible refine (spec_l1Cur_pick.calls g s0_0 t169 t170 (t162.length : Int) t183 t184 t185 w0 _ ?side1 ?side2 A46.out).mono ?_
        (case side1 => exact qi)
        (case side2 => exact qc)
        rintro e w62 ⟨rfl, hi, hb, hk⟩
        refine ⟨_, rfl, ?_⟩
        replace BK153 := qK BK153 hk Nq2
        replace Oq0 := qR Oq0 hk
        replace BK167 := qK BK167 hk Nq4
        replace HK := qT hk
        replace HB := am hb
        replace HI0 := am hi
        (try clear hb hk hi)
        refine hK.out _ _ ⟨sqc BK167 0, sqc BK167 1, sqc BK167 2⟩ (fun hHeld => ?_)
        clear hK K
        refine qq (some 35) ?_
        refine one_ (i := 8) (N := some 37) #[true, true, true, true, true, true, true, true, true, false, false, false] rfl rfl (one_of HT_.out (by kernel_rfl)) (by decide) fun K hK => ?_
        refine Kd.R_lit_step (Kd.int .i64) _ 3 ?hg (N := 37) ?hd (xs := ([(-1), 64, 4611686018427387904] : List Int)) (inner := [.int .i64 (-1), .int .i64 64, .int .i64 4611686018427387904]) (ok := fun _ => True) (okp := fun _ => True) ?hr ?hp (fun _ hk => hk) trivial (Below.refl _ _) (Nat.le_refl _) (by simp) ?_; (case hd => rfl); (case hg => rfl); (case hr => first | (go_simp; done) | (go_simp; rfl)); (case hp => exact (Reps.one (show Kd.M (Kd.int .i64) _ _ _ (-1) [.int .i64 (-1)] from rfl) (Reps.one (show Kd.M (Kd.int .i64) _ _ _ 64 [.int .i64 64] from rfl) (Reps.one (show Kd.M (Kd.int .i64) _ _ _ 4611686018427387904 [.int .i64 4611686018427387904] from rfl) (Reps.none _ _)))))
        intro v187 w63 ho64 hb hg_ hnew_
        clear hg_ hnew_
        (first | rw [← Ny186.out] at ho64 | (simp only [Int.reduceToNat] at ho64; rw [← Ny186.out] at ho64))
        have Oq3 := am (Kd.R_lower (Kd.R_new' ho64 (sqL Oq0)) (qz w g))
        replace BK153 := sqB BK153 hb
        replace BK167 := sqB BK167 hb
        replace Oq0 := qe (sqr Oq0) ho64 hb
        replace HK := qU hb
        replace HB := qt hb
        replace HI0 := qj hb
        clear hb ho64
        refine hK.out _ _ ⟨sqc BK167 0, sqc BK167 1, sqc BK167 2⟩ (fun hHeld => ?_)
        clear hK K
        refine qq (some 37) ?_
        exact norm_ Q37 (hCont (v187) _ ⟨hHeld, (by exact sqm Oq0 (fun _ hk => hk.2)), (by exact sqm Oq3 (fun _ hk => hk.2)), (sqb BK153), (sqb BK167), qi, qk, qc⟩)
       ·
        skip
        refine Kd.R_lit_step (Kd.int .i64) _ 3 ?hg (N := 37) ?hd (xs := ([(-1), 64, 4611686018427387904] : List Int)) (inner := [.int .i64 (-1), .int .i64 64, .int .i64 4611686018427387904]) (ok := fun _ => True) (okp := fun _ => True) ?hr ?hp (fun _ hk => hk) trivial (Below.refl _ _) (Nat.le_refl _) (by simp) ?_; (case hd => rfl); (case hg => rfl); (case hr => first | (go_simp; done) | (go_simp; rfl)); (case hp => exact (Reps.one (show Kd.M (Kd.int .i64) _ _ _ (-1) [.int .i64 (-1)] from rfl) (Reps.one (show Kd.M (Kd.int .i64) _ _ _ 64 [.int .i64 64] from rfl) (Reps.one (show Kd.M (Kd.int .i64) _ _ _ 4611686018427387904 [.int .i64 4611686018427387904] from rfl) (Reps.none _ _)))))
        intro v187 w62 ho63 hb hg_ hnew_
        clear hg_ hnew_
        (first | rw [← Ny186.out] at ho63 | (simp only [Int.reduceToNat] at ho63; rw [← Ny186.out] at ho63))
        have Oq3 := am (Kd.R_lower (Kd.R_new' ho63 (sqL Oq0)) (qz w g))
        replace BK153 := sqB BK153 hb
        replace BK167 := sqB BK167 hb
        replace Oq0 := qe (sqr Oq0) ho63 hb
        replace HK := qU hb
        replace HB := qt hb
        replace HI0 := qj hb
        clear hb ho63
        refine hK.out _ _ ⟨sqc BK167 0, sqc BK167 1, sqc BK167 2⟩ (fun hHeld => ?_)
        clear hK K
        refine qq (some 37) ?_
        refine one_ (i := 6) (N := some 35) #[true, true, true, true, true, true, true, true, true, false, false, false] rfl rfl (one_of HT_.out (by kernel_rfl)) (by decide) fun K hK => ?_
        refine qG Try.func63 #[.pointer (some ⟨g, 0, none⟩), .int .i64 (t162.length : Int)] ?_
        with_reducible refine (spec_l1Cur_pick.calls g s0_0 t169 t170 (t162.length : Int) t183 t184 t185 w0 _ ?side1 ?side2 A46.out).mono ?_
        (case side1 => exact qi)
        (case side2 => exact qc)
        rintro e w64 ⟨rfl, hi, hb, hk⟩
        refine ⟨_, rfl, ?_⟩
        replace BK153 := qK BK153 hk Nq2
        replace Oq0 := qR Oq0 hk
        replace BK167 := qK BK167 hk Nq4
        replace Oq3 := qR Oq3 hk
        replace HK := qT hk
        replace HB := am hb
        replace HI0 := am hi
        (try clear hb hk hi)
        refine hK.out _ _ ⟨sqc BK167 0, sqc BK167 1, sqc BK167 2⟩ (fun hHeld => ?_)
        clear hK K
        refine qq (some 35) ?_
        exact norm_ Q37 (hCont (v187) _ ⟨hHeld, (by exact sqm Oq0 (fun _ hk => hk.2)), (by exact sqm Oq3 (fun _ hk => hk.2)), (sqb BK153), (sqb BK167), qi, qk, qc⟩)
      rintro v187 w65 ⟨hS_, h0_, h1_, h2_, h3_, h4_, h5_, h6_⟩
      have n0_ : Aside0 (Kd.R (Kd.int .i64) 3 w65 w.heap.size (fun k_ => some k_ ≠ (v187 : Value).ownBlock) (.slice Ao59 t162.length co59) t162) := ⟨h0_⟩
      have n1_ : Aside0 (Kd.R (Kd.int .i64) 3 w65 w.heap.size (fun k_ => some k_ ≠ (.slice Ao59 t162.length co59 : Value).ownBlock) v187 y186) := ⟨h1_⟩
      have n2_ : Aside0 (w65.heap[gb153]? = some (.cells #[.int .i64 0, .int .i64 0, .slice none 0 0] 26 (0, 0))) := ⟨h2_⟩
      have n3_ : Aside0 (w65.heap[gb167]? = some (.cells #[.int .i64 t160, .int .i64 t161, .slice Ao59 t162.length co59] 26 (0, 0))) := ⟨h3_⟩
      have n4_ : Aside0 (IsS66 w0 w65 g s0_0 t184 t185) := ⟨h4_⟩
      have n5_ : Aside0 (KeepBut w w65 g none) := ⟨h5_⟩
      have n6_ : Aside0 (Below w0.heap.size w0 w65) := ⟨h6_⟩
      clear Oq0 BK153 BK167 HI0 HK HB h0_ h1_ h2_ h3_ h4_ h5_ h6_
      have Oq0 := n0_
      have Oq3 := n1_
      have BK153 := n2_
      have BK167 := n3_
      have HI0 := n4_
      have HK := n5_
      have HB := n6_
      clear n0_ n1_ n2_ n3_ n4_ n5_ n6_
      have hHeld : w65.cell? ⟨gb167, 0, none⟩ = some (.int .i64 t160) ∧ w65.cell? ⟨gb167, 1, none⟩ = some (.int .i64 t161) ∧ w65.cell? ⟨gb167, 2, none⟩ = some (.slice Ao59 t162.length co59) := hS_
      obtain ⟨Ao66, co66, eo66⟩ := Kd.R_slice Oq3.out
      (first | subst eo66 | (injection eo66 with f1_ f2_ f3_; have f4_ := f1_.symm; have f5_ := f3_.symm; clear f1_ f2_ f3_; subst f4_; subst f5_))
      refine norm_ (a' := ?_) ?_ ?_
      rotate_left
      ·
       simp only [putAll, Act.put, List.setIfInBounds_toArray, List.set_cons_zero, List.set_cons_succ]
       rfl
      refine one_ (i := 9) (N := some 38) #[true, true, true, true, true, true, true, true, true, true, false, false] rfl rfl (one_of HT_.out (by kernel_rfl)) (by decide) fun K hK => ?_
      refine qG Try.func84 #[.pointer (some ⟨g, 0, none⟩), .slice Ao66 y186.length co66] ?_
      with_reducible refine (spec_l1Cur_among.calls g s0_0 t184 t185 _ _ y186 t189 t190 t191 w0 _ ?side1 ?side2 ?side3 ?side4 ?side5 A47.out).mono ?_
      (case side1 => exact qi)
      (case side2 => exact qc)
      (case side3 => repeat (first | exact (Kd.R_reads' Oq3.out).2.2 | (with_reducible first | refine Kd.C_alloc ?_ _ | refine Kd.C_drewN ?_ _ | refine Kd.C_drew ?_)))
      (case side4 => exact (Kd.R_reads' Oq3.out).2.1)
      (case side5 => exact far_slice (IsS66.own_ne HI0.out Oq3.out (by decide)))
      rintro e w67 ⟨rfl, hi, hb, hk⟩
      refine ⟨_, rfl, ?_⟩
      replace BK153 := qK BK153 hk Nq2
      replace Oq0 := qR Oq0 hk
      replace BK167 := qK BK167 hk Nq4
      replace Oq3 := qR Oq3 hk
      replace HK := qT hk
      replace HB := am hb
      replace HI0 := am hi
      (try clear hb hk hi)
      have p50 : 0 ≤ (t183 : Int) := of_decide_eq_true Q1
      have q50 : (t183 : Int) < ((t162.length : Int) : Int) := of_decide_eq_true Q1
      obtain ⟨go50, co50, eo50, gb50, gl50, cl50, HG50⟩ := Kd.R_form Oq0.out (by omega)
      (first | cases eo50 | (injection eo50 with ea_ en_ ec_; (first | subst ea_ | (injection ea_ with ea_; subst ea_)); subst ec_; clear en_))
      have GB50 := Aside0.mk gb50
      have GG50 := Aside0.mk HG50
      clear gb50 gl50 HG50
      obtain ⟨hx50_0, hf50_0⟩ := Kd.R_celln 0 Oq0.out (t183 : Int) p50 q50
      replace p50 := eq_true p50
      replace q50 := eq_true q50
      have HN0_go50 := am (show g ≠ go50 from by have h_ := IsS66.own_ne HI0.out Oq0.out (by decide); intro e_; exact h_ (by rw [e_]; rfl))
      have HP68 := Kd.R_putn Oq0.out (t183 : Int) t189
      rw [← Ny192.out] at HP68
      have HQ68 := Aside0.mk HP68
      clear HP68
      refine hK.out _ _ ⟨sqc BK167 0, sqc BK167 1, sqc BK167 2⟩ (fun hHeld => ?_)
      clear hK K
      refine qq (some 38) ?_
      refine qp 10 (some 39) #[true, true, true, true, true, true, true, true, true, true, true, false] ?_
      refine last_ (i := 11) (N := none) #[true, true, true, true, true, true, true, true, true, true, true, true] rfl rfl (one_of HT_.out (by kernel_rfl)) (by decide) fun K hK => ?_
      refine skip_ (w1 := ?_) (by rfl) rfl ?_ ?_
      rotate_left
      ·
       go_simp
       rfl
      refine hK.out _ _ ?_
      clear hK K
      refine done_ (done_of HT_.out (by kernel_rfl)) ?_
      have n0_ : Aside0 (Kd.R (Kd.int .i64) 3 (w67.setCell ⟨go50, (t183 : Int).toNat, none⟩ (.int .i64 t189)) w.heap.size (fun k_ => some k_ ≠ (.slice Ao66 y186.length co66 : Value).ownBlock) (.slice (some ⟨go50, 0, none⟩) t162.length co59) y192) := ⟨by (with_reducible repeat (first | apply Kd.R_alloc | apply Kd.R_drewN | apply Kd.R_drew)); exact HQ68.out⟩
      have n1_ : Aside0 (Kd.R (Kd.int .i64) 3 (w67.setCell ⟨go50, (t183 : Int).toNat, none⟩ (.int .i64 t189)) w.heap.size (fun k_ => some k_ ≠ (.slice (some ⟨go50, 0, none⟩) t162.length co59 : Value).ownBlock) (.slice Ao66 y186.length co66) y186) := ⟨by (with_reducible repeat (first | apply Kd.R_alloc | apply Kd.R_drewN | apply Kd.R_drew)); exact Kd.R_mono (Kd.R_far (p := ⟨go50, (t183 : Int).toNat, none⟩) (Kd.R_mono Oq3.out (fun k_ hk => (⟨hk, fun e_ => hk (by rw [e_]; rfl)⟩ : _ ∧ k_ ≠ go50))) (fun _ hk => hk.2) (.int .i64 t189)) (fun _ hk => hk.1)⟩
      have n2_ : Aside0 ((w67.setCell ⟨go50, (t183 : Int).toNat, none⟩ (.int .i64 t189)).heap[gb153]? = some (.cells #[.int .i64 0, .int .i64 0, .slice none 0 0] 26 (0, 0))) := ⟨by (with_reducible repeat (first | refine blk_drewN ?_ _ | refine blk_drew ?_ | refine blk_alloc ?_ _)); refine blk_far ?_ (by have h_ := Kd.R_ne Oq0.out BK153.out (by decide); intro e_; exact h_ (by rw [e_]; rfl)) _; (with_reducible repeat (first | refine blk_drewN ?_ _ | refine blk_drew ?_ | refine blk_alloc ?_ _)); exact BK153.out⟩
      have n3_ : Aside0 ((w67.setCell ⟨go50, (t183 : Int).toNat, none⟩ (.int .i64 t189)).heap[gb167]? = some (.cells #[.int .i64 t160, .int .i64 t161, .slice (some ⟨go50, 0, none⟩) t162.length co59] 26 (0, 0))) := ⟨by (with_reducible repeat (first | refine blk_drewN ?_ _ | refine blk_drew ?_ | refine blk_alloc ?_ _)); refine blk_far ?_ (by have h_ := Kd.R_ne Oq0.out BK167.out (by decide); intro e_; exact h_ (by rw [e_]; rfl)) _; (with_reducible repeat (first | refine blk_drewN ?_ _ | refine blk_drew ?_ | refine blk_alloc ?_ _)); exact BK167.out⟩
      have n4_ : Aside0 (IsS66 w0 (w67.setCell ⟨go50, (t183 : Int).toNat, none⟩ (.int .i64 t189)) g s0_0 t190 t191) := ⟨qi⟩
      have n5_ : Aside0 (KeepBut w (w67.setCell ⟨go50, (t183 : Int).toNat, none⟩ (.int .i64 t189)) g none) := ⟨qk⟩
      have n6_ : Aside0 (Below w0.heap.size w0 (w67.setCell ⟨go50, (t183 : Int).toNat, none⟩ (.int .i64 t189))) := ⟨qc⟩
      generalize (w67.setCell ⟨go50, (t183 : Int).toNat, none⟩ (.int .i64 t189)) = w69 at n0_ n1_ n2_ n3_ n4_ n5_ n6_ ⊢
      have Oq0 := n0_
      have Oq3 := n1_
      have BK153 := n2_
      have BK167 := n3_
      have HI0 := n4_
      have HK := n5_
      have HB := n6_
      clear n0_ n1_ n2_ n3_ n4_ n5_ n6_
      obtain ⟨zq39, zq40, zq41, fq39, fq40, fq41⟩ := qd BK167
      have bq9 := Nq2.out
      have cq9 := Nq0.out
      obtain ⟨zq42, zq43, zq44, fq42, fq43, fq44⟩ := qd BK153
      try go_wp2
      refine bodyPost_ret (results_cell_row rfl _ _ gb153 26 #[.int .i64 t160, .int .i64 t161, .slice (some ⟨go50, 0, none⟩) t162.length co59] (0, 0) _ rfl Q15 Try.underlying26 rfl (by kernel_rfl)) rfl ?_
      exact ⟨_, Q2, by (with_reducible repeat (first | apply Kd.R_alloc | apply Kd.R_drewN | apply Kd.R_drew)); exact Kd.R_mono (Kd.R_far (p := ⟨gb153, 2, none⟩) (Kd.R_far (p := ⟨gb153, 1, none⟩) (Kd.R_far (p := ⟨gb153, 0, none⟩) (Kd.R_types Oq0.out BK153.out (by decide)) (fun _ hk => hk.2) (.int .i64 t160)) (fun _ hk => hk.2) (.int .i64 t161)) (fun _ hk => hk.2) (.slice (some ⟨go50, 0, none⟩) t162.length co59)) (fun _ hk => trivial), qi, qc, qk⟩
     ·
      rw [if_neg c49] at H
      exact absurd H (by simp)
    ·
     rw [if_neg c48] at H
     exact absurd H (by simp)
   ·
    rw [if_neg c45] at H
    have c45b0 : (t168 == 2) = false := beq_eq_false_iff_ne.mpr c45
    have c45b1 : (t168 != 2) = true := bne_iff_ne.mpr c45
    by_cases c73 : t168 = 3
    ·
     rw [if_pos c73] at H
     have c73b0 : (t168 == 3) = true := beq_iff_eq.mpr c73
     have c73b1 : (t168 != 3) = false := bne_eq_false_iff_eq.mpr c73
     clear c73
     by_cases c74 : t162.length < 17592186044416
     ·
      rw [if_pos c74] at H
      have LMc74 := Aside0.mk c74
      clear c74
      obtain ⟨y193, hy_⟩ : ∃ y_ : List Int, y_ = ((t162 ++ [0])) := ⟨_, rfl⟩
      replace H : (some (t160, t161, y193, t169, t170)) = some (r1, r2, r3, r4, r5) := qH
      have Ny193 := Aside0.mk hy_
      clear hy_
      simp only [Option.some.injEq, Prod.mk.injEq] at H
      obtain ⟨rfl, rfl, rfl, rfl, rfl⟩ := H
      go_enter Try.func62, Try.ntmps62
      go_wp2_with (first | ((with_reducible refine gate_dst (N := 2) rfl ?_); refine qv 2 #[.int .i64 0, .int .i64 0, .slice none 0 0] 26 ?_; intro gb153 hg w75 hbox hb; have BK153 := am hbox; have GW153 := qx hg; have GE153 := qy HW0 (qx hg); have Nq0 := qo hg g; have Nq2 := qO hg g; replace HK := qU hb; replace HB := qt hb; replace HI0 := qj hb; clear hb hbox hg) | ((with_reducible refine gate_callee (f := 121) rfl ?_); refine qg (some 6) Try.func121 #[.pointer (some ⟨g, 0, none⟩)] ?_; (with_reducible refine (spec_l1Cur_sides.calls g s0_0 s0_1 s0_2 t154 t155 t156 w0 _ ?side1 ?side2 A2.out).mono ?_); (case side1 => exact qi); (case side2 => exact qc); rintro e w76 ⟨rfl, hi, hb, hk⟩; refine ⟨_, rfl, ?_⟩; replace BK153 := qK BK153 hk Nq2; replace HK := qT hk; replace HB := am hb; replace HI0 := am hi; (try clear hb hk hi)) | ((with_reducible refine gate_callee (f := 121) rfl ?_); refine qg (some 8) Try.func121 #[.pointer (some ⟨g, 0, none⟩)] ?_; (with_reducible refine (spec_l1Cur_sides.calls g s0_0 t155 t156 t157 t158 t159 w0 _ ?side1 ?side2 A3.out).mono ?_); (case side1 => exact qi); (case side2 => exact qc); rintro e w77 ⟨rfl, hi, hb, hk⟩; refine ⟨_, rfl, ?_⟩; replace BK153 := qK BK153 hk Nq2; replace HK := qT hk; replace HB := am hb; replace HI0 := am hi; (try clear hb hk hi)) | ((with_reducible refine gate_callee (f := 73) rfl ?_); refine qg (some 9) Try.func73 #[.pointer (some ⟨g, 0, none⟩), .int .i64 t154, .int .i64 t157] ?_; (with_reducible refine (spec_l1Cur_boardOf.calls k g s0_0 t158 t159 t154 t157 t160 t161 t162 t165 t166 w0 _ ?side1 ?side2 A4.out).mono ?_); (case side1 => exact qi); (case side2 => exact qc); rintro e w78 ⟨v163, rfl, ho0, hi, hb, hk⟩; refine ⟨_, rfl, ?_⟩; have Oq0 := qm ho0; replace BK153 := qK BK153 hk Nq2; replace HK := qT hk; replace HB := am hb; replace HI0 := am hi; (try clear hb hk hi ho0)) | ((with_reducible refine gate_dst (N := 3) rfl ?_); refine qv 3 #[.int .i64 0, .int .i64 0, .slice none 0 0] 26 ?_; intro gb167 hg w79 hbox hb; have BK167 := am hbox; have GW167 := qx hg; have GE167 := qy HW0 (qx hg); have Nq3 := qn hg BK153; have Nq5 := qN hg BK153; have Nq1 := qo hg g; have Nq4 := qO hg g; replace Oq0 := sqR Oq0 hb; replace BK153 := sqB BK153 hb; replace HK := qU hb; replace HB := qt hb; replace HI0 := qj hb; clear hb hbox hg; have bq10 := Nq5.out; have cq10 := Nq3.out; have bq11 := Nq4.out; have cq11 := Nq1.out; obtain ⟨zq45, zq46, zq47, fq45, fq46, fq47⟩ := qd BK167; obtain ⟨Ao83, co83, eo83⟩ := Kd.R_slice Oq0.out; subst eo83) | ((with_reducible refine gate_callee (f := 63) rfl ?_); refine qg (some 11) Try.func63 #[.pointer (some ⟨g, 0, none⟩), .int .i64 18] ?_; (with_reducible refine (spec_l1Cur_pick.calls g s0_0 t165 t166 18 t168 t169 t170 w0 _ ?side1 ?side2 A5.out).mono ?_); (case side1 => exact qi); (case side2 => exact qc); rintro e w84 ⟨rfl, hi, hb, hk⟩; refine ⟨_, rfl, ?_⟩; replace BK153 := am (KeepBut.blk hk (g' := gb153) (o := .cells #[.int .i64 0, .int .i64 0, .slice none 0 0] 26 (0, 0)) Q7 Nq2.out (by simp)); replace Oq0 := am (Kd.R_mono (Kd.R_keep (IsS66.apart (show IsS66 w0 _ g s0_0 t165 t166 from qi) (sqw (sqo Oq0 BK167)) (by decide)) hk (fun _ h => h.2)) (fun _ h => h.1)); replace BK167 := am (KeepBut.blk hk (g' := gb167) (o := .cells #[.int .i64 t160, .int .i64 t161, .slice Ao83 t162.length co83] 26 (0, 0)) Q5 Nq4.out (by simp)); replace HK := qT hk; replace HB := am hb; replace HI0 := am hi; (try clear hb hk hi); obtain ⟨zq48, zq49, zq50, fq48, fq49, fq50⟩ := qd BK167) | ((with_reducible refine gate_builtin (b := .append) (xs := #[.tmp 43, .tmp 44]) rfl ?_); at_builtin; refine Kd.R_append (Kd.int .i64) w.heap.size rfl (.tmp 43) (.tmp 44) 24 3 (.int .i64 0) 8 rfl Try.underlying24 info3 rfl (by decide) (by omega) (.slice Ao83 t162.length co83) t162 0 [.int .i64 0] (fun _ => True) (fun _ => False) rfl rfl ?aP (fun _ hk => hk.elim) ?aF ?aO (Below.refl _ _) ?aS ?aL ?_; (case aP => exact rfl); (case aF => exact (fun _ _ => trivial)); (case aO => exact (sqr Oq0)); (case aS => exact (qz w g)); (case aL => have := LMc74.out; omega); intro v194 w86 ho hb hg hat; rw [← Ny193.out] at ho; have Oq4 := am (ho); replace BK153 := am (blk_grown (g := gb153) (o := .cells #[.int .i64 0, .int .i64 0, .slice none 0 0] 26 (0, 0)) (sqb BK153) hg (Kd.R_ne Oq0.out BK153.out (by decide))); replace BK167 := am (blk_grown (g := gb167) (o := .cells #[.int .i64 t160, .int .i64 t161, .slice Ao83 t162.length co83] 26 (0, 0)) (sqb BK167) hg (Kd.R_ne Oq0.out BK167.out (by decide))); replace HB := am (below_weaken qc HL.out hb); replace HI0 := am (IsS66.grown qi hg (IsS66.own_ne HI0.out Oq0.out (by decide))); replace HK := am (KeepBut.trans qk (KeepBut.of_grown hg g) (Kd.R_base2 Oq0.out)); clear Oq0; clear ho hb hg hat; obtain ⟨Ao87, co87, eo87⟩ := Kd.R_slice Oq4.out; subst eo87; obtain ⟨zq51, zq52, zq53, fq51, fq52, fq53⟩ := qd BK167; have bq12 := Nq2.out; have cq12 := Nq0.out; obtain ⟨zq54, zq55, zq56, fq54, fq55, fq56⟩ := qd BK153))
      refine bodyPost_ret (results_cell_row rfl _ _ gb153 26 #[.int .i64 t160, .int .i64 t161, .slice Ao87 y193.length co87] (0, 0) _ rfl (by (with_reducible repeat (first | refine blk_drewN ?_ _ | refine blk_drew ?_ | refine blk_alloc ?_ _)); refine blk_put (cs := #[.int .i64 t160, .int .i64 t161, .slice none 0 0]) ?_ 2 _ rfl; (with_reducible repeat (first | refine blk_drewN ?_ _ | refine blk_drew ?_ | refine blk_alloc ?_ _)); refine blk_put (cs := #[.int .i64 t160, .int .i64 0, .slice none 0 0]) ?_ 1 _ rfl; (with_reducible repeat (first | refine blk_drewN ?_ _ | refine blk_drew ?_ | refine blk_alloc ?_ _)); refine blk_put (cs := #[.int .i64 0, .int .i64 0, .slice none 0 0]) ?_ 0 _ rfl; (with_reducible repeat (first | refine blk_drewN ?_ _ | refine blk_drew ?_ | refine blk_alloc ?_ _)); refine blk_far ?_ Nq3.out _; (with_reducible repeat (first | refine blk_drewN ?_ _ | refine blk_drew ?_ | refine blk_alloc ?_ _)); exact BK153.out) Try.underlying26 rfl (by kernel_rfl)) rfl ?_
      exact ⟨_, Q2, by (with_reducible repeat (first | apply Kd.R_alloc | apply Kd.R_drewN | apply Kd.R_drew)); exact Kd.R_mono (Kd.R_far (p := ⟨gb153, 2, none⟩) (Kd.R_far (p := ⟨gb153, 1, none⟩) (Kd.R_far (p := ⟨gb153, 0, none⟩) (Kd.R_far (p := ⟨gb167, 2, none⟩) (Kd.R_types (Kd.R_types Oq4.out BK167.out (by decide)) BK153.out (by decide)) (fun _ hk => hk.1.2) (.slice Ao87 y193.length co87)) (fun _ hk => hk.2) (.int .i64 t160)) (fun _ hk => hk.2) (.int .i64 t161)) (fun _ hk => hk.2) (.slice Ao87 y193.length co87)) (fun _ hk => trivial), qi, qc, qk⟩
     ·
      rw [if_neg c74] at H
      exact absurd H (by simp)
    ·
     rw [if_neg c73] at H
     have c73b0 : (t168 == 3) = false := beq_eq_false_iff_ne.mpr c73
     have c73b1 : (t168 != 3) = true := bne_iff_ne.mpr c73
     simp only [Option.some.injEq, Prod.mk.injEq] at H
     obtain ⟨rfl, rfl, rfl, rfl, rfl⟩ := H
     go_enter Try.func62, Try.ntmps62
     go_wp2_with (first | ((with_reducible refine gate_dst (N := 2) rfl ?_); refine qv 2 #[.int .i64 0, .int .i64 0, .slice none 0 0] 26 ?_; intro gb153 hg w91 hbox hb; have BK153 := am hbox; have GW153 := qx hg; have GE153 := qy HW0 (qx hg); have Nq0 := qo hg g; have Nq2 := qO hg g; replace HK := qU hb; replace HB := qt hb; replace HI0 := qj hb; clear hb hbox hg) | ((with_reducible refine gate_callee (f := 121) rfl ?_); refine qg (some 6) Try.func121 #[.pointer (some ⟨g, 0, none⟩)] ?_; (with_reducible refine (spec_l1Cur_sides.calls g s0_0 s0_1 s0_2 t154 t155 t156 w0 _ ?side1 ?side2 A2.out).mono ?_); (case side1 => exact qi); (case side2 => exact qc); rintro e w92 ⟨rfl, hi, hb, hk⟩; refine ⟨_, rfl, ?_⟩; replace BK153 := qK BK153 hk Nq2; replace HK := qT hk; replace HB := am hb; replace HI0 := am hi; (try clear hb hk hi)) | ((with_reducible refine gate_callee (f := 121) rfl ?_); refine qg (some 8) Try.func121 #[.pointer (some ⟨g, 0, none⟩)] ?_; (with_reducible refine (spec_l1Cur_sides.calls g s0_0 t155 t156 t157 t158 t159 w0 _ ?side1 ?side2 A3.out).mono ?_); (case side1 => exact qi); (case side2 => exact qc); rintro e w93 ⟨rfl, hi, hb, hk⟩; refine ⟨_, rfl, ?_⟩; replace BK153 := qK BK153 hk Nq2; replace HK := qT hk; replace HB := am hb; replace HI0 := am hi; (try clear hb hk hi)) | ((with_reducible refine gate_callee (f := 73) rfl ?_); refine qg (some 9) Try.func73 #[.pointer (some ⟨g, 0, none⟩), .int .i64 t154, .int .i64 t157] ?_; (with_reducible refine (spec_l1Cur_boardOf.calls k g s0_0 t158 t159 t154 t157 t160 t161 t162 t165 t166 w0 _ ?side1 ?side2 A4.out).mono ?_); (case side1 => exact qi); (case side2 => exact qc); rintro e w94 ⟨v163, rfl, ho0, hi, hb, hk⟩; refine ⟨_, rfl, ?_⟩; have Oq0 := qm ho0; replace BK153 := qK BK153 hk Nq2; replace HK := qT hk; replace HB := am hb; replace HI0 := am hi; (try clear hb hk hi ho0)) | ((with_reducible refine gate_dst (N := 3) rfl ?_); refine qv 3 #[.int .i64 0, .int .i64 0, .slice none 0 0] 26 ?_; intro gb167 hg w95 hbox hb; have BK167 := am hbox; have GW167 := qx hg; have GE167 := qy HW0 (qx hg); have Nq3 := qn hg BK153; have Nq5 := qN hg BK153; have Nq1 := qo hg g; have Nq4 := qO hg g; replace Oq0 := sqR Oq0 hb; replace BK153 := sqB BK153 hb; replace HK := qU hb; replace HB := qt hb; replace HI0 := qj hb; clear hb hbox hg; have bq13 := Nq5.out; have cq13 := Nq3.out; have bq14 := Nq4.out; have cq14 := Nq1.out; obtain ⟨zq57, zq58, zq59, fq57, fq58, fq59⟩ := qd BK167; obtain ⟨Ao99, co99, eo99⟩ := Kd.R_slice Oq0.out; subst eo99) | ((with_reducible refine gate_callee (f := 63) rfl ?_); refine qg (some 11) Try.func63 #[.pointer (some ⟨g, 0, none⟩), .int .i64 18] ?_; (with_reducible refine (spec_l1Cur_pick.calls g s0_0 t165 t166 18 t168 t169 t170 w0 _ ?side1 ?side2 A5.out).mono ?_); (case side1 => exact qi); (case side2 => exact qc); rintro e w100 ⟨rfl, hi, hb, hk⟩; refine ⟨_, rfl, ?_⟩; replace BK153 := am (KeepBut.blk hk (g' := gb153) (o := .cells #[.int .i64 0, .int .i64 0, .slice none 0 0] 26 (0, 0)) Q7 Nq2.out (by simp)); replace Oq0 := am (Kd.R_mono (Kd.R_keep (IsS66.apart (show IsS66 w0 _ g s0_0 t165 t166 from qi) (sqw (sqo Oq0 BK167)) (by decide)) hk (fun _ h => h.2)) (fun _ h => h.1)); replace BK167 := am (KeepBut.blk hk (g' := gb167) (o := .cells #[.int .i64 t160, .int .i64 t161, .slice Ao99 t162.length co99] 26 (0, 0)) Q5 Nq4.out (by simp)); replace HK := qT hk; replace HB := am hb; replace HI0 := am hi; (try clear hb hk hi); obtain ⟨zq0, zq1, zq2, fq0, fq1, fq2⟩ := qd BK167; have bq0 := Nq2.out; have cq0 := Nq0.out; obtain ⟨zq3, zq4, zq5, fq3, fq4, fq5⟩ := qd BK153))
     refine bodyPost_ret (results_cell_row rfl _ _ gb153 26 #[.int .i64 t160, .int .i64 t161, .slice Ao99 t162.length co99] (0, 0) _ rfl Q15 Try.underlying26 rfl (by kernel_rfl)) rfl ?_
     exact ⟨_, Q2, by (with_reducible repeat (first | apply Kd.R_alloc | apply Kd.R_drewN | apply Kd.R_drew)); exact Kd.R_mono (Kd.R_far (p := ⟨gb153, 2, none⟩) (Kd.R_far (p := ⟨gb153, 1, none⟩) (Kd.R_far (p := ⟨gb153, 0, none⟩) (Kd.R_types Oq0.out BK153.out (by decide)) (fun _ hk => hk.2) (.int .i64 t160)) (fun _ hk => hk.2) (.int .i64 t161)) (fun _ hk => hk.2) (.slice Ao99 t162.length co99)) (fun _ hk => trivial), qi, qc, qk⟩

/-! ### spec_l1Cur_rooks: function 100 -/
def spec_l1Cur_rooks.f (s0_0 : List Int) (s0_1 : Int) (s0_2 : Int) : Option (Int × Int × Int) := (spec_l1Cur_one.f s0_0 s0_1 s0_2 12).bind fun bt196 => (if bt196.1 = true then ((spec_l1Cur_among.f s0_0 bt196.2.1 bt196.2.2 (([(-1), 6, 7] : List Int))).bind fun bt202 => (some (bt202.1, bt202.2.1, bt202.2.2))) else ((spec_l1Cur_pick.f s0_0 bt196.2.1 bt196.2.2 5).bind fun bt205 => (some (bt205.1, bt205.2.1, bt205.2.2))))
set_option maxHeartbeats 8000000 in
set_option maxRecDepth 100000 in
theorem spec_l1Cur_rooks.calls (g : Nat) (s0_0 : List Int) (s0_1 : Int) (s0_2 : Int) (r1 : Int) (r2 : Int) (r3 : Int) (w0 w : World) (hI : IsS66 w0 w g s0_0 s0_1 s0_2) (hB : Below w0.heap.size w0 w) (h : spec_l1Cur_rooks.f s0_0 s0_1 s0_2 = some (r1, r2, r3)) :
  Calls Try.prog 100 #[.pointer (some ⟨g, 0, none⟩)] w fun e w' => e = .returned (.int .i64 r1) ∧ IsS66 w0 w' g s0_0 r2 r3 ∧ Below w0.heap.size w0 w' ∧ KeepBut w w' g none := by
 have HI0 := Aside0.mk hI
 have HK := am (KeepBut.refl w g none)
 have HL := Aside0.mk hB.size
 clear hI
 have HW0 := Aside0.mk hB.size
 have HB := Aside0.mk hB
 clear hB
 have H : ((spec_l1Cur_one.f s0_0 s0_1 s0_2 12).bind fun bt196 => (if bt196.1 = true then ((spec_l1Cur_among.f s0_0 bt196.2.1 bt196.2.2 (([(-1), 6, 7] : List Int))).bind fun bt202 => (some (bt202.1, bt202.2.1, bt202.2.2))) else ((spec_l1Cur_pick.f s0_0 bt196.2.1 bt196.2.2 5).bind fun bt205 => (some (bt205.1, bt205.2.1, bt205.2.2))))) = some (r1, r2, r3) := h
 clear h
 replace H := qE H
 obtain ⟨⟨t196, t197, t198⟩, A2, H⟩ := H
 replace H : (if t196 = true then ((spec_l1Cur_among.f s0_0 t197 t198 (([(-1), 6, 7] : List Int))).bind fun bt202 => (some (bt202.1, bt202.2.1, bt202.2.2))) else ((spec_l1Cur_pick.f s0_0 t197 t198 5).bind fun bt205 => (some (bt205.1, bt205.2.1, bt205.2.2)))) = some (r1, r2, r3) := H
 by_cases c3 : t196 = true
 ·
  subst c3
  have H1 : ((spec_l1Cur_among.f s0_0 t197 t198 (([(-1), 6, 7] : List Int))).bind fun bt202 => (some (bt202.1, bt202.2.1, bt202.2.2))) = some (r1, r2, r3) := by first | (rw [if_pos rfl] at H; exact H) | rfl
  clear H
  have H := H1
  clear H1
  obtain ⟨y199, hy_⟩ : ∃ y_ : List Int, y_ = ((([(-1), 6, 7] : List Int))) := ⟨_, rfl⟩
  replace H : ((spec_l1Cur_among.f s0_0 t197 t198 y199).bind fun bt202 => (some (bt202.1, bt202.2.1, bt202.2.2))) = some (r1, r2, r3) := qH
  have Ny199 := Aside0.mk hy_
  clear hy_
  replace H := qE H
  obtain ⟨⟨t202, t203, t204⟩, A4, H⟩ := H
  replace H : (some (t202, t203, t204)) = some (r1, r2, r3) := H
  simp only [Option.some.injEq, Prod.mk.injEq] at H
  obtain ⟨rfl, rfl, rfl⟩ := H
  go_enter Try.func100, Try.ntmps100
  go_wp2_with (first | ((with_reducible refine gate_callee (f := 72) rfl ?_); refine qg (some 4) Try.func72 #[.pointer (some ⟨g, 0, none⟩), .int .i64 12] ?_; (with_reducible refine (spec_l1Cur_one.calls g s0_0 s0_1 s0_2 12 true t197 t198 w0 _ ?side1 ?side2 A2.out).mono ?_); (case side1 => exact qi); (case side2 => exact qc); rintro e w5 ⟨rfl, hi, hb, hk⟩; refine ⟨_, rfl, ?_⟩; replace HK := qT hk; replace HB := am hb; replace HI0 := am hi; (try clear hb hk hi)) | ((with_reducible refine gate_dst (N := 6) rfl ?_); refine Kd.R_lit (Kd.int .i64) _ 3 ?hg (N := 6) ?hd (xs := ([(-1), 6, 7] : List Int)) (inner := [.int .i64 (-1), .int .i64 6, .int .i64 7]) (ok := fun _ => True) (okp := fun _ => True) ?hr ?hp (fun _ hk => hk) trivial (Below.refl _ _) (Nat.le_refl _) (by simp) ?_; (case hd => rfl); (case hg => rfl); (case hr => first | (go_simp; done) | (go_simp; rfl)); (case hp => exact (Reps.one (show Kd.M (Kd.int .i64) _ _ _ (-1) [.int .i64 (-1)] from rfl) (Reps.one (show Kd.M (Kd.int .i64) _ _ _ 6 [.int .i64 6] from rfl) (Reps.one (show Kd.M (Kd.int .i64) _ _ _ 7 [.int .i64 7] from rfl) (Reps.none _ _))))); intro v200 w6 ho7 hb hg_ hnew_; clear hg_ hnew_; (first | rw [← Ny199.out] at ho7 | (simp only [Int.reduceToNat] at ho7; rw [← Ny199.out] at ho7)); have Oq5 := qm ho7; replace HK := qU hb; replace HB := qt hb; replace HI0 := qj hb; clear hb ho7; obtain ⟨Ao8, co8, eo8⟩ := Kd.R_slice Oq5.out; subst eo8) | ((with_reducible refine gate_callee (f := 84) rfl ?_); refine qg (some 7) Try.func84 #[.pointer (some ⟨g, 0, none⟩), .slice Ao8 y199.length co8] ?_; (with_reducible refine (spec_l1Cur_among.calls g s0_0 t197 t198 _ _ y199 t202 t203 t204 w0 _ ?side1 ?side2 ?side3 ?side4 ?side5 A4.out).mono ?_); (case side1 => exact qi); (case side2 => exact qc); (case side3 => repeat (first | exact (Kd.R_reads' Oq5.out).2.2 | (with_reducible first | refine Kd.C_alloc ?_ _ | refine Kd.C_drewN ?_ _ | refine Kd.C_drew ?_))); (case side4 => exact (Kd.R_reads' Oq5.out).2.1); (case side5 => exact far_slice (IsS66.own_ne HI0.out Oq5.out (by decide))); rintro e w9 ⟨rfl, hi, hb, hk⟩; refine ⟨_, rfl, ?_⟩; replace Oq5 := qR Oq5 hk; replace HK := qT hk; replace HB := am hb; replace HI0 := am hi; (try clear hb hk hi)))
  go_ret
  exact ⟨Q2, qi, qc, qk⟩
 ·
  replace c3 := Bool.eq_false_iff.mpr c3
  subst c3
  have H1 : ((spec_l1Cur_pick.f s0_0 t197 t198 5).bind fun bt205 => (some (bt205.1, bt205.2.1, bt205.2.2))) = some (r1, r2, r3) := by first | (rw [if_neg (show ¬ (false = true) by decide)] at H; exact H) | rfl
  clear H
  have H := H1
  clear H1
  replace H := qE H
  obtain ⟨⟨t205, t206, t207⟩, A10, H⟩ := H
  replace H : (some (t205, t206, t207)) = some (r1, r2, r3) := H
  simp only [Option.some.injEq, Prod.mk.injEq] at H
  obtain ⟨rfl, rfl, rfl⟩ := H
  go_enter Try.func100, Try.ntmps100
  go_wp2_with (first | ((with_reducible refine gate_callee (f := 72) rfl ?_); refine qg (some 4) Try.func72 #[.pointer (some ⟨g, 0, none⟩), .int .i64 12] ?_; (with_reducible refine (spec_l1Cur_one.calls g s0_0 s0_1 s0_2 12 false t197 t198 w0 _ ?side1 ?side2 A2.out).mono ?_); (case side1 => exact qi); (case side2 => exact qc); rintro e w11 ⟨rfl, hi, hb, hk⟩; refine ⟨_, rfl, ?_⟩; replace HK := qT hk; replace HB := am hb; replace HI0 := am hi; (try clear hb hk hi)) | ((with_reducible refine gate_callee (f := 63) rfl ?_); refine qg (some 9) Try.func63 #[.pointer (some ⟨g, 0, none⟩), .int .i64 5] ?_; (with_reducible refine (spec_l1Cur_pick.calls g s0_0 t197 t198 5 t205 t206 t207 w0 _ ?side1 ?side2 A10.out).mono ?_); (case side1 => exact qi); (case side2 => exact qc); rintro e w12 ⟨rfl, hi, hb, hk⟩; refine ⟨_, rfl, ?_⟩; replace HK := qT hk; replace HB := am hb; replace HI0 := am hi; (try clear hb hk hi)))
  go_ret
  exact ⟨Q2, qi, qc, qk⟩

/-! ### spec_l1In: function 104 -/
def spec_l1In.f (a0 : Int) (a1 : Int) (a2 : Int) : Option (Bool) := if a0 ≥ a1 then (some (decide (a0 ≤ a2))) else (some false)
set_option maxHeartbeats 8000000 in
set_option maxRecDepth 100000 in
theorem spec_l1In.calls (a0 : Int) (a1 : Int) (a2 : Int) (r : Bool) (w : World) (h : spec_l1In.f a0 a1 a2 = some r) :
  Calls Try.prog 104 #[.int .i64 a0, .int .i64 a1, .int .i64 a2] w fun e w' => e = .returned (.bool r) ∧ Drawn0 w w' := by
 have H : (if a0 ≥ a1 then (some (decide (a0 ≤ a2))) else (some false)) = some r := h
 clear h
 by_cases c4 : a0 ≥ a1
 ·
  rw [if_pos c4] at H
  have c4b0 : decide (a1 ≤ a0) = true := decide_eq_true c4
  clear c4
  obtain rfl := Option.some.inj H
  go_enter Try.func104, Try.ntmps104
  go_wp2
  go_ret
  exact ⟨Q3, Q4⟩
 ·
  rw [if_neg c4] at H
  have c4b0 : decide (a1 ≤ a0) = false := decide_eq_false c4
  clear c4
  obtain rfl := Option.some.inj H
  go_enter Try.func104, Try.ntmps104
  go_wp2
  go_ret
  exact ⟨Q3, Q4⟩

/-! ### spec_boSide: function 76 -/
def spec_boSide.f (a0 : Int) : Option (Bool) := (spec_l1In.f a0 1 6).bind fun t208 => (some t208)
set_option maxHeartbeats 8000000 in
set_option maxRecDepth 100000 in
theorem spec_boSide.calls (a0 : Int) (r : Bool) (w : World) (h : spec_boSide.f a0 = some r) :
  Calls Try.prog 76 #[.int .i64 a0] w fun e w' => e = .returned (.bool r) ∧ Drawn0 w w' := by
 have H : ((spec_l1In.f a0 1 6).bind fun t208 => (some t208)) = some r := h
 clear h
 replace H := qE H
 obtain ⟨t208, A2, H⟩ := H
 replace H : (some t208) = some r := H
 obtain rfl := Option.some.inj H
 go_enter Try.func76, Try.ntmps76
 go_wp2_with (first | ((with_reducible refine gate_callee (f := 104) rfl ?_); refine qg (some 4) Try.func104 #[.int .i64 a0, .int .i64 1, .int .i64 6] ?_; (with_reducible refine (spec_l1In.calls a0 1 6 t208 _ A2.out).mono ?_); rintro e w' ⟨rfl, ⟨nd, rfl⟩⟩; refine ⟨_, rfl, ?_⟩))
 go_ret
 exact ⟨Q3, Q4⟩

/-! ### spec_l1All: function 115 -/
def spec_l1All.l0 : Nat → Int → Int → List Int → Int → Int → Option (Bool)
 | 0, _, _, _, _, _ => none
 | k + 1, x1, x2, x9, x10, x11 => if x11 < x10 then (if 0 ≤ x11 then (if x11 < (x9.length : Int) then ((spec_l1In.f (rd x9 x11) x1 x2).bind fun t210 => (if t210 = true then (spec_l1All.l0 k x1 x2 x9 x10 (wrap64 (x11 + 1))) else (some false))) else (none)) else (none)) else (some true)
def spec_l1All.f (k : Nat) (l0 : List Int) (a1 : Int) (a2 : Int) : Option (Bool) := spec_l1All.l0 k a1 a2 l0 (l0.length : Int) 0
set_option maxHeartbeats 8000000 in
set_option maxRecDepth 100000 in
theorem spec_l1All.calls (k : Nat) (A0 : Option Addr) (c0 : Nat) (l0 : List Int) (a1 : Int) (a2 : Int) (r : Bool) (w : World) (hr0 : Kd.C (Kd.int .i64) w A0 l0.length l0) (hc0 : l0.length ≤ c0) (h : spec_l1All.f k l0 a1 a2 = some r) :
  Calls Try.prog 115 #[.slice A0 l0.length c0, .int .i64 a1, .int .i64 a2] w fun e w' => e = .returned (.bool r) ∧ Drawn0 w w' := by
 have HR0 := Aside0.mk hr0
 have HC0 := Aside0.mk hc0
 clear hr0 hc0
 have H : (spec_l1All.l0 k a1 a2 l0 (l0.length : Int) 0) = some r := h
 clear h
 have H' := Aside0.mk H
 clear H
 go_enter Try.func115, Try.ntmps115
 go_wp2
 go_loopg [11] k (fun kq v11 w' => ∃ (x11_1 : Int), v11 = .int .i64 x11_1 ∧ Aside0 (spec_l1All.l0 kq a1 a2 l0 (l0.length : Int) x11_1 = some r) ∧ Aside0 (kq ≤ k) ∧ Drawn0 w w')
 case atStart => exact ⟨(0), Q3, H', ⟨Nat.le_refl _⟩, Q4⟩
 case round =>
  clear H'
  obtain ⟨x11_1, rfl, HA, HK1, ⟨m1, rfl⟩⟩ := hrel
  cases gk with
  | zero => exact absurd HA.out (by simp [spec_l1All.l0])
  | succ k1 =>
   have H := HA.out
   clear HA
   simp only [spec_l1All.l0] at H
   by_cases c4 : x11_1 < (l0.length : Int)
   ·
    rw [if_pos c4] at H
    have c4b0 : decide (x11_1 < (l0.length : Int)) = true := decide_eq_true c4
    clear c4
    by_cases c5 : 0 ≤ x11_1
    ·
     rw [if_pos c5] at H
     have c5b0 : decide (0 ≤ x11_1) = true := decide_eq_true c5
     clear c5
     by_cases c6 : x11_1 < (l0.length : Int)
     ·
      rw [if_pos c6] at H
      have c6b0 : decide (x11_1 < (l0.length : Int)) = true := decide_eq_true c6
      clear c6
      replace H := qE H
      obtain ⟨t210, A7, H⟩ := H
      replace H : (if t210 = true then (spec_l1All.l0 k1 a1 a2 l0 (l0.length : Int) (wrap64 (x11_1 + 1))) else (some false)) = some r := H
      by_cases c8 : t210 = true
      ·
       subst c8
       have H1 : (spec_l1All.l0 k1 a1 a2 l0 (l0.length : Int) (wrap64 (x11_1 + 1))) = some r := by first | (rw [if_pos rfl] at H; exact H) | rfl
       clear H
       have H := H1
       clear H1
       have H' := Aside0.mk H
       clear H
       have p209 : 0 ≤ (x11_1 : Int) := of_decide_eq_true Q1
       have q209 : x11_1 < (l0.length : Int) := of_decide_eq_true Q1
       obtain ⟨ad209, e209, hx209_0⟩ := Kd.at_int HR0.out x11_1 p209 q209
       cases e209
       replace p209 := eq_true p209
       replace q209 := eq_true q209
       go_wp2_with (first | ((with_reducible refine gate_callee (f := 104) rfl ?_); refine qg (some 18) Try.func104 #[.int .i64 (rd l0 x11_1), .int .i64 a1, .int .i64 a2] ?_; (with_reducible refine (spec_l1In.calls (rd l0 x11_1) a1 a2 true _ A7.out).mono ?_); rintro e w' ⟨rfl, ⟨nd, rfl⟩⟩; refine ⟨_, rfl, ?_⟩))
       go_roundg k1
       case measure => have := HK1.out; omega
       case rel => exact ⟨(wrap64 (x11_1 + 1)), Q3, H', ⟨Q42⟩, Q4⟩
      ·
       replace c8 := Bool.eq_false_iff.mpr c8
       subst c8
       have H1 : (some false) = some r := by first | (rw [if_neg (show ¬ (false = true) by decide)] at H; exact H) | rfl
       clear H
       have H := H1
       clear H1
       obtain rfl := Option.some.inj H
       have p209 : 0 ≤ (x11_1 : Int) := of_decide_eq_true Q1
       have q209 : x11_1 < (l0.length : Int) := of_decide_eq_true Q1
       obtain ⟨ad209, e209, hx209_0⟩ := Kd.at_int HR0.out x11_1 p209 q209
       cases e209
       replace p209 := eq_true p209
       replace q209 := eq_true q209
       go_wp2_with (first | ((with_reducible refine gate_callee (f := 104) rfl ?_); refine qg (some 18) Try.func104 #[.int .i64 (rd l0 x11_1), .int .i64 a1, .int .i64 a2] ?_; (with_reducible refine (spec_l1In.calls (rd l0 x11_1) a1 a2 false _ A7.out).mono ?_); rintro e w' ⟨rfl, ⟨nd, rfl⟩⟩; refine ⟨_, rfl, ?_⟩))
       go_ret
       exact ⟨Q3, Q4⟩
     ·
      rw [if_neg c6] at H
      exact absurd H (by simp)
    ·
     rw [if_neg c5] at H
     exact absurd H (by simp)
   ·
    rw [if_neg c4] at H
    have c4b0 : decide (x11_1 < (l0.length : Int)) = false := decide_eq_false c4
    clear c4
    obtain rfl := Option.some.inj H
    go_wp2
    go_ret
    exact ⟨Q3, Q4⟩

/-! ### spec_boGood: function 60 -/
def spec_boGood.f (k : Nat) (a0_0 : Int) (a0_1 : Int) (l0_2 : List Int) : Option (Bool) := (spec_boSide.f a0_0).bind fun t212 => (if t212 = true then ((spec_boSide.f a0_1).bind fun t213 => (if t213 = true then (if (l0_2.length : Int) = a0_0 then (if 0 ≤ a0_1 then ((spec_l1All.f k l0_2 0 (wrap64 ((shl .i64 1 a0_1) - 1))).bind fun t214 => (some t214)) else (none)) else (some false)) else (some false))) else (some false))
set_option maxHeartbeats 8000000 in
set_option maxRecDepth 100000 in
theorem spec_boGood.calls (k : Nat) (a0_0 : Int) (a0_1 : Int) (A0_2 : Option Addr) (c0_2 : Nat) (l0_2 : List Int) (r : Bool) (w : World) (hr0_2 : Kd.C (Kd.int .i64) w A0_2 l0_2.length l0_2) (hc0_2 : l0_2.length ≤ c0_2) (h : spec_boGood.f k a0_0 a0_1 l0_2 = some r) :
  Calls Try.prog 60 #[.agg #[.int .i64 a0_0, .int .i64 a0_1, .slice A0_2 l0_2.length c0_2]] w fun e w' => e = .returned (.bool r) ∧ Below w.heap.size w w' := by
 have hu26 := Try.underlying26
 have HR0_2 := Aside0.mk hr0_2
 have HC0_2 := Aside0.mk hc0_2
 clear hr0_2 hc0_2
 have HB := am (Below.refl w.heap.size w)
 have H : ((spec_boSide.f a0_0).bind fun t212 => (if t212 = true then ((spec_boSide.f a0_1).bind fun t213 => (if t213 = true then (if (l0_2.length : Int) = a0_0 then (if 0 ≤ a0_1 then ((spec_l1All.f k l0_2 0 (wrap64 ((shl .i64 1 a0_1) - 1))).bind fun t214 => (some t214)) else (none)) else (some false)) else (some false))) else (some false))) = some r := h
 clear h
 replace H := qE H
 obtain ⟨t212, A2, H⟩ := H
 replace H : (if t212 = true then ((spec_boSide.f a0_1).bind fun t213 => (if t213 = true then (if (l0_2.length : Int) = a0_0 then (if 0 ≤ a0_1 then ((spec_l1All.f k l0_2 0 (wrap64 ((shl .i64 1 a0_1) - 1))).bind fun t214 => (some t214)) else (none)) else (some false)) else (some false))) else (some false)) = some r := H
 by_cases c3 : t212 = true
 ·
  subst c3
  have H1 : ((spec_boSide.f a0_1).bind fun t213 => (if t213 = true then (if (l0_2.length : Int) = a0_0 then (if 0 ≤ a0_1 then ((spec_l1All.f k l0_2 0 (wrap64 ((shl .i64 1 a0_1) - 1))).bind fun t214 => (some t214)) else (none)) else (some false)) else (some false))) = some r := by first | (rw [if_pos rfl] at H; exact H) | rfl
  clear H
  have H := H1
  clear H1
  replace H := qE H
  obtain ⟨t213, A4, H⟩ := H
  replace H : (if t213 = true then (if (l0_2.length : Int) = a0_0 then (if 0 ≤ a0_1 then ((spec_l1All.f k l0_2 0 (wrap64 ((shl .i64 1 a0_1) - 1))).bind fun t214 => (some t214)) else (none)) else (some false)) else (some false)) = some r := H
  by_cases c5 : t213 = true
  ·
   subst c5
   have H1 : (if (l0_2.length : Int) = a0_0 then (if 0 ≤ a0_1 then ((spec_l1All.f k l0_2 0 (wrap64 ((shl .i64 1 a0_1) - 1))).bind fun t214 => (some t214)) else (none)) else (some false)) = some r := by first | (rw [if_pos rfl] at H; exact H) | rfl
   clear H
   have H := H1
   clear H1
   by_cases c6 : (l0_2.length : Int) = a0_0
   ·
    rw [if_pos c6] at H
    have c6b0 : ((l0_2.length : Int) == a0_0) = true := beq_iff_eq.mpr c6
    have c6b1 : ((l0_2.length : Int) != a0_0) = false := bne_eq_false_iff_eq.mpr c6
    clear c6
    by_cases c7 : 0 ≤ a0_1
    ·
     rw [if_pos c7] at H
     have c7b0 := eq_true c7
     have c7b1 : decide (0 ≤ a0_1) = true := decide_eq_true c7
     clear c7
     obtain ⟨ji8, hji8⟩ : ∃ j_ : Int, (shl .i64 1 a0_1) = j_ := ⟨_, rfl⟩
     replace H : ((spec_l1All.f k l0_2 0 (wrap64 ((ji8) - 1))).bind fun t214 => (some t214)) = some r := by first | (rw [hji8] at H; exact H) | (simp only [hji8] at H ⊢; exact H)
     (try rw [hji8] at A2)
     (try rw [hji8] at A4)
     have hji8_ : (IntKind.i64.wrap (1 * 2 ^ min a0_1.toNat 64)) = ji8 := hji8
     have hji8z : a0_1 ≤ 64 → (IntKind.i64.wrap (1 * 2 ^ a0_1.toNat)) = ji8 := shl_small hji8
     have hji8u : (IntKind.i64.wrap (2 ^ min a0_1.toNat 64)) = ji8 := by have h_ := hji8_; rw [Int.one_mul] at h_; exact h_
     have hji8v : a0_1 ≤ 64 → (IntKind.i64.wrap (2 ^ a0_1.toNat)) = ji8 := fun hle_ => by have h_ := hji8z hle_; rw [Int.one_mul] at h_; exact h_
     have hji8y : (wrap64 (1 * 2 ^ min a0_1.toNat 64)) = ji8 := (i64_w _).symm.trans hji8_
     have hji8x : a0_1 ≤ 64 → (wrap64 (1 * 2 ^ a0_1.toNat)) = ji8 := fun h_ => (i64_w _).symm.trans (hji8z h_)
     replace H := qE H
     obtain ⟨t214, A9, H⟩ := H
     replace H : (some t214) = some r := H
     obtain rfl := Option.some.inj H
     go_enter Try.func60, Try.ntmps60
     go_wp2_with (first | ((with_reducible refine gate_dst (N := 1) rfl ?_); (try (refine gate_guard (by rfl) ?_; dsimp only)); refine qv 1 #[.int .i64 a0_0, .int .i64 a0_1, .slice A0_2 l0_2.length c0_2] 26 ?_; intro gb211 hg w10 hbox hb; have BK211 := am hbox; have GW211 := qw hg; have GE211 := qw hg; replace HB := qs hb; clear hb hbox hg; obtain ⟨zq6, zq7, zq8, fq6, fq7, fq8⟩ := qd BK211) | (go_at_call 76; (with_reducible refine (spec_boSide.calls a0_0 true _ A2.out).mono ?_); rintro e w' ⟨rfl, ⟨nd, rfl⟩⟩; (try first | exact ⟨rfl, _, World.drewN_drewN _ _ _⟩ | exact ⟨rfl, _, Eq.trans (World.drewN_drewN _ _ _) (congrArg (World.drewN _) (Nat.add_assoc _ _ _))⟩)) | (go_at_call 76; (with_reducible refine (spec_boSide.calls a0_1 true _ A4.out).mono ?_); rintro e w' ⟨rfl, ⟨nd, rfl⟩⟩; (try first | exact ⟨rfl, _, World.drewN_drewN _ _ _⟩ | exact ⟨rfl, _, Eq.trans (World.drewN_drewN _ _ _) (congrArg (World.drewN _) (Nat.add_assoc _ _ _))⟩)) | (go_at_call 115; (with_reducible refine (spec_l1All.calls k _ _ l0_2 0 (wrap64 ((ji8) - 1)) t214 _ ?side1 HC0_2.out A9.out).mono ?_); (case side1 => exact Q18); rintro e w' ⟨rfl, ⟨nd, rfl⟩⟩; (try first | exact ⟨rfl, _, World.drewN_drewN _ _ _⟩ | exact ⟨rfl, _, Eq.trans (World.drewN_drewN _ _ _) (congrArg (World.drewN _) (Nat.add_assoc _ _ _))⟩)))
     repeat (go_quiet (first | ((with_reducible refine gate_dst (N := 1) rfl ?_); (try (refine gate_guard (by rfl) ?_; dsimp only)); refine qv 1 #[.int .i64 a0_0, .int .i64 a0_1, .slice A0_2 l0_2.length c0_2] 26 ?_; intro gb211 hg w10 hbox hb; have BK211 := am hbox; have GW211 := qw hg; have GE211 := qw hg; replace HB := qs hb; clear hb hbox hg; obtain ⟨zq6, zq7, zq8, fq6, fq7, fq8⟩ := qd BK211) | (go_at_call 76; (with_reducible refine (spec_boSide.calls a0_0 true _ A2.out).mono ?_); rintro e w' ⟨rfl, ⟨nd, rfl⟩⟩; (try first | exact ⟨rfl, _, World.drewN_drewN _ _ _⟩ | exact ⟨rfl, _, Eq.trans (World.drewN_drewN _ _ _) (congrArg (World.drewN _) (Nat.add_assoc _ _ _))⟩)) | (go_at_call 76; (with_reducible refine (spec_boSide.calls a0_1 true _ A4.out).mono ?_); rintro e w' ⟨rfl, ⟨nd, rfl⟩⟩; (try first | exact ⟨rfl, _, World.drewN_drewN _ _ _⟩ | exact ⟨rfl, _, Eq.trans (World.drewN_drewN _ _ _) (congrArg (World.drewN _) (Nat.add_assoc _ _ _))⟩)) | (go_at_call 115; (with_reducible refine (spec_l1All.calls k _ _ l0_2 0 (wrap64 ((ji8) - 1)) t214 _ ?side1 HC0_2.out A9.out).mono ?_); (case side1 => exact Q18); rintro e w' ⟨rfl, ⟨nd, rfl⟩⟩; (try first | exact ⟨rfl, _, World.drewN_drewN _ _ _⟩ | exact ⟨rfl, _, Eq.trans (World.drewN_drewN _ _ _) (congrArg (World.drewN _) (Nat.add_assoc _ _ _))⟩))); try go_wp2_with (first | ((with_reducible refine gate_dst (N := 1) rfl ?_); (try (refine gate_guard (by rfl) ?_; dsimp only)); refine qv 1 #[.int .i64 a0_0, .int .i64 a0_1, .slice A0_2 l0_2.length c0_2] 26 ?_; intro gb211 hg w10 hbox hb; have n0_ := qs hb; have n1_ := am hbox; have n2_ := qw hg; have n3_ := qw hg; clear HB; have HB := n0_; have BK211 := n1_; have GW211 := n2_; have GE211 := n3_; clear n0_ n1_ n2_ n3_; clear hb hbox hg; have zq6 : w10.cell? ⟨gb211, 0, none⟩ = some (.int .i64 a0_0) := sqc BK211 0; have zq7 : w10.cell? ⟨gb211, 1, none⟩ = some (.int .i64 a0_1) := sqc BK211 1; have zq8 : w10.cell? ⟨gb211, 2, none⟩ = some (.slice A0_2 l0_2.length c0_2) := sqc BK211 2; have fq6 := blk_frozen BK211.out 0; have fq7 := blk_frozen BK211.out 1; have fq8 := blk_frozen BK211.out 2) | (go_at_call 76; (with_reducible refine (spec_boSide.calls a0_0 true _ A2.out).mono ?_); rintro e w' ⟨rfl, ⟨nd, rfl⟩⟩; (try first | exact ⟨rfl, _, World.drewN_drewN _ _ _⟩ | exact ⟨rfl, _, Eq.trans (World.drewN_drewN _ _ _) (congrArg (World.drewN _) (Nat.add_assoc _ _ _))⟩)) | (go_at_call 76; (with_reducible refine (spec_boSide.calls a0_1 true _ A4.out).mono ?_); rintro e w' ⟨rfl, ⟨nd, rfl⟩⟩; (try first | exact ⟨rfl, _, World.drewN_drewN _ _ _⟩ | exact ⟨rfl, _, Eq.trans (World.drewN_drewN _ _ _) (congrArg (World.drewN _) (Nat.add_assoc _ _ _))⟩)) | (go_at_call 115; (with_reducible refine (spec_l1All.calls k _ _ l0_2 0 (wrap64 ((ji8) - 1)) t214 _ ?side1 HC0_2.out A9.out).mono ?_); (case side1 => exact Q18); rintro e w' ⟨rfl, ⟨nd, rfl⟩⟩; (try first | exact ⟨rfl, _, World.drewN_drewN _ _ _⟩ | exact ⟨rfl, _, Eq.trans (World.drewN_drewN _ _ _) (congrArg (World.drewN _) (Nat.add_assoc _ _ _))⟩))))
     go_ret
     exact ⟨by first | rfl | (simp [errW_none, errW_some] <;> rfl) | (simp only [← hji8]; first | rfl | (simp [errW_none, errW_some] <;> rfl)) | (simp [*, errW_none, errW_some] <;> rfl), qb⟩
    ·
     rw [if_neg c7] at H
     exact absurd H (by simp)
   ·
    rw [if_neg c6] at H
    have c6b0 : ((l0_2.length : Int) == a0_0) = false := beq_eq_false_iff_ne.mpr c6
    have c6b1 : ((l0_2.length : Int) != a0_0) = true := bne_iff_ne.mpr c6
    obtain rfl := Option.some.inj H
    go_enter Try.func60, Try.ntmps60
    go_wp2_with (first | ((with_reducible refine gate_dst (N := 1) rfl ?_); (try (refine gate_guard (by rfl) ?_; dsimp only)); refine qv 1 #[.int .i64 a0_0, .int .i64 a0_1, .slice A0_2 l0_2.length c0_2] 26 ?_; intro gb211 hg w12 hbox hb; have BK211 := am hbox; have GW211 := qw hg; have GE211 := qw hg; replace HB := qs hb; clear hb hbox hg; obtain ⟨zq9, zq10, zq11, fq9, fq10, fq11⟩ := qd BK211) | (go_at_call 76; (with_reducible refine (spec_boSide.calls a0_0 true _ A2.out).mono ?_); rintro e w' ⟨rfl, ⟨nd, rfl⟩⟩; (try first | exact ⟨rfl, _, World.drewN_drewN _ _ _⟩ | exact ⟨rfl, _, Eq.trans (World.drewN_drewN _ _ _) (congrArg (World.drewN _) (Nat.add_assoc _ _ _))⟩)) | (go_at_call 76; (with_reducible refine (spec_boSide.calls a0_1 true _ A4.out).mono ?_); rintro e w' ⟨rfl, ⟨nd, rfl⟩⟩; (try first | exact ⟨rfl, _, World.drewN_drewN _ _ _⟩ | exact ⟨rfl, _, Eq.trans (World.drewN_drewN _ _ _) (congrArg (World.drewN _) (Nat.add_assoc _ _ _))⟩)))
    repeat (go_quiet (first | ((with_reducible refine gate_dst (N := 1) rfl ?_); (try (refine gate_guard (by rfl) ?_; dsimp only)); refine qv 1 #[.int .i64 a0_0, .int .i64 a0_1, .slice A0_2 l0_2.length c0_2] 26 ?_; intro gb211 hg w12 hbox hb; have BK211 := am hbox; have GW211 := qw hg; have GE211 := qw hg; replace HB := qs hb; clear hb hbox hg; obtain ⟨zq9, zq10, zq11, fq9, fq10, fq11⟩ := qd BK211) | (go_at_call 76; (with_reducible refine (spec_boSide.calls a0_0 true _ A2.out).mono ?_); rintro e w' ⟨rfl, ⟨nd, rfl⟩⟩; (try first | exact ⟨rfl, _, World.drewN_drewN _ _ _⟩ | exact ⟨rfl, _, Eq.trans (World.drewN_drewN _ _ _) (congrArg (World.drewN _) (Nat.add_assoc _ _ _))⟩)) | (go_at_call 76; (with_reducible refine (spec_boSide.calls a0_1 true _ A4.out).mono ?_); rintro e w' ⟨rfl, ⟨nd, rfl⟩⟩; (try first | exact ⟨rfl, _, World.drewN_drewN _ _ _⟩ | exact ⟨rfl, _, Eq.trans (World.drewN_drewN _ _ _) (congrArg (World.drewN _) (Nat.add_assoc _ _ _))⟩))); try go_wp2_with (first | ((with_reducible refine gate_dst (N := 1) rfl ?_); (try (refine gate_guard (by rfl) ?_; dsimp only)); refine qv 1 #[.int .i64 a0_0, .int .i64 a0_1, .slice A0_2 l0_2.length c0_2] 26 ?_; intro gb211 hg w12 hbox hb; have n0_ := qs hb; have n1_ := am hbox; have n2_ := qw hg; have n3_ := qw hg; clear HB; have HB := n0_; have BK211 := n1_; have GW211 := n2_; have GE211 := n3_; clear n0_ n1_ n2_ n3_; clear hb hbox hg; have zq9 : w12.cell? ⟨gb211, 0, none⟩ = some (.int .i64 a0_0) := sqc BK211 0; have zq10 : w12.cell? ⟨gb211, 1, none⟩ = some (.int .i64 a0_1) := sqc BK211 1; have zq11 : w12.cell? ⟨gb211, 2, none⟩ = some (.slice A0_2 l0_2.length c0_2) := sqc BK211 2; have fq9 := blk_frozen BK211.out 0; have fq10 := blk_frozen BK211.out 1; have fq11 := blk_frozen BK211.out 2) | (go_at_call 76; (with_reducible refine (spec_boSide.calls a0_0 true _ A2.out).mono ?_); rintro e w' ⟨rfl, ⟨nd, rfl⟩⟩; (try first | exact ⟨rfl, _, World.drewN_drewN _ _ _⟩ | exact ⟨rfl, _, Eq.trans (World.drewN_drewN _ _ _) (congrArg (World.drewN _) (Nat.add_assoc _ _ _))⟩)) | (go_at_call 76; (with_reducible refine (spec_boSide.calls a0_1 true _ A4.out).mono ?_); rintro e w' ⟨rfl, ⟨nd, rfl⟩⟩; (try first | exact ⟨rfl, _, World.drewN_drewN _ _ _⟩ | exact ⟨rfl, _, Eq.trans (World.drewN_drewN _ _ _) (congrArg (World.drewN _) (Nat.add_assoc _ _ _))⟩))))
    go_ret
    exact ⟨Q2, qb⟩
  ·
   replace c5 := Bool.eq_false_iff.mpr c5
   subst c5
   have H1 : (some false) = some r := by first | (rw [if_neg (show ¬ (false = true) by decide)] at H; exact H) | rfl
   clear H
   have H := H1
   clear H1
   obtain rfl := Option.some.inj H
   go_enter Try.func60, Try.ntmps60
   go_wp2_with (first | ((with_reducible refine gate_dst (N := 1) rfl ?_); (try (refine gate_guard (by rfl) ?_; dsimp only)); refine qv 1 #[.int .i64 a0_0, .int .i64 a0_1, .slice A0_2 l0_2.length c0_2] 26 ?_; intro gb211 hg w14 hbox hb; have BK211 := am hbox; have GW211 := qw hg; have GE211 := qw hg; replace HB := qs hb; clear hb hbox hg; obtain ⟨zq12, zq13, zq14, fq12, fq13, fq14⟩ := qd BK211) | (go_at_call 76; (with_reducible refine (spec_boSide.calls a0_0 true _ A2.out).mono ?_); rintro e w' ⟨rfl, ⟨nd, rfl⟩⟩; (try first | exact ⟨rfl, _, World.drewN_drewN _ _ _⟩ | exact ⟨rfl, _, Eq.trans (World.drewN_drewN _ _ _) (congrArg (World.drewN _) (Nat.add_assoc _ _ _))⟩)) | (go_at_call 76; (with_reducible refine (spec_boSide.calls a0_1 false _ A4.out).mono ?_); rintro e w' ⟨rfl, ⟨nd, rfl⟩⟩; (try first | exact ⟨rfl, _, World.drewN_drewN _ _ _⟩ | exact ⟨rfl, _, Eq.trans (World.drewN_drewN _ _ _) (congrArg (World.drewN _) (Nat.add_assoc _ _ _))⟩)))
   repeat (go_quiet (first | ((with_reducible refine gate_dst (N := 1) rfl ?_); (try (refine gate_guard (by rfl) ?_; dsimp only)); refine qv 1 #[.int .i64 a0_0, .int .i64 a0_1, .slice A0_2 l0_2.length c0_2] 26 ?_; intro gb211 hg w14 hbox hb; have BK211 := am hbox; have GW211 := qw hg; have GE211 := qw hg; replace HB := qs hb; clear hb hbox hg; obtain ⟨zq12, zq13, zq14, fq12, fq13, fq14⟩ := qd BK211) | (go_at_call 76; (with_reducible refine (spec_boSide.calls a0_0 true _ A2.out).mono ?_); rintro e w' ⟨rfl, ⟨nd, rfl⟩⟩; (try first | exact ⟨rfl, _, World.drewN_drewN _ _ _⟩ | exact ⟨rfl, _, Eq.trans (World.drewN_drewN _ _ _) (congrArg (World.drewN _) (Nat.add_assoc _ _ _))⟩)) | (go_at_call 76; (with_reducible refine (spec_boSide.calls a0_1 false _ A4.out).mono ?_); rintro e w' ⟨rfl, ⟨nd, rfl⟩⟩; (try first | exact ⟨rfl, _, World.drewN_drewN _ _ _⟩ | exact ⟨rfl, _, Eq.trans (World.drewN_drewN _ _ _) (congrArg (World.drewN _) (Nat.add_assoc _ _ _))⟩))); try go_wp2_with (first | ((with_reducible refine gate_dst (N := 1) rfl ?_); (try (refine gate_guard (by rfl) ?_; dsimp only)); refine qv 1 #[.int .i64 a0_0, .int .i64 a0_1, .slice A0_2 l0_2.length c0_2] 26 ?_; intro gb211 hg w14 hbox hb; have n0_ := qs hb; have n1_ := am hbox; have n2_ := qw hg; have n3_ := qw hg; clear HB; have HB := n0_; have BK211 := n1_; have GW211 := n2_; have GE211 := n3_; clear n0_ n1_ n2_ n3_; clear hb hbox hg; have zq12 : w14.cell? ⟨gb211, 0, none⟩ = some (.int .i64 a0_0) := sqc BK211 0; have zq13 : w14.cell? ⟨gb211, 1, none⟩ = some (.int .i64 a0_1) := sqc BK211 1; have zq14 : w14.cell? ⟨gb211, 2, none⟩ = some (.slice A0_2 l0_2.length c0_2) := sqc BK211 2; have fq12 := blk_frozen BK211.out 0; have fq13 := blk_frozen BK211.out 1; have fq14 := blk_frozen BK211.out 2) | (go_at_call 76; (with_reducible refine (spec_boSide.calls a0_0 true _ A2.out).mono ?_); rintro e w' ⟨rfl, ⟨nd, rfl⟩⟩; (try first | exact ⟨rfl, _, World.drewN_drewN _ _ _⟩ | exact ⟨rfl, _, Eq.trans (World.drewN_drewN _ _ _) (congrArg (World.drewN _) (Nat.add_assoc _ _ _))⟩)) | (go_at_call 76; (with_reducible refine (spec_boSide.calls a0_1 false _ A4.out).mono ?_); rintro e w' ⟨rfl, ⟨nd, rfl⟩⟩; (try first | exact ⟨rfl, _, World.drewN_drewN _ _ _⟩ | exact ⟨rfl, _, Eq.trans (World.drewN_drewN _ _ _) (congrArg (World.drewN _) (Nat.add_assoc _ _ _))⟩))))
   go_ret
   exact ⟨Q2, qb⟩
 ·
  replace c3 := Bool.eq_false_iff.mpr c3
  subst c3
  have H1 : (some false) = some r := by first | (rw [if_neg (show ¬ (false = true) by decide)] at H; exact H) | rfl
  clear H
  have H := H1
  clear H1
  obtain rfl := Option.some.inj H
  go_enter Try.func60, Try.ntmps60
  go_wp2_with (first | ((with_reducible refine gate_dst (N := 1) rfl ?_); (try (refine gate_guard (by rfl) ?_; dsimp only)); refine qv 1 #[.int .i64 a0_0, .int .i64 a0_1, .slice A0_2 l0_2.length c0_2] 26 ?_; intro gb211 hg w16 hbox hb; have BK211 := am hbox; have GW211 := qw hg; have GE211 := qw hg; replace HB := qs hb; clear hb hbox hg; obtain ⟨zq15, zq16, zq17, fq15, fq16, fq17⟩ := qd BK211) | (go_at_call 76; (with_reducible refine (spec_boSide.calls a0_0 false _ A2.out).mono ?_); rintro e w' ⟨rfl, ⟨nd, rfl⟩⟩; (try first | exact ⟨rfl, _, World.drewN_drewN _ _ _⟩ | exact ⟨rfl, _, Eq.trans (World.drewN_drewN _ _ _) (congrArg (World.drewN _) (Nat.add_assoc _ _ _))⟩)))
  repeat (go_quiet (first | ((with_reducible refine gate_dst (N := 1) rfl ?_); (try (refine gate_guard (by rfl) ?_; dsimp only)); refine qv 1 #[.int .i64 a0_0, .int .i64 a0_1, .slice A0_2 l0_2.length c0_2] 26 ?_; intro gb211 hg w16 hbox hb; have BK211 := am hbox; have GW211 := qw hg; have GE211 := qw hg; replace HB := qs hb; clear hb hbox hg; obtain ⟨zq15, zq16, zq17, fq15, fq16, fq17⟩ := qd BK211) | (go_at_call 76; (with_reducible refine (spec_boSide.calls a0_0 false _ A2.out).mono ?_); rintro e w' ⟨rfl, ⟨nd, rfl⟩⟩; (try first | exact ⟨rfl, _, World.drewN_drewN _ _ _⟩ | exact ⟨rfl, _, Eq.trans (World.drewN_drewN _ _ _) (congrArg (World.drewN _) (Nat.add_assoc _ _ _))⟩))); try go_wp2_with (first | ((with_reducible refine gate_dst (N := 1) rfl ?_); (try (refine gate_guard (by rfl) ?_; dsimp only)); refine qv 1 #[.int .i64 a0_0, .int .i64 a0_1, .slice A0_2 l0_2.length c0_2] 26 ?_; intro gb211 hg w16 hbox hb; have n0_ := qs hb; have n1_ := am hbox; have n2_ := qw hg; have n3_ := qw hg; clear HB; have HB := n0_; have BK211 := n1_; have GW211 := n2_; have GE211 := n3_; clear n0_ n1_ n2_ n3_; clear hb hbox hg; have zq15 : w16.cell? ⟨gb211, 0, none⟩ = some (.int .i64 a0_0) := sqc BK211 0; have zq16 : w16.cell? ⟨gb211, 1, none⟩ = some (.int .i64 a0_1) := sqc BK211 1; have zq17 : w16.cell? ⟨gb211, 2, none⟩ = some (.slice A0_2 l0_2.length c0_2) := sqc BK211 2; have fq15 := blk_frozen BK211.out 0; have fq16 := blk_frozen BK211.out 1; have fq17 := blk_frozen BK211.out 2) | (go_at_call 76; (with_reducible refine (spec_boSide.calls a0_0 false _ A2.out).mono ?_); rintro e w' ⟨rfl, ⟨nd, rfl⟩⟩; (try first | exact ⟨rfl, _, World.drewN_drewN _ _ _⟩ | exact ⟨rfl, _, Eq.trans (World.drewN_drewN _ _ _) (congrArg (World.drewN _) (Nat.add_assoc _ _ _))⟩))))
  go_ret
  exact ⟨Q2, qb⟩

end Go.Proofs.Ytllhofdgbpnkkaa.PFnPlacementsListed
