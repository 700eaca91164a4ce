-- Printed for this claim by wip/pp.py over the kit's printer; Lean checks it.
import Derived.Test.YtllhofdgbpnkkaaDoorPFnBoardsTurnedx0
import Derived.Test.YtllhofdgbpnkkaaDoorPFnBoardsTurnedx1
import Derived.Test.YtllhofdgbpnkkaaDoorPFnBoardsTurnedx2
namespace Go.Proofs.YtllhofdgbpnkkaaDoor.PFnBoardsTurned
open Go.RowKit Go.Proofs.YtllhofdgbpnkkaaDoorW.PrintWords Go.Proofs.YtllhofdgbpnkkaaDoorW.PrintLast Go.Proofs.YtllhofdgbpnkkaaDoorW.PrintMore
attribute [local go_sem] max2_int min2_int max_two min_two max_three min_three max_four min_four   -- for this text's walks alone
set_option linter.unusedVariables false
set_option linter.unusedSimpArgs false

/-! ### spec_l1Cur_board: function 38 -/
def spec_l1Cur_board.f (k : Nat) (s0_0 : List Int) (s0_1 : Int) (s0_2 : Int) : Option (Int × Int × List Int × Int × Int) := (spec_l1Cur_sides.f s0_0 s0_1 s0_2).bind fun bt144 => ((spec_l1Cur_sides.f s0_0 bt144.2.1 bt144.2.2).bind fun bt147 => ((spec_l1Cur_boardOf.f k s0_0 bt147.2.1 bt147.2.2 bt144.1 bt147.1).bind fun bt150 => ((spec_l1Cur_pick.f s0_0 bt150.2.2.2.1 bt150.2.2.2.2 18).bind fun bt158 => (if bt158.1 = 0 then ((spec_l1Cur_among.f s0_0 bt158.2.1 bt158.2.2 (([(-1), 0, wrap64 (bt150.1 + 1), 7] : List Int))).bind fun bt164 => (some (bt164.1, bt150.2.1, bt150.2.2.1, bt164.2.1, bt164.2.2))) else (if bt158.1 = 1 then ((spec_l1Cur_among.f s0_0 bt158.2.1 bt158.2.2 (([(-1), 0, 7, 4611686018427387904] : List Int))).bind fun bt170 => (some (bt150.1, bt170.1, bt150.2.2.1, bt170.2.1, bt170.2.2))) else (if bt158.1 = 2 then ((spec_l1Cur_pick.f s0_0 bt158.2.1 bt158.2.2 (bt150.2.2.1.length : Int)).bind fun bt173 => ((spec_l1Cur_among.f s0_0 bt173.2.1 bt173.2.2 (([(-1), 64, 4611686018427387904] : List Int))).bind fun bt179 => (if 0 ≤ bt173.1 then (if bt173.1 < (bt150.2.2.1.length : Int) then (some (bt150.1, bt150.2.1, (bt150.2.2.1.set (bt173.1 : Int).toNat bt179.1), bt179.2.1, bt179.2.2)) else (none)) else (none)))) else (if bt158.1 = 3 then (if bt150.2.2.1.length < 17592186044416 then (some (bt150.1, bt150.2.1, (bt150.2.2.1 ++ [0]), bt158.2.1, bt158.2.2)) else (none)) else (some (bt150.1, bt150.2.1, bt150.2.2.1, bt158.2.1, bt158.2.2)))))))))
def spec_l1Cur_board.T8 : Bool × List (List Nat × List Nat) := (true, [([], []), ([0], [0]), ([], []), ([], []), ([3], [3]), ([4], [4]), ([2, 5], [2, 5]), ([], []), ([], []), ([7, 8, 6], [7, 8]), ([1, 6, 0, 1, 2, 3, 4, 5, 6, 7, 8, 9], [1, 6]), ([10, 9, 9, 0, 1, 2, 3, 4, 5, 6, 7, 8, 9], [9, 10])])
def spec_l1Cur_board.B8 : List Nat := [0, 1, 0, 0, 8, 24, 60, 0, 0, 508, 1023, 2047]
theorem spec_l1Cur_board.tab8 : rtab .any (opsOf Tryd.f38 8) = spec_l1Cur_board.T8 := by kernel_rfl
theorem spec_l1Cur_board.bits8 : waitsOk spec_l1Cur_board.T8.2 spec_l1Cur_board.B8 = true := by kernel_rfl
set_option maxHeartbeats 8000000 in
set_option maxRecDepth 100000 in
theorem spec_l1Cur_board.calls (k : Nat) (g : Nat) (s0_0 : List Int) (s0_1 : Int) (s0_2 : Int) (r1 : Int) (r2 : Int) (r3 : List Int) (r4 : Int) (r5 : Int) (w0 w : World) (hI : IsS57 w0 w g s0_0 s0_1 s0_2) (hB : Below w0.heap.size w0 w) (h : spec_l1Cur_board.f k s0_0 s0_1 s0_2 = some (r1, r2, r3, r4, r5)) :
  Calls Tryd.prog 38 #[.pointer (some ⟨g, 0, none⟩)] w fun e w' => ∃ v2_ : Value, e = .returned (.agg #[.int .i64 r1, .int .i64 r2, v2_]) ∧ Kd.R (Kd.int .i64) 3 w' w.heap.size (fun _ => True) v2_ r3 ∧ IsS57 w0 w' g s0_0 r4 r5 ∧ Below w0.heap.size w0 w' ∧ KeepBut w w' g none := by
 have hu26 := Tryd.underlying26
 have HI0 := Aside0.mk hI
 have HK := am (KeepBut.refl w g none)
 have HL := Aside0.mk hB.size
 clear hI
 have HW0 := Aside0.mk hB.size
 have HB := Aside0.mk hB
 clear hB
 have H : ((spec_l1Cur_sides.f s0_0 s0_1 s0_2).bind fun bt144 => ((spec_l1Cur_sides.f s0_0 bt144.2.1 bt144.2.2).bind fun bt147 => ((spec_l1Cur_boardOf.f k s0_0 bt147.2.1 bt147.2.2 bt144.1 bt147.1).bind fun bt150 => ((spec_l1Cur_pick.f s0_0 bt150.2.2.2.1 bt150.2.2.2.2 18).bind fun bt158 => (if bt158.1 = 0 then ((spec_l1Cur_among.f s0_0 bt158.2.1 bt158.2.2 (([(-1), 0, wrap64 (bt150.1 + 1), 7] : List Int))).bind fun bt164 => (some (bt164.1, bt150.2.1, bt150.2.2.1, bt164.2.1, bt164.2.2))) else (if bt158.1 = 1 then ((spec_l1Cur_among.f s0_0 bt158.2.1 bt158.2.2 (([(-1), 0, 7, 4611686018427387904] : List Int))).bind fun bt170 => (some (bt150.1, bt170.1, bt150.2.2.1, bt170.2.1, bt170.2.2))) else (if bt158.1 = 2 then ((spec_l1Cur_pick.f s0_0 bt158.2.1 bt158.2.2 (bt150.2.2.1.length : Int)).bind fun bt173 => ((spec_l1Cur_among.f s0_0 bt173.2.1 bt173.2.2 (([(-1), 64, 4611686018427387904] : List Int))).bind fun bt179 => (if 0 ≤ bt173.1 then (if bt173.1 < (bt150.2.2.1.length : Int) then (some (bt150.1, bt150.2.1, (bt150.2.2.1.set (bt173.1 : Int).toNat bt179.1), bt179.2.1, bt179.2.2)) else (none)) else (none)))) else (if bt158.1 = 3 then (if bt150.2.2.1.length < 17592186044416 then (some (bt150.1, bt150.2.1, (bt150.2.2.1 ++ [0]), bt158.2.1, bt158.2.2)) else (none)) else (some (bt150.1, bt150.2.1, bt150.2.2.1, bt158.2.1, bt158.2.2)))))))))) = some (r1, r2, r3, r4, r5) := h
 clear h
 replace H := qE H
 obtain ⟨⟨t144, t145, t146⟩, A2, H⟩ := H
 replace H : ((spec_l1Cur_sides.f s0_0 t145 t146).bind fun bt147 => ((spec_l1Cur_boardOf.f k s0_0 bt147.2.1 bt147.2.2 t144 bt147.1).bind fun bt150 => ((spec_l1Cur_pick.f s0_0 bt150.2.2.2.1 bt150.2.2.2.2 18).bind fun bt158 => (if bt158.1 = 0 then ((spec_l1Cur_among.f s0_0 bt158.2.1 bt158.2.2 (([(-1), 0, wrap64 (bt150.1 + 1), 7] : List Int))).bind fun bt164 => (some (bt164.1, bt150.2.1, bt150.2.2.1, bt164.2.1, bt164.2.2))) else (if bt158.1 = 1 then ((spec_l1Cur_among.f s0_0 bt158.2.1 bt158.2.2 (([(-1), 0, 7, 4611686018427387904] : List Int))).bind fun bt170 => (some (bt150.1, bt170.1, bt150.2.2.1, bt170.2.1, bt170.2.2))) else (if bt158.1 = 2 then ((spec_l1Cur_pick.f s0_0 bt158.2.1 bt158.2.2 (bt150.2.2.1.length : Int)).bind fun bt173 => ((spec_l1Cur_among.f s0_0 bt173.2.1 bt173.2.2 (([(-1), 64, 4611686018427387904] : List Int))).bind fun bt179 => (if 0 ≤ bt173.1 then (if bt173.1 < (bt150.2.2.1.length : Int) then (some (bt150.1, bt150.2.1, (bt150.2.2.1.set (bt173.1 : Int).toNat bt179.1), bt179.2.1, bt179.2.2)) else (none)) else (none)))) else (if bt158.1 = 3 then (if bt150.2.2.1.length < 17592186044416 then (some (bt150.1, bt150.2.1, (bt150.2.2.1 ++ [0]), bt158.2.1, bt158.2.2)) else (none)) else (some (bt150.1, bt150.2.1, bt150.2.2.1, bt158.2.1, bt158.2.2))))))))) = some (r1, r2, r3, r4, r5) := H
 replace H := qE H
 obtain ⟨⟨t147, t148, t149⟩, A3, H⟩ := H
 replace H : ((spec_l1Cur_boardOf.f k s0_0 t148 t149 t144 t147).bind fun bt150 => ((spec_l1Cur_pick.f s0_0 bt150.2.2.2.1 bt150.2.2.2.2 18).bind fun bt158 => (if bt158.1 = 0 then ((spec_l1Cur_among.f s0_0 bt158.2.1 bt158.2.2 (([(-1), 0, wrap64 (bt150.1 + 1), 7] : List Int))).bind fun bt164 => (some (bt164.1, bt150.2.1, bt150.2.2.1, bt164.2.1, bt164.2.2))) else (if bt158.1 = 1 then ((spec_l1Cur_among.f s0_0 bt158.2.1 bt158.2.2 (([(-1), 0, 7, 4611686018427387904] : List Int))).bind fun bt170 => (some (bt150.1, bt170.1, bt150.2.2.1, bt170.2.1, bt170.2.2))) else (if bt158.1 = 2 then ((spec_l1Cur_pick.f s0_0 bt158.2.1 bt158.2.2 (bt150.2.2.1.length : Int)).bind fun bt173 => ((spec_l1Cur_among.f s0_0 bt173.2.1 bt173.2.2 (([(-1), 64, 4611686018427387904] : List Int))).bind fun bt179 => (if 0 ≤ bt173.1 then (if bt173.1 < (bt150.2.2.1.length : Int) then (some (bt150.1, bt150.2.1, (bt150.2.2.1.set (bt173.1 : Int).toNat bt179.1), bt179.2.1, bt179.2.2)) else (none)) else (none)))) else (if bt158.1 = 3 then (if bt150.2.2.1.length < 17592186044416 then (some (bt150.1, bt150.2.1, (bt150.2.2.1 ++ [0]), bt158.2.1, bt158.2.2)) else (none)) else (some (bt150.1, bt150.2.1, bt150.2.2.1, bt158.2.1, bt158.2.2)))))))) = some (r1, r2, r3, r4, r5) := H
 replace H := qE H
 obtain ⟨⟨t150, t151, t152, t155, t156⟩, A4, H⟩ := H
 replace H : ((spec_l1Cur_pick.f s0_0 t155 t156 18).bind fun bt158 => (if bt158.1 = 0 then ((spec_l1Cur_among.f s0_0 bt158.2.1 bt158.2.2 (([(-1), 0, wrap64 (t150 + 1), 7] : List Int))).bind fun bt164 => (some (bt164.1, t151, t152, bt164.2.1, bt164.2.2))) else (if bt158.1 = 1 then ((spec_l1Cur_among.f s0_0 bt158.2.1 bt158.2.2 (([(-1), 0, 7, 4611686018427387904] : List Int))).bind fun bt170 => (some (t150, bt170.1, t152, bt170.2.1, bt170.2.2))) else (if bt158.1 = 2 then ((spec_l1Cur_pick.f s0_0 bt158.2.1 bt158.2.2 (t152.length : Int)).bind fun bt173 => ((spec_l1Cur_among.f s0_0 bt173.2.1 bt173.2.2 (([(-1), 64, 4611686018427387904] : List Int))).bind fun bt179 => (if 0 ≤ bt173.1 then (if bt173.1 < (t152.length : Int) then (some (t150, t151, (t152.set (bt173.1 : Int).toNat bt179.1), bt179.2.1, bt179.2.2)) else (none)) else (none)))) else (if bt158.1 = 3 then (if t152.length < 17592186044416 then (some (t150, t151, (t152 ++ [0]), bt158.2.1, bt158.2.2)) else (none)) else (some (t150, t151, t152, bt158.2.1, bt158.2.2))))))) = some (r1, r2, r3, r4, r5) := H
 replace H := qE H
 obtain ⟨⟨t158, t159, t160⟩, A5, H⟩ := H
 replace H : (if t158 = 0 then ((spec_l1Cur_among.f s0_0 t159 t160 (([(-1), 0, wrap64 (t150 + 1), 7] : List Int))).bind fun bt164 => (some (bt164.1, t151, t152, bt164.2.1, bt164.2.2))) else (if t158 = 1 then ((spec_l1Cur_among.f s0_0 t159 t160 (([(-1), 0, 7, 4611686018427387904] : List Int))).bind fun bt170 => (some (t150, bt170.1, t152, bt170.2.1, bt170.2.2))) else (if t158 = 2 then ((spec_l1Cur_pick.f s0_0 t159 t160 (t152.length : Int)).bind fun bt173 => ((spec_l1Cur_among.f s0_0 bt173.2.1 bt173.2.2 (([(-1), 64, 4611686018427387904] : List Int))).bind fun bt179 => (if 0 ≤ bt173.1 then (if bt173.1 < (t152.length : Int) then (some (t150, t151, (t152.set (bt173.1 : Int).toNat bt179.1), bt179.2.1, bt179.2.2)) else (none)) else (none)))) else (if t158 = 3 then (if t152.length < 17592186044416 then (some (t150, t151, (t152 ++ [0]), t159, t160)) else (none)) else (some (t150, t151, t152, t159, t160)))))) = some (r1, r2, r3, r4, r5) := H
 by_cases c6 : t158 = 0
 ·
  rw [if_pos c6] at H
  have c6b0 : (t158 == 0) = true := beq_iff_eq.mpr c6
  have c6b1 : (t158 != 0) = false := bne_eq_false_iff_eq.mpr c6
  clear c6
  obtain ⟨y161, hy_⟩ : ∃ y_ : List Int, y_ = ((([(-1), 0, wrap64 (t150 + 1), 7] : List Int))) := ⟨_, rfl⟩
  replace H : ((spec_l1Cur_among.f s0_0 t159 t160 y161).bind fun bt164 => (some (bt164.1, t151, t152, bt164.2.1, bt164.2.2))) = some (r1, r2, r3, r4, r5) := qH
  have Ny161 := Aside0.mk hy_
  clear hy_
  replace H := qE H
  obtain ⟨⟨t164, t165, t166⟩, A7, H⟩ := H
  replace H : (some (t164, t151, t152, t165, t166)) = some (r1, r2, r3, r4, r5) := H
  simp only [Option.some.injEq, Prod.mk.injEq] at H
  obtain ⟨rfl, rfl, rfl, rfl, rfl⟩ := H
  go_enter Tryd.func38, Tryd.ntmps38
  go_wp2_with (first | ((with_reducible refine gate_dst (N := 2) rfl ?_); refine qv 2 #[.int .i64 0, .int .i64 0, .slice none 0 0] 26 ?_; intro gb143 hg w8 hbox hb; have BK143 := am hbox; have GW143 := qx hg; have GE143 := qy HW0 (qx hg); have Nq0 := qo hg g; have Nq2 := qO hg g; replace HK := qU hb; replace HB := qt hb; replace HI0 := qj hb; clear hb hbox hg) | ((with_reducible refine gate_callee (f := 49) rfl ?_); refine qg (some 6) Tryd.func49 #[.pointer (some ⟨g, 0, none⟩)] ?_; (with_reducible refine (spec_l1Cur_sides.calls g s0_0 s0_1 s0_2 t144 t145 t146 w0 _ ?side1 ?side2 A2.out).mono ?_); (case side1 => exact qi); (case side2 => exact qc); rintro e w9 ⟨rfl, hi, hb, hk⟩; refine ⟨_, rfl, ?_⟩; replace BK143 := qK BK143 hk Nq2; replace HK := qT hk; replace HB := am hb; replace HI0 := am hi; (try clear hb hk hi)) | ((with_reducible refine gate_callee (f := 49) rfl ?_); refine qg (some 8) Tryd.func49 #[.pointer (some ⟨g, 0, none⟩)] ?_; (with_reducible refine (spec_l1Cur_sides.calls g s0_0 t145 t146 t147 t148 t149 w0 _ ?side1 ?side2 A3.out).mono ?_); (case side1 => exact qi); (case side2 => exact qc); rintro e w10 ⟨rfl, hi, hb, hk⟩; refine ⟨_, rfl, ?_⟩; replace BK143 := qK BK143 hk Nq2; replace HK := qT hk; replace HB := am hb; replace HI0 := am hi; (try clear hb hk hi)) | ((with_reducible refine gate_callee (f := 48) rfl ?_); refine qg (some 9) Tryd.func48 #[.pointer (some ⟨g, 0, none⟩), .int .i64 t144, .int .i64 t147] ?_; (with_reducible refine (spec_l1Cur_boardOf.calls k g s0_0 t148 t149 t144 t147 t150 t151 t152 t155 t156 w0 _ ?side1 ?side2 A4.out).mono ?_); (case side1 => exact qi); (case side2 => exact qc); rintro e w11 ⟨v153, rfl, ho0, hi, hb, hk⟩; refine ⟨_, rfl, ?_⟩; have Oq0 := qm ho0; replace BK143 := qK BK143 hk Nq2; replace HK := qT hk; replace HB := am hb; replace HI0 := am hi; (try clear hb hk hi ho0)) | ((with_reducible refine gate_dst (N := 3) rfl ?_); refine qv 3 #[.int .i64 0, .int .i64 0, .slice none 0 0] 26 ?_; intro gb157 hg w12 hbox hb; have BK157 := am hbox; have GW157 := qx hg; have GE157 := qy HW0 (qx hg); have Nq3 := qn hg BK143; have Nq5 := qN hg BK143; have Nq1 := qo hg g; have Nq4 := qO hg g; replace Oq0 := sqR Oq0 hb; replace BK143 := sqB BK143 hb; replace HK := qU hb; replace HB := qt hb; replace HI0 := qj hb; clear hb hbox hg; have bq1 := Nq5.out; have cq1 := Nq3.out; have bq2 := Nq4.out; have cq2 := Nq1.out; obtain ⟨zq6, zq7, zq8, fq6, fq7, fq8⟩ := qd BK157; obtain ⟨Ao16, co16, eo16⟩ := Kd.R_slice Oq0.out; subst eo16) | ((with_reducible refine gate_callee (f := 40) rfl ?_); refine qg (some 11) Tryd.func40 #[.pointer (some ⟨g, 0, none⟩), .int .i64 18] ?_; (with_reducible refine (spec_l1Cur_pick.calls g s0_0 t155 t156 18 t158 t159 t160 w0 _ ?side1 ?side2 A5.out).mono ?_); (case side1 => exact qi); (case side2 => exact qc); rintro e w17 ⟨rfl, hi, hb, hk⟩; refine ⟨_, rfl, ?_⟩; replace BK143 := am (KeepBut.blk hk (g' := gb143) (o := .cells #[.int .i64 0, .int .i64 0, .slice none 0 0] 26 (0, 0)) Q7 Nq2.out (by simp)); replace Oq0 := am (Kd.R_mono (Kd.R_keep (IsS57.apart (show IsS57 w0 _ g s0_0 t155 t156 from qi) (sqw (sqo Oq0 BK157)) (by decide)) hk (fun _ h => h.2)) (fun _ h => h.1)); replace BK157 := am (KeepBut.blk hk (g' := gb157) (o := .cells #[.int .i64 t150, .int .i64 t151, .slice Ao16 t152.length co16] 26 (0, 0)) Q4 Nq4.out (by simp)); replace HK := qT hk; replace HB := am hb; replace HI0 := am hi; (try clear hb hk hi); obtain ⟨zq9, zq10, zq11, fq9, fq10, fq11⟩ := qd BK157) | ((with_reducible refine gate_dst (N := 18) rfl ?_); refine Kd.R_lit (Kd.int .i64) _ 3 ?hg (N := 18) ?hd (xs := ([(-1), 0, wrap64 (t150 + 1), 7] : List Int)) (inner := [.int .i64 (-1), .int .i64 0, .int .i64 (wrap64 (t150 + 1)), .int .i64 7]) (ok := fun _ => True) (okp := fun _ => True) ?hr ?hp (fun _ hk => hk) trivial (Below.refl _ _) (Nat.le_refl _) (by simp) ?_; (case hd => rfl); (case hg => rfl); (case hr => first | (go_simp; done) | (go_simp; rfl)); (case hp => exact (Reps.one (show Kd.M (Kd.int .i64) _ _ _ (-1) [.int .i64 (-1)] from rfl) (Reps.one (show Kd.M (Kd.int .i64) _ _ _ 0 [.int .i64 0] from rfl) (Reps.one (show Kd.M (Kd.int .i64) _ _ _ (wrap64 (t150 + 1)) [.int .i64 (wrap64 (t150 + 1))] from rfl) (Reps.one (show Kd.M (Kd.int .i64) _ _ _ 7 [.int .i64 7] from rfl) (Reps.none _ _)))))); intro v162 w19 ho20 hb hg_ hnew_; clear hg_ hnew_; (first | rw [← Ny161.out] at ho20 | (simp only [Int.reduceToNat] at ho20; rw [← Ny161.out] at ho20)); have Oq1 := am (Kd.R_lower (Kd.R_new' ho20 (sqL Oq0)) (qz w g)); replace BK143 := sqB BK143 hb; replace BK157 := sqB BK157 hb; replace Oq0 := qe (sqr Oq0) ho20 hb; replace HK := qU hb; replace HB := qt hb; replace HI0 := qj hb; clear hb ho20; obtain ⟨Ao21, co21, eo21⟩ := Kd.R_slice Oq1.out; subst eo21) | ((with_reducible refine gate_callee (f := 65) rfl ?_); refine qg (some 19) Tryd.func65 #[.pointer (some ⟨g, 0, none⟩), .slice Ao21 y161.length co21] ?_; (with_reducible refine (spec_l1Cur_among.calls g s0_0 t159 t160 _ _ y161 t164 t165 t166 w0 _ ?side1 ?side2 ?side3 ?side4 ?side5 A7.out).mono ?_); (case side1 => exact qi); (case side2 => exact qc); (case side3 => exact Q47); (case side4 => exact (Kd.R_reads' Oq1.out).2.1); (case side5 => exact far_slice (IsS57.own_ne HI0.out Oq1.out (by decide))); rintro e w22 ⟨rfl, hi, hb, hk⟩; refine ⟨_, rfl, ?_⟩; replace BK143 := qK BK143 hk Nq2; replace Oq0 := qR Oq0 hk; replace BK157 := qK BK157 hk Nq4; replace Oq1 := qR Oq1 hk; replace HK := qT hk; replace HB := am hb; replace HI0 := am hi; (try clear hb hk hi); obtain ⟨zq12, zq13, zq14, fq12, fq13, fq14⟩ := qd BK157; have bq3 := Nq2.out; have cq3 := Nq0.out; obtain ⟨zq15, zq16, zq17, fq15, fq16, fq17⟩ := qd BK143))
  refine bodyPost_ret (results_cell_row rfl _ _ gb143 26 #[.int .i64 t164, .int .i64 t151, .slice Ao16 t152.length co16] (0, 0) _ rfl (by (with_reducible repeat (first | refine blk_drewN ?_ _ | refine blk_drew ?_ | refine blk_alloc ?_ _)); refine blk_put (cs := #[.int .i64 t164, .int .i64 t151, .slice none 0 0]) ?_ 2 _ rfl; (with_reducible repeat (first | refine blk_drewN ?_ _ | refine blk_drew ?_ | refine blk_alloc ?_ _)); refine blk_put (cs := #[.int .i64 t164, .int .i64 0, .slice none 0 0]) ?_ 1 _ rfl; (with_reducible repeat (first | refine blk_drewN ?_ _ | refine blk_drew ?_ | refine blk_alloc ?_ _)); refine blk_put (cs := #[.int .i64 0, .int .i64 0, .slice none 0 0]) ?_ 0 _ rfl; (with_reducible repeat (first | refine blk_drewN ?_ _ | refine blk_drew ?_ | refine blk_alloc ?_ _)); refine blk_far ?_ Nq3.out _; (with_reducible repeat (first | refine blk_drewN ?_ _ | refine blk_drew ?_ | refine blk_alloc ?_ _)); exact BK143.out) Tryd.underlying26 rfl (by kernel_rfl)) rfl ?_
  exact ⟨_, Q1, by (with_reducible repeat (first | apply Kd.R_alloc | apply Kd.R_drewN | apply Kd.R_drew)); exact Kd.R_mono (Kd.R_far (p := ⟨gb143, 2, none⟩) (Kd.R_far (p := ⟨gb143, 1, none⟩) (Kd.R_far (p := ⟨gb143, 0, none⟩) (Kd.R_far (p := ⟨gb157, 0, none⟩) (Kd.R_types (Kd.R_types Oq0.out BK157.out (by decide)) BK143.out (by decide)) (fun _ hk => hk.1.2) (.int .i64 t164)) (fun _ hk => hk.2) (.int .i64 t164)) (fun _ hk => hk.2) (.int .i64 t151)) (fun _ hk => hk.2) (.slice Ao16 t152.length co16)) (fun _ hk => trivial), qi, qc, qk⟩
 ·
  rw [if_neg c6] at H
  have c6b0 : (t158 == 0) = false := beq_eq_false_iff_ne.mpr c6
  have c6b1 : (t158 != 0) = true := bne_iff_ne.mpr c6
  by_cases c26 : t158 = 1
  ·
   rw [if_pos c26] at H
   have c26b0 : (t158 == 1) = true := beq_iff_eq.mpr c26
   have c26b1 : (t158 != 1) = false := bne_eq_false_iff_eq.mpr c26
   clear c26
   obtain ⟨y167, hy_⟩ : ∃ y_ : List Int, y_ = ((([(-1), 0, 7, 4611686018427387904] : List Int))) := ⟨_, rfl⟩
   replace H : ((spec_l1Cur_among.f s0_0 t159 t160 y167).bind fun bt170 => (some (t150, bt170.1, t152, bt170.2.1, bt170.2.2))) = some (r1, r2, r3, r4, r5) := qH
   have Ny167 := Aside0.mk hy_
   clear hy_
   replace H := qE H
   obtain ⟨⟨t170, t171, t172⟩, A27, H⟩ := H
   replace H : (some (t150, t170, t152, t171, t172)) = some (r1, r2, r3, r4, r5) := H
   simp only [Option.some.injEq, Prod.mk.injEq] at H
   obtain ⟨rfl, rfl, rfl, rfl, rfl⟩ := H
   go_enter Tryd.func38, Tryd.ntmps38
   go_wp2_with (first | ((with_reducible refine gate_dst (N := 2) rfl ?_); refine qv 2 #[.int .i64 0, .int .i64 0, .slice none 0 0] 26 ?_; intro gb143 hg w28 hbox hb; have BK143 := am hbox; have GW143 := qx hg; have GE143 := qy HW0 (qx hg); have Nq0 := qo hg g; have Nq2 := qO hg g; replace HK := qU hb; replace HB := qt hb; replace HI0 := qj hb; clear hb hbox hg) | ((with_reducible refine gate_callee (f := 49) rfl ?_); refine qg (some 6) Tryd.func49 #[.pointer (some ⟨g, 0, none⟩)] ?_; (with_reducible refine (spec_l1Cur_sides.calls g s0_0 s0_1 s0_2 t144 t145 t146 w0 _ ?side1 ?side2 A2.out).mono ?_); (case side1 => exact qi); (case side2 => exact qc); rintro e w29 ⟨rfl, hi, hb, hk⟩; refine ⟨_, rfl, ?_⟩; replace BK143 := qK BK143 hk Nq2; replace HK := qT hk; replace HB := am hb; replace HI0 := am hi; (try clear hb hk hi)) | ((with_reducible refine gate_callee (f := 49) rfl ?_); refine qg (some 8) Tryd.func49 #[.pointer (some ⟨g, 0, none⟩)] ?_; (with_reducible refine (spec_l1Cur_sides.calls g s0_0 t145 t146 t147 t148 t149 w0 _ ?side1 ?side2 A3.out).mono ?_); (case side1 => exact qi); (case side2 => exact qc); rintro e w30 ⟨rfl, hi, hb, hk⟩; refine ⟨_, rfl, ?_⟩; replace BK143 := qK BK143 hk Nq2; replace HK := qT hk; replace HB := am hb; replace HI0 := am hi; (try clear hb hk hi)) | ((with_reducible refine gate_callee (f := 48) rfl ?_); refine qg (some 9) Tryd.func48 #[.pointer (some ⟨g, 0, none⟩), .int .i64 t144, .int .i64 t147] ?_; (with_reducible refine (spec_l1Cur_boardOf.calls k g s0_0 t148 t149 t144 t147 t150 t151 t152 t155 t156 w0 _ ?side1 ?side2 A4.out).mono ?_); (case side1 => exact qi); (case side2 => exact qc); rintro e w31 ⟨v153, rfl, ho0, hi, hb, hk⟩; refine ⟨_, rfl, ?_⟩; have Oq0 := qm ho0; replace BK143 := qK BK143 hk Nq2; replace HK := qT hk; replace HB := am hb; replace HI0 := am hi; (try clear hb hk hi ho0)) | ((with_reducible refine gate_dst (N := 3) rfl ?_); refine qv 3 #[.int .i64 0, .int .i64 0, .slice none 0 0] 26 ?_; intro gb157 hg w32 hbox hb; have BK157 := am hbox; have GW157 := qx hg; have GE157 := qy HW0 (qx hg); have Nq3 := qn hg BK143; have Nq5 := qN hg BK143; have Nq1 := qo hg g; have Nq4 := qO hg g; replace Oq0 := sqR Oq0 hb; replace BK143 := sqB BK143 hb; replace HK := qU hb; replace HB := qt hb; replace HI0 := qj hb; clear hb hbox hg; have bq4 := Nq5.out; have cq4 := Nq3.out; have bq5 := Nq4.out; have cq5 := Nq1.out; obtain ⟨zq18, zq19, zq20, fq18, fq19, fq20⟩ := qd BK157; obtain ⟨Ao36, co36, eo36⟩ := Kd.R_slice Oq0.out; subst eo36) | ((with_reducible refine gate_callee (f := 40) rfl ?_); refine qg (some 11) Tryd.func40 #[.pointer (some ⟨g, 0, none⟩), .int .i64 18] ?_; (with_reducible refine (spec_l1Cur_pick.calls g s0_0 t155 t156 18 t158 t159 t160 w0 _ ?side1 ?side2 A5.out).mono ?_); (case side1 => exact qi); (case side2 => exact qc); rintro e w37 ⟨rfl, hi, hb, hk⟩; refine ⟨_, rfl, ?_⟩; replace BK143 := am (KeepBut.blk hk (g' := gb143) (o := .cells #[.int .i64 0, .int .i64 0, .slice none 0 0] 26 (0, 0)) Q7 Nq2.out (by simp)); replace Oq0 := am (Kd.R_mono (Kd.R_keep (IsS57.apart (show IsS57 w0 _ g s0_0 t155 t156 from qi) (sqw (sqo Oq0 BK157)) (by decide)) hk (fun _ h => h.2)) (fun _ h => h.1)); replace BK157 := am (KeepBut.blk hk (g' := gb157) (o := .cells #[.int .i64 t150, .int .i64 t151, .slice Ao36 t152.length co36] 26 (0, 0)) Q4 Nq4.out (by simp)); replace HK := qT hk; replace HB := am hb; replace HI0 := am hi; (try clear hb hk hi)) | ((with_reducible refine gate_dst (N := 24) rfl ?_); refine Kd.R_lit (Kd.int .i64) _ 3 ?hg (N := 24) ?hd (xs := ([(-1), 0, 7, 4611686018427387904] : List Int)) (inner := [.int .i64 (-1), .int .i64 0, .int .i64 7, .int .i64 4611686018427387904]) (ok := fun _ => True) (okp := fun _ => True) ?hr ?hp (fun _ hk => hk) trivial (Below.refl _ _) (Nat.le_refl _) (by simp) ?_; (case hd => rfl); (case hg => rfl); (case hr => first | (go_simp; done) | (go_simp; rfl)); (case hp => exact (Reps.one (show Kd.M (Kd.int .i64) _ _ _ (-1) [.int .i64 (-1)] from rfl) (Reps.one (show Kd.M (Kd.int .i64) _ _ _ 0 [.int .i64 0] from rfl) (Reps.one (show Kd.M (Kd.int .i64) _ _ _ 7 [.int .i64 7] from rfl) (Reps.one (show Kd.M (Kd.int .i64) _ _ _ 4611686018427387904 [.int .i64 4611686018427387904] from rfl) (Reps.none _ _)))))); intro v168 w38 ho39 hb hg_ hnew_; clear hg_ hnew_; (first | rw [← Ny167.out] at ho39 | (simp only [Int.reduceToNat] at ho39; rw [← Ny167.out] at ho39)); have Oq2 := am (Kd.R_lower (Kd.R_new' ho39 (sqL Oq0)) (qz w g)); replace BK143 := sqB BK143 hb; replace BK157 := sqB BK157 hb; replace Oq0 := qe (sqr Oq0) ho39 hb; replace HK := qU hb; replace HB := qt hb; replace HI0 := qj hb; clear hb ho39; obtain ⟨Ao40, co40, eo40⟩ := Kd.R_slice Oq2.out; subst eo40) | ((with_reducible refine gate_callee (f := 65) rfl ?_); refine qg (some 25) Tryd.func65 #[.pointer (some ⟨g, 0, none⟩), .slice Ao40 y167.length co40] ?_; (with_reducible refine (spec_l1Cur_among.calls g s0_0 t159 t160 _ _ y167 t170 t171 t172 w0 _ ?side1 ?side2 ?side3 ?side4 ?side5 A27.out).mono ?_); (case side1 => exact qi); (case side2 => exact qc); (case side3 => repeat (first | exact (Kd.R_reads' Oq2.out).2.2 | (with_reducible first | refine Kd.C_alloc ?_ _ | refine Kd.C_drewN ?_ _ | refine Kd.C_drew ?_))); (case side4 => exact (Kd.R_reads' Oq2.out).2.1); (case side5 => exact far_slice (IsS57.own_ne HI0.out Oq2.out (by decide))); rintro e w41 ⟨rfl, hi, hb, hk⟩; refine ⟨_, rfl, ?_⟩; replace BK143 := qK BK143 hk Nq2; replace Oq0 := qR Oq0 hk; replace BK157 := qK BK157 hk Nq4; replace Oq2 := qR Oq2 hk; replace HK := qT hk; replace HB := am hb; replace HI0 := am hi; (try clear hb hk hi); obtain ⟨zq21, zq22, zq23, fq21, fq22, fq23⟩ := qd BK157; have bq6 := Nq2.out; have cq6 := Nq0.out; obtain ⟨zq24, zq25, zq26, fq24, fq25, fq26⟩ := qd BK143))
   refine bodyPost_ret (results_cell_row rfl _ _ gb143 26 #[.int .i64 t150, .int .i64 t170, .slice Ao36 t152.length co36] (0, 0) _ rfl (by (with_reducible repeat (first | refine blk_drewN ?_ _ | refine blk_drew ?_ | refine blk_alloc ?_ _)); refine blk_put (cs := #[.int .i64 t150, .int .i64 t170, .slice none 0 0]) ?_ 2 _ rfl; (with_reducible repeat (first | refine blk_drewN ?_ _ | refine blk_drew ?_ | refine blk_alloc ?_ _)); refine blk_put (cs := #[.int .i64 t150, .int .i64 0, .slice none 0 0]) ?_ 1 _ rfl; (with_reducible repeat (first | refine blk_drewN ?_ _ | refine blk_drew ?_ | refine blk_alloc ?_ _)); refine blk_put (cs := #[.int .i64 0, .int .i64 0, .slice none 0 0]) ?_ 0 _ rfl; (with_reducible repeat (first | refine blk_drewN ?_ _ | refine blk_drew ?_ | refine blk_alloc ?_ _)); refine blk_far ?_ Nq3.out _; (with_reducible repeat (first | refine blk_drewN ?_ _ | refine blk_drew ?_ | refine blk_alloc ?_ _)); exact BK143.out) Tryd.underlying26 rfl (by kernel_rfl)) rfl ?_
   exact ⟨_, Q1, by (with_reducible repeat (first | apply Kd.R_alloc | apply Kd.R_drewN | apply Kd.R_drew)); exact Kd.R_mono (Kd.R_far (p := ⟨gb143, 2, none⟩) (Kd.R_far (p := ⟨gb143, 1, none⟩) (Kd.R_far (p := ⟨gb143, 0, none⟩) (Kd.R_far (p := ⟨gb157, 1, none⟩) (Kd.R_types (Kd.R_types Oq0.out BK157.out (by decide)) BK143.out (by decide)) (fun _ hk => hk.1.2) (.int .i64 t170)) (fun _ hk => hk.2) (.int .i64 t150)) (fun _ hk => hk.2) (.int .i64 t170)) (fun _ hk => hk.2) (.slice Ao36 t152.length co36)) (fun _ hk => trivial), qi, qc, qk⟩
  ·
   rw [if_neg c26] at H
   have c26b0 : (t158 == 1) = false := beq_eq_false_iff_ne.mpr c26
   have c26b1 : (t158 != 1) = true := bne_iff_ne.mpr c26
   by_cases c45 : t158 = 2
   ·
    rw [if_pos c45] at H
    have c45b0 : (t158 == 2) = true := beq_iff_eq.mpr c45
    have c45b1 : (t158 != 2) = false := bne_eq_false_iff_eq.mpr c45
    clear c45
    replace H := qE H
    obtain ⟨⟨t173, t174, t175⟩, A46, H⟩ := H
    replace H : ((spec_l1Cur_among.f s0_0 t174 t175 (([(-1), 64, 4611686018427387904] : List Int))).bind fun bt179 => (if 0 ≤ t173 then (if t173 < (t152.length : Int) then (some (t150, t151, (t152.set (t173 : Int).toNat bt179.1), bt179.2.1, bt179.2.2)) else (none)) else (none))) = some (r1, r2, r3, r4, r5) := H
    obtain ⟨y176, hy_⟩ : ∃ y_ : List Int, y_ = ((([(-1), 64, 4611686018427387904] : List Int))) := ⟨_, rfl⟩
    replace H : ((spec_l1Cur_among.f s0_0 t174 t175 y176).bind fun bt179 => (if 0 ≤ t173 then (if t173 < (t152.length : Int) then (some (t150, t151, (t152.set (t173 : Int).toNat bt179.1), bt179.2.1, bt179.2.2)) else (none)) else (none))) = some (r1, r2, r3, r4, r5) := qH
    have Ny176 := Aside0.mk hy_
    clear hy_
    replace H := qE H
    obtain ⟨⟨t179, t180, t181⟩, A47, H⟩ := H
    replace H : (if 0 ≤ t173 then (if t173 < (t152.length : Int) then (some (t150, t151, (t152.set (t173 : Int).toNat t179), t180, t181)) else (none)) else (none)) = some (r1, r2, r3, r4, r5) := H
    by_cases c48 : 0 ≤ t173
    ·
     rw [if_pos c48] at H
     have c48b0 : decide (0 ≤ t173) = true := decide_eq_true c48
     clear c48
     by_cases c49 : t173 < (t152.length : Int)
     ·
      rw [if_pos c49] at H
      have c49b0 : decide (t173 < (t152.length : Int)) = true := decide_eq_true c49
      clear c49
      obtain ⟨y182, hy_⟩ : ∃ y_ : List Int, y_ = ((t152.set (t173 : Int).toNat t179)) := ⟨_, rfl⟩
      replace H : (some (t150, t151, y182, t180, t181)) = some (r1, r2, r3, r4, r5) := qH
      have Ny182 := Aside0.mk hy_
      clear hy_
      simp only [Option.some.injEq, Prod.mk.injEq] at H
      obtain ⟨rfl, rfl, rfl, rfl, rfl⟩ := H
      go_enter Tryd.func38, Tryd.ntmps38
      try go_wp2_with (first | ((with_reducible refine gate_dst (N := 2) rfl ?_); refine qv 2 #[.int .i64 0, .int .i64 0, .slice none 0 0] 26 ?_; intro gb143 hg w51 hbox hb; have BK143 := am hbox; have GW143 := qx hg; have GE143 := qy HW0 (qx hg); have Nq0 := qo hg g; have Nq2 := qO hg g; replace HK := qU hb; replace HB := qt hb; replace HI0 := qj hb; clear hb hbox hg) | ((with_reducible refine gate_callee (f := 49) rfl ?_); refine qg (some 6) Tryd.func49 #[.pointer (some ⟨g, 0, none⟩)] ?_; (with_reducible refine (spec_l1Cur_sides.calls g s0_0 s0_1 s0_2 t144 t145 t146 w0 _ ?side1 ?side2 A2.out).mono ?_); (case side1 => exact qi); (case side2 => exact qc); rintro e w52 ⟨rfl, hi, hb, hk⟩; refine ⟨_, rfl, ?_⟩; replace BK143 := qK BK143 hk Nq2; replace HK := qT hk; replace HB := am hb; replace HI0 := am hi; (try clear hb hk hi)) | ((with_reducible refine gate_callee (f := 49) rfl ?_); refine qg (some 8) Tryd.func49 #[.pointer (some ⟨g, 0, none⟩)] ?_; (with_reducible refine (spec_l1Cur_sides.calls g s0_0 t145 t146 t147 t148 t149 w0 _ ?side1 ?side2 A3.out).mono ?_); (case side1 => exact qi); (case side2 => exact qc); rintro e w53 ⟨rfl, hi, hb, hk⟩; refine ⟨_, rfl, ?_⟩; replace BK143 := qK BK143 hk Nq2; replace HK := qT hk; replace HB := am hb; replace HI0 := am hi; (try clear hb hk hi)) | ((with_reducible refine gate_callee (f := 48) rfl ?_); refine qg (some 9) Tryd.func48 #[.pointer (some ⟨g, 0, none⟩), .int .i64 t144, .int .i64 t147] ?_; (with_reducible refine (spec_l1Cur_boardOf.calls k g s0_0 t148 t149 t144 t147 t150 t151 t152 t155 t156 w0 _ ?side1 ?side2 A4.out).mono ?_); (case side1 => exact qi); (case side2 => exact qc); rintro e w54 ⟨v153, rfl, ho0, hi, hb, hk⟩; refine ⟨_, rfl, ?_⟩; have Oq0 := qm ho0; replace BK143 := qK BK143 hk Nq2; replace HK := qT hk; replace HB := am hb; replace HI0 := am hi; (try clear hb hk hi ho0)) | ((with_reducible refine gate_dst (N := 3) rfl ?_); refine qv 3 #[.int .i64 0, .int .i64 0, .slice none 0 0] 26 ?_; intro gb157 hg w55 hbox hb; have BK157 := am hbox; have GW157 := qx hg; have GE157 := qy HW0 (qx hg); have Nq3 := qn hg BK143; have Nq5 := qN hg BK143; have Nq1 := qo hg g; have Nq4 := qO hg g; replace Oq0 := sqR Oq0 hb; replace BK143 := sqB BK143 hb; replace HK := qU hb; replace HB := qt hb; replace HI0 := qj hb; clear hb hbox hg; have bq7 := Nq5.out; have cq7 := Nq3.out; have bq8 := Nq4.out; have cq8 := Nq1.out; obtain ⟨zq27, zq28, zq29, fq27, fq28, fq29⟩ := qd BK157; obtain ⟨Ao59, co59, eo59⟩ := Kd.R_slice Oq0.out; subst eo59) | ((with_reducible refine gate_callee (f := 40) rfl ?_); refine qg (some 11) Tryd.func40 #[.pointer (some ⟨g, 0, none⟩), .int .i64 18] ?_; (with_reducible refine (spec_l1Cur_pick.calls g s0_0 t155 t156 18 t158 t159 t160 w0 _ ?side1 ?side2 A5.out).mono ?_); (case side1 => exact qi); (case side2 => exact qc); rintro e w60 ⟨rfl, hi, hb, hk⟩; refine ⟨_, rfl, ?_⟩; replace BK143 := am (KeepBut.blk hk (g' := gb143) (o := .cells #[.int .i64 0, .int .i64 0, .slice none 0 0] 26 (0, 0)) Q7 Nq2.out (by simp)); replace Oq0 := am (Kd.R_mono (Kd.R_keep (IsS57.apart (show IsS57 w0 _ g s0_0 t155 t156 from qi) (sqw (sqo Oq0 BK157)) (by decide)) hk (fun _ h => h.2)) (fun _ h => h.1)); replace BK157 := am (KeepBut.blk hk (g' := gb157) (o := .cells #[.int .i64 t150, .int .i64 t151, .slice Ao59 t152.length co59] 26 (0, 0)) Q4 Nq4.out (by simp)); replace HK := qT hk; replace HB := am hb; replace HI0 := am hi; (try clear hb hk hi)))
      replace Oq0 := am (Kd.R_drew Oq0.out)
      replace BK143 := am (blk_drew BK143.out)
      replace BK157 := am (blk_drew BK157.out)
      replace HI0 := am (IsS57.drew HI0.out)
      replace HK := am (keep_drew HK.out)
      replace HB := am (below_drew1 HB.out)
      refine start_ (n := 12) (S := fun w' => w'.cell? ⟨gb157, 0, none⟩ = some (.int .i64 t150) ∧ w'.cell? ⟨gb157, 1, none⟩ = some (.int .i64 t151) ∧ w'.cell? ⟨gb157, 2, none⟩ = some (.slice Ao59 t152.length co59)) (ds := [11]) #[false, false, false, false, false, false, false, false, false, false, false, false] (by kernel_rfl) rfl rfl ⟨sqc BK157 0, sqc BK157 1, sqc BK157 2⟩ (fun hHeld => ?_); refine with_tabW spec_l1Cur_board.tab8 spec_l1Cur_board.bits8 (fun HT_ HW_ => ?_)
      generalize w60.drew = w61 at Oq0 BK143 BK157 HI0 HK HB hHeld ⊢
      refine qp 0 (some 29) #[true, false, false, false, false, false, false, false, false, false, false, false] ?_
      refine qp 2 (some 31) #[true, false, true, false, false, false, false, false, false, false, false, false] ?_
      refine qp 3 (some 32) #[true, false, true, true, false, false, false, false, false, false, false, false] ?_
      refine qp 7 (some 36) #[true, false, true, true, false, false, false, true, false, false, false, false] ?_
      refine take_ (i := 1) (N := some 30) (v := ?_) (a' := ?_) #[true, true, true, true, false, false, false, true, false, false, false, false] rfl rfl (take_ofW HT_.out HW_.out (by kernel_rfl)) (fun _ _ _ h => h) (Or.inl ⟨by rfl, ?_⟩) hHeld ?_ ?_
      rotate_left
      ·
       rintro w' ⟨s0, s1, s2⟩
       go_simp
       with_reducible rfl
      rotate_left
      ·
       simp only [Act.put, List.setIfInBounds_toArray, List.set_cons_zero, List.set_cons_succ, i64_w, i32_w]
       rfl
      refine take_ (i := 4) (N := some 33) (v := ?_) (a' := ?_) #[true, true, true, true, true, false, false, true, false, false, false, false] rfl rfl (take_ofW HT_.out HW_.out (by kernel_rfl)) (fun _ _ _ h => h) (Or.inl ⟨by rfl, ?_⟩) hHeld ?_ ?_
      rotate_left
      ·
       rintro w' ⟨s0, s1, s2⟩
       go_simp
       with_reducible rfl
      rotate_left
      ·
       simp only [Act.put, List.setIfInBounds_toArray, List.set_cons_zero, List.set_cons_succ, i64_w, i32_w]
       rfl
      refine qp 5 (some 34) #[true, true, true, true, true, true, false, true, false, false, false, false] ?_
      refine join_ (σ := Value) 3 #[true, true, true, true, true, true, true, true, true, false, false, false] (fun s_ => [(35, .int .i64 t173), (37, s_)]) (fun s_ w' => (w'.cell? ⟨gb157, 0, none⟩ = some (.int .i64 t150) ∧ w'.cell? ⟨gb157, 1, none⟩ = some (.int .i64 t151) ∧ w'.cell? ⟨gb157, 2, none⟩ = some (.slice Ao59 t152.length co59)) ∧ (Kd.R (Kd.int .i64) 3 w' w.heap.size (fun k_ => some k_ ≠ (s_ : Value).ownBlock) (.slice Ao59 t152.length co59) t152) ∧ (Kd.R (Kd.int .i64) 3 w' w.heap.size (fun k_ => some k_ ≠ (.slice Ao59 t152.length co59 : Value).ownBlock) s_ y176) ∧ (w'.heap[gb143]? = some (.cells #[.int .i64 0, .int .i64 0, .slice none 0 0] 26 (0, 0))) ∧ (w'.heap[gb157]? = some (.cells #[.int .i64 t150, .int .i64 t151, .slice Ao59 t152.length co59] 26 (0, 0))) ∧ (IsS57 w0 w' g s0_0 t174 t175) ∧ (KeepBut w w' g none) ∧ (Below w0.heap.size w0 w')) ?_ ?_
      rotate_left
      ·
       intro hCont
       refine two_ (i := 6) (j := 8) (Ni := some 35) (Nj := some 37) #[true, true, true, true, true, true, true, true, false, false, false, false] #[true, true, true, true, true, true, false, true, true, false, false, false] rfl rfl rfl rfl (two_of HT_.out (by kernel_rfl)) (by decide) (by decide) (fun K hK => ?_) (fun K hK => ?_)
       ·
        skip
        refine qG Tryd.func40 #[.pointer (some ⟨g, 0, none⟩), .int .i64 (t152.length : Int)] ?_
        with_reducible refine (spec_l1Cur_pick.calls g s0_0 t159 t160 (t152.length : Int) t173 t174 t175 w0 _ ?side1 ?side2 A46.out).mono ?_
        (case side1 => exact qi)
        (case side2 => exact qc)
        rintro e w62 ⟨rfl, hi, hb, hk⟩
        refine ⟨_, rfl, ?_⟩
        replace BK143 := qK BK143 hk Nq2
        replace Oq0 := qR Oq0 hk
        replace BK157 := qK BK157 hk Nq4
        replace HK := qT hk
        replace HB := am hb
        replace HI0 := am hi
        (try clear hb hk hi)
        refine hK.out _ _ ⟨sqc BK157 0, sqc BK157 1, sqc BK157 2⟩ (fun hHeld => ?_)
        clear hK K
        refine qq (some 35) ?_
        refine one_ (i := 8) (N := some 37) #[true, true, true, true, true, true, true, true, true, false, false, false] rfl rfl (one_of HT_.out (by kernel_rfl)) (by decide) fun K hK => ?_
        refine Kd.R_lit_step (Kd.int .i64) _ 3 ?hg (N := 37) ?hd (xs := ([(-1), 64, 4611686018427387904] : List Int)) (inner := [.int .i64 (-1), .int .i64 64, .int .i64 4611686018427387904]) (ok := fun _ => True) (okp := fun _ => True) ?hr ?hp (fun _ hk => hk) trivial (Below.refl _ _) (Nat.le_refl _) (by simp) ?_; (case hd => rfl); (case hg => rfl); (case hr => first | (go_simp; done) | (go_simp; rfl)); (case hp => exact (Reps.one (show Kd.M (Kd.int .i64) _ _ _ (-1) [.int .i64 (-1)] from rfl) (Reps.one (show Kd.M (Kd.int .i64) _ _ _ 64 [.int .i64 64] from rfl) (Reps.one (show Kd.M (Kd.int .i64) _ _ _ 4611686018427387904 [.int .i64 4611686018427387904] from rfl) (Reps.none _ _)))))
        intro v177 w63 ho64 hb hg_ hnew_
        clear hg_ hnew_
        (first | rw [← Ny176.out] at ho64 | (simp only [Int.reduceToNat] at ho64; rw [← Ny176.out] at ho64))
        have Oq3 := am (Kd.R_lower (Kd.R_new' ho64 (sqL Oq0)) (qz w g))
        replace BK143 := sqB BK143 hb
        replace BK157 := sqB BK157 hb
        replace Oq0 := qe (sqr Oq0) ho64 hb
        replace HK := qU hb
        replace HB := qt hb
        replace HI0 := qj hb
        clear hb ho64
        refine hK.out _ _ ⟨sqc BK157 0, sqc BK157 1, sqc BK157 2⟩ (fun hHeld => ?_)
        clear hK K
        refine qq (some 37) ?_
        exact norm_ Q39 (hCont (v177) _ ⟨hHeld, (by exact sqm Oq0 (fun _ hk => hk.2)), (by exact sqm Oq3 (fun _ hk => hk.2)), (sqb BK143), (sqb BK157), qi, qk, qc⟩)
       ·
        skip
        refine Kd.R_lit_step (Kd.int .i64) _ 3 ?hg (N := 37) ?hd (xs := ([(-1), 64, 4611686018427387904] : List Int)) (inner := [.int .i64 (-1), .int .i64 64, .int .i64 4611686018427387904]) (ok := fun _ => True) (okp := fun _ => True) ?hr ?hp (fun _ hk => hk) trivial (Below.refl _ _) (Nat.le_refl _) (by simp) ?_; (case hd => rfl); (case hg => rfl); (case hr => first | (go_simp; done) | (go_simp; rfl)); (case hp => exact (Reps.one (show Kd.M (Kd.int .i64) _ _ _ (-1) [.int .i64 (-1)] from rfl) (Reps.one (show Kd.M (Kd.int .i64) _ _ _ 64 [.int .i64 64] from rfl) (Reps.one (show Kd.M (Kd.int .i64) _ _ _ 4611686018427387904 [.int .i64 4611686018427387904] from rfl) (Reps.none _ _)))))
        intro v177 w62 ho63 hb hg_ hnew_
        clear hg_ hnew_
        (first | rw [← Ny176.out] at ho63 | (simp only [Int.reduceToNat] at ho63; rw [← Ny176.out] at ho63))
        have Oq3 := am (Kd.R_lower (Kd.R_new' ho63 (sqL Oq0)) (qz w g))
        replace BK143 := sqB BK143 hb
        replace BK157 := sqB BK157 hb
        replace Oq0 := qe (sqr Oq0) ho63 hb
        replace HK := qU hb
        replace HB := qt hb
        replace HI0 := qj hb
        clear hb ho63
        refine hK.out _ _ ⟨sqc BK157 0, sqc BK157 1, sqc BK157 2⟩ (fun hHeld => ?_)
        clear hK K
        refine qq (some 37) ?_
        refine one_ (i := 6) (N := some 35) #[true, true, true, true, true, true, true, true, true, false, false, false] rfl rfl (one_of HT_.out (by kernel_rfl)) (by decide) fun K hK => ?_
        refine qG Tryd.func40 #[.pointer (some ⟨g, 0, none⟩), .int .i64 (t152.length : Int)] ?_
        with_reducible refine (spec_l1Cur_pick.calls g s0_0 t159 t160 (t152.length : Int) t173 t174 t175 w0 _ ?side1 ?side2 A46.out).mono ?_
        (case side1 => exact qi)
        (case side2 => exact qc)
        rintro e w64 ⟨rfl, hi, hb, hk⟩
        refine ⟨_, rfl, ?_⟩
        replace BK143 := qK BK143 hk Nq2
        replace Oq0 := qR Oq0 hk
        replace BK157 := qK BK157 hk Nq4
        replace Oq3 := qR Oq3 hk
        replace HK := qT hk
        replace HB := am hb
        replace HI0 := am hi
        (try clear hb hk hi)
        refine hK.out _ _ ⟨sqc BK157 0, sqc BK157 1, sqc BK157 2⟩ (fun hHeld => ?_)
        clear hK K
        refine qq (some 35) ?_
        exact norm_ Q39 (hCont (v177) _ ⟨hHeld, (by exact sqm Oq0 (fun _ hk => hk.2)), (by exact sqm Oq3 (fun _ hk => hk.2)), (sqb BK143), (sqb BK157), qi, qk, qc⟩)
      rintro v177 w65 ⟨hS_, h0_, h1_, h2_, h3_, h4_, h5_, h6_⟩
      have n0_ : Aside0 (Kd.R (Kd.int .i64) 3 w65 w.heap.size (fun k_ => some k_ ≠ (v177 : Value).ownBlock) (.slice Ao59 t152.length co59) t152) := ⟨h0_⟩
      have n1_ : Aside0 (Kd.R (Kd.int .i64) 3 w65 w.heap.size (fun k_ => some k_ ≠ (.slice Ao59 t152.length co59 : Value).ownBlock) v177 y176) := ⟨h1_⟩
      have n2_ : Aside0 (w65.heap[gb143]? = some (.cells #[.int .i64 0, .int .i64 0, .slice none 0 0] 26 (0, 0))) := ⟨h2_⟩
      have n3_ : Aside0 (w65.heap[gb157]? = some (.cells #[.int .i64 t150, .int .i64 t151, .slice Ao59 t152.length co59] 26 (0, 0))) := ⟨h3_⟩
      have n4_ : Aside0 (IsS57 w0 w65 g s0_0 t174 t175) := ⟨h4_⟩
      have n5_ : Aside0 (KeepBut w w65 g none) := ⟨h5_⟩
      have n6_ : Aside0 (Below w0.heap.size w0 w65) := ⟨h6_⟩
      clear Oq0 BK143 BK157 HI0 HK HB h0_ h1_ h2_ h3_ h4_ h5_ h6_
      have Oq0 := n0_
      have Oq3 := n1_
      have BK143 := n2_
      have BK157 := n3_
      have HI0 := n4_
      have HK := n5_
      have HB := n6_
      clear n0_ n1_ n2_ n3_ n4_ n5_ n6_
      have hHeld : w65.cell? ⟨gb157, 0, none⟩ = some (.int .i64 t150) ∧ w65.cell? ⟨gb157, 1, none⟩ = some (.int .i64 t151) ∧ w65.cell? ⟨gb157, 2, none⟩ = some (.slice Ao59 t152.length co59) := hS_
      obtain ⟨Ao66, co66, eo66⟩ := Kd.R_slice Oq3.out
      (first | subst eo66 | (injection eo66 with f1_ f2_ f3_; have f4_ := f1_.symm; have f5_ := f3_.symm; clear f1_ f2_ f3_; subst f4_; subst f5_))
      refine norm_ (a' := ?_) ?_ ?_
      rotate_left
      ·
       simp only [putAll, Act.put, List.setIfInBounds_toArray, List.set_cons_zero, List.set_cons_succ]
       rfl
      refine one_ (i := 9) (N := some 38) #[true, true, true, true, true, true, true, true, true, true, false, false] rfl rfl (one_of HT_.out (by kernel_rfl)) (by decide) fun K hK => ?_
      refine qG Tryd.func65 #[.pointer (some ⟨g, 0, none⟩), .slice Ao66 y176.length co66] ?_
      with_reducible refine (spec_l1Cur_among.calls g s0_0 t174 t175 _ _ y176 t179 t180 t181 w0 _ ?side1 ?side2 ?side3 ?side4 ?side5 A47.out).mono ?_
      (case side1 => exact qi)
      (case side2 => exact qc)
      (case side3 => repeat (first | exact (Kd.R_reads' Oq3.out).2.2 | (with_reducible first | refine Kd.C_alloc ?_ _ | refine Kd.C_drewN ?_ _ | refine Kd.C_drew ?_)))
      (case side4 => exact (Kd.R_reads' Oq3.out).2.1)
      (case side5 => exact far_slice (IsS57.own_ne HI0.out Oq3.out (by decide)))
      rintro e w67 ⟨rfl, hi, hb, hk⟩
      refine ⟨_, rfl, ?_⟩
      replace BK143 := qK BK143 hk Nq2
      replace Oq0 := qR Oq0 hk
      replace BK157 := qK BK157 hk Nq4
      replace Oq3 := qR Oq3 hk
      replace HK := qT hk
      replace HB := am hb
      replace HI0 := am hi
      (try clear hb hk hi)
      have p50 : 0 ≤ (t173 : Int) := of_decide_eq_true Q0
      have q50 : (t173 : Int) < ((t152.length : Int) : Int) := of_decide_eq_true Q0
      obtain ⟨go50, co50, eo50, gb50, gl50, cl50, HG50⟩ := Kd.R_form Oq0.out (by omega)
      (first | cases eo50 | (injection eo50 with ea_ en_ ec_; (first | subst ea_ | (injection ea_ with ea_; subst ea_)); subst ec_; clear en_))
      have GB50 := Aside0.mk gb50
      have GG50 := Aside0.mk HG50
      clear gb50 gl50 HG50
      obtain ⟨hx50_0, hf50_0⟩ := Kd.R_celln 0 Oq0.out (t173 : Int) p50 q50
      replace p50 := eq_true p50
      replace q50 := eq_true q50
      have HN0_go50 := am (show g ≠ go50 from by have h_ := IsS57.own_ne HI0.out Oq0.out (by decide); intro e_; exact h_ (by rw [e_]; rfl))
      have HP68 := Kd.R_putn Oq0.out (t173 : Int) t179
      rw [← Ny182.out] at HP68
      have HQ68 := Aside0.mk HP68
      clear HP68
      refine hK.out _ _ ⟨sqc BK157 0, sqc BK157 1, sqc BK157 2⟩ (fun hHeld => ?_)
      clear hK K
      refine qq (some 38) ?_
      refine qp 10 (some 39) #[true, true, true, true, true, true, true, true, true, true, true, false] ?_
      refine last_ (i := 11) (N := none) #[true, true, true, true, true, true, true, true, true, true, true, true] rfl rfl (one_of HT_.out (by kernel_rfl)) (by decide) fun K hK => ?_
      refine skip_ (w1 := ?_) (by rfl) rfl ?_ ?_
      rotate_left
      ·
       go_simp
       rfl
      refine hK.out _ _ ?_
      clear hK K
      refine done_ (done_of HT_.out (by kernel_rfl)) ?_
      have n0_ : Aside0 (Kd.R (Kd.int .i64) 3 (w67.setCell ⟨go50, (t173 : Int).toNat, none⟩ (.int .i64 t179)) w.heap.size (fun k_ => some k_ ≠ (.slice Ao66 y176.length co66 : Value).ownBlock) (.slice (some ⟨go50, 0, none⟩) t152.length co59) y182) := ⟨by (with_reducible repeat (first | apply Kd.R_alloc | apply Kd.R_drewN | apply Kd.R_drew)); exact HQ68.out⟩
      have n1_ : Aside0 (Kd.R (Kd.int .i64) 3 (w67.setCell ⟨go50, (t173 : Int).toNat, none⟩ (.int .i64 t179)) w.heap.size (fun k_ => some k_ ≠ (.slice (some ⟨go50, 0, none⟩) t152.length co59 : Value).ownBlock) (.slice Ao66 y176.length co66) y176) := ⟨by (with_reducible repeat (first | apply Kd.R_alloc | apply Kd.R_drewN | apply Kd.R_drew)); exact Kd.R_mono (Kd.R_far (p := ⟨go50, (t173 : Int).toNat, none⟩) (Kd.R_mono Oq3.out (fun k_ hk => (⟨hk, fun e_ => hk (by rw [e_]; rfl)⟩ : _ ∧ k_ ≠ go50))) (fun _ hk => hk.2) (.int .i64 t179)) (fun _ hk => hk.1)⟩
      have n2_ : Aside0 ((w67.setCell ⟨go50, (t173 : Int).toNat, none⟩ (.int .i64 t179)).heap[gb143]? = some (.cells #[.int .i64 0, .int .i64 0, .slice none 0 0] 26 (0, 0))) := ⟨by (with_reducible repeat (first | refine blk_drewN ?_ _ | refine blk_drew ?_ | refine blk_alloc ?_ _)); refine blk_far ?_ (by have h_ := Kd.R_ne Oq0.out BK143.out (by decide); intro e_; exact h_ (by rw [e_]; rfl)) _; (with_reducible repeat (first | refine blk_drewN ?_ _ | refine blk_drew ?_ | refine blk_alloc ?_ _)); exact BK143.out⟩
      have n3_ : Aside0 ((w67.setCell ⟨go50, (t173 : Int).toNat, none⟩ (.int .i64 t179)).heap[gb157]? = some (.cells #[.int .i64 t150, .int .i64 t151, .slice (some ⟨go50, 0, none⟩) t152.length co59] 26 (0, 0))) := ⟨by (with_reducible repeat (first | refine blk_drewN ?_ _ | refine blk_drew ?_ | refine blk_alloc ?_ _)); refine blk_far ?_ (by have h_ := Kd.R_ne Oq0.out BK157.out (by decide); intro e_; exact h_ (by rw [e_]; rfl)) _; (with_reducible repeat (first | refine blk_drewN ?_ _ | refine blk_drew ?_ | refine blk_alloc ?_ _)); exact BK157.out⟩
      have n4_ : Aside0 (IsS57 w0 (w67.setCell ⟨go50, (t173 : Int).toNat, none⟩ (.int .i64 t179)) g s0_0 t180 t181) := ⟨qi⟩
      have n5_ : Aside0 (KeepBut w (w67.setCell ⟨go50, (t173 : Int).toNat, none⟩ (.int .i64 t179)) g none) := ⟨qk⟩
      have n6_ : Aside0 (Below w0.heap.size w0 (w67.setCell ⟨go50, (t173 : Int).toNat, none⟩ (.int .i64 t179))) := ⟨qc⟩
      generalize (w67.setCell ⟨go50, (t173 : Int).toNat, none⟩ (.int .i64 t179)) = w69 at n0_ n1_ n2_ n3_ n4_ n5_ n6_ ⊢
      have Oq0 := n0_
      have Oq3 := n1_
      have BK143 := n2_
      have BK157 := n3_
      have HI0 := n4_
      have HK := n5_
      have HB := n6_
      clear n0_ n1_ n2_ n3_ n4_ n5_ n6_
      obtain ⟨zq33, zq34, zq35, fq33, fq34, fq35⟩ := qd BK157
      have bq10 := Nq2.out
      have cq10 := Nq0.out
      obtain ⟨zq36, zq37, zq38, fq36, fq37, fq38⟩ := qd BK143
      try go_wp2
      refine bodyPost_ret (results_cell_row rfl _ _ gb143 26 #[.int .i64 t150, .int .i64 t151, .slice (some ⟨go50, 0, none⟩) t152.length co59] (0, 0) _ rfl Q15 Tryd.underlying26 rfl (by kernel_rfl)) rfl ?_
      exact ⟨_, Q1, by (with_reducible repeat (first | apply Kd.R_alloc | apply Kd.R_drewN | apply Kd.R_drew)); exact Kd.R_mono (Kd.R_far (p := ⟨gb143, 2, none⟩) (Kd.R_far (p := ⟨gb143, 1, none⟩) (Kd.R_far (p := ⟨gb143, 0, none⟩) (Kd.R_types Oq0.out BK143.out (by decide)) (fun _ hk => hk.2) (.int .i64 t150)) (fun _ hk => hk.2) (.int .i64 t151)) (fun _ hk => hk.2) (.slice (some ⟨go50, 0, none⟩) t152.length co59)) (fun _ hk => trivial), qi, qc, qk⟩
     ·
      rw [if_neg c49] at H
      exact absurd H (by simp)
    ·
     rw [if_neg c48] at H
     exact absurd H (by simp)
   ·
    rw [if_neg c45] at H
    have c45b0 : (t158 == 2) = false := beq_eq_false_iff_ne.mpr c45
    have c45b1 : (t158 != 2) = true := bne_iff_ne.mpr c45
    by_cases c73 : t158 = 3
    ·
     rw [if_pos c73] at H
     have c73b0 : (t158 == 3) = true := beq_iff_eq.mpr c73
     have c73b1 : (t158 != 3) = false := bne_eq_false_iff_eq.mpr c73
     clear c73
     by_cases c74 : t152.length < 17592186044416
     ·
      rw [if_pos c74] at H
      have LMc74 := Aside0.mk c74
      clear c74
      obtain ⟨y183, hy_⟩ : ∃ y_ : List Int, y_ = ((t152 ++ [0])) := ⟨_, rfl⟩
      replace H : (some (t150, t151, y183, t159, t160)) = some (r1, r2, r3, r4, r5) := qH
      have Ny183 := Aside0.mk hy_
      clear hy_
      simp only [Option.some.injEq, Prod.mk.injEq] at H
      obtain ⟨rfl, rfl, rfl, rfl, rfl⟩ := H
      go_enter Tryd.func38, Tryd.ntmps38
      go_wp2_with (first | ((with_reducible refine gate_dst (N := 2) rfl ?_); refine qv 2 #[.int .i64 0, .int .i64 0, .slice none 0 0] 26 ?_; intro gb143 hg w75 hbox hb; have BK143 := am hbox; have GW143 := qx hg; have GE143 := qy HW0 (qx hg); have Nq0 := qo hg g; have Nq2 := qO hg g; replace HK := qU hb; replace HB := qt hb; replace HI0 := qj hb; clear hb hbox hg) | ((with_reducible refine gate_callee (f := 49) rfl ?_); refine qg (some 6) Tryd.func49 #[.pointer (some ⟨g, 0, none⟩)] ?_; (with_reducible refine (spec_l1Cur_sides.calls g s0_0 s0_1 s0_2 t144 t145 t146 w0 _ ?side1 ?side2 A2.out).mono ?_); (case side1 => exact qi); (case side2 => exact qc); rintro e w76 ⟨rfl, hi, hb, hk⟩; refine ⟨_, rfl, ?_⟩; replace BK143 := qK BK143 hk Nq2; replace HK := qT hk; replace HB := am hb; replace HI0 := am hi; (try clear hb hk hi)) | ((with_reducible refine gate_callee (f := 49) rfl ?_); refine qg (some 8) Tryd.func49 #[.pointer (some ⟨g, 0, none⟩)] ?_; (with_reducible refine (spec_l1Cur_sides.calls g s0_0 t145 t146 t147 t148 t149 w0 _ ?side1 ?side2 A3.out).mono ?_); (case side1 => exact qi); (case side2 => exact qc); rintro e w77 ⟨rfl, hi, hb, hk⟩; refine ⟨_, rfl, ?_⟩; replace BK143 := qK BK143 hk Nq2; replace HK := qT hk; replace HB := am hb; replace HI0 := am hi; (try clear hb hk hi)) | ((with_reducible refine gate_callee (f := 48) rfl ?_); refine qg (some 9) Tryd.func48 #[.pointer (some ⟨g, 0, none⟩), .int .i64 t144, .int .i64 t147] ?_; (with_reducible refine (spec_l1Cur_boardOf.calls k g s0_0 t148 t149 t144 t147 t150 t151 t152 t155 t156 w0 _ ?side1 ?side2 A4.out).mono ?_); (case side1 => exact qi); (case side2 => exact qc); rintro e w78 ⟨v153, rfl, ho0, hi, hb, hk⟩; refine ⟨_, rfl, ?_⟩; have Oq0 := qm ho0; replace BK143 := qK BK143 hk Nq2; replace HK := qT hk; replace HB := am hb; replace HI0 := am hi; (try clear hb hk hi ho0)) | ((with_reducible refine gate_dst (N := 3) rfl ?_); refine qv 3 #[.int .i64 0, .int .i64 0, .slice none 0 0] 26 ?_; intro gb157 hg w79 hbox hb; have BK157 := am hbox; have GW157 := qx hg; have GE157 := qy HW0 (qx hg); have Nq3 := qn hg BK143; have Nq5 := qN hg BK143; have Nq1 := qo hg g; have Nq4 := qO hg g; replace Oq0 := sqR Oq0 hb; replace BK143 := sqB BK143 hb; replace HK := qU hb; replace HB := qt hb; replace HI0 := qj hb; clear hb hbox hg; have bq11 := Nq5.out; have cq11 := Nq3.out; have bq12 := Nq4.out; have cq12 := Nq1.out; obtain ⟨zq42, zq43, zq44, fq42, fq43, fq44⟩ := qd BK157; obtain ⟨Ao83, co83, eo83⟩ := Kd.R_slice Oq0.out; subst eo83) | ((with_reducible refine gate_callee (f := 40) rfl ?_); refine qg (some 11) Tryd.func40 #[.pointer (some ⟨g, 0, none⟩), .int .i64 18] ?_; (with_reducible refine (spec_l1Cur_pick.calls g s0_0 t155 t156 18 t158 t159 t160 w0 _ ?side1 ?side2 A5.out).mono ?_); (case side1 => exact qi); (case side2 => exact qc); rintro e w84 ⟨rfl, hi, hb, hk⟩; refine ⟨_, rfl, ?_⟩; replace BK143 := am (KeepBut.blk hk (g' := gb143) (o := .cells #[.int .i64 0, .int .i64 0, .slice none 0 0] 26 (0, 0)) Q7 Nq2.out (by simp)); replace Oq0 := am (Kd.R_mono (Kd.R_keep (IsS57.apart (show IsS57 w0 _ g s0_0 t155 t156 from qi) (sqw (sqo Oq0 BK157)) (by decide)) hk (fun _ h => h.2)) (fun _ h => h.1)); replace BK157 := am (KeepBut.blk hk (g' := gb157) (o := .cells #[.int .i64 t150, .int .i64 t151, .slice Ao83 t152.length co83] 26 (0, 0)) Q4 Nq4.out (by simp)); replace HK := qT hk; replace HB := am hb; replace HI0 := am hi; (try clear hb hk hi); obtain ⟨zq45, zq46, zq47, fq45, fq46, fq47⟩ := qd BK157) | ((with_reducible refine gate_builtin (b := .append) (xs := #[.tmp 43, .tmp 44]) rfl ?_); at_builtin; refine Kd.R_append (Kd.int .i64) w.heap.size rfl (.tmp 43) (.tmp 44) 24 3 (.int .i64 0) 8 rfl Tryd.underlying24 info3 rfl (by decide) (by omega) (.slice Ao83 t152.length co83) t152 0 [.int .i64 0] (fun _ => True) (fun _ => False) rfl rfl ?aP (fun _ hk => hk.elim) ?aF ?aO (Below.refl _ _) ?aS ?aL ?_; (case aP => exact rfl); (case aF => exact (fun _ _ => trivial)); (case aO => exact (sqr Oq0)); (case aS => exact (qz w g)); (case aL => have := LMc74.out; omega); intro v184 w86 ho hb hg hat; rw [← Ny183.out] at ho; have Oq4 := am (ho); replace BK143 := am (blk_grown (g := gb143) (o := .cells #[.int .i64 0, .int .i64 0, .slice none 0 0] 26 (0, 0)) (sqb BK143) hg (Kd.R_ne Oq0.out BK143.out (by decide))); replace BK157 := am (blk_grown (g := gb157) (o := .cells #[.int .i64 t150, .int .i64 t151, .slice Ao83 t152.length co83] 26 (0, 0)) (sqb BK157) hg (Kd.R_ne Oq0.out BK157.out (by decide))); replace HB := am (below_weaken qc HL.out hb); replace HI0 := am (IsS57.grown qi hg (IsS57.own_ne HI0.out Oq0.out (by decide))); replace HK := am (KeepBut.trans qk (KeepBut.of_grown hg g) (Kd.R_base2 Oq0.out)); clear Oq0; clear ho hb hg hat; obtain ⟨Ao87, co87, eo87⟩ := Kd.R_slice Oq4.out; subst eo87; obtain ⟨zq48, zq49, zq50, fq48, fq49, fq50⟩ := qd BK157; have bq13 := Nq2.out; have cq13 := Nq0.out; obtain ⟨zq51, zq52, zq53, fq51, fq52, fq53⟩ := qd BK143))
      refine bodyPost_ret (results_cell_row rfl _ _ gb143 26 #[.int .i64 t150, .int .i64 t151, .slice Ao87 y183.length co87] (0, 0) _ rfl (by (with_reducible repeat (first | refine blk_drewN ?_ _ | refine blk_drew ?_ | refine blk_alloc ?_ _)); refine blk_put (cs := #[.int .i64 t150, .int .i64 t151, .slice none 0 0]) ?_ 2 _ rfl; (with_reducible repeat (first | refine blk_drewN ?_ _ | refine blk_drew ?_ | refine blk_alloc ?_ _)); refine blk_put (cs := #[.int .i64 t150, .int .i64 0, .slice none 0 0]) ?_ 1 _ rfl; (with_reducible repeat (first | refine blk_drewN ?_ _ | refine blk_drew ?_ | refine blk_alloc ?_ _)); refine blk_put (cs := #[.int .i64 0, .int .i64 0, .slice none 0 0]) ?_ 0 _ rfl; (with_reducible repeat (first | refine blk_drewN ?_ _ | refine blk_drew ?_ | refine blk_alloc ?_ _)); refine blk_far ?_ Nq3.out _; (with_reducible repeat (first | refine blk_drewN ?_ _ | refine blk_drew ?_ | refine blk_alloc ?_ _)); exact BK143.out) Tryd.underlying26 rfl (by kernel_rfl)) rfl ?_
      exact ⟨_, Q1, by (with_reducible repeat (first | apply Kd.R_alloc | apply Kd.R_drewN | apply Kd.R_drew)); exact Kd.R_mono (Kd.R_far (p := ⟨gb143, 2, none⟩) (Kd.R_far (p := ⟨gb143, 1, none⟩) (Kd.R_far (p := ⟨gb143, 0, none⟩) (Kd.R_far (p := ⟨gb157, 2, none⟩) (Kd.R_types (Kd.R_types Oq4.out BK157.out (by decide)) BK143.out (by decide)) (fun _ hk => hk.1.2) (.slice Ao87 y183.length co87)) (fun _ hk => hk.2) (.int .i64 t150)) (fun _ hk => hk.2) (.int .i64 t151)) (fun _ hk => hk.2) (.slice Ao87 y183.length co87)) (fun _ hk => trivial), qi, qc, qk⟩
     ·
      rw [if_neg c74] at H
      exact absurd H (by simp)
    ·
     rw [if_neg c73] at H
     have c73b0 : (t158 == 3) = false := beq_eq_false_iff_ne.mpr c73
     have c73b1 : (t158 != 3) = true := bne_iff_ne.mpr c73
     simp only [Option.some.injEq, Prod.mk.injEq] at H
     obtain ⟨rfl, rfl, rfl, rfl, rfl⟩ := H
     go_enter Tryd.func38, Tryd.ntmps38
     go_wp2_with (first | ((with_reducible refine gate_dst (N := 2) rfl ?_); refine qv 2 #[.int .i64 0, .int .i64 0, .slice none 0 0] 26 ?_; intro gb143 hg w91 hbox hb; have BK143 := am hbox; have GW143 := qx hg; have GE143 := qy HW0 (qx hg); have Nq0 := qo hg g; have Nq2 := qO hg g; replace HK := qU hb; replace HB := qt hb; replace HI0 := qj hb; clear hb hbox hg) | ((with_reducible refine gate_callee (f := 49) rfl ?_); refine qg (some 6) Tryd.func49 #[.pointer (some ⟨g, 0, none⟩)] ?_; (with_reducible refine (spec_l1Cur_sides.calls g s0_0 s0_1 s0_2 t144 t145 t146 w0 _ ?side1 ?side2 A2.out).mono ?_); (case side1 => exact qi); (case side2 => exact qc); rintro e w92 ⟨rfl, hi, hb, hk⟩; refine ⟨_, rfl, ?_⟩; replace BK143 := qK BK143 hk Nq2; replace HK := qT hk; replace HB := am hb; replace HI0 := am hi; (try clear hb hk hi)) | ((with_reducible refine gate_callee (f := 49) rfl ?_); refine qg (some 8) Tryd.func49 #[.pointer (some ⟨g, 0, none⟩)] ?_; (with_reducible refine (spec_l1Cur_sides.calls g s0_0 t145 t146 t147 t148 t149 w0 _ ?side1 ?side2 A3.out).mono ?_); (case side1 => exact qi); (case side2 => exact qc); rintro e w93 ⟨rfl, hi, hb, hk⟩; refine ⟨_, rfl, ?_⟩; replace BK143 := qK BK143 hk Nq2; replace HK := qT hk; replace HB := am hb; replace HI0 := am hi; (try clear hb hk hi)) | ((with_reducible refine gate_callee (f := 48) rfl ?_); refine qg (some 9) Tryd.func48 #[.pointer (some ⟨g, 0, none⟩), .int .i64 t144, .int .i64 t147] ?_; (with_reducible refine (spec_l1Cur_boardOf.calls k g s0_0 t148 t149 t144 t147 t150 t151 t152 t155 t156 w0 _ ?side1 ?side2 A4.out).mono ?_); (case side1 => exact qi); (case side2 => exact qc); rintro e w94 ⟨v153, rfl, ho0, hi, hb, hk⟩; refine ⟨_, rfl, ?_⟩; have Oq0 := qm ho0; replace BK143 := qK BK143 hk Nq2; replace HK := qT hk; replace HB := am hb; replace HI0 := am hi; (try clear hb hk hi ho0)) | ((with_reducible refine gate_dst (N := 3) rfl ?_); refine qv 3 #[.int .i64 0, .int .i64 0, .slice none 0 0] 26 ?_; intro gb157 hg w95 hbox hb; have BK157 := am hbox; have GW157 := qx hg; have GE157 := qy HW0 (qx hg); have Nq3 := qn hg BK143; have Nq5 := qN hg BK143; have Nq1 := qo hg g; have Nq4 := qO hg g; replace Oq0 := sqR Oq0 hb; replace BK143 := sqB BK143 hb; replace HK := qU hb; replace HB := qt hb; replace HI0 := qj hb; clear hb hbox hg; have bq14 := Nq5.out; have cq14 := Nq3.out; have bq15 := Nq4.out; have cq15 := Nq1.out; obtain ⟨zq54, zq55, zq56, fq54, fq55, fq56⟩ := qd BK157; obtain ⟨Ao99, co99, eo99⟩ := Kd.R_slice Oq0.out; subst eo99) | ((with_reducible refine gate_callee (f := 40) rfl ?_); refine qg (some 11) Tryd.func40 #[.pointer (some ⟨g, 0, none⟩), .int .i64 18] ?_; (with_reducible refine (spec_l1Cur_pick.calls g s0_0 t155 t156 18 t158 t159 t160 w0 _ ?side1 ?side2 A5.out).mono ?_); (case side1 => exact qi); (case side2 => exact qc); rintro e w100 ⟨rfl, hi, hb, hk⟩; refine ⟨_, rfl, ?_⟩; replace BK143 := am (KeepBut.blk hk (g' := gb143) (o := .cells #[.int .i64 0, .int .i64 0, .slice none 0 0] 26 (0, 0)) Q7 Nq2.out (by simp)); replace Oq0 := am (Kd.R_mono (Kd.R_keep (IsS57.apart (show IsS57 w0 _ g s0_0 t155 t156 from qi) (sqw (sqo Oq0 BK157)) (by decide)) hk (fun _ h => h.2)) (fun _ h => h.1)); replace BK157 := am (KeepBut.blk hk (g' := gb157) (o := .cells #[.int .i64 t150, .int .i64 t151, .slice Ao99 t152.length co99] 26 (0, 0)) Q4 Nq4.out (by simp)); replace HK := qT hk; replace HB := am hb; replace HI0 := am hi; (try clear hb hk hi); obtain ⟨zq0, zq1, zq2, fq0, fq1, fq2⟩ := qd BK157; have bq0 := Nq2.out; have cq0 := Nq0.out; obtain ⟨zq3, zq4, zq5, fq3, fq4, fq5⟩ := qd BK143))
     refine bodyPost_ret (results_cell_row rfl _ _ gb143 26 #[.int .i64 t150, .int .i64 t151, .slice Ao99 t152.length co99] (0, 0) _ rfl Q15 Tryd.underlying26 rfl (by kernel_rfl)) rfl ?_
     exact ⟨_, Q1, by (with_reducible repeat (first | apply Kd.R_alloc | apply Kd.R_drewN | apply Kd.R_drew)); exact Kd.R_mono (Kd.R_far (p := ⟨gb143, 2, none⟩) (Kd.R_far (p := ⟨gb143, 1, none⟩) (Kd.R_far (p := ⟨gb143, 0, none⟩) (Kd.R_types Oq0.out BK143.out (by decide)) (fun _ hk => hk.2) (.int .i64 t150)) (fun _ hk => hk.2) (.int .i64 t151)) (fun _ hk => hk.2) (.slice Ao99 t152.length co99)) (fun _ hk => trivial), qi, qc, qk⟩

/-! ### spec_DrawIsBoard: function 25 -/
def spec_DrawIsBoard.f (k : Nat) (l0 : List Int) : Option (Int × Int × List Int) := (spec_l1Cur_board.f k l0 0 0).bind fun bt188 => (some (bt188.1, bt188.2.1, bt188.2.2.1))
set_option maxHeartbeats 8000000 in
set_option maxRecDepth 100000 in
theorem spec_DrawIsBoard.calls (k : Nat) (A0 : Option Addr) (c0 : Nat) (l0 : List Int) (r1 : Int) (r2 : Int) (r3 : List Int) (w : World) (hr0 : Kd.C (Kd.int .u8) w A0 l0.length l0) (hc0 : l0.length ≤ c0) (h : spec_DrawIsBoard.f k l0 = some (r1, r2, r3)) :
  Calls Tryd.prog 25 #[.slice A0 l0.length c0] w fun e w' => ∃ v2_ : Value, e = .returned (.agg #[.int .i64 r1, .int .i64 r2, v2_]) ∧ Kd.R (Kd.int .i64) 3 w' w.heap.size (fun _ => True) v2_ r3 ∧ Below w.heap.size w w' := by
 have hu26 := Tryd.underlying26
 have hu57 := Tryd.underlying57
 have HR0 := Aside0.mk hr0
 have HC0 := Aside0.mk hc0
 clear hr0 hc0
 have HB := am (Below.refl w.heap.size w)
 have H : ((spec_l1Cur_board.f k l0 0 0).bind fun bt188 => (some (bt188.1, bt188.2.1, bt188.2.2.1))) = some (r1, r2, r3) := h
 clear h
 replace H := qE H
 obtain ⟨⟨t188, t189, t190, t193, t194⟩, A2, H⟩ := H
 replace H : (some (t188, t189, t190)) = some (r1, r2, r3) := H
 simp only [Option.some.injEq, Prod.mk.injEq] at H
 obtain ⟨rfl, rfl, rfl⟩ := H
 go_enter Tryd.func25, Tryd.ntmps25
 go_wp2_with (first | ((with_reducible refine gate_dst (N := 2) rfl ?_); refine qv 2 #[.int .i64 0, .int .i64 0, .slice none 0 0] 26 ?_; intro gb186 hg w3 hbox hb; have BK186 := am hbox; have GW186 := qw hg; have GE186 := qw hg; replace HB := qs hb; clear hb hbox hg) | ((with_reducible refine gate_dst (N := 6) rfl ?_); refine qv 6 #[.slice A0 l0.length c0, .int .i64 0, .int .u64 0] 57 ?_; intro gb187 hg w4 hbox hb; have HI187 := am ((show IsS57 w w4 gb187 l0 0 0 from ⟨_, _, hbox, (by rw [hg]; exact (below_size qb) : w.heap.size ≤ gb187), HR0.out⟩)); have GW187 := qw hg; have GE187 := qw hg; have Nq6 := qn hg BK186; have Nq7 := qN hg BK186; replace BK186 := sqB BK186 hb; replace HB := qs hb; clear hb hbox hg) | ((with_reducible refine gate_callee (f := 38) rfl ?_); refine qg (some 8) Tryd.func38 #[.pointer (some ⟨gb187, 0, none⟩)] ?_; (with_reducible refine (spec_l1Cur_board.calls k gb187 l0 0 0 t188 t189 t190 t193 t194 w _ ?side1 ?side2 A2.out).mono ?_); (case side1 => exact qi); (case side2 => exact qc); rintro e w5 ⟨v191, rfl, ho0, hi, hb, hk⟩; refine ⟨_, rfl, ?_⟩; have Oq5 := qL ho0; replace BK186 := qK BK186 hk Nq6; replace HB := am hb; replace HI187 := am hi; (try clear hb hk hi ho0); have bq9 := Nq6.out; have cq9 := Nq7.out; obtain ⟨zq39, zq40, zq41, fq39, fq40, fq41⟩ := qd BK186; obtain ⟨Ao8, co8, eo8⟩ := Kd.R_slice Oq5.out; subst eo8))
 refine bodyPost_ret (results_cell_row rfl _ _ gb186 26 #[.int .i64 t188, .int .i64 t189, .slice Ao8 t190.length co8] (0, 0) _ rfl (by (with_reducible repeat (first | refine blk_drewN ?_ _ | refine blk_drew ?_ | refine blk_alloc ?_ _)); refine blk_put (cs := #[.int .i64 t188, .int .i64 t189, .slice none 0 0]) ?_ 2 _ rfl; (with_reducible repeat (first | refine blk_drewN ?_ _ | refine blk_drew ?_ | refine blk_alloc ?_ _)); refine blk_put (cs := #[.int .i64 t188, .int .i64 0, .slice none 0 0]) ?_ 1 _ rfl; (with_reducible repeat (first | refine blk_drewN ?_ _ | refine blk_drew ?_ | refine blk_alloc ?_ _)); refine blk_put (cs := #[.int .i64 0, .int .i64 0, .slice none 0 0]) ?_ 0 _ rfl; (with_reducible repeat (first | refine blk_drewN ?_ _ | refine blk_drew ?_ | refine blk_alloc ?_ _)); exact BK186.out) Tryd.underlying26 rfl (by kernel_rfl)) rfl ?_
 exact ⟨_, Q1, by (with_reducible repeat (first | apply Kd.R_alloc | apply Kd.R_drewN | apply Kd.R_drew)); exact Kd.R_mono (Kd.R_far (p := ⟨gb186, 2, none⟩) (Kd.R_far (p := ⟨gb186, 1, none⟩) (Kd.R_far (p := ⟨gb186, 0, none⟩) (Kd.R_types Oq5.out BK186.out (by decide)) (fun _ hk => hk.2) (.int .i64 t188)) (fun _ hk => hk.2) (.int .i64 t189)) (fun _ hk => hk.2) (.slice Ao8 t190.length co8)) (fun _ hk => trivial), qc⟩

/-! ### spec_DrawTurnBoard: function 5 -/
def spec_DrawTurnBoard.f (k : Nat) (l0 : List Int) : Option (Int × Int × List Int) := (spec_DrawIsBoard.f k l0).bind fun bt196 => (some (bt196.1, bt196.2.1, bt196.2.2))
set_option maxHeartbeats 8000000 in
set_option maxRecDepth 100000 in
theorem spec_DrawTurnBoard.calls (k : Nat) (A0 : Option Addr) (c0 : Nat) (l0 : List Int) (r1 : Int) (r2 : Int) (r3 : List Int) (w : World) (hr0 : Kd.C (Kd.int .u8) w A0 l0.length l0) (hc0 : l0.length ≤ c0) (h : spec_DrawTurnBoard.f k l0 = some (r1, r2, r3)) :
  Calls Tryd.prog 5 #[.slice A0 l0.length c0] w fun e w' => ∃ v2_ : Value, e = .returned (.agg #[.int .i64 r1, .int .i64 r2, v2_]) ∧ Kd.R (Kd.int .i64) 3 w' w.heap.size (fun _ => True) v2_ r3 ∧ Below w.heap.size w w' := by
 have hu26 := Tryd.underlying26
 have HR0 := Aside0.mk hr0
 have HC0 := Aside0.mk hc0
 clear hr0 hc0
 have HB := am (Below.refl w.heap.size w)
 have H : ((spec_DrawIsBoard.f k l0).bind fun bt196 => (some (bt196.1, bt196.2.1, bt196.2.2))) = some (r1, r2, r3) := h
 clear h
 replace H := qE H
 obtain ⟨⟨t196, t197, t198⟩, A2, H⟩ := H
 replace H : (some (t196, t197, t198)) = some (r1, r2, r3) := H
 simp only [Option.some.injEq, Prod.mk.injEq] at H
 obtain ⟨rfl, rfl, rfl⟩ := H
 go_enter Tryd.func5, Tryd.ntmps5
 go_wp2_with (first | ((with_reducible refine gate_dst (N := 2) rfl ?_); refine qv 2 #[.int .i64 0, .int .i64 0, .slice none 0 0] 26 ?_; intro gb195 hg w3 hbox hb; have BK195 := am hbox; have GW195 := qw hg; have GE195 := qw hg; replace HB := qs hb; clear hb hbox hg) | ((with_reducible refine gate_callee (f := 25) rfl ?_); refine qg (some 4) Tryd.func25 #[.slice A0 l0.length c0] ?_; (with_reducible refine (spec_DrawIsBoard.calls k _ _ l0 t196 t197 t198 _ ?side1 HC0.out A2.out).mono ?_); (case side1 => repeat (first | exact (Kd.C_below HR0.out HB.out) | (with_reducible first | refine Kd.C_alloc ?_ _ | refine Kd.C_drewN ?_ _ | refine Kd.C_drew ?_))); rintro e w4 ⟨v199, rfl, ho0, hb⟩; refine ⟨_, rfl, ?_⟩; have Oq6 := ql ho0; replace BK195 := sqB BK195 hb; replace HB := qs hb; (try clear hb ho0); obtain ⟨zq30, zq31, zq32, fq30, fq31, fq32⟩ := qd BK195; obtain ⟨Ao6, co6, eo6⟩ := Kd.R_slice Oq6.out; subst eo6))
 refine bodyPost_ret (results_cell_row rfl _ _ gb195 26 #[.int .i64 t196, .int .i64 t197, .slice Ao6 t198.length co6] (0, 0) _ rfl (by (with_reducible repeat (first | refine blk_drewN ?_ _ | refine blk_drew ?_ | refine blk_alloc ?_ _)); refine blk_put (cs := #[.int .i64 t196, .int .i64 t197, .slice none 0 0]) ?_ 2 _ rfl; (with_reducible repeat (first | refine blk_drewN ?_ _ | refine blk_drew ?_ | refine blk_alloc ?_ _)); refine blk_put (cs := #[.int .i64 t196, .int .i64 0, .slice none 0 0]) ?_ 1 _ rfl; (with_reducible repeat (first | refine blk_drewN ?_ _ | refine blk_drew ?_ | refine blk_alloc ?_ _)); refine blk_put (cs := #[.int .i64 0, .int .i64 0, .slice none 0 0]) ?_ 0 _ rfl; (with_reducible repeat (first | refine blk_drewN ?_ _ | refine blk_drew ?_ | refine blk_alloc ?_ _)); exact BK195.out) Tryd.underlying26 rfl (by kernel_rfl)) rfl ?_
 exact ⟨_, Q1, by (with_reducible repeat (first | apply Kd.R_alloc | apply Kd.R_drewN | apply Kd.R_drew)); exact Kd.R_mono (Kd.R_far (p := ⟨gb195, 2, none⟩) (Kd.R_far (p := ⟨gb195, 1, none⟩) (Kd.R_far (p := ⟨gb195, 0, none⟩) (Kd.R_types Oq6.out BK195.out (by decide)) (fun _ hk => hk.2) (.int .i64 t196)) (fun _ hk => hk.2) (.int .i64 t197)) (fun _ hk => hk.2) (.slice Ao6 t198.length co6)) (fun _ hk => trivial), qb⟩

/-! ### impl_within: function 62 -/
def impl_within.f (a0 : Int) (a1 : Int) (a2 : Int) : Option (Bool) := if a1 ≤ a0 then (some (decide (a0 ≤ a2))) else (some false)
set_option maxHeartbeats 8000000 in
set_option maxRecDepth 100000 in
theorem impl_within.calls (a0 : Int) (a1 : Int) (a2 : Int) (r : Bool) (w : World) (h : impl_within.f a0 a1 a2 = some r) :
  Calls Tryd.prog 62 #[.int .i64 a0, .int .i64 a1, .int .i64 a2] w fun e w' => e = .returned (.bool r) ∧ Drawn0 w w' := by
 have H : (if a1 ≤ a0 then (some (decide (a0 ≤ a2))) else (some false)) = some r := h
 clear h
 by_cases c4 : a1 ≤ a0
 ·
  rw [if_pos c4] at H
  have c4b0 : decide (a1 ≤ a0) = true := decide_eq_true c4
  clear c4
  obtain rfl := Option.some.inj H
  go_enter Tryd.func62, Tryd.ntmps62
  go_wp2
  go_ret
  exact ⟨Q2, Q5⟩
 ·
  rw [if_neg c4] at H
  have c4b0 : decide (a1 ≤ a0) = false := decide_eq_false c4
  clear c4
  obtain rfl := Option.some.inj H
  go_enter Tryd.func62, Tryd.ntmps62
  go_wp2
  go_ret
  exact ⟨Q2, Q5⟩

/-! ### impl_isSide: function 52 -/
def impl_isSide.f (a0 : Int) : Option (Bool) := (impl_within.f a0 1 6).bind fun t201 => (some t201)
set_option maxHeartbeats 8000000 in
set_option maxRecDepth 100000 in
theorem impl_isSide.calls (a0 : Int) (r : Bool) (w : World) (h : impl_isSide.f a0 = some r) :
  Calls Tryd.prog 52 #[.int .i64 a0] w fun e w' => e = .returned (.bool r) ∧ Drawn0 w w' := by
 have H : ((impl_within.f a0 1 6).bind fun t201 => (some t201)) = some r := h
 clear h
 replace H := qE H
 obtain ⟨t201, A2, H⟩ := H
 replace H : (some t201) = some r := H
 obtain rfl := Option.some.inj H
 go_enter Tryd.func52, Tryd.ntmps52
 go_wp2_with (first | ((with_reducible refine gate_callee (f := 62) rfl ?_); refine qg (some 4) Tryd.func62 #[.int .i64 a0, .int .i64 1, .int .i64 6] ?_; (with_reducible refine (impl_within.calls a0 1 6 t201 _ A2.out).mono ?_); rintro e w' ⟨rfl, ⟨nd, rfl⟩⟩; refine ⟨_, rfl, ?_⟩))
 go_ret
 exact ⟨Q2, Q5⟩

/-! ### slices_IndexFunc_int_int: function 75 (by hand) -/
/-- The first index at which a test says yes, or -1. -/
def idxB {α : Type} (p : α → Bool) (l : List α) : Int := if l.any p then (l.findIdx p : Int) else -1
theorem idxB_hit {α : Type} [Inhabited α] (p : α → Bool) (l : List α) (i : Nat) (hi : i < l.length) (hp : p l[i] = true) (hn : ∀ j (h : j < l.length), j < i → p l[j] = false) : idxB p l = i := by
 unfold idxB
 have ha : l.any p = true := List.any_eq_true.2 ⟨l[i], List.getElem_mem _, hp⟩
 rw [if_pos ha]
 have h1 : l.findIdx p = i := by
  rw [List.findIdx_eq hi]
  exact ⟨hp, fun j hj => hn j (by omega) hj⟩
 rw [h1]
theorem idxB_miss {α : Type} (p : α → Bool) (l : List α) (hn : ∀ j (h : j < l.length), p l[j] = false) : idxB p l = -1 := by
 unfold idxB
 rw [if_neg]
 intro ha
 obtain ⟨x, hx, hp⟩ := List.any_eq_true.1 ha
 obtain ⟨j, hj, rfl⟩ := List.getElem_of_mem hx
 rw [hn j hj] at hp; cases hp
-- (walk)
set_option maxHeartbeats 400000 in
theorem indexFunc (fid : FuncId) (caps : Array Value) (p : Int → Bool) (A : Option Addr) (c : Nat) (l : List Int) (w : World) (hr : Kd.C (Kd.int .i64) w A l.length l) (hc : l.length ≤ c) (hlen : l.length ≤ 2000000)
  (hcall : ∀ (args : Array Value) (W : World), Sem.run Tryd.prog (callFunc fid args) W = .ok (.enter fid args) W)
  (hF : ∀ n m, Calls Tryd.prog fid (#[.int .i64 m] ++ caps) (w.drewN n) fun e w' => e = .returned (.bool (p m)) ∧ Drawn0 (w.drewN n) w') :
  Calls Tryd.prog 75 #[.slice A l.length c, .func (.func fid) #[] caps] w fun e w' => e = .returned (.int .i64 (idxB p l)) ∧ Drawn0 w w' := by
 have HR := Aside0.mk hr
 have HF := Aside0.mk hF
 clear hr hF
 go_enter Tryd.func75, Tryd.ntmps75
 go_wp2
 go_loopw [8] (fun v8 w' => ∃ i : Nat, i ≤ l.length ∧ v8 = .int .i64 i ∧ Aside0 (∀ j (h : j < l.length), j < i → p l[j] = false) ∧ Drawn0 w w') (fun v8 _ => l.length - (intOf v8).toNat)
 case atStart => exact ⟨0, Nat.zero_le _, rfl, ⟨fun j h hj => absurd hj (Nat.not_lt_zero _)⟩, Drawn0.refl _⟩
 case round =>
  obtain ⟨i, hi, rfl, HN, ⟨m1, rfl⟩⟩ := hrel
  by_cases hlt : i < l.length
  ·
   obtain ⟨ad, e, hx⟩ := Kd.at_int HR.out (i : Int) (by omega) (by omega)
   cases e
   rw [Int.toNat_natCast, show rd l (i : Int) = l[i] from by unfold rd; simp [List.getD, hlt]] at hx
   by_cases hp : p l[i] = true
   ·
    have HP := Aside0.mk hp
    clear hp
    have HC := am (fun n => HF.out n l[i])
    go_wp2_with ((with_reducible refine (HC.out _).mono ?_); rintro e w' ⟨rfl, ⟨nd, rfl⟩⟩; rw [HP.out])
    go_ret
    exact ⟨by rw [idxB_hit p l i hlt HP.out HN.out]; rfl, Q5⟩
   ·
    have HP := am (Bool.eq_false_iff.2 hp)
    clear hp
    have HC := am (fun n => HF.out n l[i])
    go_wp2_with ((with_reducible refine (HC.out _).mono ?_); rintro e w' ⟨rfl, ⟨nd, rfl⟩⟩; rw [HP.out])
    go_roundw
    case rel => exact ⟨i + 1, by omega, by go_num, ⟨fun j h hj => by
      rcases Nat.lt_succ_iff_lt_or_eq.1 hj with hj | rfl
      ·
       exact HN.out j h hj
      ·
       exact HP.out⟩, Q5⟩
    case measure => simp [intOf]; omega
  ·
   go_wp2
   go_ret
   exact ⟨by rw [idxB_miss p l (fun j h => HN.out j h (by omega))]; rfl, Q5⟩

/-! ### slices_ContainsFunc_int_int: function 60 (by hand) -/
-- (walk)
set_option maxHeartbeats 400000 in
theorem containsFunc (fid : FuncId) (caps : Array Value) (p : Int → Bool) (A : Option Addr) (c : Nat) (l : List Int) (w : World) (hr : Kd.C (Kd.int .i64) w A l.length l) (hc : l.length ≤ c) (hlen : l.length ≤ 2000000)
  (hcall : ∀ (args : Array Value) (W : World), Sem.run Tryd.prog (callFunc fid args) W = .ok (.enter fid args) W)
  (hF : ∀ n m, Calls Tryd.prog fid (#[.int .i64 m] ++ caps) (w.drewN n) fun e w' => e = .returned (.bool (p m)) ∧ Drawn0 (w.drewN n) w') :
  Calls Tryd.prog 60 #[.slice A l.length c, .func (.func fid) #[] caps] w fun e w' => e = .returned (.bool (l.any p)) ∧ Drawn0 w w' := by
 have HX := am (indexFunc fid caps p A c l w hr hc hlen hcall hF)
 clear hr hF hcall
 go_enter Tryd.func60, Tryd.ntmps60
 go_wp2_with (go_at_call 75; refine HX.out.mono ?_; rintro e w' ⟨rfl, ⟨nd, rfl⟩⟩)
 go_ret
 exact ⟨by unfold idxB; by_cases h : l.any p = true <;> simp [h] <;> rfl, Q5⟩

/-! ### impl_IsBoard: function 26 (by hand) -/
/-- A row that is no number below 2 to the columns. -/
def offB (a1 m : Int) : Bool := !(decide (0 ≤ m ∧ m ≤ 2 ^ a1.toNat - 1))
/-- Is it a board: rows, columns, one number a row, each below 2 to the columns. -/
def GoodB (a0 a1 : Int) (l : List Int) : Prop := (1 ≤ a0 ∧ a0 ≤ 6) ∧ (1 ≤ a1 ∧ a1 ≤ 6) ∧ (l.length : Int) = a0 ∧ ∀ x ∈ l, 0 ≤ x ∧ x ≤ 2 ^ a1.toNat - 1
instance (a0 a1 : Int) (l : List Int) : Decidable (GoodB a0 a1 l) := by unfold GoodB; exact inferInstance
def impl_IsBoard.f (a0_0 : Int) (a0_1 : Int) (l0_2 : List Int) : Option (Bool) := some (decide (GoodB a0_0 a0_1 l0_2))
-- (walk)
set_option maxHeartbeats 400000 in
theorem clos (g : Nat) (m a0 a1 : Int) (v2 : Value) (w : World) (hb : w.heap[g]? = some (.cells #[.int .i64 a0, .int .i64 a1, v2] 26 (0, 0))) (h1 : 1 ≤ a1) (h2 : a1 ≤ 6) :
  Calls Tryd.prog 61 #[.int .i64 m, .pointer (some ⟨g, 0, none⟩)] w fun e w' => e = .returned (.bool (offB a1 m)) ∧ Drawn0 w w' := by
 have hcell := blk_cell hb 1
 have hw : impl_within.f m 0 (wrap64 (wrap64 (2 ^ a1.toNat) - 1)) = some (decide (0 ≤ m ∧ m ≤ 2 ^ a1.toNat - 1)) := by
  have e : wrap64 (wrap64 (2 ^ a1.toNat) - 1) = 2 ^ a1.toNat - 1 := by
   obtain h | h | h | h | h | h : a1 = 1 ∨ a1 = 2 ∨ a1 = 3 ∨ a1 = 4 ∨ a1 = 5 ∨ a1 = 6 := by omega
   all_goals (subst h; decide +kernel)
  rw [e]; unfold impl_within.f
  by_cases h : 0 ≤ m
  ·
   rw [if_pos h]; simp [h]
  ·
   rw [if_neg h]; simp [h]
 have HW := Aside0.mk hw
 clear hw
 go_enter Tryd.func61, Tryd.ntmps61
 go_wp2_with (first | (go_at_call 62; refine (impl_within.calls _ _ _ _ _ HW.out).mono ?_; rintro e w' ⟨rfl, ⟨nd, rfl⟩⟩))
 go_ret
 exact ⟨by unfold offB; simp [Bool.decide_and], Q5⟩
theorem isSide_eq (a : Int) : impl_isSide.f a = some (decide (1 ≤ a ∧ a ≤ 6)) := by
 unfold impl_isSide.f impl_within.f
 by_cases h : 1 ≤ a
 ·
  rw [if_pos h]; simp [h]
 ·
  rw [if_neg h]; simp [h]
theorem isSide_yes (a : Int) (w : World) (h : 1 ≤ a ∧ a ≤ 6) : Calls Tryd.prog 52 #[.int .i64 a] w fun e w' => e = .returned (.bool true) ∧ Drawn0 w w' :=
 impl_isSide.calls a true w ((isSide_eq a).trans (congrArg some (decide_eq_true h)))
theorem isSide_no (a : Int) (w : World) (h : ¬ (1 ≤ a ∧ a ≤ 6)) : Calls Tryd.prog 52 #[.int .i64 a] w fun e w' => e = .returned (.bool false) ∧ Drawn0 w w' :=
 impl_isSide.calls a false w ((isSide_eq a).trans (congrArg some (decide_eq_false h)))
theorem goodB_any (a0 a1 : Int) (l : List Int) (h0 : 1 ≤ a0 ∧ a0 ≤ 6) (h1 : 1 ≤ a1 ∧ a1 ≤ 6) (hl : (l.length : Int) = a0) : (!(l.any (offB a1))) = decide (GoodB a0 a1 l) := by
 rw [Bool.eq_iff_iff]
 simp only [GoodB, h0, h1, hl, true_and, decide_eq_true_eq, Bool.not_eq_true', List.any_eq_false]
 simp [offB]
set_option maxHeartbeats 1000000 in
theorem impl_IsBoard.calls (a0_0 : Int) (a0_1 : Int) (A0_2 : Option Addr) (c0_2 : Nat) (l0_2 : List Int) (r : Bool) (w : World) (hr0_2 : Kd.C (Kd.int .i64) w A0_2 l0_2.length l0_2) (hc0_2 : l0_2.length ≤ c0_2) (h : impl_IsBoard.f a0_0 a0_1 l0_2 = some r) :
  Calls Tryd.prog 26 #[.agg #[.int .i64 a0_0, .int .i64 a0_1, .slice A0_2 l0_2.length c0_2]] w fun e w' => e = .returned (.bool r) ∧ Below w.heap.size w w' := by
 have hu30 := Tryd.underlying26
 have HH := Aside0.mk h
 have HR := Aside0.mk hr0_2
 clear h hr0_2
 by_cases h0 : 1 ≤ a0_0 ∧ a0_0 ≤ 6
 ·
  by_cases h1 : 1 ≤ a0_1 ∧ a0_1 ≤ 6
  ·
   by_cases hl : (l0_2.length : Int) = a0_0
   ·
    have hne : ((l0_2.length : Int) != a0_0) = false := by simpa using hl
    have HL := Aside0.mk hl
    clear hl
    have HG := am (goodB_any a0_0 a0_1 l0_2 h0 h1 HL.out)
    have HW := am ((Below.refl w.heap.size w).alloc (Nat.le_refl _) (Obj.cells #[.int .i64 a0_0, .int .i64 a0_1, .slice A0_2 l0_2.length c0_2] 26 (0, 0)))
    go_enter Tryd.func26, Tryd.ntmps26
    go_wp2_with (go_at_call 52; refine (isSide_yes _ _ (by omega)).mono ?_; rintro e w' ⟨rfl, ⟨nd, rfl⟩⟩)
    refine (containsFunc 61 #[.pointer (some ⟨w.heap.size, 0, none⟩)] (offB a0_1) _ _ l0_2 _ ?c1 (by omega) (by have := HL.out; omega) Tryd.call61 ?c2).mono ?_
    case c1 => (repeat (first | exact HR.out | apply Kd.C_drewN | apply Kd.C_drew | apply Kd.C_alloc))
    case c2 => exact fun n m => clos _ m a0_0 a0_1 _ _ (by (repeat (first | refine blk_drewN ?_ _ | refine blk_drew ?_)); simpa using heap_alloc_new w _) (by omega) (by omega)
    rintro e w' ⟨rfl, ⟨nd, rfl⟩⟩
    go_wp2
    go_ret
    exact ⟨by have := HH.out; unfold impl_IsBoard.f at this; rw [← HG.out] at this; rw [← Option.some.inj this]; rfl, Q78⟩
   ·
    have hne : ((l0_2.length : Int) != a0_0) = true := by simpa using hl
    have hg : ¬ GoodB a0_0 a0_1 l0_2 := fun g => hl g.2.2.1
    obtain rfl : false = r := by have := HH.out; unfold impl_IsBoard.f at this; rw [decide_eq_false hg] at this; injection this
    have HW := am ((Below.refl w.heap.size w).alloc (Nat.le_refl _) (Obj.cells #[.int .i64 a0_0, .int .i64 a0_1, .slice A0_2 l0_2.length c0_2] 26 (0, 0)))
    clear hl hg
    go_enter Tryd.func26, Tryd.ntmps26
    go_wp2_with (go_at_call 52; refine (isSide_yes _ _ (by omega)).mono ?_; rintro e w' ⟨rfl, ⟨nd, rfl⟩⟩)
    go_ret
    exact ⟨rfl, Q78⟩
  ·
   have hg : ¬ GoodB a0_0 a0_1 l0_2 := fun g => h1 g.2.1
   obtain rfl : false = r := by have := HH.out; unfold impl_IsBoard.f at this; rw [decide_eq_false hg] at this; injection this
   have HW := am ((Below.refl w.heap.size w).alloc (Nat.le_refl _) (Obj.cells #[.int .i64 a0_0, .int .i64 a0_1, .slice A0_2 l0_2.length c0_2] 26 (0, 0)))
   have H0 := Aside0.mk h0
   have H1 := Aside0.mk h1
   clear h1 hg h0
   go_enter Tryd.func26, Tryd.ntmps26
   go_wp2_with fail
   refine (isSide_yes _ _ H0.out).mono ?_
   rintro e w' ⟨rfl, ⟨nd, rfl⟩⟩
   go_wp2_with fail
   refine (isSide_no _ _ H1.out).mono ?_
   rintro e w' ⟨rfl, ⟨nd, rfl⟩⟩
   go_wp2_with fail
   go_ret
   exact ⟨rfl, Q78⟩
 ·
  have hg : ¬ GoodB a0_0 a0_1 l0_2 := fun g => h0 g.1
  obtain rfl : false = r := by have := HH.out; unfold impl_IsBoard.f at this; rw [decide_eq_false hg] at this; injection this
  have HW := am ((Below.refl w.heap.size w).alloc (Nat.le_refl _) (Obj.cells #[.int .i64 a0_0, .int .i64 a0_1, .slice A0_2 l0_2.length c0_2] 26 (0, 0)))
  have H0 := Aside0.mk h0
  clear hg h0
  go_enter Tryd.func26, Tryd.ntmps26
  go_wp2_with fail
  refine (isSide_no _ _ H0.out).mono ?_
  rintro e w' ⟨rfl, ⟨nd, rfl⟩⟩
  go_wp2_with fail
  go_ret
  exact ⟨rfl, Q78⟩

/-! ### impl_Board_has: function 32 -/
def impl_Board_has.f (a0_0 : Int) (a0_1 : Int) (l0_2 : List Int) (a1 : Int) (a2 : Int) : Option (Bool) := if 0 ≤ a1 then (if a1 < (l0_2.length : Int) then (if 0 ≤ a2 then (some ((Go.bits .and .i64 (shr .i64 (rd l0_2 a1) a2) 1) == 1)) else (none)) else (none)) else (none)
set_option maxHeartbeats 8000000 in
set_option maxRecDepth 100000 in
theorem impl_Board_has.calls (a0_0 : Int) (a0_1 : Int) (A0_2 : Option Addr) (c0_2 : Nat) (l0_2 : List Int) (a1 : Int) (a2 : Int) (r : Bool) (w : World) (hr0_2 : Kd.C (Kd.int .i64) w A0_2 l0_2.length l0_2) (hc0_2 : l0_2.length ≤ c0_2) (h : impl_Board_has.f a0_0 a0_1 l0_2 a1 a2 = some r) :
  Calls Tryd.prog 32 #[.agg #[.int .i64 a0_0, .int .i64 a0_1, .slice A0_2 l0_2.length c0_2], .int .i64 a1, .int .i64 a2] w fun e w' => e = .returned (.bool r) ∧ Below w.heap.size w w' := by
 have hu26 := Tryd.underlying26
 have HR0_2 := Aside0.mk hr0_2
 have HC0_2 := Aside0.mk hc0_2
 clear hr0_2 hc0_2
 have HB := am (Below.refl w.heap.size w)
 have H : (if 0 ≤ a1 then (if a1 < (l0_2.length : Int) then (if 0 ≤ a2 then (some ((Go.bits .and .i64 (shr .i64 (rd l0_2 a1) a2) 1) == 1)) else (none)) else (none)) else (none)) = some r := h
 clear h
 by_cases c4 : 0 ≤ a1
 ·
  rw [if_pos c4] at H
  have c4b0 : decide (0 ≤ a1) = true := decide_eq_true c4
  clear c4
  by_cases c5 : a1 < (l0_2.length : Int)
  ·
   rw [if_pos c5] at H
   have c5b0 : decide (a1 < (l0_2.length : Int)) = true := decide_eq_true c5
   clear c5
   by_cases c6 : 0 ≤ a2
   ·
    rw [if_pos c6] at H
    have c6b0 := eq_true c6
    have c6b1 : decide (0 ≤ a2) = true := decide_eq_true c6
    clear c6
    obtain ⟨ji7, hji7⟩ : ∃ j_ : Int, (shr .i64 (rd l0_2 a1) a2) = j_ := ⟨_, rfl⟩
    replace H : (some ((Go.bits .and .i64 (ji7) 1) == 1)) = some r := by first | (rw [hji7] at H; exact H) | (simp only [hji7] at H ⊢; exact H)
    have hji7_ : ((rd l0_2 a1) / 2 ^ min a2.toNat 64) = ji7 := hji7
    have hji7z : a2 ≤ 64 → ((rd l0_2 a1) / 2 ^ a2.toNat) = ji7 := shr_small hji7
    obtain rfl := Option.some.inj H
    go_enter Tryd.func32, Tryd.ntmps32
    go_wp2_with (first | ((with_reducible refine gate_dst (N := 3) rfl ?_); refine qv 3 #[.int .i64 a0_0, .int .i64 a0_1, .slice A0_2 l0_2.length c0_2] 26 ?_; intro gb202 hg w8 hbox hb; have BK202 := am hbox; have GW202 := qw hg; have GE202 := qw hg; replace HB := qs hb; clear hb hbox hg; obtain ⟨zq57, zq58, zq59, fq57, fq58, fq59⟩ := qd BK202; have p203 : 0 ≤ (a1 : Int) := of_decide_eq_true Q0; have q203 : a1 < (l0_2.length : Int) := of_decide_eq_true Q0; obtain ⟨ad203, e203, hx203_0⟩ := Kd.at_int HR0_2.out a1 p203 q203; cases e203; replace hx203_0 := (HB.out.cell (World.block_lt_of_cell? w _ hx203_0)).trans hx203_0; replace p203 := eq_true p203; replace q203 := eq_true q203))
    go_ret
    exact ⟨Q62, qb⟩
   ·
    rw [if_neg c6] at H
    exact absurd H (by simp)
  ·
   rw [if_neg c5] at H
   exact absurd H (by simp)
 ·
  rw [if_neg c4] at H
  exact absurd H (by simp)

end Go.Proofs.YtllhofdgbpnkkaaDoor.PFnBoardsTurned
