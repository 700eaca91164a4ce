-- Printed for this claim by wip/pp.py over the kit's printer; Lean checks it.
import Derived.Test.YtllhofdgbpnkkaaPFnBoardsJoinedx0
import Derived.Test.YtllhofdgbpnkkaaPFnBoardsJoinedx1
import Derived.Test.YtllhofdgbpnkkaaPFnBoardsJoinedx2
namespace Go.Proofs.Ytllhofdgbpnkkaa.PFnBoardsJoined
open Go.RowKit Go.Proofs.YtllhofdgbpnkkaaW.PrintWords Go.Proofs.YtllhofdgbpnkkaaW.PrintLast Go.Proofs.YtllhofdgbpnkkaaW.PrintMore
attribute [local go_sem] max2_int min2_int max_two min_two max_three min_three max_four min_four   -- for this text's walks alone
set_option linter.unusedVariables false
set_option linter.unusedSimpArgs false

/-! ### spec_l1Cur_board: function 62 -/
def spec_l1Cur_board.f (k : Nat) (s0_0 : List Int) (s0_1 : Int) (s0_2 : Int) : Option (Int × Int × List Int × Int × Int) := (spec_l1Cur_sides.f s0_0 s0_1 s0_2).bind fun bt151 => ((spec_l1Cur_sides.f s0_0 bt151.2.1 bt151.2.2).bind fun bt154 => ((spec_l1Cur_boardOf.f k s0_0 bt154.2.1 bt154.2.2 bt151.1 bt154.1).bind fun bt157 => ((spec_l1Cur_pick.f s0_0 bt157.2.2.2.1 bt157.2.2.2.2 18).bind fun bt165 => (if bt165.1 = 0 then ((spec_l1Cur_among.f s0_0 bt165.2.1 bt165.2.2 (([(-1), 0, wrap64 (bt157.1 + 1), 7] : List Int))).bind fun bt171 => (some (bt171.1, bt157.2.1, bt157.2.2.1, bt171.2.1, bt171.2.2))) else (if bt165.1 = 1 then ((spec_l1Cur_among.f s0_0 bt165.2.1 bt165.2.2 (([(-1), 0, 7, 4611686018427387904] : List Int))).bind fun bt177 => (some (bt157.1, bt177.1, bt157.2.2.1, bt177.2.1, bt177.2.2))) else (if bt165.1 = 2 then ((spec_l1Cur_pick.f s0_0 bt165.2.1 bt165.2.2 (bt157.2.2.1.length : Int)).bind fun bt180 => ((spec_l1Cur_among.f s0_0 bt180.2.1 bt180.2.2 (([(-1), 64, 4611686018427387904] : List Int))).bind fun bt186 => (if 0 ≤ bt180.1 then (if bt180.1 < (bt157.2.2.1.length : Int) then (some (bt157.1, bt157.2.1, (bt157.2.2.1.set (bt180.1 : Int).toNat bt186.1), bt186.2.1, bt186.2.2)) else (none)) else (none)))) else (if bt165.1 = 3 then (if bt157.2.2.1.length < 17592186044416 then (some (bt157.1, bt157.2.1, (bt157.2.2.1 ++ [0]), bt165.2.1, bt165.2.2)) else (none)) else (some (bt157.1, bt157.2.1, bt157.2.2.1, bt165.2.1, bt165.2.2)))))))))
def spec_l1Cur_board.T8 : Bool × List (List Nat × List Nat) := (true, [([], []), ([0], [0]), ([], []), ([], []), ([3], [3]), ([4], [4]), ([2, 5], [2, 5]), ([], []), ([], []), ([7, 8, 6], [7, 8]), ([1, 6, 0, 1, 2, 3, 4, 5, 6, 7, 8, 9], [1, 6]), ([10, 9, 9, 0, 1, 2, 3, 4, 5, 6, 7, 8, 9], [9, 10])])
def spec_l1Cur_board.B8 : List Nat := [0, 1, 0, 0, 8, 24, 60, 0, 0, 508, 1023, 2047]
theorem spec_l1Cur_board.tab8 : rtab .any (opsOf Try.f62 8) = spec_l1Cur_board.T8 := by kernel_rfl
theorem spec_l1Cur_board.bits8 : waitsOk spec_l1Cur_board.T8.2 spec_l1Cur_board.B8 = true := by kernel_rfl
set_option maxHeartbeats 8000000 in
set_option maxRecDepth 100000 in
theorem spec_l1Cur_board.calls (k : Nat) (g : Nat) (s0_0 : List Int) (s0_1 : Int) (s0_2 : Int) (r1 : Int) (r2 : Int) (r3 : List Int) (r4 : Int) (r5 : Int) (w0 w : World) (hI : IsS66 w0 w g s0_0 s0_1 s0_2) (hB : Below w0.heap.size w0 w) (h : spec_l1Cur_board.f k s0_0 s0_1 s0_2 = some (r1, r2, r3, r4, r5)) :
  Calls Try.prog 62 #[.pointer (some ⟨g, 0, none⟩)] w fun e w' => ∃ v2_ : Value, e = .returned (.agg #[.int .i64 r1, .int .i64 r2, v2_]) ∧ Kd.R (Kd.int .i64) 3 w' w.heap.size (fun _ => True) v2_ r3 ∧ IsS66 w0 w' g s0_0 r4 r5 ∧ Below w0.heap.size w0 w' ∧ KeepBut w w' g none := by
 have hu26 := Try.underlying26
 have HI0 := Aside0.mk hI
 have HK := am (KeepBut.refl w g none)
 have HL := Aside0.mk hB.size
 clear hI
 have HW0 := Aside0.mk hB.size
 have HB := Aside0.mk hB
 clear hB
 have H : ((spec_l1Cur_sides.f s0_0 s0_1 s0_2).bind fun bt151 => ((spec_l1Cur_sides.f s0_0 bt151.2.1 bt151.2.2).bind fun bt154 => ((spec_l1Cur_boardOf.f k s0_0 bt154.2.1 bt154.2.2 bt151.1 bt154.1).bind fun bt157 => ((spec_l1Cur_pick.f s0_0 bt157.2.2.2.1 bt157.2.2.2.2 18).bind fun bt165 => (if bt165.1 = 0 then ((spec_l1Cur_among.f s0_0 bt165.2.1 bt165.2.2 (([(-1), 0, wrap64 (bt157.1 + 1), 7] : List Int))).bind fun bt171 => (some (bt171.1, bt157.2.1, bt157.2.2.1, bt171.2.1, bt171.2.2))) else (if bt165.1 = 1 then ((spec_l1Cur_among.f s0_0 bt165.2.1 bt165.2.2 (([(-1), 0, 7, 4611686018427387904] : List Int))).bind fun bt177 => (some (bt157.1, bt177.1, bt157.2.2.1, bt177.2.1, bt177.2.2))) else (if bt165.1 = 2 then ((spec_l1Cur_pick.f s0_0 bt165.2.1 bt165.2.2 (bt157.2.2.1.length : Int)).bind fun bt180 => ((spec_l1Cur_among.f s0_0 bt180.2.1 bt180.2.2 (([(-1), 64, 4611686018427387904] : List Int))).bind fun bt186 => (if 0 ≤ bt180.1 then (if bt180.1 < (bt157.2.2.1.length : Int) then (some (bt157.1, bt157.2.1, (bt157.2.2.1.set (bt180.1 : Int).toNat bt186.1), bt186.2.1, bt186.2.2)) else (none)) else (none)))) else (if bt165.1 = 3 then (if bt157.2.2.1.length < 17592186044416 then (some (bt157.1, bt157.2.1, (bt157.2.2.1 ++ [0]), bt165.2.1, bt165.2.2)) else (none)) else (some (bt157.1, bt157.2.1, bt157.2.2.1, bt165.2.1, bt165.2.2)))))))))) = some (r1, r2, r3, r4, r5) := h
 clear h
 replace H := qE H
 obtain ⟨⟨t151, t152, t153⟩, A2, H⟩ := H
 replace H : ((spec_l1Cur_sides.f s0_0 t152 t153).bind fun bt154 => ((spec_l1Cur_boardOf.f k s0_0 bt154.2.1 bt154.2.2 t151 bt154.1).bind fun bt157 => ((spec_l1Cur_pick.f s0_0 bt157.2.2.2.1 bt157.2.2.2.2 18).bind fun bt165 => (if bt165.1 = 0 then ((spec_l1Cur_among.f s0_0 bt165.2.1 bt165.2.2 (([(-1), 0, wrap64 (bt157.1 + 1), 7] : List Int))).bind fun bt171 => (some (bt171.1, bt157.2.1, bt157.2.2.1, bt171.2.1, bt171.2.2))) else (if bt165.1 = 1 then ((spec_l1Cur_among.f s0_0 bt165.2.1 bt165.2.2 (([(-1), 0, 7, 4611686018427387904] : List Int))).bind fun bt177 => (some (bt157.1, bt177.1, bt157.2.2.1, bt177.2.1, bt177.2.2))) else (if bt165.1 = 2 then ((spec_l1Cur_pick.f s0_0 bt165.2.1 bt165.2.2 (bt157.2.2.1.length : Int)).bind fun bt180 => ((spec_l1Cur_among.f s0_0 bt180.2.1 bt180.2.2 (([(-1), 64, 4611686018427387904] : List Int))).bind fun bt186 => (if 0 ≤ bt180.1 then (if bt180.1 < (bt157.2.2.1.length : Int) then (some (bt157.1, bt157.2.1, (bt157.2.2.1.set (bt180.1 : Int).toNat bt186.1), bt186.2.1, bt186.2.2)) else (none)) else (none)))) else (if bt165.1 = 3 then (if bt157.2.2.1.length < 17592186044416 then (some (bt157.1, bt157.2.1, (bt157.2.2.1 ++ [0]), bt165.2.1, bt165.2.2)) else (none)) else (some (bt157.1, bt157.2.1, bt157.2.2.1, bt165.2.1, bt165.2.2))))))))) = some (r1, r2, r3, r4, r5) := H
 replace H := qE H
 obtain ⟨⟨t154, t155, t156⟩, A3, H⟩ := H
 replace H : ((spec_l1Cur_boardOf.f k s0_0 t155 t156 t151 t154).bind fun bt157 => ((spec_l1Cur_pick.f s0_0 bt157.2.2.2.1 bt157.2.2.2.2 18).bind fun bt165 => (if bt165.1 = 0 then ((spec_l1Cur_among.f s0_0 bt165.2.1 bt165.2.2 (([(-1), 0, wrap64 (bt157.1 + 1), 7] : List Int))).bind fun bt171 => (some (bt171.1, bt157.2.1, bt157.2.2.1, bt171.2.1, bt171.2.2))) else (if bt165.1 = 1 then ((spec_l1Cur_among.f s0_0 bt165.2.1 bt165.2.2 (([(-1), 0, 7, 4611686018427387904] : List Int))).bind fun bt177 => (some (bt157.1, bt177.1, bt157.2.2.1, bt177.2.1, bt177.2.2))) else (if bt165.1 = 2 then ((spec_l1Cur_pick.f s0_0 bt165.2.1 bt165.2.2 (bt157.2.2.1.length : Int)).bind fun bt180 => ((spec_l1Cur_among.f s0_0 bt180.2.1 bt180.2.2 (([(-1), 64, 4611686018427387904] : List Int))).bind fun bt186 => (if 0 ≤ bt180.1 then (if bt180.1 < (bt157.2.2.1.length : Int) then (some (bt157.1, bt157.2.1, (bt157.2.2.1.set (bt180.1 : Int).toNat bt186.1), bt186.2.1, bt186.2.2)) else (none)) else (none)))) else (if bt165.1 = 3 then (if bt157.2.2.1.length < 17592186044416 then (some (bt157.1, bt157.2.1, (bt157.2.2.1 ++ [0]), bt165.2.1, bt165.2.2)) else (none)) else (some (bt157.1, bt157.2.1, bt157.2.2.1, bt165.2.1, bt165.2.2)))))))) = some (r1, r2, r3, r4, r5) := H
 replace H := qE H
 obtain ⟨⟨t157, t158, t159, t162, t163⟩, A4, H⟩ := H
 replace H : ((spec_l1Cur_pick.f s0_0 t162 t163 18).bind fun bt165 => (if bt165.1 = 0 then ((spec_l1Cur_among.f s0_0 bt165.2.1 bt165.2.2 (([(-1), 0, wrap64 (t157 + 1), 7] : List Int))).bind fun bt171 => (some (bt171.1, t158, t159, bt171.2.1, bt171.2.2))) else (if bt165.1 = 1 then ((spec_l1Cur_among.f s0_0 bt165.2.1 bt165.2.2 (([(-1), 0, 7, 4611686018427387904] : List Int))).bind fun bt177 => (some (t157, bt177.1, t159, bt177.2.1, bt177.2.2))) else (if bt165.1 = 2 then ((spec_l1Cur_pick.f s0_0 bt165.2.1 bt165.2.2 (t159.length : Int)).bind fun bt180 => ((spec_l1Cur_among.f s0_0 bt180.2.1 bt180.2.2 (([(-1), 64, 4611686018427387904] : List Int))).bind fun bt186 => (if 0 ≤ bt180.1 then (if bt180.1 < (t159.length : Int) then (some (t157, t158, (t159.set (bt180.1 : Int).toNat bt186.1), bt186.2.1, bt186.2.2)) else (none)) else (none)))) else (if bt165.1 = 3 then (if t159.length < 17592186044416 then (some (t157, t158, (t159 ++ [0]), bt165.2.1, bt165.2.2)) else (none)) else (some (t157, t158, t159, bt165.2.1, bt165.2.2))))))) = some (r1, r2, r3, r4, r5) := H
 replace H := qE H
 obtain ⟨⟨t165, t166, t167⟩, A5, H⟩ := H
 replace H : (if t165 = 0 then ((spec_l1Cur_among.f s0_0 t166 t167 (([(-1), 0, wrap64 (t157 + 1), 7] : List Int))).bind fun bt171 => (some (bt171.1, t158, t159, bt171.2.1, bt171.2.2))) else (if t165 = 1 then ((spec_l1Cur_among.f s0_0 t166 t167 (([(-1), 0, 7, 4611686018427387904] : List Int))).bind fun bt177 => (some (t157, bt177.1, t159, bt177.2.1, bt177.2.2))) else (if t165 = 2 then ((spec_l1Cur_pick.f s0_0 t166 t167 (t159.length : Int)).bind fun bt180 => ((spec_l1Cur_among.f s0_0 bt180.2.1 bt180.2.2 (([(-1), 64, 4611686018427387904] : List Int))).bind fun bt186 => (if 0 ≤ bt180.1 then (if bt180.1 < (t159.length : Int) then (some (t157, t158, (t159.set (bt180.1 : Int).toNat bt186.1), bt186.2.1, bt186.2.2)) else (none)) else (none)))) else (if t165 = 3 then (if t159.length < 17592186044416 then (some (t157, t158, (t159 ++ [0]), t166, t167)) else (none)) else (some (t157, t158, t159, t166, t167)))))) = some (r1, r2, r3, r4, r5) := H
 by_cases c6 : t165 = 0
 ·
  rw [if_pos c6] at H
  have c6b0 : (t165 == 0) = true := beq_iff_eq.mpr c6
  have c6b1 : (t165 != 0) = false := bne_eq_false_iff_eq.mpr c6
  clear c6
  obtain ⟨y168, hy_⟩ : ∃ y_ : List Int, y_ = ((([(-1), 0, wrap64 (t157 + 1), 7] : List Int))) := ⟨_, rfl⟩
  replace H : ((spec_l1Cur_among.f s0_0 t166 t167 y168).bind fun bt171 => (some (bt171.1, t158, t159, bt171.2.1, bt171.2.2))) = some (r1, r2, r3, r4, r5) := qH
  have Ny168 := Aside0.mk hy_
  clear hy_
  replace H := qE H
  obtain ⟨⟨t171, t172, t173⟩, A7, H⟩ := H
  replace H : (some (t171, t158, t159, t172, t173)) = some (r1, r2, r3, r4, r5) := H
  simp only [Option.some.injEq, Prod.mk.injEq] at H
  obtain ⟨rfl, rfl, rfl, rfl, rfl⟩ := H
  go_enter Try.func62, Try.ntmps62
  go_wp2_with (first | ((with_reducible refine gate_dst (N := 2) rfl ?_); refine qv 2 #[.int .i64 0, .int .i64 0, .slice none 0 0] 26 ?_; intro gb150 hg w8 hbox hb; have BK150 := am hbox; have GW150 := qx hg; have GE150 := qy HW0 (qx hg); have Nq0 := qo hg g; have Nq2 := qO hg g; replace HK := qU hb; replace HB := qt hb; replace HI0 := qj hb; clear hb hbox hg) | ((with_reducible refine gate_callee (f := 121) rfl ?_); refine qg (some 6) Try.func121 #[.pointer (some ⟨g, 0, none⟩)] ?_; (with_reducible refine (spec_l1Cur_sides.calls g s0_0 s0_1 s0_2 t151 t152 t153 w0 _ ?side1 ?side2 A2.out).mono ?_); (case side1 => exact qi); (case side2 => exact qc); rintro e w9 ⟨rfl, hi, hb, hk⟩; refine ⟨_, rfl, ?_⟩; replace BK150 := qK BK150 hk Nq2; replace HK := qT hk; replace HB := am hb; replace HI0 := am hi; (try clear hb hk hi)) | ((with_reducible refine gate_callee (f := 121) rfl ?_); refine qg (some 8) Try.func121 #[.pointer (some ⟨g, 0, none⟩)] ?_; (with_reducible refine (spec_l1Cur_sides.calls g s0_0 t152 t153 t154 t155 t156 w0 _ ?side1 ?side2 A3.out).mono ?_); (case side1 => exact qi); (case side2 => exact qc); rintro e w10 ⟨rfl, hi, hb, hk⟩; refine ⟨_, rfl, ?_⟩; replace BK150 := qK BK150 hk Nq2; replace HK := qT hk; replace HB := am hb; replace HI0 := am hi; (try clear hb hk hi)) | ((with_reducible refine gate_callee (f := 73) rfl ?_); refine qg (some 9) Try.func73 #[.pointer (some ⟨g, 0, none⟩), .int .i64 t151, .int .i64 t154] ?_; (with_reducible refine (spec_l1Cur_boardOf.calls k g s0_0 t155 t156 t151 t154 t157 t158 t159 t162 t163 w0 _ ?side1 ?side2 A4.out).mono ?_); (case side1 => exact qi); (case side2 => exact qc); rintro e w11 ⟨v160, rfl, ho0, hi, hb, hk⟩; refine ⟨_, rfl, ?_⟩; have Oq0 := qm ho0; replace BK150 := qK BK150 hk Nq2; replace HK := qT hk; replace HB := am hb; replace HI0 := am hi; (try clear hb hk hi ho0)) | ((with_reducible refine gate_dst (N := 3) rfl ?_); refine qv 3 #[.int .i64 0, .int .i64 0, .slice none 0 0] 26 ?_; intro gb164 hg w12 hbox hb; have BK164 := am hbox; have GW164 := qx hg; have GE164 := qy HW0 (qx hg); have Nq3 := qn hg BK150; have Nq5 := qN hg BK150; have Nq1 := qo hg g; have Nq4 := qO hg g; replace Oq0 := sqR Oq0 hb; replace BK150 := sqB BK150 hb; replace HK := qU hb; replace HB := qt hb; replace HI0 := qj hb; clear hb hbox hg; have bq1 := Nq5.out; have cq1 := Nq3.out; have bq2 := Nq4.out; have cq2 := Nq1.out; obtain ⟨zq6, zq7, zq8, fq6, fq7, fq8⟩ := qd BK164; obtain ⟨Ao16, co16, eo16⟩ := Kd.R_slice Oq0.out; subst eo16) | ((with_reducible refine gate_callee (f := 63) rfl ?_); refine qg (some 11) Try.func63 #[.pointer (some ⟨g, 0, none⟩), .int .i64 18] ?_; (with_reducible refine (spec_l1Cur_pick.calls g s0_0 t162 t163 18 t165 t166 t167 w0 _ ?side1 ?side2 A5.out).mono ?_); (case side1 => exact qi); (case side2 => exact qc); rintro e w17 ⟨rfl, hi, hb, hk⟩; refine ⟨_, rfl, ?_⟩; replace BK150 := am (KeepBut.blk hk (g' := gb150) (o := .cells #[.int .i64 0, .int .i64 0, .slice none 0 0] 26 (0, 0)) Q8 Nq2.out (by simp)); replace Oq0 := am (Kd.R_mono (Kd.R_keep (IsS66.apart (show IsS66 w0 _ g s0_0 t162 t163 from qi) (sqw (sqo Oq0 BK164)) (by decide)) hk (fun _ h => h.2)) (fun _ h => h.1)); replace BK164 := am (KeepBut.blk hk (g' := gb164) (o := .cells #[.int .i64 t157, .int .i64 t158, .slice Ao16 t159.length co16] 26 (0, 0)) Q4 Nq4.out (by simp)); replace HK := qT hk; replace HB := am hb; replace HI0 := am hi; (try clear hb hk hi); obtain ⟨zq9, zq10, zq11, fq9, fq10, fq11⟩ := qd BK164) | ((with_reducible refine gate_dst (N := 18) rfl ?_); refine Kd.R_lit (Kd.int .i64) _ 3 ?hg (N := 18) ?hd (xs := ([(-1), 0, wrap64 (t157 + 1), 7] : List Int)) (inner := [.int .i64 (-1), .int .i64 0, .int .i64 (wrap64 (t157 + 1)), .int .i64 7]) (ok := fun _ => True) (okp := fun _ => True) ?hr ?hp (fun _ hk => hk) trivial (Below.refl _ _) (Nat.le_refl _) (by simp) ?_; (case hd => rfl); (case hg => rfl); (case hr => first | (go_simp; done) | (go_simp; rfl)); (case hp => exact (Reps.one (show Kd.M (Kd.int .i64) _ _ _ (-1) [.int .i64 (-1)] from rfl) (Reps.one (show Kd.M (Kd.int .i64) _ _ _ 0 [.int .i64 0] from rfl) (Reps.one (show Kd.M (Kd.int .i64) _ _ _ (wrap64 (t157 + 1)) [.int .i64 (wrap64 (t157 + 1))] from rfl) (Reps.one (show Kd.M (Kd.int .i64) _ _ _ 7 [.int .i64 7] from rfl) (Reps.none _ _)))))); intro v169 w19 ho20 hb hg_ hnew_; clear hg_ hnew_; (first | rw [← Ny168.out] at ho20 | (simp only [Int.reduceToNat] at ho20; rw [← Ny168.out] at ho20)); have Oq1 := am (Kd.R_lower (Kd.R_new' ho20 (sqL Oq0)) (qz w g)); replace BK150 := sqB BK150 hb; replace BK164 := sqB BK164 hb; replace Oq0 := qe (sqr Oq0) ho20 hb; replace HK := qU hb; replace HB := qt hb; replace HI0 := qj hb; clear hb ho20; obtain ⟨Ao21, co21, eo21⟩ := Kd.R_slice Oq1.out; subst eo21) | ((with_reducible refine gate_callee (f := 84) rfl ?_); refine qg (some 19) Try.func84 #[.pointer (some ⟨g, 0, none⟩), .slice Ao21 y168.length co21] ?_; (with_reducible refine (spec_l1Cur_among.calls g s0_0 t166 t167 _ _ y168 t171 t172 t173 w0 _ ?side1 ?side2 ?side3 ?side4 ?side5 A7.out).mono ?_); (case side1 => exact qi); (case side2 => exact qc); (case side3 => repeat (first | exact (Kd.R_reads' Oq1.out).2.2 | (with_reducible first | refine Kd.C_alloc ?_ _ | refine Kd.C_drewN ?_ _ | refine Kd.C_drew ?_))); (case side4 => exact Q56); (case side5 => exact far_slice (IsS66.own_ne HI0.out Oq1.out (by decide))); rintro e w22 ⟨rfl, hi, hb, hk⟩; refine ⟨_, rfl, ?_⟩; replace BK150 := qK BK150 hk Nq2; replace Oq0 := qR Oq0 hk; replace BK164 := qK BK164 hk Nq4; replace Oq1 := qR Oq1 hk; replace HK := qT hk; replace HB := am hb; replace HI0 := am hi; (try clear hb hk hi); obtain ⟨zq12, zq13, zq14, fq12, fq13, fq14⟩ := qd BK164; have bq3 := Nq2.out; have cq3 := Nq0.out; obtain ⟨zq15, zq16, zq17, fq15, fq16, fq17⟩ := qd BK150))
  refine bodyPost_ret (results_cell_row rfl _ _ gb150 26 #[.int .i64 t171, .int .i64 t158, .slice Ao16 t159.length co16] (0, 0) _ rfl (by (with_reducible repeat (first | refine blk_drewN ?_ _ | refine blk_drew ?_ | refine blk_alloc ?_ _)); refine blk_put (cs := #[.int .i64 t171, .int .i64 t158, .slice none 0 0]) ?_ 2 _ rfl; (with_reducible repeat (first | refine blk_drewN ?_ _ | refine blk_drew ?_ | refine blk_alloc ?_ _)); refine blk_put (cs := #[.int .i64 t171, .int .i64 0, .slice none 0 0]) ?_ 1 _ rfl; (with_reducible repeat (first | refine blk_drewN ?_ _ | refine blk_drew ?_ | refine blk_alloc ?_ _)); refine blk_put (cs := #[.int .i64 0, .int .i64 0, .slice none 0 0]) ?_ 0 _ rfl; (with_reducible repeat (first | refine blk_drewN ?_ _ | refine blk_drew ?_ | refine blk_alloc ?_ _)); refine blk_far ?_ Nq3.out _; (with_reducible repeat (first | refine blk_drewN ?_ _ | refine blk_drew ?_ | refine blk_alloc ?_ _)); exact BK150.out) Try.underlying26 rfl (by kernel_rfl)) rfl ?_
  exact ⟨_, Q1, by (with_reducible repeat (first | apply Kd.R_alloc | apply Kd.R_drewN | apply Kd.R_drew)); exact Kd.R_mono (Kd.R_far (p := ⟨gb150, 2, none⟩) (Kd.R_far (p := ⟨gb150, 1, none⟩) (Kd.R_far (p := ⟨gb150, 0, none⟩) (Kd.R_far (p := ⟨gb164, 0, none⟩) (Kd.R_types (Kd.R_types Oq0.out BK164.out (by decide)) BK150.out (by decide)) (fun _ hk => hk.1.2) (.int .i64 t171)) (fun _ hk => hk.2) (.int .i64 t171)) (fun _ hk => hk.2) (.int .i64 t158)) (fun _ hk => hk.2) (.slice Ao16 t159.length co16)) (fun _ hk => trivial), qi, qc, qk⟩
 ·
  rw [if_neg c6] at H
  have c6b0 : (t165 == 0) = false := beq_eq_false_iff_ne.mpr c6
  have c6b1 : (t165 != 0) = true := bne_iff_ne.mpr c6
  by_cases c26 : t165 = 1
  ·
   rw [if_pos c26] at H
   have c26b0 : (t165 == 1) = true := beq_iff_eq.mpr c26
   have c26b1 : (t165 != 1) = false := bne_eq_false_iff_eq.mpr c26
   clear c26
   obtain ⟨y174, hy_⟩ : ∃ y_ : List Int, y_ = ((([(-1), 0, 7, 4611686018427387904] : List Int))) := ⟨_, rfl⟩
   replace H : ((spec_l1Cur_among.f s0_0 t166 t167 y174).bind fun bt177 => (some (t157, bt177.1, t159, bt177.2.1, bt177.2.2))) = some (r1, r2, r3, r4, r5) := qH
   have Ny174 := Aside0.mk hy_
   clear hy_
   replace H := qE H
   obtain ⟨⟨t177, t178, t179⟩, A27, H⟩ := H
   replace H : (some (t157, t177, t159, t178, t179)) = some (r1, r2, r3, r4, r5) := H
   simp only [Option.some.injEq, Prod.mk.injEq] at H
   obtain ⟨rfl, rfl, rfl, rfl, rfl⟩ := H
   go_enter Try.func62, Try.ntmps62
   go_wp2_with (first | ((with_reducible refine gate_dst (N := 2) rfl ?_); refine qv 2 #[.int .i64 0, .int .i64 0, .slice none 0 0] 26 ?_; intro gb150 hg w28 hbox hb; have BK150 := am hbox; have GW150 := qx hg; have GE150 := qy HW0 (qx hg); have Nq0 := qo hg g; have Nq2 := qO hg g; replace HK := qU hb; replace HB := qt hb; replace HI0 := qj hb; clear hb hbox hg) | ((with_reducible refine gate_callee (f := 121) rfl ?_); refine qg (some 6) Try.func121 #[.pointer (some ⟨g, 0, none⟩)] ?_; (with_reducible refine (spec_l1Cur_sides.calls g s0_0 s0_1 s0_2 t151 t152 t153 w0 _ ?side1 ?side2 A2.out).mono ?_); (case side1 => exact qi); (case side2 => exact qc); rintro e w29 ⟨rfl, hi, hb, hk⟩; refine ⟨_, rfl, ?_⟩; replace BK150 := qK BK150 hk Nq2; replace HK := qT hk; replace HB := am hb; replace HI0 := am hi; (try clear hb hk hi)) | ((with_reducible refine gate_callee (f := 121) rfl ?_); refine qg (some 8) Try.func121 #[.pointer (some ⟨g, 0, none⟩)] ?_; (with_reducible refine (spec_l1Cur_sides.calls g s0_0 t152 t153 t154 t155 t156 w0 _ ?side1 ?side2 A3.out).mono ?_); (case side1 => exact qi); (case side2 => exact qc); rintro e w30 ⟨rfl, hi, hb, hk⟩; refine ⟨_, rfl, ?_⟩; replace BK150 := qK BK150 hk Nq2; replace HK := qT hk; replace HB := am hb; replace HI0 := am hi; (try clear hb hk hi)) | ((with_reducible refine gate_callee (f := 73) rfl ?_); refine qg (some 9) Try.func73 #[.pointer (some ⟨g, 0, none⟩), .int .i64 t151, .int .i64 t154] ?_; (with_reducible refine (spec_l1Cur_boardOf.calls k g s0_0 t155 t156 t151 t154 t157 t158 t159 t162 t163 w0 _ ?side1 ?side2 A4.out).mono ?_); (case side1 => exact qi); (case side2 => exact qc); rintro e w31 ⟨v160, rfl, ho0, hi, hb, hk⟩; refine ⟨_, rfl, ?_⟩; have Oq0 := qm ho0; replace BK150 := qK BK150 hk Nq2; replace HK := qT hk; replace HB := am hb; replace HI0 := am hi; (try clear hb hk hi ho0)) | ((with_reducible refine gate_dst (N := 3) rfl ?_); refine qv 3 #[.int .i64 0, .int .i64 0, .slice none 0 0] 26 ?_; intro gb164 hg w32 hbox hb; have BK164 := am hbox; have GW164 := qx hg; have GE164 := qy HW0 (qx hg); have Nq3 := qn hg BK150; have Nq5 := qN hg BK150; have Nq1 := qo hg g; have Nq4 := qO hg g; replace Oq0 := sqR Oq0 hb; replace BK150 := sqB BK150 hb; replace HK := qU hb; replace HB := qt hb; replace HI0 := qj hb; clear hb hbox hg; have bq4 := Nq5.out; have cq4 := Nq3.out; have bq5 := Nq4.out; have cq5 := Nq1.out; obtain ⟨zq18, zq19, zq20, fq18, fq19, fq20⟩ := qd BK164; obtain ⟨Ao36, co36, eo36⟩ := Kd.R_slice Oq0.out; subst eo36) | ((with_reducible refine gate_callee (f := 63) rfl ?_); refine qg (some 11) Try.func63 #[.pointer (some ⟨g, 0, none⟩), .int .i64 18] ?_; (with_reducible refine (spec_l1Cur_pick.calls g s0_0 t162 t163 18 t165 t166 t167 w0 _ ?side1 ?side2 A5.out).mono ?_); (case side1 => exact qi); (case side2 => exact qc); rintro e w37 ⟨rfl, hi, hb, hk⟩; refine ⟨_, rfl, ?_⟩; replace BK150 := am (KeepBut.blk hk (g' := gb150) (o := .cells #[.int .i64 0, .int .i64 0, .slice none 0 0] 26 (0, 0)) Q8 Nq2.out (by simp)); replace Oq0 := am (Kd.R_mono (Kd.R_keep (IsS66.apart (show IsS66 w0 _ g s0_0 t162 t163 from qi) (sqw (sqo Oq0 BK164)) (by decide)) hk (fun _ h => h.2)) (fun _ h => h.1)); replace BK164 := am (KeepBut.blk hk (g' := gb164) (o := .cells #[.int .i64 t157, .int .i64 t158, .slice Ao36 t159.length co36] 26 (0, 0)) Q4 Nq4.out (by simp)); replace HK := qT hk; replace HB := am hb; replace HI0 := am hi; (try clear hb hk hi)) | ((with_reducible refine gate_dst (N := 24) rfl ?_); refine Kd.R_lit (Kd.int .i64) _ 3 ?hg (N := 24) ?hd (xs := ([(-1), 0, 7, 4611686018427387904] : List Int)) (inner := [.int .i64 (-1), .int .i64 0, .int .i64 7, .int .i64 4611686018427387904]) (ok := fun _ => True) (okp := fun _ => True) ?hr ?hp (fun _ hk => hk) trivial (Below.refl _ _) (Nat.le_refl _) (by simp) ?_; (case hd => rfl); (case hg => rfl); (case hr => first | (go_simp; done) | (go_simp; rfl)); (case hp => exact (Reps.one (show Kd.M (Kd.int .i64) _ _ _ (-1) [.int .i64 (-1)] from rfl) (Reps.one (show Kd.M (Kd.int .i64) _ _ _ 0 [.int .i64 0] from rfl) (Reps.one (show Kd.M (Kd.int .i64) _ _ _ 7 [.int .i64 7] from rfl) (Reps.one (show Kd.M (Kd.int .i64) _ _ _ 4611686018427387904 [.int .i64 4611686018427387904] from rfl) (Reps.none _ _)))))); intro v175 w38 ho39 hb hg_ hnew_; clear hg_ hnew_; (first | rw [← Ny174.out] at ho39 | (simp only [Int.reduceToNat] at ho39; rw [← Ny174.out] at ho39)); have Oq2 := am (Kd.R_lower (Kd.R_new' ho39 (sqL Oq0)) (qz w g)); replace BK150 := sqB BK150 hb; replace BK164 := sqB BK164 hb; replace Oq0 := qe (sqr Oq0) ho39 hb; replace HK := qU hb; replace HB := qt hb; replace HI0 := qj hb; clear hb ho39; obtain ⟨Ao40, co40, eo40⟩ := Kd.R_slice Oq2.out; subst eo40) | ((with_reducible refine gate_callee (f := 84) rfl ?_); refine qg (some 25) Try.func84 #[.pointer (some ⟨g, 0, none⟩), .slice Ao40 y174.length co40] ?_; (with_reducible refine (spec_l1Cur_among.calls g s0_0 t166 t167 _ _ y174 t177 t178 t179 w0 _ ?side1 ?side2 ?side3 ?side4 ?side5 A27.out).mono ?_); (case side1 => exact qi); (case side2 => exact qc); (case side3 => exact Q39); (case side4 => exact (Kd.R_reads' Oq2.out).2.1); (case side5 => exact far_slice (IsS66.own_ne HI0.out Oq2.out (by decide))); rintro e w41 ⟨rfl, hi, hb, hk⟩; refine ⟨_, rfl, ?_⟩; replace BK150 := qK BK150 hk Nq2; replace Oq0 := qR Oq0 hk; replace BK164 := qK BK164 hk Nq4; replace Oq2 := qR Oq2 hk; replace HK := qT hk; replace HB := am hb; replace HI0 := am hi; (try clear hb hk hi); obtain ⟨zq21, zq22, zq23, fq21, fq22, fq23⟩ := qd BK164; have bq6 := Nq2.out; have cq6 := Nq0.out; obtain ⟨zq24, zq25, zq26, fq24, fq25, fq26⟩ := qd BK150))
   refine bodyPost_ret (results_cell_row rfl _ _ gb150 26 #[.int .i64 t157, .int .i64 t177, .slice Ao36 t159.length co36] (0, 0) _ rfl (by (with_reducible repeat (first | refine blk_drewN ?_ _ | refine blk_drew ?_ | refine blk_alloc ?_ _)); refine blk_put (cs := #[.int .i64 t157, .int .i64 t177, .slice none 0 0]) ?_ 2 _ rfl; (with_reducible repeat (first | refine blk_drewN ?_ _ | refine blk_drew ?_ | refine blk_alloc ?_ _)); refine blk_put (cs := #[.int .i64 t157, .int .i64 0, .slice none 0 0]) ?_ 1 _ rfl; (with_reducible repeat (first | refine blk_drewN ?_ _ | refine blk_drew ?_ | refine blk_alloc ?_ _)); refine blk_put (cs := #[.int .i64 0, .int .i64 0, .slice none 0 0]) ?_ 0 _ rfl; (with_reducible repeat (first | refine blk_drewN ?_ _ | refine blk_drew ?_ | refine blk_alloc ?_ _)); refine blk_far ?_ Nq3.out _; (with_reducible repeat (first | refine blk_drewN ?_ _ | refine blk_drew ?_ | refine blk_alloc ?_ _)); exact BK150.out) Try.underlying26 rfl (by kernel_rfl)) rfl ?_
   exact ⟨_, Q1, by (with_reducible repeat (first | apply Kd.R_alloc | apply Kd.R_drewN | apply Kd.R_drew)); exact Kd.R_mono (Kd.R_far (p := ⟨gb150, 2, none⟩) (Kd.R_far (p := ⟨gb150, 1, none⟩) (Kd.R_far (p := ⟨gb150, 0, none⟩) (Kd.R_far (p := ⟨gb164, 1, none⟩) (Kd.R_types (Kd.R_types Oq0.out BK164.out (by decide)) BK150.out (by decide)) (fun _ hk => hk.1.2) (.int .i64 t177)) (fun _ hk => hk.2) (.int .i64 t157)) (fun _ hk => hk.2) (.int .i64 t177)) (fun _ hk => hk.2) (.slice Ao36 t159.length co36)) (fun _ hk => trivial), qi, qc, qk⟩
  ·
   rw [if_neg c26] at H
   have c26b0 : (t165 == 1) = false := beq_eq_false_iff_ne.mpr c26
   have c26b1 : (t165 != 1) = true := bne_iff_ne.mpr c26
   by_cases c45 : t165 = 2
   ·
    rw [if_pos c45] at H
    have c45b0 : (t165 == 2) = true := beq_iff_eq.mpr c45
    have c45b1 : (t165 != 2) = false := bne_eq_false_iff_eq.mpr c45
    clear c45
    replace H := qE H
    obtain ⟨⟨t180, t181, t182⟩, A46, H⟩ := H
    replace H : ((spec_l1Cur_among.f s0_0 t181 t182 (([(-1), 64, 4611686018427387904] : List Int))).bind fun bt186 => (if 0 ≤ t180 then (if t180 < (t159.length : Int) then (some (t157, t158, (t159.set (t180 : Int).toNat bt186.1), bt186.2.1, bt186.2.2)) else (none)) else (none))) = some (r1, r2, r3, r4, r5) := H
    obtain ⟨y183, hy_⟩ : ∃ y_ : List Int, y_ = ((([(-1), 64, 4611686018427387904] : List Int))) := ⟨_, rfl⟩
    replace H : ((spec_l1Cur_among.f s0_0 t181 t182 y183).bind fun bt186 => (if 0 ≤ t180 then (if t180 < (t159.length : Int) then (some (t157, t158, (t159.set (t180 : Int).toNat bt186.1), bt186.2.1, bt186.2.2)) else (none)) else (none))) = some (r1, r2, r3, r4, r5) := qH
    have Ny183 := Aside0.mk hy_
    clear hy_
    replace H := qE H
    obtain ⟨⟨t186, t187, t188⟩, A47, H⟩ := H
    replace H : (if 0 ≤ t180 then (if t180 < (t159.length : Int) then (some (t157, t158, (t159.set (t180 : Int).toNat t186), t187, t188)) else (none)) else (none)) = some (r1, r2, r3, r4, r5) := H
    by_cases c48 : 0 ≤ t180
    ·
     rw [if_pos c48] at H
     have c48b0 : decide (0 ≤ t180) = true := decide_eq_true c48
     clear c48
     by_cases c49 : t180 < (t159.length : Int)
     ·
      rw [if_pos c49] at H
      have c49b0 : decide (t180 < (t159.length : Int)) = true := decide_eq_true c49
      clear c49
      obtain ⟨y189, hy_⟩ : ∃ y_ : List Int, y_ = ((t159.set (t180 : Int).toNat t186)) := ⟨_, rfl⟩
      replace H : (some (t157, t158, y189, t187, t188)) = some (r1, r2, r3, r4, r5) := qH
      have Ny189 := Aside0.mk hy_
      clear hy_
      simp only [Option.some.injEq, Prod.mk.injEq] at H
      obtain ⟨rfl, rfl, rfl, rfl, rfl⟩ := H
      go_enter Try.func62, Try.ntmps62
      try go_wp2_with (first | ((with_reducible refine gate_dst (N := 2) rfl ?_); refine qv 2 #[.int .i64 0, .int .i64 0, .slice none 0 0] 26 ?_; intro gb150 hg w51 hbox hb; have BK150 := am hbox; have GW150 := qx hg; have GE150 := qy HW0 (qx hg); have Nq0 := qo hg g; have Nq2 := qO hg g; replace HK := qU hb; replace HB := qt hb; replace HI0 := qj hb; clear hb hbox hg) | ((with_reducible refine gate_callee (f := 121) rfl ?_); refine qg (some 6) Try.func121 #[.pointer (some ⟨g, 0, none⟩)] ?_; (with_reducible refine (spec_l1Cur_sides.calls g s0_0 s0_1 s0_2 t151 t152 t153 w0 _ ?side1 ?side2 A2.out).mono ?_); (case side1 => exact qi); (case side2 => exact qc); rintro e w52 ⟨rfl, hi, hb, hk⟩; refine ⟨_, rfl, ?_⟩; replace BK150 := qK BK150 hk Nq2; replace HK := qT hk; replace HB := am hb; replace HI0 := am hi; (try clear hb hk hi)) | ((with_reducible refine gate_callee (f := 121) rfl ?_); refine qg (some 8) Try.func121 #[.pointer (some ⟨g, 0, none⟩)] ?_; (with_reducible refine (spec_l1Cur_sides.calls g s0_0 t152 t153 t154 t155 t156 w0 _ ?side1 ?side2 A3.out).mono ?_); (case side1 => exact qi); (case side2 => exact qc); rintro e w53 ⟨rfl, hi, hb, hk⟩; refine ⟨_, rfl, ?_⟩; replace BK150 := qK BK150 hk Nq2; replace HK := qT hk; replace HB := am hb; replace HI0 := am hi; (try clear hb hk hi)) | ((with_reducible refine gate_callee (f := 73) rfl ?_); refine qg (some 9) Try.func73 #[.pointer (some ⟨g, 0, none⟩), .int .i64 t151, .int .i64 t154] ?_; (with_reducible refine (spec_l1Cur_boardOf.calls k g s0_0 t155 t156 t151 t154 t157 t158 t159 t162 t163 w0 _ ?side1 ?side2 A4.out).mono ?_); (case side1 => exact qi); (case side2 => exact qc); rintro e w54 ⟨v160, rfl, ho0, hi, hb, hk⟩; refine ⟨_, rfl, ?_⟩; have Oq0 := qm ho0; replace BK150 := qK BK150 hk Nq2; replace HK := qT hk; replace HB := am hb; replace HI0 := am hi; (try clear hb hk hi ho0)) | ((with_reducible refine gate_dst (N := 3) rfl ?_); refine qv 3 #[.int .i64 0, .int .i64 0, .slice none 0 0] 26 ?_; intro gb164 hg w55 hbox hb; have BK164 := am hbox; have GW164 := qx hg; have GE164 := qy HW0 (qx hg); have Nq3 := qn hg BK150; have Nq5 := qN hg BK150; have Nq1 := qo hg g; have Nq4 := qO hg g; replace Oq0 := sqR Oq0 hb; replace BK150 := sqB BK150 hb; replace HK := qU hb; replace HB := qt hb; replace HI0 := qj hb; clear hb hbox hg; have bq7 := Nq5.out; have cq7 := Nq3.out; have bq8 := Nq4.out; have cq8 := Nq1.out; obtain ⟨zq27, zq28, zq29, fq27, fq28, fq29⟩ := qd BK164; obtain ⟨Ao59, co59, eo59⟩ := Kd.R_slice Oq0.out; subst eo59) | ((with_reducible refine gate_callee (f := 63) rfl ?_); refine qg (some 11) Try.func63 #[.pointer (some ⟨g, 0, none⟩), .int .i64 18] ?_; (with_reducible refine (spec_l1Cur_pick.calls g s0_0 t162 t163 18 t165 t166 t167 w0 _ ?side1 ?side2 A5.out).mono ?_); (case side1 => exact qi); (case side2 => exact qc); rintro e w60 ⟨rfl, hi, hb, hk⟩; refine ⟨_, rfl, ?_⟩; replace BK150 := am (KeepBut.blk hk (g' := gb150) (o := .cells #[.int .i64 0, .int .i64 0, .slice none 0 0] 26 (0, 0)) Q8 Nq2.out (by simp)); replace Oq0 := am (Kd.R_mono (Kd.R_keep (IsS66.apart (show IsS66 w0 _ g s0_0 t162 t163 from qi) (sqw (sqo Oq0 BK164)) (by decide)) hk (fun _ h => h.2)) (fun _ h => h.1)); replace BK164 := am (KeepBut.blk hk (g' := gb164) (o := .cells #[.int .i64 t157, .int .i64 t158, .slice Ao59 t159.length co59] 26 (0, 0)) Q4 Nq4.out (by simp)); replace HK := qT hk; replace HB := am hb; replace HI0 := am hi; (try clear hb hk hi)))
      replace Oq0 := am (Kd.R_drew Oq0.out)
      replace BK150 := am (blk_drew BK150.out)
      replace BK164 := am (blk_drew BK164.out)
      replace HI0 := am (IsS66.drew HI0.out)
      replace HK := am (keep_drew HK.out)
      replace HB := am (below_drew1 HB.out)
      refine start_ (n := 12) (S := fun w' => w'.cell? ⟨gb164, 0, none⟩ = some (.int .i64 t157) ∧ w'.cell? ⟨gb164, 1, none⟩ = some (.int .i64 t158) ∧ w'.cell? ⟨gb164, 2, none⟩ = some (.slice Ao59 t159.length co59)) (ds := [11]) #[false, false, false, false, false, false, false, false, false, false, false, false] (by kernel_rfl) rfl rfl ⟨sqc BK164 0, sqc BK164 1, sqc BK164 2⟩ (fun hHeld => ?_); refine with_tabW spec_l1Cur_board.tab8 spec_l1Cur_board.bits8 (fun HT_ HW_ => ?_)
      generalize w60.drew = w61 at Oq0 BK150 BK164 HI0 HK HB hHeld ⊢
      refine qp 0 (some 29) #[true, false, false, false, false, false, false, false, false, false, false, false] ?_
      refine qp 2 (some 31) #[true, false, true, false, false, false, false, false, false, false, false, false] ?_
      refine qp 3 (some 32) #[true, false, true, true, false, false, false, false, false, false, false, false] ?_
      refine qp 7 (some 36) #[true, false, true, true, false, false, false, true, false, false, false, false] ?_
      refine take_ (i := 1) (N := some 30) (v := ?_) (a' := ?_) #[true, true, true, true, false, false, false, true, false, false, false, false] rfl rfl (take_ofW HT_.out HW_.out (by kernel_rfl)) (fun _ _ _ h => h) (Or.inl ⟨by rfl, ?_⟩) hHeld ?_ ?_
      rotate_left
      ·
       rintro w' ⟨s0, s1, s2⟩
       go_simp
       with_reducible rfl
      rotate_left
      ·
       simp only [Act.put, List.setIfInBounds_toArray, List.set_cons_zero, List.set_cons_succ, i64_w, i32_w]
       rfl
      refine take_ (i := 4) (N := some 33) (v := ?_) (a' := ?_) #[true, true, true, true, true, false, false, true, false, false, false, false] rfl rfl (take_ofW HT_.out HW_.out (by kernel_rfl)) (fun _ _ _ h => h) (Or.inl ⟨by rfl, ?_⟩) hHeld ?_ ?_
      rotate_left
      ·
       rintro w' ⟨s0, s1, s2⟩
       go_simp
       with_reducible rfl
      rotate_left
      ·
       simp only [Act.put, List.setIfInBounds_toArray, List.set_cons_zero, List.set_cons_succ, i64_w, i32_w]
       rfl
      refine qp 5 (some 34) #[true, true, true, true, true, true, false, true, false, false, false, false] ?_
      refine join_ (σ := Value) 3 #[true, true, true, true, true, true, true, true, true, false, false, false] (fun s_ => [(35, .int .i64 t180), (37, s_)]) (fun s_ w' => (w'.cell? ⟨gb164, 0, none⟩ = some (.int .i64 t157) ∧ w'.cell? ⟨gb164, 1, none⟩ = some (.int .i64 t158) ∧ w'.cell? ⟨gb164, 2, none⟩ = some (.slice Ao59 t159.length co59)) ∧ (Kd.R (Kd.int .i64) 3 w' w.heap.size (fun k_ => some k_ ≠ (s_ : Value).ownBlock) (.slice Ao59 t159.length co59) t159) ∧ (Kd.R (Kd.int .i64) 3 w' w.heap.size (fun k_ => some k_ ≠ (.slice Ao59 t159.length co59 : Value).ownBlock) s_ y183) ∧ (w'.heap[gb150]? = some (.cells #[.int .i64 0, .int .i64 0, .slice none 0 0] 26 (0, 0))) ∧ (w'.heap[gb164]? = some (.cells #[.int .i64 t157, .int .i64 t158, .slice Ao59 t159.length co59] 26 (0, 0))) ∧ (IsS66 w0 w' g s0_0 t181 t182) ∧ (KeepBut w w' g none) ∧ (Below w0.heap.size w0 w')) ?_ ?_
      rotate_left
      ·
       intro hCont
       refine two_ (i := 6) (j := 8) (Ni := some 35) (Nj := some 37) #[true, true, true, true, true, true, true, true, false, false, false, false] #[true, true, true, true, true, true, false, true, true, false, false, false] rfl rfl rfl rfl (two_of HT_.out (by kernel_rfl)) (by decide) (by decide) (fun K hK => ?_) (fun K hK => ?_)
       ·
        skip
        refine qG Try.func63 #[.pointer (some ⟨g, 0, none⟩), .int .i64 (t159.length : Int)] ?_
        with_reducible refine (spec_l1Cur_pick.calls g s0_0 t166 t167 (t159.length : Int) t180 t181 t182 w0 _ ?side1 ?side2 A46.out).mono ?_
        (case side1 => exact qi)
        (case side2 => exact qc)
        rintro e w62 ⟨rfl, hi, hb, hk⟩
        refine ⟨_, rfl, ?_⟩
        replace BK150 := qK BK150 hk Nq2
        replace Oq0 := qR Oq0 hk
        replace BK164 := qK BK164 hk Nq4
        replace HK := qT hk
        replace HB := am hb
        replace HI0 := am hi
        (try clear hb hk hi)
        refine hK.out _ _ ⟨sqc BK164 0, sqc BK164 1, sqc BK164 2⟩ (fun hHeld => ?_)
        clear hK K
        refine qq (some 35) ?_
        refine one_ (i := 8) (N := some 37) #[true, true, true, true, true, true, true, true, true, false, false, false] rfl rfl (one_of HT_.out (by kernel_rfl)) (by decide) fun K hK => ?_
        refine Kd.R_lit_step (Kd.int .i64) _ 3 ?hg (N := 37) ?hd (xs := ([(-1), 64, 4611686018427387904] : List Int)) (inner := [.int .i64 (-1), .int .i64 64, .int .i64 4611686018427387904]) (ok := fun _ => True) (okp := fun _ => True) ?hr ?hp (fun _ hk => hk) trivial (Below.refl _ _) (Nat.le_refl _) (by simp) ?_; (case hd => rfl); (case hg => rfl); (case hr => first | (go_simp; done) | (go_simp; rfl)); (case hp => exact (Reps.one (show Kd.M (Kd.int .i64) _ _ _ (-1) [.int .i64 (-1)] from rfl) (Reps.one (show Kd.M (Kd.int .i64) _ _ _ 64 [.int .i64 64] from rfl) (Reps.one (show Kd.M (Kd.int .i64) _ _ _ 4611686018427387904 [.int .i64 4611686018427387904] from rfl) (Reps.none _ _)))))
        intro v184 w63 ho64 hb hg_ hnew_
        clear hg_ hnew_
        (first | rw [← Ny183.out] at ho64 | (simp only [Int.reduceToNat] at ho64; rw [← Ny183.out] at ho64))
        have Oq3 := am (Kd.R_lower (Kd.R_new' ho64 (sqL Oq0)) (qz w g))
        replace BK150 := sqB BK150 hb
        replace BK164 := sqB BK164 hb
        replace Oq0 := qe (sqr Oq0) ho64 hb
        replace HK := qU hb
        replace HB := qt hb
        replace HI0 := qj hb
        clear hb ho64
        refine hK.out _ _ ⟨sqc BK164 0, sqc BK164 1, sqc BK164 2⟩ (fun hHeld => ?_)
        clear hK K
        refine qq (some 37) ?_
        exact norm_ Q27 (hCont (v184) _ ⟨hHeld, (by exact sqm Oq0 (fun _ hk => hk.2)), (by exact sqm Oq3 (fun _ hk => hk.2)), (sqb BK150), (sqb BK164), qi, qk, qc⟩)
       ·
        skip
        refine Kd.R_lit_step (Kd.int .i64) _ 3 ?hg (N := 37) ?hd (xs := ([(-1), 64, 4611686018427387904] : List Int)) (inner := [.int .i64 (-1), .int .i64 64, .int .i64 4611686018427387904]) (ok := fun _ => True) (okp := fun _ => True) ?hr ?hp (fun _ hk => hk) trivial (Below.refl _ _) (Nat.le_refl _) (by simp) ?_; (case hd => rfl); (case hg => rfl); (case hr => first | (go_simp; done) | (go_simp; rfl)); (case hp => exact (Reps.one (show Kd.M (Kd.int .i64) _ _ _ (-1) [.int .i64 (-1)] from rfl) (Reps.one (show Kd.M (Kd.int .i64) _ _ _ 64 [.int .i64 64] from rfl) (Reps.one (show Kd.M (Kd.int .i64) _ _ _ 4611686018427387904 [.int .i64 4611686018427387904] from rfl) (Reps.none _ _)))))
        intro v184 w62 ho63 hb hg_ hnew_
        clear hg_ hnew_
        (first | rw [← Ny183.out] at ho63 | (simp only [Int.reduceToNat] at ho63; rw [← Ny183.out] at ho63))
        have Oq3 := am (Kd.R_lower (Kd.R_new' ho63 (sqL Oq0)) (qz w g))
        replace BK150 := sqB BK150 hb
        replace BK164 := sqB BK164 hb
        replace Oq0 := qe (sqr Oq0) ho63 hb
        replace HK := qU hb
        replace HB := qt hb
        replace HI0 := qj hb
        clear hb ho63
        refine hK.out _ _ ⟨sqc BK164 0, sqc BK164 1, sqc BK164 2⟩ (fun hHeld => ?_)
        clear hK K
        refine qq (some 37) ?_
        refine one_ (i := 6) (N := some 35) #[true, true, true, true, true, true, true, true, true, false, false, false] rfl rfl (one_of HT_.out (by kernel_rfl)) (by decide) fun K hK => ?_
        refine qG Try.func63 #[.pointer (some ⟨g, 0, none⟩), .int .i64 (t159.length : Int)] ?_
        with_reducible refine (spec_l1Cur_pick.calls g s0_0 t166 t167 (t159.length : Int) t180 t181 t182 w0 _ ?side1 ?side2 A46.out).mono ?_
        (case side1 => exact qi)
        (case side2 => exact qc)
        rintro e w64 ⟨rfl, hi, hb, hk⟩
        refine ⟨_, rfl, ?_⟩
        replace BK150 := qK BK150 hk Nq2
        replace Oq0 := qR Oq0 hk
        replace BK164 := qK BK164 hk Nq4
        replace Oq3 := qR Oq3 hk
        replace HK := qT hk
        replace HB := am hb
        replace HI0 := am hi
        (try clear hb hk hi)
        refine hK.out _ _ ⟨sqc BK164 0, sqc BK164 1, sqc BK164 2⟩ (fun hHeld => ?_)
        clear hK K
        refine qq (some 35) ?_
        exact norm_ Q27 (hCont (v184) _ ⟨hHeld, (by exact sqm Oq0 (fun _ hk => hk.2)), (by exact sqm Oq3 (fun _ hk => hk.2)), (sqb BK150), (sqb BK164), qi, qk, qc⟩)
      rintro v184 w65 ⟨hS_, h0_, h1_, h2_, h3_, h4_, h5_, h6_⟩
      have n0_ : Aside0 (Kd.R (Kd.int .i64) 3 w65 w.heap.size (fun k_ => some k_ ≠ (v184 : Value).ownBlock) (.slice Ao59 t159.length co59) t159) := ⟨h0_⟩
      have n1_ : Aside0 (Kd.R (Kd.int .i64) 3 w65 w.heap.size (fun k_ => some k_ ≠ (.slice Ao59 t159.length co59 : Value).ownBlock) v184 y183) := ⟨h1_⟩
      have n2_ : Aside0 (w65.heap[gb150]? = some (.cells #[.int .i64 0, .int .i64 0, .slice none 0 0] 26 (0, 0))) := ⟨h2_⟩
      have n3_ : Aside0 (w65.heap[gb164]? = some (.cells #[.int .i64 t157, .int .i64 t158, .slice Ao59 t159.length co59] 26 (0, 0))) := ⟨h3_⟩
      have n4_ : Aside0 (IsS66 w0 w65 g s0_0 t181 t182) := ⟨h4_⟩
      have n5_ : Aside0 (KeepBut w w65 g none) := ⟨h5_⟩
      have n6_ : Aside0 (Below w0.heap.size w0 w65) := ⟨h6_⟩
      clear Oq0 BK150 BK164 HI0 HK HB h0_ h1_ h2_ h3_ h4_ h5_ h6_
      have Oq0 := n0_
      have Oq3 := n1_
      have BK150 := n2_
      have BK164 := n3_
      have HI0 := n4_
      have HK := n5_
      have HB := n6_
      clear n0_ n1_ n2_ n3_ n4_ n5_ n6_
      have hHeld : w65.cell? ⟨gb164, 0, none⟩ = some (.int .i64 t157) ∧ w65.cell? ⟨gb164, 1, none⟩ = some (.int .i64 t158) ∧ w65.cell? ⟨gb164, 2, none⟩ = some (.slice Ao59 t159.length co59) := hS_
      obtain ⟨Ao66, co66, eo66⟩ := Kd.R_slice Oq3.out
      (first | subst eo66 | (injection eo66 with f1_ f2_ f3_; have f4_ := f1_.symm; have f5_ := f3_.symm; clear f1_ f2_ f3_; subst f4_; subst f5_))
      refine norm_ (a' := ?_) ?_ ?_
      rotate_left
      ·
       simp only [putAll, Act.put, List.setIfInBounds_toArray, List.set_cons_zero, List.set_cons_succ]
       rfl
      refine one_ (i := 9) (N := some 38) #[true, true, true, true, true, true, true, true, true, true, false, false] rfl rfl (one_of HT_.out (by kernel_rfl)) (by decide) fun K hK => ?_
      refine qG Try.func84 #[.pointer (some ⟨g, 0, none⟩), .slice Ao66 y183.length co66] ?_
      with_reducible refine (spec_l1Cur_among.calls g s0_0 t181 t182 _ _ y183 t186 t187 t188 w0 _ ?side1 ?side2 ?side3 ?side4 ?side5 A47.out).mono ?_
      (case side1 => exact qi)
      (case side2 => exact qc)
      (case side3 => exact Q40)
      (case side4 => exact (Kd.R_reads' Oq3.out).2.1)
      (case side5 => exact far_slice (IsS66.own_ne HI0.out Oq3.out (by decide)))
      rintro e w67 ⟨rfl, hi, hb, hk⟩
      refine ⟨_, rfl, ?_⟩
      replace BK150 := qK BK150 hk Nq2
      replace Oq0 := qR Oq0 hk
      replace BK164 := qK BK164 hk Nq4
      replace Oq3 := qR Oq3 hk
      replace HK := qT hk
      replace HB := am hb
      replace HI0 := am hi
      (try clear hb hk hi)
      have p50 : 0 ≤ (t180 : Int) := of_decide_eq_true Q2
      have q50 : (t180 : Int) < ((t159.length : Int) : Int) := of_decide_eq_true Q2
      obtain ⟨go50, co50, eo50, gb50, gl50, cl50, HG50⟩ := Kd.R_form Oq0.out (by omega)
      (first | cases eo50 | (injection eo50 with ea_ en_ ec_; (first | subst ea_ | (injection ea_ with ea_; subst ea_)); subst ec_; clear en_))
      have GB50 := Aside0.mk gb50
      have GG50 := Aside0.mk HG50
      clear gb50 gl50 HG50
      obtain ⟨hx50_0, hf50_0⟩ := Kd.R_celln 0 Oq0.out (t180 : Int) p50 q50
      replace p50 := eq_true p50
      replace q50 := eq_true q50
      have HN0_go50 := am (show g ≠ go50 from by have h_ := IsS66.own_ne HI0.out Oq0.out (by decide); intro e_; exact h_ (by rw [e_]; rfl))
      have HP68 := Kd.R_putn Oq0.out (t180 : Int) t186
      rw [← Ny189.out] at HP68
      have HQ68 := Aside0.mk HP68
      clear HP68
      refine hK.out _ _ ⟨sqc BK164 0, sqc BK164 1, sqc BK164 2⟩ (fun hHeld => ?_)
      clear hK K
      refine qq (some 38) ?_
      refine qp 10 (some 39) #[true, true, true, true, true, true, true, true, true, true, true, false] ?_
      refine last_ (i := 11) (N := none) #[true, true, true, true, true, true, true, true, true, true, true, true] rfl rfl (one_of HT_.out (by kernel_rfl)) (by decide) fun K hK => ?_
      refine skip_ (w1 := ?_) (by rfl) rfl ?_ ?_
      rotate_left
      ·
       go_simp
       rfl
      refine hK.out _ _ ?_
      clear hK K
      refine done_ (done_of HT_.out (by kernel_rfl)) ?_
      have n0_ : Aside0 (Kd.R (Kd.int .i64) 3 (w67.setCell ⟨go50, (t180 : Int).toNat, none⟩ (.int .i64 t186)) w.heap.size (fun k_ => some k_ ≠ (.slice Ao66 y183.length co66 : Value).ownBlock) (.slice (some ⟨go50, 0, none⟩) t159.length co59) y189) := ⟨by (with_reducible repeat (first | apply Kd.R_alloc | apply Kd.R_drewN | apply Kd.R_drew)); exact HQ68.out⟩
      have n1_ : Aside0 (Kd.R (Kd.int .i64) 3 (w67.setCell ⟨go50, (t180 : Int).toNat, none⟩ (.int .i64 t186)) w.heap.size (fun k_ => some k_ ≠ (.slice (some ⟨go50, 0, none⟩) t159.length co59 : Value).ownBlock) (.slice Ao66 y183.length co66) y183) := ⟨by (with_reducible repeat (first | apply Kd.R_alloc | apply Kd.R_drewN | apply Kd.R_drew)); exact Kd.R_mono (Kd.R_far (p := ⟨go50, (t180 : Int).toNat, none⟩) (Kd.R_mono Oq3.out (fun k_ hk => (⟨hk, fun e_ => hk (by rw [e_]; rfl)⟩ : _ ∧ k_ ≠ go50))) (fun _ hk => hk.2) (.int .i64 t186)) (fun _ hk => hk.1)⟩
      have n2_ : Aside0 ((w67.setCell ⟨go50, (t180 : Int).toNat, none⟩ (.int .i64 t186)).heap[gb150]? = some (.cells #[.int .i64 0, .int .i64 0, .slice none 0 0] 26 (0, 0))) := ⟨by (with_reducible repeat (first | refine blk_drewN ?_ _ | refine blk_drew ?_ | refine blk_alloc ?_ _)); refine blk_far ?_ (by have h_ := Kd.R_ne Oq0.out BK150.out (by decide); intro e_; exact h_ (by rw [e_]; rfl)) _; (with_reducible repeat (first | refine blk_drewN ?_ _ | refine blk_drew ?_ | refine blk_alloc ?_ _)); exact BK150.out⟩
      have n3_ : Aside0 ((w67.setCell ⟨go50, (t180 : Int).toNat, none⟩ (.int .i64 t186)).heap[gb164]? = some (.cells #[.int .i64 t157, .int .i64 t158, .slice (some ⟨go50, 0, none⟩) t159.length co59] 26 (0, 0))) := ⟨by (with_reducible repeat (first | refine blk_drewN ?_ _ | refine blk_drew ?_ | refine blk_alloc ?_ _)); refine blk_far ?_ (by have h_ := Kd.R_ne Oq0.out BK164.out (by decide); intro e_; exact h_ (by rw [e_]; rfl)) _; (with_reducible repeat (first | refine blk_drewN ?_ _ | refine blk_drew ?_ | refine blk_alloc ?_ _)); exact BK164.out⟩
      have n4_ : Aside0 (IsS66 w0 (w67.setCell ⟨go50, (t180 : Int).toNat, none⟩ (.int .i64 t186)) g s0_0 t187 t188) := ⟨qi⟩
      have n5_ : Aside0 (KeepBut w (w67.setCell ⟨go50, (t180 : Int).toNat, none⟩ (.int .i64 t186)) g none) := ⟨qk⟩
      have n6_ : Aside0 (Below w0.heap.size w0 (w67.setCell ⟨go50, (t180 : Int).toNat, none⟩ (.int .i64 t186))) := ⟨qc⟩
      generalize (w67.setCell ⟨go50, (t180 : Int).toNat, none⟩ (.int .i64 t186)) = w69 at n0_ n1_ n2_ n3_ n4_ n5_ n6_ ⊢
      have Oq0 := n0_
      have Oq3 := n1_
      have BK150 := n2_
      have BK164 := n3_
      have HI0 := n4_
      have HK := n5_
      have HB := n6_
      clear n0_ n1_ n2_ n3_ n4_ n5_ n6_
      obtain ⟨zq30, zq31, zq32, fq30, fq31, fq32⟩ := qd BK164
      have bq9 := Nq2.out
      have cq9 := Nq0.out
      obtain ⟨zq33, zq34, zq35, fq33, fq34, fq35⟩ := qd BK150
      try go_wp2
      refine bodyPost_ret (results_cell_row rfl _ _ gb150 26 #[.int .i64 t157, .int .i64 t158, .slice (some ⟨go50, 0, none⟩) t159.length co59] (0, 0) _ rfl Q14 Try.underlying26 rfl (by kernel_rfl)) rfl ?_
      exact ⟨_, Q1, by (with_reducible repeat (first | apply Kd.R_alloc | apply Kd.R_drewN | apply Kd.R_drew)); exact Kd.R_mono (Kd.R_far (p := ⟨gb150, 2, none⟩) (Kd.R_far (p := ⟨gb150, 1, none⟩) (Kd.R_far (p := ⟨gb150, 0, none⟩) (Kd.R_types Oq0.out BK150.out (by decide)) (fun _ hk => hk.2) (.int .i64 t157)) (fun _ hk => hk.2) (.int .i64 t158)) (fun _ hk => hk.2) (.slice (some ⟨go50, 0, none⟩) t159.length co59)) (fun _ hk => trivial), qi, qc, qk⟩
     ·
      rw [if_neg c49] at H
      exact absurd H (by simp)
    ·
     rw [if_neg c48] at H
     exact absurd H (by simp)
   ·
    rw [if_neg c45] at H
    have c45b0 : (t165 == 2) = false := beq_eq_false_iff_ne.mpr c45
    have c45b1 : (t165 != 2) = true := bne_iff_ne.mpr c45
    by_cases c73 : t165 = 3
    ·
     rw [if_pos c73] at H
     have c73b0 : (t165 == 3) = true := beq_iff_eq.mpr c73
     have c73b1 : (t165 != 3) = false := bne_eq_false_iff_eq.mpr c73
     clear c73
     by_cases c74 : t159.length < 17592186044416
     ·
      rw [if_pos c74] at H
      have LMc74 := Aside0.mk c74
      clear c74
      obtain ⟨y190, hy_⟩ : ∃ y_ : List Int, y_ = ((t159 ++ [0])) := ⟨_, rfl⟩
      replace H : (some (t157, t158, y190, t166, t167)) = some (r1, r2, r3, r4, r5) := qH
      have Ny190 := Aside0.mk hy_
      clear hy_
      simp only [Option.some.injEq, Prod.mk.injEq] at H
      obtain ⟨rfl, rfl, rfl, rfl, rfl⟩ := H
      go_enter Try.func62, Try.ntmps62
      go_wp2_with (first | ((with_reducible refine gate_dst (N := 2) rfl ?_); refine qv 2 #[.int .i64 0, .int .i64 0, .slice none 0 0] 26 ?_; intro gb150 hg w75 hbox hb; have BK150 := am hbox; have GW150 := qx hg; have GE150 := qy HW0 (qx hg); have Nq0 := qo hg g; have Nq2 := qO hg g; replace HK := qU hb; replace HB := qt hb; replace HI0 := qj hb; clear hb hbox hg) | ((with_reducible refine gate_callee (f := 121) rfl ?_); refine qg (some 6) Try.func121 #[.pointer (some ⟨g, 0, none⟩)] ?_; (with_reducible refine (spec_l1Cur_sides.calls g s0_0 s0_1 s0_2 t151 t152 t153 w0 _ ?side1 ?side2 A2.out).mono ?_); (case side1 => exact qi); (case side2 => exact qc); rintro e w76 ⟨rfl, hi, hb, hk⟩; refine ⟨_, rfl, ?_⟩; replace BK150 := qK BK150 hk Nq2; replace HK := qT hk; replace HB := am hb; replace HI0 := am hi; (try clear hb hk hi)) | ((with_reducible refine gate_callee (f := 121) rfl ?_); refine qg (some 8) Try.func121 #[.pointer (some ⟨g, 0, none⟩)] ?_; (with_reducible refine (spec_l1Cur_sides.calls g s0_0 t152 t153 t154 t155 t156 w0 _ ?side1 ?side2 A3.out).mono ?_); (case side1 => exact qi); (case side2 => exact qc); rintro e w77 ⟨rfl, hi, hb, hk⟩; refine ⟨_, rfl, ?_⟩; replace BK150 := qK BK150 hk Nq2; replace HK := qT hk; replace HB := am hb; replace HI0 := am hi; (try clear hb hk hi)) | ((with_reducible refine gate_callee (f := 73) rfl ?_); refine qg (some 9) Try.func73 #[.pointer (some ⟨g, 0, none⟩), .int .i64 t151, .int .i64 t154] ?_; (with_reducible refine (spec_l1Cur_boardOf.calls k g s0_0 t155 t156 t151 t154 t157 t158 t159 t162 t163 w0 _ ?side1 ?side2 A4.out).mono ?_); (case side1 => exact qi); (case side2 => exact qc); rintro e w78 ⟨v160, rfl, ho0, hi, hb, hk⟩; refine ⟨_, rfl, ?_⟩; have Oq0 := qm ho0; replace BK150 := qK BK150 hk Nq2; replace HK := qT hk; replace HB := am hb; replace HI0 := am hi; (try clear hb hk hi ho0)) | ((with_reducible refine gate_dst (N := 3) rfl ?_); refine qv 3 #[.int .i64 0, .int .i64 0, .slice none 0 0] 26 ?_; intro gb164 hg w79 hbox hb; have BK164 := am hbox; have GW164 := qx hg; have GE164 := qy HW0 (qx hg); have Nq3 := qn hg BK150; have Nq5 := qN hg BK150; have Nq1 := qo hg g; have Nq4 := qO hg g; replace Oq0 := sqR Oq0 hb; replace BK150 := sqB BK150 hb; replace HK := qU hb; replace HB := qt hb; replace HI0 := qj hb; clear hb hbox hg; have bq10 := Nq5.out; have cq10 := Nq3.out; have bq11 := Nq4.out; have cq11 := Nq1.out; obtain ⟨zq36, zq37, zq38, fq36, fq37, fq38⟩ := qd BK164; obtain ⟨Ao83, co83, eo83⟩ := Kd.R_slice Oq0.out; subst eo83) | ((with_reducible refine gate_callee (f := 63) rfl ?_); refine qg (some 11) Try.func63 #[.pointer (some ⟨g, 0, none⟩), .int .i64 18] ?_; (with_reducible refine (spec_l1Cur_pick.calls g s0_0 t162 t163 18 t165 t166 t167 w0 _ ?side1 ?side2 A5.out).mono ?_); (case side1 => exact qi); (case side2 => exact qc); rintro e w84 ⟨rfl, hi, hb, hk⟩; refine ⟨_, rfl, ?_⟩; replace BK150 := am (KeepBut.blk hk (g' := gb150) (o := .cells #[.int .i64 0, .int .i64 0, .slice none 0 0] 26 (0, 0)) Q8 Nq2.out (by simp)); replace Oq0 := am (Kd.R_mono (Kd.R_keep (IsS66.apart (show IsS66 w0 _ g s0_0 t162 t163 from qi) (sqw (sqo Oq0 BK164)) (by decide)) hk (fun _ h => h.2)) (fun _ h => h.1)); replace BK164 := am (KeepBut.blk hk (g' := gb164) (o := .cells #[.int .i64 t157, .int .i64 t158, .slice Ao83 t159.length co83] 26 (0, 0)) Q4 Nq4.out (by simp)); replace HK := qT hk; replace HB := am hb; replace HI0 := am hi; (try clear hb hk hi); obtain ⟨zq39, zq40, zq41, fq39, fq40, fq41⟩ := qd BK164) | ((with_reducible refine gate_builtin (b := .append) (xs := #[.tmp 43, .tmp 44]) rfl ?_); at_builtin; refine Kd.R_append (Kd.int .i64) w.heap.size rfl (.tmp 43) (.tmp 44) 24 3 (.int .i64 0) 8 rfl Try.underlying24 info3 rfl (by decide) (by omega) (.slice Ao83 t159.length co83) t159 0 [.int .i64 0] (fun _ => True) (fun _ => False) rfl rfl ?aP (fun _ hk => hk.elim) ?aF ?aO (Below.refl _ _) ?aS ?aL ?_; (case aP => exact rfl); (case aF => exact (fun _ _ => trivial)); (case aO => exact (sqr Oq0)); (case aS => exact (qz w g)); (case aL => have := LMc74.out; omega); intro v191 w86 ho hb hg hat; rw [← Ny190.out] at ho; have Oq4 := am (ho); replace BK150 := am (blk_grown (g := gb150) (o := .cells #[.int .i64 0, .int .i64 0, .slice none 0 0] 26 (0, 0)) (sqb BK150) hg (Kd.R_ne Oq0.out BK150.out (by decide))); replace BK164 := am (blk_grown (g := gb164) (o := .cells #[.int .i64 t157, .int .i64 t158, .slice Ao83 t159.length co83] 26 (0, 0)) (sqb BK164) hg (Kd.R_ne Oq0.out BK164.out (by decide))); replace HB := am (below_weaken qc HL.out hb); replace HI0 := am (IsS66.grown qi hg (IsS66.own_ne HI0.out Oq0.out (by decide))); replace HK := am (KeepBut.trans qk (KeepBut.of_grown hg g) (Kd.R_base2 Oq0.out)); clear Oq0; clear ho hb hg hat; obtain ⟨Ao87, co87, eo87⟩ := Kd.R_slice Oq4.out; subst eo87; obtain ⟨zq42, zq43, zq44, fq42, fq43, fq44⟩ := qd BK164; have bq12 := Nq2.out; have cq12 := Nq0.out; obtain ⟨zq45, zq46, zq47, fq45, fq46, fq47⟩ := qd BK150))
      refine bodyPost_ret (results_cell_row rfl _ _ gb150 26 #[.int .i64 t157, .int .i64 t158, .slice Ao87 y190.length co87] (0, 0) _ rfl (by (with_reducible repeat (first | refine blk_drewN ?_ _ | refine blk_drew ?_ | refine blk_alloc ?_ _)); refine blk_put (cs := #[.int .i64 t157, .int .i64 t158, .slice none 0 0]) ?_ 2 _ rfl; (with_reducible repeat (first | refine blk_drewN ?_ _ | refine blk_drew ?_ | refine blk_alloc ?_ _)); refine blk_put (cs := #[.int .i64 t157, .int .i64 0, .slice none 0 0]) ?_ 1 _ rfl; (with_reducible repeat (first | refine blk_drewN ?_ _ | refine blk_drew ?_ | refine blk_alloc ?_ _)); refine blk_put (cs := #[.int .i64 0, .int .i64 0, .slice none 0 0]) ?_ 0 _ rfl; (with_reducible repeat (first | refine blk_drewN ?_ _ | refine blk_drew ?_ | refine blk_alloc ?_ _)); refine blk_far ?_ Nq3.out _; (with_reducible repeat (first | refine blk_drewN ?_ _ | refine blk_drew ?_ | refine blk_alloc ?_ _)); exact BK150.out) Try.underlying26 rfl (by kernel_rfl)) rfl ?_
      exact ⟨_, Q1, by (with_reducible repeat (first | apply Kd.R_alloc | apply Kd.R_drewN | apply Kd.R_drew)); exact Kd.R_mono (Kd.R_far (p := ⟨gb150, 2, none⟩) (Kd.R_far (p := ⟨gb150, 1, none⟩) (Kd.R_far (p := ⟨gb150, 0, none⟩) (Kd.R_far (p := ⟨gb164, 2, none⟩) (Kd.R_types (Kd.R_types Oq4.out BK164.out (by decide)) BK150.out (by decide)) (fun _ hk => hk.1.2) (.slice Ao87 y190.length co87)) (fun _ hk => hk.2) (.int .i64 t157)) (fun _ hk => hk.2) (.int .i64 t158)) (fun _ hk => hk.2) (.slice Ao87 y190.length co87)) (fun _ hk => trivial), qi, qc, qk⟩
     ·
      rw [if_neg c74] at H
      exact absurd H (by simp)
    ·
     rw [if_neg c73] at H
     have c73b0 : (t165 == 3) = false := beq_eq_false_iff_ne.mpr c73
     have c73b1 : (t165 != 3) = true := bne_iff_ne.mpr c73
     simp only [Option.some.injEq, Prod.mk.injEq] at H
     obtain ⟨rfl, rfl, rfl, rfl, rfl⟩ := H
     go_enter Try.func62, Try.ntmps62
     go_wp2_with (first | ((with_reducible refine gate_dst (N := 2) rfl ?_); refine qv 2 #[.int .i64 0, .int .i64 0, .slice none 0 0] 26 ?_; intro gb150 hg w91 hbox hb; have BK150 := am hbox; have GW150 := qx hg; have GE150 := qy HW0 (qx hg); have Nq0 := qo hg g; have Nq2 := qO hg g; replace HK := qU hb; replace HB := qt hb; replace HI0 := qj hb; clear hb hbox hg) | ((with_reducible refine gate_callee (f := 121) rfl ?_); refine qg (some 6) Try.func121 #[.pointer (some ⟨g, 0, none⟩)] ?_; (with_reducible refine (spec_l1Cur_sides.calls g s0_0 s0_1 s0_2 t151 t152 t153 w0 _ ?side1 ?side2 A2.out).mono ?_); (case side1 => exact qi); (case side2 => exact qc); rintro e w92 ⟨rfl, hi, hb, hk⟩; refine ⟨_, rfl, ?_⟩; replace BK150 := qK BK150 hk Nq2; replace HK := qT hk; replace HB := am hb; replace HI0 := am hi; (try clear hb hk hi)) | ((with_reducible refine gate_callee (f := 121) rfl ?_); refine qg (some 8) Try.func121 #[.pointer (some ⟨g, 0, none⟩)] ?_; (with_reducible refine (spec_l1Cur_sides.calls g s0_0 t152 t153 t154 t155 t156 w0 _ ?side1 ?side2 A3.out).mono ?_); (case side1 => exact qi); (case side2 => exact qc); rintro e w93 ⟨rfl, hi, hb, hk⟩; refine ⟨_, rfl, ?_⟩; replace BK150 := qK BK150 hk Nq2; replace HK := qT hk; replace HB := am hb; replace HI0 := am hi; (try clear hb hk hi)) | ((with_reducible refine gate_callee (f := 73) rfl ?_); refine qg (some 9) Try.func73 #[.pointer (some ⟨g, 0, none⟩), .int .i64 t151, .int .i64 t154] ?_; (with_reducible refine (spec_l1Cur_boardOf.calls k g s0_0 t155 t156 t151 t154 t157 t158 t159 t162 t163 w0 _ ?side1 ?side2 A4.out).mono ?_); (case side1 => exact qi); (case side2 => exact qc); rintro e w94 ⟨v160, rfl, ho0, hi, hb, hk⟩; refine ⟨_, rfl, ?_⟩; have Oq0 := qm ho0; replace BK150 := qK BK150 hk Nq2; replace HK := qT hk; replace HB := am hb; replace HI0 := am hi; (try clear hb hk hi ho0)) | ((with_reducible refine gate_dst (N := 3) rfl ?_); refine qv 3 #[.int .i64 0, .int .i64 0, .slice none 0 0] 26 ?_; intro gb164 hg w95 hbox hb; have BK164 := am hbox; have GW164 := qx hg; have GE164 := qy HW0 (qx hg); have Nq3 := qn hg BK150; have Nq5 := qN hg BK150; have Nq1 := qo hg g; have Nq4 := qO hg g; replace Oq0 := sqR Oq0 hb; replace BK150 := sqB BK150 hb; replace HK := qU hb; replace HB := qt hb; replace HI0 := qj hb; clear hb hbox hg; have bq13 := Nq5.out; have cq13 := Nq3.out; have bq14 := Nq4.out; have cq14 := Nq1.out; obtain ⟨zq48, zq49, zq50, fq48, fq49, fq50⟩ := qd BK164; obtain ⟨Ao99, co99, eo99⟩ := Kd.R_slice Oq0.out; subst eo99) | ((with_reducible refine gate_callee (f := 63) rfl ?_); refine qg (some 11) Try.func63 #[.pointer (some ⟨g, 0, none⟩), .int .i64 18] ?_; (with_reducible refine (spec_l1Cur_pick.calls g s0_0 t162 t163 18 t165 t166 t167 w0 _ ?side1 ?side2 A5.out).mono ?_); (case side1 => exact qi); (case side2 => exact qc); rintro e w100 ⟨rfl, hi, hb, hk⟩; refine ⟨_, rfl, ?_⟩; replace BK150 := am (KeepBut.blk hk (g' := gb150) (o := .cells #[.int .i64 0, .int .i64 0, .slice none 0 0] 26 (0, 0)) Q8 Nq2.out (by simp)); replace Oq0 := am (Kd.R_mono (Kd.R_keep (IsS66.apart (show IsS66 w0 _ g s0_0 t162 t163 from qi) (sqw (sqo Oq0 BK164)) (by decide)) hk (fun _ h => h.2)) (fun _ h => h.1)); replace BK164 := am (KeepBut.blk hk (g' := gb164) (o := .cells #[.int .i64 t157, .int .i64 t158, .slice Ao99 t159.length co99] 26 (0, 0)) Q4 Nq4.out (by simp)); replace HK := qT hk; replace HB := am hb; replace HI0 := am hi; (try clear hb hk hi); obtain ⟨zq0, zq1, zq2, fq0, fq1, fq2⟩ := qd BK164; have bq0 := Nq2.out; have cq0 := Nq0.out; obtain ⟨zq3, zq4, zq5, fq3, fq4, fq5⟩ := qd BK150))
     refine bodyPost_ret (results_cell_row rfl _ _ gb150 26 #[.int .i64 t157, .int .i64 t158, .slice Ao99 t159.length co99] (0, 0) _ rfl Q14 Try.underlying26 rfl (by kernel_rfl)) rfl ?_
     exact ⟨_, Q1, by (with_reducible repeat (first | apply Kd.R_alloc | apply Kd.R_drewN | apply Kd.R_drew)); exact Kd.R_mono (Kd.R_far (p := ⟨gb150, 2, none⟩) (Kd.R_far (p := ⟨gb150, 1, none⟩) (Kd.R_far (p := ⟨gb150, 0, none⟩) (Kd.R_types Oq0.out BK150.out (by decide)) (fun _ hk => hk.2) (.int .i64 t157)) (fun _ hk => hk.2) (.int .i64 t158)) (fun _ hk => hk.2) (.slice Ao99 t159.length co99)) (fun _ hk => trivial), qi, qc, qk⟩

end Go.Proofs.Ytllhofdgbpnkkaa.PFnBoardsJoined
