-- Printed for this claim by wip/pp.py over the kit's printer; Lean checks it.
import Derived.Test.YtfgfgkpmkfjeiaaPFnOrderedBoardsx0
import Derived.Test.YtfgfgkpmkfjeiaaPFnOrderedBoardsx4
import Derived.Test.YtfgfgkpmkfjeiaaPFnOrderedBoardsx5
namespace Go.Proofs.Ytfgfgkpmkfjeiaa.PFnOrderedBoards
open Go.RowKit Go.Proofs.YtfgfgkpmkfjeiaaW.PrintWords Go.Proofs.YtfgfgkpmkfjeiaaW.PrintLast Go.Proofs.YtfgfgkpmkfjeiaaW.PrintMore
attribute [local go_sem] max2_int min2_int max_two min_two max_three min_three max_four min_four   -- for this text's walks alone
set_option linter.unusedVariables false
set_option linter.unusedSimpArgs false

/-! ### spec_l1Cur_boardOf: function 157 -/
def spec_l1Cur_boardOf.l0 : Nat → Int → Int → Int → List Int → Int → Int → Int → Int → List Int → Option (Int × Int × List Int × Int × Int)
 | 0, _, _, _, _, _, _, _, _, _ => none
 | k + 1, x2, x14, x15, x1000, x1001, x1002, x285000, x285001, x285002 => if x15 < x14 then (if 0 ≤ x2 then ((spec_l1Cur_pick.f x1000 x1001 x1002 (shl .i64 1 x2)).bind fun bt285 => (if 0 ≤ x15 then (if x15 < (x285002.length : Int) then ((some (x285002.set (x15 : Int).toNat bt285.1 : List Int)).bind fun y288 => ((spec_l1Cur_one.f x1000 bt285.2.1 bt285.2.2 3).bind fun bt289 => (if bt289.1 = true then ((spec_l1Cur_pick.f x1000 bt289.2.1 bt289.2.2 (wrap64 (x2 + 1))).bind fun bt292 => (if 0 ≤ bt292.1 then (spec_l1Cur_boardOf.l0 k x2 x14 (wrap64 (x15 + 1)) x1000 bt292.2.1 bt292.2.2 x285000 x285001 (y288.set (x15 : Int).toNat (wrap64 ((shl .i64 1 bt292.1) - 1)))) else (none))) else (spec_l1Cur_boardOf.l0 k x2 x14 (wrap64 (x15 + 1)) x1000 bt289.2.1 bt289.2.2 x285000 x285001 y288)))) else (none)) else (none))) else (none)) else (some (x285000, x285001, x285002, x1001, x1002))
def spec_l1Cur_boardOf.f (k : Nat) (s0_0 : List Int) (s0_1 : Int) (s0_2 : Int) (a1 : Int) (a2 : Int) : Option (Int × Int × List Int × Int × Int) := (spec_boEmpty.f a1 a2).bind fun bt279 => (spec_l1Cur_boardOf.l0 k a2 (bt279.2.2.length : Int) 0 s0_0 s0_1 s0_2 bt279.1 bt279.2.1 bt279.2.2)
theorem spec_l1Cur_boardOf.mono_l : ∀ k, (∀ y0 y1 y2 y3 y4 y5 y6 y7 y8, LeO (spec_l1Cur_boardOf.l0 k y0 y1 y2 y3 y4 y5 y6 y7 y8) (spec_l1Cur_boardOf.l0 (k + 1) y0 y1 y2 y3 y4 y5 y6 y7 y8))
 | 0 => fun _ _ _ _ _ _ _ _ _ r h => by simp [spec_l1Cur_boardOf.l0] at h
 | k + 1 => by
  have ih0 := spec_l1Cur_boardOf.mono_l k
  ·
   intro y0 y1 y2 y3 y4 y5 y6 y7 y8
   unfold spec_l1Cur_boardOf.l0
   repeat' first
   | (with_reducible exact ih0 _ _ _ _ _ _ _ _ _)
   | (with_reducible exact LeO.refl _)
   | (with_reducible exact LeO.none _)
   | (with_reducible refine LeO.ite ?_ ?_)
   | (with_reducible refine LeO.bind ?_ (fun _ => ?_))
   | exact ih0 _ _ _ _ _ _ _ _ _
   | exact LeO.none _
   | refine LeO.ite ?_ ?_
   | refine LeO.bind ?_ (fun _ => ?_)
theorem spec_l1Cur_boardOf.mono : ∀ a0 a1 a2 a3 a4 k, LeO (spec_l1Cur_boardOf.f k a0 a1 a2 a3 a4) (spec_l1Cur_boardOf.f (k + 1) a0 a1 a2 a3 a4) := by
 intro a0 a1 a2 a3 a4 k
 have ih0 := spec_l1Cur_boardOf.mono_l k
 unfold spec_l1Cur_boardOf.f
 repeat' first
   | (with_reducible exact ih0 _ _ _ _ _ _ _ _ _)
   | (with_reducible exact LeO.refl _)
   | (with_reducible exact LeO.none _)
   | (with_reducible refine LeO.ite ?_ ?_)
   | (with_reducible refine LeO.bind ?_ (fun _ => ?_))
   | exact ih0 _ _ _ _ _ _ _ _ _
   | exact LeO.none _
   | refine LeO.ite ?_ ?_
   | refine LeO.bind ?_ (fun _ => ?_)
def spec_l1Cur_boardOf.T5 : Bool × List (List Nat × List Nat) := (true, [([], []), ([0], [0]), ([], []), ([], []), ([], []), ([4], [4]), ([3, 5], [3, 5]), ([1, 2, 0, 1, 2, 3, 4, 5, 6], [1, 2]), ([7, 6, 6, 0, 1, 2, 3, 4, 5, 6], [6, 7])])
def spec_l1Cur_boardOf.B5 : List Nat := [0, 1, 0, 0, 0, 16, 56, 127, 255]
theorem spec_l1Cur_boardOf.tab5 : rtab .any (opsOf Try.f157 5) = spec_l1Cur_boardOf.T5 := by kernel_rfl
theorem spec_l1Cur_boardOf.bits5 : waitsOk spec_l1Cur_boardOf.T5.2 spec_l1Cur_boardOf.B5 = true := by kernel_rfl
def spec_l1Cur_boardOf.T7 : Bool × List (List Nat × List Nat) := (true, [([], []), ([0], [0]), ([], []), ([], []), ([], []), ([4], [4]), ([3, 5], [3, 5]), ([6], [6]), ([7], [7]), ([1, 2, 0, 1, 2, 3, 4, 5, 6, 7, 8], [1, 2]), ([9, 8, 6, 0, 1, 2, 3, 4, 5, 6, 7, 8], [8, 9])])
def spec_l1Cur_boardOf.B7 : List Nat := [0, 1, 0, 0, 0, 16, 56, 120, 248, 511, 1023]
theorem spec_l1Cur_boardOf.tab7 : rtab .any (opsOf Try.f157 7) = spec_l1Cur_boardOf.T7 := by kernel_rfl
theorem spec_l1Cur_boardOf.bits7 : waitsOk spec_l1Cur_boardOf.T7.2 spec_l1Cur_boardOf.B7 = true := by kernel_rfl
set_option maxHeartbeats 8000000 in
set_option maxRecDepth 100000 in
theorem spec_l1Cur_boardOf.calls (k : Nat) (g : Nat) (s0_0 : List Int) (s0_1 : Int) (s0_2 : Int) (a1 : Int) (a2 : Int) (r1 : Int) (r2 : Int) (r3 : List Int) (r4 : Int) (r5 : Int) (w0 w : World) (hI : IsS79 w0 w g s0_0 s0_1 s0_2) (hB : Below w0.heap.size w0 w) (h : spec_l1Cur_boardOf.f k s0_0 s0_1 s0_2 a1 a2 = some (r1, r2, r3, r4, r5)) :
  Calls Try.prog 157 #[.pointer (some ⟨g, 0, none⟩), .int .i64 a1, .int .i64 a2] w fun e w' => ∃ v2_ : Value, e = .returned (.agg #[.int .i64 r1, .int .i64 r2, v2_]) ∧ Kd.R (Kd.int .i64) 3 w' w.heap.size (fun _ => True) v2_ r3 ∧ IsS79 w0 w' g s0_0 r4 r5 ∧ Below w0.heap.size w0 w' ∧ KeepBut w w' g none := by
 have hu34 := Try.underlying34
 have HI0 := Aside0.mk hI
 have HK := am (KeepBut.refl w g none)
 have HL := Aside0.mk hB.size
 clear hI
 have HW0 := Aside0.mk hB.size
 have HB := Aside0.mk hB
 clear hB
 have H : ((spec_boEmpty.f a1 a2).bind fun bt279 => (spec_l1Cur_boardOf.l0 k a2 (bt279.2.2.length : Int) 0 s0_0 s0_1 s0_2 bt279.1 bt279.2.1 bt279.2.2)) = some (r1, r2, r3, r4, r5) := h
 clear h
 replace H := Option.bind_eq_some_iff.mp H
 obtain ⟨⟨t279, t280, t281⟩, A40, H⟩ := H
 replace H : (spec_l1Cur_boardOf.l0 k a2 (t281.length : Int) 0 s0_0 s0_1 s0_2 t279 t280 t281) = some (r1, r2, r3, r4, r5) := H
 have A4 := Aside0.mk A40
 clear A40
 have H' := Aside0.mk H
 clear H
 go_enter Try.func157, Try.ntmps157
 go_wp2_with (first | ((with_reducible refine gate_dst (N := 6) rfl ?_); refine box_event ?hg (N := 6) ?hd (cs := #[.int .i64 0, .int .i64 0, .slice none 0 0]) (t := 34) ?hr ?_; (case hd => rfl); (case hg => rfl); (case hr => first | (go_simp; done) | (go_simp; rfl)); intro gb278 hg w5 hbox hb; have n0_ := am (IsS79.below (by repeat (first | (with_reducible first | exact HI0.out | apply IsS79.alloc | apply IsS79.drewN | apply IsS79.drew | apply IsS79.set_1 | apply IsS79.set_2) | exact HI0.out)) hb); have n1_ := am (KeepBut.trans (by repeat (first | (with_reducible first | exact HK.out | apply KeepBut.set_ | apply keep_drewN | apply keep_drew | apply keep_alloc) | exact HK.out)) (KeepBut.of_below hb g none) (.inl rfl)); have n2_ := am (below_step (by repeat (first | (with_reducible first | exact HB.out | apply below_alloc | apply pw_below_drewN | apply below_drew1 | refine below_set ?_ (IsS79.ge HI0.out)) | exact HB.out)) hb); have n3_ := am (hbox); have n4_ := am ((by rw [hg]; exact (keep_size (w := w) (g := g) (row := none) (by repeat (first | (with_reducible first | exact HK.out | apply KeepBut.set_ | apply keep_drewN | apply keep_drew | apply keep_alloc) | exact HK.out))) : w.heap.size ≤ gb278)); have n5_ := am ((Nat.le_trans HW0.out (by rw [hg]; exact (keep_size (w := w) (g := g) (row := none) (by repeat (first | (with_reducible first | exact HK.out | apply KeepBut.set_ | apply keep_drewN | apply keep_drew | apply keep_alloc) | exact HK.out))) : w.heap.size ≤ gb278) : w0.heap.size ≤ gb278)); have n6_ := am ((by rw [hg]; exact Nat.ne_of_lt (IsS79.lt (show IsS79 w0 _ g s0_0 s0_1 s0_2 from by repeat (first | (with_reducible first | exact HI0.out | apply IsS79.alloc | apply IsS79.drewN | apply IsS79.drew | apply IsS79.set_1 | apply IsS79.set_2) | exact HI0.out))) : g ≠ gb278)); have n7_ := am ((by rw [hg]; exact Nat.ne_of_gt (IsS79.lt (show IsS79 w0 _ g s0_0 s0_1 s0_2 from by repeat (first | (with_reducible first | exact HI0.out | apply IsS79.alloc | apply IsS79.drewN | apply IsS79.drew | apply IsS79.set_1 | apply IsS79.set_2) | exact HI0.out))) : gb278 ≠ g)); clear HI0; clear HK; clear HB; have HI0 := n0_; have HK := n1_; have HB := n2_; have BK278 := n3_; have GW278 := n4_; have GE278 := n5_; have Nq0 := n6_; have Nq2 := n7_; clear n0_ n1_ n2_ n3_ n4_ n5_ n6_ n7_; clear hb hbox hg) | ((with_reducible refine gate_callee (f := 200) rfl ?_); refine goesL_ (some 11) rfl rfl Try.func200 (by kernel_rfl) rfl #[.int .i64 a1, .int .i64 a2] rfl (by (try simp only [List.map_toArray, List.map_cons, List.map_nil]); try rfl) ?_; (with_reducible refine (spec_boEmpty.calls a1 a2 t279 t280 t281 _ A4.out).mono ?_); rintro e w6 ⟨v282, rfl, ho0, hb⟩; refine ⟨_, rfl, ?_⟩; have n0_ := am (Kd.R_lower ho0 (keep_size (w := w) (g := g) (row := none) (by repeat (first | (with_reducible first | exact HK.out | apply KeepBut.set_ | apply keep_drewN | apply keep_drew | apply keep_alloc | refine keep_far ?_ GW278.out _) | exact HK.out)))); have n1_ := am (IsS79.below (by repeat (first | (with_reducible first | exact HI0.out | apply IsS79.alloc | apply IsS79.drewN | apply IsS79.drew | apply IsS79.set_1 | apply IsS79.set_2 | refine IsS79.far ?_ Nq0.out _) | exact HI0.out)) hb); have n3_ := am (KeepBut.trans (by repeat (first | (with_reducible first | exact HK.out | apply KeepBut.set_ | apply keep_drewN | apply keep_drew | apply keep_alloc | refine keep_far ?_ GW278.out _) | exact HK.out)) (KeepBut.of_below hb g none) (.inl rfl)); have n4_ := am (below_step (by repeat (first | (with_reducible first | exact HB.out | apply below_alloc | apply pw_below_drewN | apply below_drew1 | refine below_set ?_ (IsS79.ge HI0.out) | refine below_set ?_ GE278.out) | exact HB.out)) hb); clear HI0; clear HK; clear HB; have Oq0 := n0_; have HI0 := n1_; replace BK278 := sqB BK278 hb; have HK := n3_; have HB := n4_; clear n0_ n1_ n3_ n4_; (try clear hb); (try clear hb2); (try clear hk); (try clear hi); (try clear ho0)) | ((with_reducible refine gate_dst (N := 7) rfl ?_); refine box_event ?hg (N := 7) ?hd (cs := #[.int .i64 0, .int .i64 0, .slice none 0 0]) (t := 34) ?hr ?_; (case hd => rfl); (case hg => rfl); (case hr => first | (go_simp; done) | (go_simp; rfl)); intro gb284 hg w7 hbox hb; have n1_ := am (IsS79.below (by repeat (first | (with_reducible first | exact HI0.out | apply IsS79.alloc | apply IsS79.drewN | apply IsS79.drew | apply IsS79.set_1 | apply IsS79.set_2 | refine IsS79.far ?_ Nq0.out _) | exact HI0.out)) hb); have n3_ := am (KeepBut.trans (by repeat (first | (with_reducible first | exact HK.out | apply KeepBut.set_ | apply keep_drewN | apply keep_drew | apply keep_alloc | refine keep_far ?_ GW278.out _) | exact HK.out)) (KeepBut.of_below hb g none) (.inl rfl)); have n4_ := am (below_step (by repeat (first | (with_reducible first | exact HB.out | apply below_alloc | apply pw_below_drewN | apply below_drew1 | refine below_set ?_ (IsS79.ge HI0.out) | refine below_set ?_ GE278.out) | exact HB.out)) hb); have n5_ := am (hbox); have n6_ := am ((by rw [hg]; exact (keep_size (w := w) (g := g) (row := none) (by repeat (first | (with_reducible first | exact HK.out | apply KeepBut.set_ | apply keep_drewN | apply keep_drew | apply keep_alloc | refine keep_far ?_ GW278.out _) | exact HK.out))) : w.heap.size ≤ gb284)); have n7_ := am ((Nat.le_trans HW0.out (by rw [hg]; exact (keep_size (w := w) (g := g) (row := none) (by repeat (first | (with_reducible first | exact HK.out | apply KeepBut.set_ | apply keep_drewN | apply keep_drew | apply keep_alloc | refine keep_far ?_ GW278.out _) | exact HK.out))) : w.heap.size ≤ gb284) : w0.heap.size ≤ gb284)); have n8_ := am ((by rw [hg]; exact Nat.ne_of_lt (sqT BK278) : gb278 ≠ gb284)); have n9_ := am ((by rw [hg]; exact Nat.ne_of_gt (sqT BK278) : gb284 ≠ gb278)); have n10_ := am ((by rw [hg]; exact Nat.ne_of_lt (IsS79.lt (show IsS79 w0 _ g s0_0 s0_1 s0_2 from by repeat (first | (with_reducible first | exact HI0.out | apply IsS79.alloc | apply IsS79.drewN | apply IsS79.drew | apply IsS79.set_1 | apply IsS79.set_2 | refine IsS79.far ?_ Nq0.out _) | exact HI0.out))) : g ≠ gb284)); have n11_ := am ((by rw [hg]; exact Nat.ne_of_gt (IsS79.lt (show IsS79 w0 _ g s0_0 s0_1 s0_2 from by repeat (first | (with_reducible first | exact HI0.out | apply IsS79.alloc | apply IsS79.drewN | apply IsS79.drew | apply IsS79.set_1 | apply IsS79.set_2 | refine IsS79.far ?_ Nq0.out _) | exact HI0.out))) : gb284 ≠ g)); clear HI0; clear HK; clear HB; replace Oq0 := sqR Oq0 hb; have HI0 := n1_; replace BK278 := sqB BK278 hb; have HK := n3_; have HB := n4_; have BK284 := n5_; have GW284 := n6_; have GE284 := n7_; have Nq3 := n8_; have Nq5 := n9_; have Nq1 := n10_; have Nq4 := n11_; clear n1_ n3_ n4_ n5_ n6_ n7_ n8_ n9_ n10_ n11_; clear hb hbox hg; have bq3 := Nq5.out; have cq3 := Nq3.out; have bq4 := Nq4.out; have cq4 := Nq1.out; have zq0 : w7.cell? ⟨gb284, 0, none⟩ = some (.int .i64 0) := sqc BK284 0; have zq1 : w7.cell? ⟨gb284, 1, none⟩ = some (.int .i64 0) := sqc BK284 1; have zq2 : w7.cell? ⟨gb284, 2, none⟩ = some (.slice none 0 0) := sqc BK284 2; have fq0 := blk_frozen BK284.out 0; have fq1 := blk_frozen BK284.out 1; have fq2 := blk_frozen BK284.out 2; obtain ⟨Ao11, co11, eo11⟩ := Kd.R_slice Oq0.out; subst eo11))
 go_loopg [15] k (fun kq v15 w' => ∃ (x15_1 : Int) (x1001_1 : Int) (x1002_1 : Int) (x285002_1 : List Int) (u285002 : Value), v15 = .int .i64 x15_1 ∧ Aside0 (spec_l1Cur_boardOf.l0 kq a2 (t281.length : Int) x15_1 s0_0 x1001_1 x1002_1 t279 t280 x285002_1 = some (r1, r2, r3, r4, r5)) ∧ Aside0 (kq ≤ k) ∧ Aside0 (Kd.R (Kd.int .i64) 3 w' w.heap.size (fun _ => True) u285002 x285002_1) ∧ Aside0 (w'.heap[gb278]? = some (.cells #[.int .i64 0, .int .i64 0, (.slice none 0 0)] 34 (0, 0))) ∧ Aside0 (w'.heap[gb284]? = some (.cells #[.int .i64 t279, .int .i64 t280, u285002] 34 (0, 0))) ∧ Aside0 (IsS79 w0 w' g s0_0 x1001_1 x1002_1) ∧ Aside0 (KeepBut w w' g none) ∧ Aside0 (Below w0.heap.size w0 w'))
 case atStart => exact ⟨(0), (s0_1), (s0_2), (t281), (.slice Ao11 t281.length co11), (by first | rfl | (simp; done) | (simp [*]; done)), H', ⟨Nat.le_refl _⟩, ⟨by (with_reducible repeat (first | apply Kd.R_alloc | apply Kd.R_drewN | apply Kd.R_drew)); exact Kd.R_mono (Kd.R_far (p := ⟨gb284, 2, none⟩) (Kd.R_far (p := ⟨gb284, 1, none⟩) (Kd.R_far (p := ⟨gb284, 0, none⟩) (Kd.R_types Oq0.out BK284.out (by decide)) (fun _ hk => hk.2) (.int .i64 t279)) (fun _ hk => hk.2) (.int .i64 t280)) (fun _ hk => hk.2) (.slice Ao11 t281.length co11)) (fun _ hk => trivial)⟩, ⟨by (with_reducible repeat (first | refine blk_drewN ?_ _ | refine blk_drew ?_ | refine blk_alloc ?_ _)); refine blk_far ?_ Nq3.out _; (with_reducible repeat (first | refine blk_drewN ?_ _ | refine blk_drew ?_ | refine blk_alloc ?_ _)); refine blk_far ?_ Nq3.out _; (with_reducible repeat (first | refine blk_drewN ?_ _ | refine blk_drew ?_ | refine blk_alloc ?_ _)); refine blk_far ?_ Nq3.out _; (with_reducible repeat (first | refine blk_drewN ?_ _ | refine blk_drew ?_ | refine blk_alloc ?_ _)); exact BK278.out⟩, ⟨by (with_reducible repeat (first | refine blk_drewN ?_ _ | refine blk_drew ?_ | refine blk_alloc ?_ _)); refine blk_put (cs := #[.int .i64 t279, .int .i64 t280, .slice none 0 0]) ?_ 2 _ rfl; (with_reducible repeat (first | refine blk_drewN ?_ _ | refine blk_drew ?_ | refine blk_alloc ?_ _)); refine blk_put (cs := #[.int .i64 t279, .int .i64 0, .slice none 0 0]) ?_ 1 _ rfl; (with_reducible repeat (first | refine blk_drewN ?_ _ | refine blk_drew ?_ | refine blk_alloc ?_ _)); refine blk_put (cs := #[.int .i64 0, .int .i64 0, .slice none 0 0]) ?_ 0 _ rfl; (with_reducible repeat (first | refine blk_drewN ?_ _ | refine blk_drew ?_ | refine blk_alloc ?_ _)); exact BK284.out⟩, ⟨by repeat (first | (with_reducible first | exact HI0.out | apply IsS79.alloc | apply IsS79.drewN | apply IsS79.drew | apply IsS79.set_1 | apply IsS79.set_2 | refine IsS79.far ?_ Nq0.out _ | refine IsS79.far ?_ Nq1.out _) | exact HI0.out)⟩, ⟨by repeat (first | (with_reducible first | exact HK.out | apply KeepBut.set_ | apply keep_drewN | apply keep_drew | apply keep_alloc | refine keep_far ?_ GW278.out _ | refine keep_far ?_ GW284.out _) | exact HK.out)⟩, ⟨by repeat (first | (with_reducible first | exact HB.out | apply below_alloc | apply pw_below_drewN | apply below_drew1 | refine below_set ?_ (IsS79.ge HI0.out) | refine below_set ?_ GE278.out | refine below_set ?_ GE284.out) | exact HB.out)⟩⟩
 case round =>
  clear H'
  try clear c1; try clear c2; try clear p2; try clear c8; try clear c9; try clear zq0; try clear zq1; try clear zq2; try clear fq0; try clear fq1; try clear fq2
  obtain ⟨x15_1, x1001_1, x1002_1, x285002_1, u285002, rfl, HA, HK1, Oq1, BK278, BK284, HI0, HK, HB⟩ := hrel
  cases gk with
  | zero => exact absurd HA.out (by simp [spec_l1Cur_boardOf.l0])
  | succ k1 =>
   have H := HA.out
   clear HA
   simp only [spec_l1Cur_boardOf.l0] at H
   by_cases c12 : x15_1 < (t281.length : Int)
   ·
    rw [if_pos c12] at H
    have c12b0 : decide (x15_1 < (t281.length : Int)) = true := decide_eq_true c12
    clear c12
    by_cases c13 : 0 ≤ a2
    ·
     rw [if_pos c13] at H
     have c13b0 := eq_true c13
     have c13b1 : decide (0 ≤ a2) = true := decide_eq_true c13
     clear c13
     obtain ⟨ji14, hji14⟩ : ∃ j_ : Int, (shl .i64 1 a2) = j_ := ⟨_, rfl⟩
     replace H : ((spec_l1Cur_pick.f s0_0 x1001_1 x1002_1 (ji14)).bind fun bt285 => (if 0 ≤ x15_1 then (if x15_1 < (x285002_1.length : Int) then ((some (x285002_1.set (x15_1 : Int).toNat bt285.1 : List Int)).bind fun y288 => ((spec_l1Cur_one.f s0_0 bt285.2.1 bt285.2.2 3).bind fun bt289 => (if bt289.1 = true then ((spec_l1Cur_pick.f s0_0 bt289.2.1 bt289.2.2 (wrap64 (a2 + 1))).bind fun bt292 => (if 0 ≤ bt292.1 then (spec_l1Cur_boardOf.l0 k1 a2 (t281.length : Int) (wrap64 (x15_1 + 1)) s0_0 bt292.2.1 bt292.2.2 t279 t280 (y288.set (x15_1 : Int).toNat (wrap64 ((shl .i64 1 bt292.1) - 1)))) else (none))) else (spec_l1Cur_boardOf.l0 k1 a2 (t281.length : Int) (wrap64 (x15_1 + 1)) s0_0 bt289.2.1 bt289.2.2 t279 t280 y288)))) else (none)) else (none))) = some (r1, r2, r3, r4, r5) := by first | (rw [hji14] at H; exact H) | (simp only [hji14] at H ⊢; exact H)
     have hji14_ : (IntKind.i64.wrap (1 * 2 ^ min a2.toNat 64)) = ji14 := hji14
     have hji14z : a2 ≤ 64 → (IntKind.i64.wrap (1 * 2 ^ a2.toNat)) = ji14 := shl_small hji14
     have hji14u : (IntKind.i64.wrap (2 ^ min a2.toNat 64)) = ji14 := by have h_ := hji14_; rw [Int.one_mul] at h_; exact h_
     have hji14v : a2 ≤ 64 → (IntKind.i64.wrap (2 ^ a2.toNat)) = ji14 := fun hle_ => by have h_ := hji14z hle_; rw [Int.one_mul] at h_; exact h_
     have hji14y : (wrap64 (1 * 2 ^ min a2.toNat 64)) = ji14 := (i64_w _).symm.trans hji14_
     have hji14x : a2 ≤ 64 → (wrap64 (1 * 2 ^ a2.toNat)) = ji14 := fun h_ => (i64_w _).symm.trans (hji14z h_)
     replace H := Option.bind_eq_some_iff.mp H
     obtain ⟨⟨t285, t286, t287⟩, A150, H⟩ := H
     replace H : (if 0 ≤ x15_1 then (if x15_1 < (x285002_1.length : Int) then ((some (x285002_1.set (x15_1 : Int).toNat t285 : List Int)).bind fun y288 => ((spec_l1Cur_one.f s0_0 t286 t287 3).bind fun bt289 => (if bt289.1 = true then ((spec_l1Cur_pick.f s0_0 bt289.2.1 bt289.2.2 (wrap64 (a2 + 1))).bind fun bt292 => (if 0 ≤ bt292.1 then (spec_l1Cur_boardOf.l0 k1 a2 (t281.length : Int) (wrap64 (x15_1 + 1)) s0_0 bt292.2.1 bt292.2.2 t279 t280 (y288.set (x15_1 : Int).toNat (wrap64 ((shl .i64 1 bt292.1) - 1)))) else (none))) else (spec_l1Cur_boardOf.l0 k1 a2 (t281.length : Int) (wrap64 (x15_1 + 1)) s0_0 bt289.2.1 bt289.2.2 t279 t280 y288)))) else (none)) else (none)) = some (r1, r2, r3, r4, r5) := H
     have A15 := Aside0.mk A150
     clear A150
     by_cases c16 : 0 ≤ x15_1
     ·
      rw [if_pos c16] at H
      have c16b0 : decide (0 ≤ x15_1) = true := decide_eq_true c16
      clear c16
      by_cases c17 : x15_1 < (x285002_1.length : Int)
      ·
       rw [if_pos c17] at H
       have c17b0 : decide (x15_1 < (x285002_1.length : Int)) = true := decide_eq_true c17
       clear c17
       obtain ⟨y288, hy288⟩ : ∃ y_ : List Int, y_ = (x285002_1.set (x15_1 : Int).toNat t285) := ⟨_, rfl⟩
       replace H : ((spec_l1Cur_one.f s0_0 t286 t287 3).bind fun bt289 => (if bt289.1 = true then ((spec_l1Cur_pick.f s0_0 bt289.2.1 bt289.2.2 (wrap64 (a2 + 1))).bind fun bt292 => (if 0 ≤ bt292.1 then (spec_l1Cur_boardOf.l0 k1 a2 (t281.length : Int) (wrap64 (x15_1 + 1)) s0_0 bt292.2.1 bt292.2.2 t279 t280 (y288.set (x15_1 : Int).toNat (wrap64 ((shl .i64 1 bt292.1) - 1)))) else (none))) else (spec_l1Cur_boardOf.l0 k1 a2 (t281.length : Int) (wrap64 (x15_1 + 1)) s0_0 bt289.2.1 bt289.2.2 t279 t280 y288))) = some (r1, r2, r3, r4, r5) := by first | (rw [hy288]; with_reducible exact H) | (have H2_ := (Option.bind_some _ _).symm.trans H; rw [hy288]; with_reducible exact H2_) | (have H2_ := (Option.bind_some _ _).symm.trans H; with_reducible exact H2_) | with_reducible exact H | (rw [hy288]; exact H) | exact H
       have Ny288 := Aside0.mk hy288
       clear hy288
       replace H := Option.bind_eq_some_iff.mp H
       obtain ⟨⟨t289, t290, t291⟩, A190, H⟩ := H
       replace H : (if t289 = true then ((spec_l1Cur_pick.f s0_0 t290 t291 (wrap64 (a2 + 1))).bind fun bt292 => (if 0 ≤ bt292.1 then (spec_l1Cur_boardOf.l0 k1 a2 (t281.length : Int) (wrap64 (x15_1 + 1)) s0_0 bt292.2.1 bt292.2.2 t279 t280 (y288.set (x15_1 : Int).toNat (wrap64 ((shl .i64 1 bt292.1) - 1)))) else (none))) else (spec_l1Cur_boardOf.l0 k1 a2 (t281.length : Int) (wrap64 (x15_1 + 1)) s0_0 t290 t291 t279 t280 y288)) = some (r1, r2, r3, r4, r5) := H
       have A19 := Aside0.mk A190
       clear A190
       by_cases c20 : t289 = true
       ·
        subst c20
        have H1 : ((spec_l1Cur_pick.f s0_0 t290 t291 (wrap64 (a2 + 1))).bind fun bt292 => (if 0 ≤ bt292.1 then (spec_l1Cur_boardOf.l0 k1 a2 (t281.length : Int) (wrap64 (x15_1 + 1)) s0_0 bt292.2.1 bt292.2.2 t279 t280 (y288.set (x15_1 : Int).toNat (wrap64 ((shl .i64 1 bt292.1) - 1)))) else (none))) = some (r1, r2, r3, r4, r5) := by first | (rw [if_pos rfl] at H; exact H) | rfl
        clear H
        have H := H1
        clear H1
        replace H := Option.bind_eq_some_iff.mp H
        obtain ⟨⟨t292, t293, t294⟩, A210, H⟩ := H
        replace H : (if 0 ≤ t292 then (spec_l1Cur_boardOf.l0 k1 a2 (t281.length : Int) (wrap64 (x15_1 + 1)) s0_0 t293 t294 t279 t280 (y288.set (x15_1 : Int).toNat (wrap64 ((shl .i64 1 t292) - 1)))) else (none)) = some (r1, r2, r3, r4, r5) := H
        have A21 := Aside0.mk A210
        clear A210
        by_cases c22 : 0 ≤ t292
        ·
         rw [if_pos c22] at H
         have c22b0 := eq_true c22
         have c22b1 : decide (0 ≤ t292) = true := decide_eq_true c22
         clear c22
         obtain ⟨ji23, hji23⟩ : ∃ j_ : Int, (shl .i64 1 t292) = j_ := ⟨_, rfl⟩
         replace H : (spec_l1Cur_boardOf.l0 k1 a2 (t281.length : Int) (wrap64 (x15_1 + 1)) s0_0 t293 t294 t279 t280 (y288.set (x15_1 : Int).toNat (wrap64 ((ji23) - 1)))) = some (r1, r2, r3, r4, r5) := by first | (rw [hji23] at H; exact H) | (simp only [hji23] at H ⊢; exact H)
         (try rw [hji23] at A15)
         (try rw [hji23] at A19)
         (try rw [hji23] at A21)
         have hji23_ : (IntKind.i64.wrap (1 * 2 ^ min t292.toNat 64)) = ji23 := hji23
         have hji23z : t292 ≤ 64 → (IntKind.i64.wrap (1 * 2 ^ t292.toNat)) = ji23 := shl_small hji23
         have hji23u : (IntKind.i64.wrap (2 ^ min t292.toNat 64)) = ji23 := by have h_ := hji23_; rw [Int.one_mul] at h_; exact h_
         have hji23v : t292 ≤ 64 → (IntKind.i64.wrap (2 ^ t292.toNat)) = ji23 := fun hle_ => by have h_ := hji23z hle_; rw [Int.one_mul] at h_; exact h_
         have hji23y : (wrap64 (1 * 2 ^ min t292.toNat 64)) = ji23 := (i64_w _).symm.trans hji23_
         have hji23x : t292 ≤ 64 → (wrap64 (1 * 2 ^ t292.toNat)) = ji23 := fun h_ => (i64_w _).symm.trans (hji23z h_)
         obtain ⟨y295, hy295⟩ : ∃ y_ : List Int, y_ = (y288.set (x15_1 : Int).toNat (wrap64 ((ji23) - 1))) := ⟨_, rfl⟩
         replace H : (spec_l1Cur_boardOf.l0 k1 a2 (t281.length : Int) (wrap64 (x15_1 + 1)) s0_0 t293 t294 t279 t280 y295) = some (r1, r2, r3, r4, r5) := by first | (rw [hy295]; with_reducible exact H) | (have H2_ := (Option.bind_some _ _).symm.trans H; rw [hy295]; with_reducible exact H2_) | (have H2_ := (Option.bind_some _ _).symm.trans H; with_reducible exact H2_) | with_reducible exact H | (rw [hy295]; exact H) | exact H
         have Ny295 := Aside0.mk hy295
         clear hy295
         have H' := Aside0.mk H
         clear H
         try go_wp2
         have n0_ := am (Kd.R_drew Oq1.out)
         have n1_ := am (blk_drew BK278.out)
         have n2_ := am (blk_drew BK284.out)
         have n3_ := am (IsS79.drew HI0.out)
         have n4_ := am (keep_drew HK.out)
         have n5_ := am (below_drew1 HB.out)
         clear Oq1 BK278 BK284 HI0 HK HB
         have Oq1 := n0_
         have BK278 := n1_
         have BK284 := n2_
         have HI0 := n3_
         have HK := n4_
         have HB := n5_
         clear n0_ n1_ n2_ n3_ n4_ n5_
         refine start_ (n := 9) (S := fun w' => w'.cell? ⟨gb284, 0, none⟩ = some (.int .i64 t279) ∧ w'.cell? ⟨gb284, 1, none⟩ = some (.int .i64 t280) ∧ w'.cell? ⟨gb284, 2, none⟩ = some (u285002)) (ds := [8]) #[false, false, false, false, false, false, false, false, false] (by kernel_rfl) rfl rfl ⟨sqc BK284 0, sqc BK284 1, sqc BK284 2⟩ (fun hHeld => ?_); refine with_tabW spec_l1Cur_boardOf.tab5 spec_l1Cur_boardOf.bits5 (fun HT_ HW_ => ?_)
         generalize wr.drew = w25 at Oq1 BK278 BK284 HI0 HK HB hHeld ⊢
         refine pure_ (i := 0) (N := some 18) (v := ?_) (a' := ?_) #[true, false, false, false, false, false, false, false, false] rfl rfl (any_of HT_.out (by kernel_rfl)) (fun _ _ _ h => h) (Or.inl ⟨by rfl, ?_⟩) ?_ ?_
         rotate_left
         ·
          intro w'
          go_simp
          with_reducible rfl
         rotate_left
         ·
          simp only [Act.put, List.setIfInBounds_toArray, List.set_cons_zero, List.set_cons_succ, i64_w, i32_w]
          rfl
         refine pure_ (i := 2) (N := some 20) (v := ?_) (a' := ?_) #[true, false, true, false, false, false, false, false, false] rfl rfl (any_of HT_.out (by kernel_rfl)) (fun _ _ _ h => h) (Or.inl ⟨by rfl, ?_⟩) ?_ ?_
         rotate_left
         ·
          intro w'
          go_simp
          with_reducible rfl
         rotate_left
         ·
          simp only [Act.put, List.setIfInBounds_toArray, List.set_cons_zero, List.set_cons_succ, i64_w, i32_w]
          rfl
         refine pure_ (i := 3) (N := some 21) (v := ?_) (a' := ?_) #[true, false, true, true, false, false, false, false, false] rfl rfl (any_of HT_.out (by kernel_rfl)) (fun _ _ _ h => h) (Or.inl ⟨by rfl, ?_⟩) ?_ ?_
         rotate_left
         ·
          intro w'
          go_simp
          with_reducible rfl
         rotate_left
         ·
          simp only [Act.put, List.setIfInBounds_toArray, List.set_cons_zero, List.set_cons_succ, i64_w, i32_w]
          rfl
         refine pure_ (i := 4) (N := some 22) (v := ?_) (a' := ?_) #[true, false, true, true, true, false, false, false, false] rfl rfl (any_of HT_.out (by kernel_rfl)) (fun _ _ _ h => h) (Or.inl ⟨by rfl, ?_⟩) ?_ ?_
         rotate_left
         ·
          intro w'
          go_simp
          with_reducible rfl
         rotate_left
         ·
          simp only [Act.put, List.setIfInBounds_toArray, List.set_cons_zero, List.set_cons_succ, i64_w, i32_w]
          rfl
         refine pure_ (i := 5) (N := some 23) (v := ?_) (a' := ?_) #[true, false, true, true, true, true, false, false, false] rfl rfl (any_of HT_.out (by kernel_rfl)) (fun _ _ _ h => h) (Or.inl ⟨by rfl, ?_⟩) ?_ ?_
         rotate_left
         ·
          intro w'
          go_simp
          with_reducible rfl
         rotate_left
         ·
          simp only [Act.put, List.setIfInBounds_toArray, List.set_cons_zero, List.set_cons_succ, i64_w, i32_w]
          rfl
         refine take_ (i := 1) (N := some 19) (v := ?_) (a' := ?_) #[true, true, true, true, true, true, false, false, false] rfl rfl (take_ofW HT_.out HW_.out (by kernel_rfl)) (fun _ _ _ h => h) (Or.inl ⟨by rfl, ?_⟩) hHeld ?_ ?_
         rotate_left
         ·
          rintro w' ⟨s0, s1, s2⟩
          go_simp
          with_reducible rfl
         rotate_left
         ·
          simp only [Act.put, List.setIfInBounds_toArray, List.set_cons_zero, List.set_cons_succ, i64_w, i32_w]
          rfl
         refine one_ (i := 6) (N := some 24) #[true, true, true, true, true, true, true, false, false] rfl rfl (one_of HT_.out (by kernel_rfl)) (by decide) (fun K hK => ?_)
         refine goes_ Try.func123 (by kernel_rfl) rfl #[.pointer (some ⟨g, 0, none⟩), .int .i64 ji14] (by rfl) rfl rfl (by (try simp only [List.map_toArray, List.map_cons, List.map_nil]); first | done | (simp only [hji14]; rfl) | rfl | (simp only [List.length_drop, List.length_take]; rfl)) ?_
         with_reducible refine (spec_l1Cur_pick.calls g s0_0 x1001_1 x1002_1 ji14 t285 t286 t287 w0 _ ?side1 ?side2 A15.out).mono ?_
         (case side1 => repeat (first | (with_reducible first | exact HI0.out | apply IsS79.alloc | apply IsS79.drewN | apply IsS79.drew | apply IsS79.set_1 | apply IsS79.set_2 | refine IsS79.far ?_ Nq0.out _ | refine IsS79.far ?_ Nq1.out _) | exact HI0.out))
         (case side2 => repeat (first | (with_reducible first | exact HB.out | apply below_alloc | apply pw_below_drewN | apply below_drew1 | refine below_set ?_ (IsS79.ge HI0.out) | refine below_set ?_ GE278.out | refine below_set ?_ GE284.out) | exact HB.out))
         rintro e w26 ⟨rfl, hi, hb, hk⟩
         refine ⟨_, rfl, ?_⟩
         have n0_ := am (Kd.R_mono (Kd.R_keep (IsS79.apart (show IsS79 w0 _ g s0_0 x1001_1 x1002_1 from by repeat (first | (with_reducible first | exact HI0.out | apply IsS79.alloc | apply IsS79.drewN | apply IsS79.drew | apply IsS79.set_1 | apply IsS79.set_2 | refine IsS79.far ?_ Nq0.out _ | refine IsS79.far ?_ Nq1.out _) | exact HI0.out)) (sqr Oq1) (by decide)) hk (fun _ h => h.2)) (fun _ h => h.1))
         have n1_ := am (KeepBut.blk hk (g' := gb278) (o := .cells #[.int .i64 0, .int .i64 0, .slice none 0 0] 34 (0, 0)) (sqb BK278) Nq2.out (by simp))
         have n2_ := am (KeepBut.blk hk (g' := gb284) (o := .cells #[.int .i64 t279, .int .i64 t280, u285002] 34 (0, 0)) (sqb BK284) Nq4.out (by simp))
         have n3_ := am (KeepBut.trans (by repeat (first | (with_reducible first | exact HK.out | apply KeepBut.set_ | apply keep_drewN | apply keep_drew | apply keep_alloc | refine keep_far ?_ GW278.out _ | refine keep_far ?_ GW284.out _) | exact HK.out)) hk (.inl rfl))
         have n4_ := am (hb)
         have n5_ := am (hi)
         clear Oq1 BK278 BK284 HK HB HI0
         have Oq1 := n0_
         have BK278 := n1_
         have BK284 := n2_
         have HK := n3_
         have HB := n4_
         have HI0 := n5_
         clear n0_ n1_ n2_ n3_ n4_ n5_
         (try clear hb)
         (try clear hb2)
         (try clear hk)
         (try clear hi)
         have p18 : 0 ≤ (x15_1 : Int) := of_decide_eq_true (by first | (with_reducible assumption) | assumption)
         have q18 : (x15_1 : Int) < ((x285002_1.length : Int) : Int) := of_decide_eq_true (by first | (with_reducible assumption) | assumption)
         obtain ⟨go18, co18, eo18, gb18, gl18, cl18, HG18⟩ := Kd.R_form Oq1.out (by omega)
         (first | cases eo18 | (injection eo18 with ea_ en_ ec_; (first | subst ea_ | (injection ea_ with ea_; subst ea_)); subst ec_; clear en_))
         have GB18 := Aside0.mk gb18
         have GG18 := Aside0.mk HG18
         clear gb18 gl18 HG18
         obtain ⟨hx18_0, hf18_0⟩ := Kd.R_celln 0 Oq1.out (x15_1 : Int) p18 q18
         replace p18 := eq_true p18
         replace q18 := eq_true q18
         have HN0_go18 := am (show g ≠ go18 from by have h_ := IsS79.own_ne HI0.out Oq1.out (by decide); intro e_; exact h_ (by rw [e_]; rfl))
         have HP27 := Kd.R_putn Oq1.out (x15_1 : Int) t285
         rw [← Ny288.out] at HP27
         have HQ27 := Aside0.mk HP27
         clear HP27
         refine hK.out _ _ ⟨sqc BK284 0, sqc BK284 1, sqc BK284 2⟩ (fun hHeld => ?_)
         clear hK K
         refine norm_ (a' := ?_) ?_ ?_
         rotate_left
         ·
          show Act.put _ (some 24) _ = _
          simp only [Act.put, List.setIfInBounds_toArray, List.set_cons_zero, List.set_cons_succ, i64_w, i32_w]
          rfl
         refine pure_ (i := 7) (N := some 25) (v := ?_) (a' := ?_) #[true, true, true, true, true, true, true, true, false] rfl rfl (any_of HT_.out (by kernel_rfl)) (fun _ _ _ h => h) (Or.inl ⟨by rfl, ?_⟩) ?_ ?_
         rotate_left
         ·
          intro w'
          go_simp
          with_reducible rfl
         rotate_left
         ·
          simp only [Act.put, List.setIfInBounds_toArray, List.set_cons_zero, List.set_cons_succ, i64_w, i32_w]
          rfl
         refine last_ (i := 8) (N := none) #[true, true, true, true, true, true, true, true, true] rfl rfl (one_of HT_.out (by kernel_rfl)) (by decide) (fun K hK => ?_)
         refine skip_ (w1 := ?_) (by rfl) rfl ?_ ?_
         rotate_left
         ·
          go_simp
          rfl
         refine hK.out _ _ ?_
         clear hK K
         refine done_ (done_of HT_.out (by kernel_rfl)) ?_
         try go_wp2_with (first | ((with_reducible refine gate_callee (f := 156) rfl ?_); refine goesL_ (some 27) rfl rfl Try.func156 (by kernel_rfl) rfl #[.pointer (some ⟨g, 0, none⟩), .int .i64 3] rfl (by (try simp only [List.map_toArray, List.map_cons, List.map_nil]); try rfl) ?_; (with_reducible refine (spec_l1Cur_one.calls g s0_0 t286 t287 3 true t290 t291 w0 _ ?side1 ?side2 A19.out).mono ?_); (case side1 => repeat (first | (with_reducible first | exact HI0.out | apply IsS79.alloc | apply IsS79.drewN | apply IsS79.drew | apply IsS79.set_1 | apply IsS79.set_2 | refine IsS79.far ?_ HN0_go18.out _ | refine IsS79.far ?_ Nq0.out _ | refine IsS79.far ?_ Nq1.out _) | exact HI0.out)); (case side2 => repeat (first | (with_reducible first | exact HB.out | apply below_alloc | apply pw_below_drewN | apply below_drew1 | refine below_set ?_ (Nat.le_trans HL.out GB18.out) | refine below_set ?_ (IsS79.ge HI0.out) | refine below_set ?_ GE278.out | refine below_set ?_ GE284.out) | exact HB.out)); rintro e w28 ⟨rfl, hi, hb, hk⟩; refine ⟨_, rfl, ?_⟩; have n0_ := am (Kd.R_mono (Kd.R_keep (IsS79.apart (show IsS79 w0 _ g s0_0 t286 t287 from by repeat (first | (with_reducible first | exact HI0.out | apply IsS79.alloc | apply IsS79.drewN | apply IsS79.drew | apply IsS79.set_1 | apply IsS79.set_2 | refine IsS79.far ?_ HN0_go18.out _ | refine IsS79.far ?_ Nq0.out _ | refine IsS79.far ?_ Nq1.out _) | exact HI0.out)) (sqr HQ27) (by decide)) hk (fun _ h => h.2)) (fun _ h => h.1)); have n1_ := am (KeepBut.blk hk (g' := gb278) (o := .cells #[.int .i64 0, .int .i64 0, .slice none 0 0] 34 (0, 0)) (by (with_reducible repeat (first | refine blk_drewN ?_ _ | refine blk_drew ?_ | refine blk_alloc ?_ _)); refine blk_far ?_ (by have h_ := Kd.R_ne Oq1.out BK278.out (by decide); intro e_; exact h_ (by rw [e_]; rfl)) _; (with_reducible repeat (first | refine blk_drewN ?_ _ | refine blk_drew ?_ | refine blk_alloc ?_ _)); exact BK278.out) Nq2.out (by simp)); have n2_ := am (KeepBut.blk hk (g' := gb284) (o := .cells #[.int .i64 t279, .int .i64 t280, .slice (some ⟨go18, 0, none⟩) x285002_1.length co18] 34 (0, 0)) (by (with_reducible repeat (first | refine blk_drewN ?_ _ | refine blk_drew ?_ | refine blk_alloc ?_ _)); refine blk_far ?_ (by have h_ := Kd.R_ne Oq1.out BK284.out (by decide); intro e_; exact h_ (by rw [e_]; rfl)) _; (with_reducible repeat (first | refine blk_drewN ?_ _ | refine blk_drew ?_ | refine blk_alloc ?_ _)); exact BK284.out) Nq4.out (by simp)); have n3_ := am (KeepBut.trans (by repeat (first | (with_reducible first | exact HK.out | apply KeepBut.set_ | apply keep_drewN | apply keep_drew | apply keep_alloc | refine keep_far ?_ GB18.out _ | refine keep_far ?_ GW278.out _ | refine keep_far ?_ GW284.out _) | exact HK.out)) hk (.inl rfl)); have n4_ := am (hb); have n5_ := am (hi); clear Oq1; clear BK278; clear BK284; clear HK; clear HB; clear HI0; have Oq1 := n0_; have BK278 := n1_; have BK284 := n2_; have HK := n3_; have HB := n4_; have HI0 := n5_; clear n0_ n1_ n2_ n3_ n4_ n5_; (try clear hb); (try clear hb2); (try clear hk); (try clear hi)))
         have n0_ := am (Kd.R_drew Oq1.out)
         have n1_ := am (blk_drew BK278.out)
         have n2_ := am (blk_drew BK284.out)
         have n3_ := am (IsS79.drew HI0.out)
         have n4_ := am (keep_drew HK.out)
         have n5_ := am (below_drew1 HB.out)
         clear Oq1 BK278 BK284 HI0 HK HB
         have Oq1 := n0_
         have BK278 := n1_
         have BK284 := n2_
         have HI0 := n3_
         have HK := n4_
         have HB := n5_
         clear n0_ n1_ n2_ n3_ n4_ n5_
         refine start_ (n := 11) (S := fun w' => w'.cell? ⟨gb284, 0, none⟩ = some (.int .i64 t279) ∧ w'.cell? ⟨gb284, 1, none⟩ = some (.int .i64 t280) ∧ w'.cell? ⟨gb284, 2, none⟩ = some (.slice (some ⟨go18, 0, none⟩) x285002_1.length co18)) (ds := [10]) #[false, false, false, false, false, false, false, false, false, false, false] (by kernel_rfl) rfl rfl ⟨sqc BK284 0, sqc BK284 1, sqc BK284 2⟩ (fun hHeld => ?_); refine with_tabW spec_l1Cur_boardOf.tab7 spec_l1Cur_boardOf.bits7 (fun HT_ HW_ => ?_)
         generalize w28.drew = w29 at Oq1 BK278 BK284 HI0 HK HB hHeld ⊢
         refine pure_ (i := 0) (N := some 28) (v := ?_) (a' := ?_) #[true, false, false, false, false, false, false, false, false, false, false] rfl rfl (any_of HT_.out (by kernel_rfl)) (fun _ _ _ h => h) (Or.inl ⟨by rfl, ?_⟩) ?_ ?_
         rotate_left
         ·
          intro w'
          go_simp
          with_reducible rfl
         rotate_left
         ·
          simp only [Act.put, List.setIfInBounds_toArray, List.set_cons_zero, List.set_cons_succ, i64_w, i32_w]
          rfl
         refine pure_ (i := 2) (N := some 30) (v := ?_) (a' := ?_) #[true, false, true, false, false, false, false, false, false, false, false] rfl rfl (any_of HT_.out (by kernel_rfl)) (fun _ _ _ h => h) (Or.inl ⟨by rfl, ?_⟩) ?_ ?_
         rotate_left
         ·
          intro w'
          go_simp
          with_reducible rfl
         rotate_left
         ·
          simp only [Act.put, List.setIfInBounds_toArray, List.set_cons_zero, List.set_cons_succ, i64_w, i32_w]
          rfl
         refine pure_ (i := 3) (N := some 31) (v := ?_) (a' := ?_) #[true, false, true, true, false, false, false, false, false, false, false] rfl rfl (any_of HT_.out (by kernel_rfl)) (fun _ _ _ h => h) (Or.inl ⟨by rfl, ?_⟩) ?_ ?_
         rotate_left
         ·
          intro w'
          go_simp
          with_reducible rfl
         rotate_left
         ·
          simp only [Act.put, List.setIfInBounds_toArray, List.set_cons_zero, List.set_cons_succ, i64_w, i32_w]
          rfl
         refine pure_ (i := 4) (N := some 32) (v := ?_) (a' := ?_) #[true, false, true, true, true, false, false, false, false, false, false] rfl rfl (any_of HT_.out (by kernel_rfl)) (fun _ _ _ h => h) (Or.inl ⟨by rfl, ?_⟩) ?_ ?_
         rotate_left
         ·
          intro w'
          go_simp
          with_reducible rfl
         rotate_left
         ·
          simp only [Act.put, List.setIfInBounds_toArray, List.set_cons_zero, List.set_cons_succ, i64_w, i32_w]
          rfl
         refine pure_ (i := 5) (N := some 33) (v := ?_) (a' := ?_) #[true, false, true, true, true, true, false, false, false, false, false] rfl rfl (any_of HT_.out (by kernel_rfl)) (fun _ _ _ h => h) (Or.inl ⟨by rfl, ?_⟩) ?_ ?_
         rotate_left
         ·
          intro w'
          go_simp
          with_reducible rfl
         rotate_left
         ·
          simp only [Act.put, List.setIfInBounds_toArray, List.set_cons_zero, List.set_cons_succ, i64_w, i32_w]
          rfl
         refine take_ (i := 1) (N := some 29) (v := ?_) (a' := ?_) #[true, true, true, true, true, true, false, false, false, false, false] rfl rfl (take_ofW HT_.out HW_.out (by kernel_rfl)) (fun _ _ _ h => h) (Or.inl ⟨by rfl, ?_⟩) hHeld ?_ ?_
         rotate_left
         ·
          rintro w' ⟨s0, s1, s2⟩
          go_simp
          with_reducible rfl
         rotate_left
         ·
          simp only [Act.put, List.setIfInBounds_toArray, List.set_cons_zero, List.set_cons_succ, i64_w, i32_w]
          rfl
         refine one_ (i := 6) (N := some 34) #[true, true, true, true, true, true, true, false, false, false, false] rfl rfl (one_of HT_.out (by kernel_rfl)) (by decide) (fun K hK => ?_)
         refine goes_ Try.func123 (by kernel_rfl) rfl #[.pointer (some ⟨g, 0, none⟩), .int .i64 (wrap64 (a2 + 1))] (by rfl) rfl rfl (by (try simp only [List.map_toArray, List.map_cons, List.map_nil]); try rfl) ?_
         with_reducible refine (spec_l1Cur_pick.calls g s0_0 t290 t291 (wrap64 (a2 + 1)) t292 t293 t294 w0 _ ?side1 ?side2 A21.out).mono ?_
         (case side1 => repeat (first | (with_reducible first | exact HI0.out | apply IsS79.alloc | apply IsS79.drewN | apply IsS79.drew | apply IsS79.set_1 | apply IsS79.set_2 | refine IsS79.far ?_ Nq0.out _ | refine IsS79.far ?_ Nq1.out _) | exact HI0.out))
         (case side2 => repeat (first | (with_reducible first | exact HB.out | apply below_alloc | apply pw_below_drewN | apply below_drew1 | refine below_set ?_ (IsS79.ge HI0.out) | refine below_set ?_ GE278.out | refine below_set ?_ GE284.out) | exact HB.out))
         rintro e w30 ⟨rfl, hi, hb, hk⟩
         refine ⟨_, rfl, ?_⟩
         have n0_ := am (Kd.R_mono (Kd.R_keep (IsS79.apart (show IsS79 w0 _ g s0_0 t290 t291 from by repeat (first | (with_reducible first | exact HI0.out | apply IsS79.alloc | apply IsS79.drewN | apply IsS79.drew | apply IsS79.set_1 | apply IsS79.set_2 | refine IsS79.far ?_ Nq0.out _ | refine IsS79.far ?_ Nq1.out _) | exact HI0.out)) (sqr Oq1) (by decide)) hk (fun _ h => h.2)) (fun _ h => h.1))
         have n1_ := am (KeepBut.blk hk (g' := gb278) (o := .cells #[.int .i64 0, .int .i64 0, .slice none 0 0] 34 (0, 0)) (sqb BK278) Nq2.out (by simp))
         have n2_ := am (KeepBut.blk hk (g' := gb284) (o := .cells #[.int .i64 t279, .int .i64 t280, .slice (some ⟨go18, 0, none⟩) x285002_1.length co18] 34 (0, 0)) (sqb BK284) Nq4.out (by simp))
         have n3_ := am (KeepBut.trans (by repeat (first | (with_reducible first | exact HK.out | apply KeepBut.set_ | apply keep_drewN | apply keep_drew | apply keep_alloc | refine keep_far ?_ GW278.out _ | refine keep_far ?_ GW284.out _) | exact HK.out)) hk (.inl rfl))
         have n4_ := am (hb)
         have n5_ := am (hi)
         clear Oq1 BK278 BK284 HK HB HI0
         have Oq1 := n0_
         have BK278 := n1_
         have BK284 := n2_
         have HK := n3_
         have HB := n4_
         have HI0 := n5_
         clear n0_ n1_ n2_ n3_ n4_ n5_
         (try clear hb)
         (try clear hb2)
         (try clear hk)
         (try clear hi)
         have p24 : 0 ≤ (x15_1 : Int) := of_decide_eq_true (by first | (with_reducible assumption) | assumption)
         have q24 : (x15_1 : Int) < ((x285002_1.length : Int) : Int) := of_decide_eq_true (by first | (with_reducible assumption) | assumption)
         obtain ⟨hx24_0, hf24_0⟩ := Kd.R_celln 0 Oq1.out (x15_1 : Int) p24 q24
         replace p24 := eq_true p24
         replace q24 := eq_true q24
         have HN0_go18 := am (show g ≠ go18 from by have h_ := IsS79.own_ne HI0.out Oq1.out (by decide); intro e_; exact h_ (by rw [e_]; rfl))
         have HP31 := Kd.R_putn Oq1.out (x15_1 : Int) (wrap64 ((ji23) - 1))
         rw [← Ny295.out] at HP31
         have HQ31 := Aside0.mk HP31
         clear HP31
         refine hK.out _ _ ⟨sqc BK284 0, sqc BK284 1, sqc BK284 2⟩ (fun hHeld => ?_)
         clear hK K
         refine norm_ (a' := ?_) ?_ ?_
         rotate_left
         ·
          show Act.put _ (some 34) _ = _
          simp only [Act.put, List.setIfInBounds_toArray, List.set_cons_zero, List.set_cons_succ, i64_w, i32_w]
          rfl
         refine pure_ (i := 7) (N := some 35) (v := ?_) (a' := ?_) #[true, true, true, true, true, true, true, true, false, false, false] rfl rfl (any_of HT_.out (by kernel_rfl)) (fun _ _ _ h => h) (Or.inl ⟨by rfl, ?_⟩) ?_ ?_
         rotate_left
         ·
          intro w'
          go_simp
          with_reducible rfl
         rotate_left
         ·
          simp only [Act.put, List.setIfInBounds_toArray, List.set_cons_zero, List.set_cons_succ, i64_w, i32_w]
          rfl
         refine pure_ (i := 8) (N := some 36) (v := ?_) (a' := ?_) #[true, true, true, true, true, true, true, true, true, false, false] rfl rfl (any_of HT_.out (by kernel_rfl)) (fun _ _ _ h => h) (Or.inl ⟨by rfl, ?_⟩) ?_ ?_
         rotate_left
         ·
          intro w'
          go_simp
          with_reducible rfl
         rotate_left
         ·
          simp only [Act.put, List.setIfInBounds_toArray, List.set_cons_zero, List.set_cons_succ, i64_w, i32_w]
          rfl
         refine pure_ (i := 9) (N := some 37) (v := ?_) (a' := ?_) #[true, true, true, true, true, true, true, true, true, true, false] rfl rfl (any_of HT_.out (by kernel_rfl)) (fun _ _ _ h => h) (Or.inl ⟨by rfl, ?_⟩) ?_ ?_
         rotate_left
         ·
          intro w'
          go_simp
          with_reducible rfl
         rotate_left
         ·
          simp only [Act.put, List.setIfInBounds_toArray, List.set_cons_zero, List.set_cons_succ, i64_w, i32_w]
          rfl
         refine last_ (i := 10) (N := none) #[true, true, true, true, true, true, true, true, true, true, true] rfl rfl (one_of HT_.out (by kernel_rfl)) (by decide) (fun K hK => ?_)
         refine skip_ (w1 := ?_) (by rfl) rfl ?_ ?_
         rotate_left
         ·
          go_simp
          rfl
         refine hK.out _ _ ?_
         clear hK K
         refine done_ (done_of HT_.out (by kernel_rfl)) ?_
         try go_wp2
         go_roundg k1
         case measure => have := HK1.out; omega
         case rel => exact ⟨(wrap64 (x15_1 + 1)), (t293), (t294), (y295), (.slice (some ⟨go18, 0, none⟩) x285002_1.length co18), (by first | rfl | (simp; done) | (simp [*]; done)), H', ⟨by have := HK1.out; omega⟩, ⟨by (with_reducible repeat (first | apply Kd.R_alloc | apply Kd.R_drewN | apply Kd.R_drew)); exact HQ31.out⟩, ⟨by (with_reducible repeat (first | refine blk_drewN ?_ _ | refine blk_drew ?_ | refine blk_alloc ?_ _)); refine blk_far ?_ (by have h_ := Kd.R_ne Oq1.out BK278.out (by decide); intro e_; exact h_ (by rw [e_]; rfl)) _; (with_reducible repeat (first | refine blk_drewN ?_ _ | refine blk_drew ?_ | refine blk_alloc ?_ _)); exact BK278.out⟩, ⟨by (with_reducible repeat (first | refine blk_drewN ?_ _ | refine blk_drew ?_ | refine blk_alloc ?_ _)); refine blk_far ?_ (by have h_ := Kd.R_ne Oq1.out BK284.out (by decide); intro e_; exact h_ (by rw [e_]; rfl)) _; (with_reducible repeat (first | refine blk_drewN ?_ _ | refine blk_drew ?_ | refine blk_alloc ?_ _)); exact BK284.out⟩, ⟨by repeat (first | (with_reducible first | exact HI0.out | apply IsS79.alloc | apply IsS79.drewN | apply IsS79.drew | apply IsS79.set_1 | apply IsS79.set_2 | refine IsS79.far ?_ HN0_go18.out _ | refine IsS79.far ?_ Nq0.out _ | refine IsS79.far ?_ Nq1.out _) | exact HI0.out)⟩, ⟨by repeat (first | (with_reducible first | exact HK.out | apply KeepBut.set_ | apply keep_drewN | apply keep_drew | apply keep_alloc | refine keep_far ?_ GB18.out _ | refine keep_far ?_ GW278.out _ | refine keep_far ?_ GW284.out _) | exact HK.out)⟩, ⟨by repeat (first | (with_reducible first | exact HB.out | apply below_alloc | apply pw_below_drewN | apply below_drew1 | refine below_set ?_ (Nat.le_trans HL.out GB18.out) | refine below_set ?_ (IsS79.ge HI0.out) | refine below_set ?_ GE278.out | refine below_set ?_ GE284.out) | exact HB.out)⟩⟩
        ·
         rw [if_neg c22] at H
         exact absurd H (by simp)
       ·
        replace c20 := Bool.eq_false_iff.mpr c20
        subst c20
        have H1 : (spec_l1Cur_boardOf.l0 k1 a2 (t281.length : Int) (wrap64 (x15_1 + 1)) s0_0 t290 t291 t279 t280 y288) = some (r1, r2, r3, r4, r5) := by first | (rw [if_neg (show ¬ (false = true) by decide)] at H; exact H) | rfl
        clear H
        have H := H1
        clear H1
        have H' := Aside0.mk H
        clear H
        try go_wp2
        have n0_ := am (Kd.R_drew Oq1.out)
        have n1_ := am (blk_drew BK278.out)
        have n2_ := am (blk_drew BK284.out)
        have n3_ := am (IsS79.drew HI0.out)
        have n4_ := am (keep_drew HK.out)
        have n5_ := am (below_drew1 HB.out)
        clear Oq1 BK278 BK284 HI0 HK HB
        have Oq1 := n0_
        have BK278 := n1_
        have BK284 := n2_
        have HI0 := n3_
        have HK := n4_
        have HB := n5_
        clear n0_ n1_ n2_ n3_ n4_ n5_
        refine start_ (n := 9) (S := fun w' => w'.cell? ⟨gb284, 0, none⟩ = some (.int .i64 t279) ∧ w'.cell? ⟨gb284, 1, none⟩ = some (.int .i64 t280) ∧ w'.cell? ⟨gb284, 2, none⟩ = some (u285002)) (ds := [8]) #[false, false, false, false, false, false, false, false, false] (by kernel_rfl) rfl rfl ⟨sqc BK284 0, sqc BK284 1, sqc BK284 2⟩ (fun hHeld => ?_); refine with_tabW spec_l1Cur_boardOf.tab5 spec_l1Cur_boardOf.bits5 (fun HT_ HW_ => ?_)
        generalize wr.drew = w32 at Oq1 BK278 BK284 HI0 HK HB hHeld ⊢
        refine pure_ (i := 0) (N := some 18) (v := ?_) (a' := ?_) #[true, false, false, false, false, false, false, false, false] rfl rfl (any_of HT_.out (by kernel_rfl)) (fun _ _ _ h => h) (Or.inl ⟨by rfl, ?_⟩) ?_ ?_
        rotate_left
        ·
         intro w'
         go_simp
         with_reducible rfl
        rotate_left
        ·
         simp only [Act.put, List.setIfInBounds_toArray, List.set_cons_zero, List.set_cons_succ, i64_w, i32_w]
         rfl
        refine pure_ (i := 2) (N := some 20) (v := ?_) (a' := ?_) #[true, false, true, false, false, false, false, false, false] rfl rfl (any_of HT_.out (by kernel_rfl)) (fun _ _ _ h => h) (Or.inl ⟨by rfl, ?_⟩) ?_ ?_
        rotate_left
        ·
         intro w'
         go_simp
         with_reducible rfl
        rotate_left
        ·
         simp only [Act.put, List.setIfInBounds_toArray, List.set_cons_zero, List.set_cons_succ, i64_w, i32_w]
         rfl
        refine pure_ (i := 3) (N := some 21) (v := ?_) (a' := ?_) #[true, false, true, true, false, false, false, false, false] rfl rfl (any_of HT_.out (by kernel_rfl)) (fun _ _ _ h => h) (Or.inl ⟨by rfl, ?_⟩) ?_ ?_
        rotate_left
        ·
         intro w'
         go_simp
         with_reducible rfl
        rotate_left
        ·
         simp only [Act.put, List.setIfInBounds_toArray, List.set_cons_zero, List.set_cons_succ, i64_w, i32_w]
         rfl
        refine pure_ (i := 4) (N := some 22) (v := ?_) (a' := ?_) #[true, false, true, true, true, false, false, false, false] rfl rfl (any_of HT_.out (by kernel_rfl)) (fun _ _ _ h => h) (Or.inl ⟨by rfl, ?_⟩) ?_ ?_
        rotate_left
        ·
         intro w'
         go_simp
         with_reducible rfl
        rotate_left
        ·
         simp only [Act.put, List.setIfInBounds_toArray, List.set_cons_zero, List.set_cons_succ, i64_w, i32_w]
         rfl
        refine pure_ (i := 5) (N := some 23) (v := ?_) (a' := ?_) #[true, false, true, true, true, true, false, false, false] rfl rfl (any_of HT_.out (by kernel_rfl)) (fun _ _ _ h => h) (Or.inl ⟨by rfl, ?_⟩) ?_ ?_
        rotate_left
        ·
         intro w'
         go_simp
         with_reducible rfl
        rotate_left
        ·
         simp only [Act.put, List.setIfInBounds_toArray, List.set_cons_zero, List.set_cons_succ, i64_w, i32_w]
         rfl
        refine take_ (i := 1) (N := some 19) (v := ?_) (a' := ?_) #[true, true, true, true, true, true, false, false, false] rfl rfl (take_ofW HT_.out HW_.out (by kernel_rfl)) (fun _ _ _ h => h) (Or.inl ⟨by rfl, ?_⟩) hHeld ?_ ?_
        rotate_left
        ·
         rintro w' ⟨s0, s1, s2⟩
         go_simp
         with_reducible rfl
        rotate_left
        ·
         simp only [Act.put, List.setIfInBounds_toArray, List.set_cons_zero, List.set_cons_succ, i64_w, i32_w]
         rfl
        refine one_ (i := 6) (N := some 24) #[true, true, true, true, true, true, true, false, false] rfl rfl (one_of HT_.out (by kernel_rfl)) (by decide) (fun K hK => ?_)
        refine goes_ Try.func123 (by kernel_rfl) rfl #[.pointer (some ⟨g, 0, none⟩), .int .i64 ji14] (by rfl) rfl rfl (by (try simp only [List.map_toArray, List.map_cons, List.map_nil]); first | done | (simp only [hji14]; rfl) | rfl | (simp only [List.length_drop, List.length_take]; rfl)) ?_
        with_reducible refine (spec_l1Cur_pick.calls g s0_0 x1001_1 x1002_1 ji14 t285 t286 t287 w0 _ ?side1 ?side2 A15.out).mono ?_
        (case side1 => repeat (first | (with_reducible first | exact HI0.out | apply IsS79.alloc | apply IsS79.drewN | apply IsS79.drew | apply IsS79.set_1 | apply IsS79.set_2 | refine IsS79.far ?_ Nq0.out _ | refine IsS79.far ?_ Nq1.out _) | exact HI0.out))
        (case side2 => repeat (first | (with_reducible first | exact HB.out | apply below_alloc | apply pw_below_drewN | apply below_drew1 | refine below_set ?_ (IsS79.ge HI0.out) | refine below_set ?_ GE278.out | refine below_set ?_ GE284.out) | exact HB.out))
        rintro e w33 ⟨rfl, hi, hb, hk⟩
        refine ⟨_, rfl, ?_⟩
        have n0_ := am (Kd.R_mono (Kd.R_keep (IsS79.apart (show IsS79 w0 _ g s0_0 x1001_1 x1002_1 from by repeat (first | (with_reducible first | exact HI0.out | apply IsS79.alloc | apply IsS79.drewN | apply IsS79.drew | apply IsS79.set_1 | apply IsS79.set_2 | refine IsS79.far ?_ Nq0.out _ | refine IsS79.far ?_ Nq1.out _) | exact HI0.out)) (sqr Oq1) (by decide)) hk (fun _ h => h.2)) (fun _ h => h.1))
        have n1_ := am (KeepBut.blk hk (g' := gb278) (o := .cells #[.int .i64 0, .int .i64 0, .slice none 0 0] 34 (0, 0)) (sqb BK278) Nq2.out (by simp))
        have n2_ := am (KeepBut.blk hk (g' := gb284) (o := .cells #[.int .i64 t279, .int .i64 t280, u285002] 34 (0, 0)) (sqb BK284) Nq4.out (by simp))
        have n3_ := am (KeepBut.trans (by repeat (first | (with_reducible first | exact HK.out | apply KeepBut.set_ | apply keep_drewN | apply keep_drew | apply keep_alloc | refine keep_far ?_ GW278.out _ | refine keep_far ?_ GW284.out _) | exact HK.out)) hk (.inl rfl))
        have n4_ := am (hb)
        have n5_ := am (hi)
        clear Oq1 BK278 BK284 HK HB HI0
        have Oq1 := n0_
        have BK278 := n1_
        have BK284 := n2_
        have HK := n3_
        have HB := n4_
        have HI0 := n5_
        clear n0_ n1_ n2_ n3_ n4_ n5_
        (try clear hb)
        (try clear hb2)
        (try clear hk)
        (try clear hi)
        have p18 : 0 ≤ (x15_1 : Int) := of_decide_eq_true (by first | (with_reducible assumption) | assumption)
        have q18 : (x15_1 : Int) < ((x285002_1.length : Int) : Int) := of_decide_eq_true (by first | (with_reducible assumption) | assumption)
        obtain ⟨go18, co18, eo18, gb18, gl18, cl18, HG18⟩ := Kd.R_form Oq1.out (by omega)
        (first | cases eo18 | (injection eo18 with ea_ en_ ec_; (first | subst ea_ | (injection ea_ with ea_; subst ea_)); subst ec_; clear en_))
        have GB18 := Aside0.mk gb18
        have GG18 := Aside0.mk HG18
        clear gb18 gl18 HG18
        obtain ⟨hx18_0, hf18_0⟩ := Kd.R_celln 0 Oq1.out (x15_1 : Int) p18 q18
        replace p18 := eq_true p18
        replace q18 := eq_true q18
        have HN0_go18 := am (show g ≠ go18 from by have h_ := IsS79.own_ne HI0.out Oq1.out (by decide); intro e_; exact h_ (by rw [e_]; rfl))
        have HP34 := Kd.R_putn Oq1.out (x15_1 : Int) t285
        rw [← Ny288.out] at HP34
        have HQ34 := Aside0.mk HP34
        clear HP34
        refine hK.out _ _ ⟨sqc BK284 0, sqc BK284 1, sqc BK284 2⟩ (fun hHeld => ?_)
        clear hK K
        refine norm_ (a' := ?_) ?_ ?_
        rotate_left
        ·
         show Act.put _ (some 24) _ = _
         simp only [Act.put, List.setIfInBounds_toArray, List.set_cons_zero, List.set_cons_succ, i64_w, i32_w]
         rfl
        refine pure_ (i := 7) (N := some 25) (v := ?_) (a' := ?_) #[true, true, true, true, true, true, true, true, false] rfl rfl (any_of HT_.out (by kernel_rfl)) (fun _ _ _ h => h) (Or.inl ⟨by rfl, ?_⟩) ?_ ?_
        rotate_left
        ·
         intro w'
         go_simp
         with_reducible rfl
        rotate_left
        ·
         simp only [Act.put, List.setIfInBounds_toArray, List.set_cons_zero, List.set_cons_succ, i64_w, i32_w]
         rfl
        refine last_ (i := 8) (N := none) #[true, true, true, true, true, true, true, true, true] rfl rfl (one_of HT_.out (by kernel_rfl)) (by decide) (fun K hK => ?_)
        refine skip_ (w1 := ?_) (by rfl) rfl ?_ ?_
        rotate_left
        ·
         go_simp
         rfl
        refine hK.out _ _ ?_
        clear hK K
        refine done_ (done_of HT_.out (by kernel_rfl)) ?_
        try go_wp2_with (first | ((with_reducible refine gate_callee (f := 156) rfl ?_); refine goesL_ (some 27) rfl rfl Try.func156 (by kernel_rfl) rfl #[.pointer (some ⟨g, 0, none⟩), .int .i64 3] rfl (by (try simp only [List.map_toArray, List.map_cons, List.map_nil]); try rfl) ?_; (with_reducible refine (spec_l1Cur_one.calls g s0_0 t286 t287 3 false t290 t291 w0 _ ?side1 ?side2 A19.out).mono ?_); (case side1 => repeat (first | (with_reducible first | exact HI0.out | apply IsS79.alloc | apply IsS79.drewN | apply IsS79.drew | apply IsS79.set_1 | apply IsS79.set_2 | refine IsS79.far ?_ HN0_go18.out _ | refine IsS79.far ?_ Nq0.out _ | refine IsS79.far ?_ Nq1.out _) | exact HI0.out)); (case side2 => repeat (first | (with_reducible first | exact HB.out | apply below_alloc | apply pw_below_drewN | apply below_drew1 | refine below_set ?_ (Nat.le_trans HL.out GB18.out) | refine below_set ?_ (IsS79.ge HI0.out) | refine below_set ?_ GE278.out | refine below_set ?_ GE284.out) | exact HB.out)); rintro e w35 ⟨rfl, hi, hb, hk⟩; refine ⟨_, rfl, ?_⟩; have n0_ := am (Kd.R_mono (Kd.R_keep (IsS79.apart (show IsS79 w0 _ g s0_0 t286 t287 from by repeat (first | (with_reducible first | exact HI0.out | apply IsS79.alloc | apply IsS79.drewN | apply IsS79.drew | apply IsS79.set_1 | apply IsS79.set_2 | refine IsS79.far ?_ HN0_go18.out _ | refine IsS79.far ?_ Nq0.out _ | refine IsS79.far ?_ Nq1.out _) | exact HI0.out)) (sqr HQ34) (by decide)) hk (fun _ h => h.2)) (fun _ h => h.1)); have n1_ := am (KeepBut.blk hk (g' := gb278) (o := .cells #[.int .i64 0, .int .i64 0, .slice none 0 0] 34 (0, 0)) (by (with_reducible repeat (first | refine blk_drewN ?_ _ | refine blk_drew ?_ | refine blk_alloc ?_ _)); refine blk_far ?_ (by have h_ := Kd.R_ne Oq1.out BK278.out (by decide); intro e_; exact h_ (by rw [e_]; rfl)) _; (with_reducible repeat (first | refine blk_drewN ?_ _ | refine blk_drew ?_ | refine blk_alloc ?_ _)); exact BK278.out) Nq2.out (by simp)); have n2_ := am (KeepBut.blk hk (g' := gb284) (o := .cells #[.int .i64 t279, .int .i64 t280, .slice (some ⟨go18, 0, none⟩) x285002_1.length co18] 34 (0, 0)) (by (with_reducible repeat (first | refine blk_drewN ?_ _ | refine blk_drew ?_ | refine blk_alloc ?_ _)); refine blk_far ?_ (by have h_ := Kd.R_ne Oq1.out BK284.out (by decide); intro e_; exact h_ (by rw [e_]; rfl)) _; (with_reducible repeat (first | refine blk_drewN ?_ _ | refine blk_drew ?_ | refine blk_alloc ?_ _)); exact BK284.out) Nq4.out (by simp)); have n3_ := am (KeepBut.trans (by repeat (first | (with_reducible first | exact HK.out | apply KeepBut.set_ | apply keep_drewN | apply keep_drew | apply keep_alloc | refine keep_far ?_ GB18.out _ | refine keep_far ?_ GW278.out _ | refine keep_far ?_ GW284.out _) | exact HK.out)) hk (.inl rfl)); have n4_ := am (hb); have n5_ := am (hi); clear Oq1; clear BK278; clear BK284; clear HK; clear HB; clear HI0; have Oq1 := n0_; have BK278 := n1_; have BK284 := n2_; have HK := n3_; have HB := n4_; have HI0 := n5_; clear n0_ n1_ n2_ n3_ n4_ n5_; (try clear hb); (try clear hb2); (try clear hk); (try clear hi)))
        go_roundg k1
        case measure => have := HK1.out; omega
        case rel => exact ⟨(wrap64 (x15_1 + 1)), (t290), (t291), (y288), (.slice (some ⟨go18, 0, none⟩) x285002_1.length co18), (by first | rfl | (simp; done) | (simp [*]; done)), H', ⟨by have := HK1.out; omega⟩, ⟨by (with_reducible repeat (first | apply Kd.R_alloc | apply Kd.R_drewN | apply Kd.R_drew)); exact Oq1.out⟩, ⟨by (with_reducible repeat (first | refine blk_drewN ?_ _ | refine blk_drew ?_ | refine blk_alloc ?_ _)); exact BK278.out⟩, ⟨by (with_reducible repeat (first | refine blk_drewN ?_ _ | refine blk_drew ?_ | refine blk_alloc ?_ _)); exact BK284.out⟩, ⟨by repeat (first | (with_reducible first | exact HI0.out | apply IsS79.alloc | apply IsS79.drewN | apply IsS79.drew | apply IsS79.set_1 | apply IsS79.set_2 | refine IsS79.far ?_ Nq0.out _ | refine IsS79.far ?_ Nq1.out _) | exact HI0.out)⟩, ⟨by repeat (first | (with_reducible first | exact HK.out | apply KeepBut.set_ | apply keep_drewN | apply keep_drew | apply keep_alloc | refine keep_far ?_ GW278.out _ | refine keep_far ?_ GW284.out _) | exact HK.out)⟩, ⟨by repeat (first | (with_reducible first | exact HB.out | apply below_alloc | apply pw_below_drewN | apply below_drew1 | refine below_set ?_ (IsS79.ge HI0.out) | refine below_set ?_ GE278.out | refine below_set ?_ GE284.out) | exact HB.out)⟩⟩
      ·
       rw [if_neg c17] at H
       exact absurd H (by simp)
     ·
      rw [if_neg c16] at H
      exact absurd H (by simp)
    ·
     rw [if_neg c13] at H
     exact absurd H (by simp)
   ·
    rw [if_neg c12] at H
    have c12b0 : decide (x15_1 < (t281.length : Int)) = false := decide_eq_false c12
    clear c12
    simp only [Option.some.injEq, Prod.mk.injEq] at H
    obtain ⟨rfl, rfl, rfl, rfl, rfl⟩ := H
    have bq0 := Nq5.out
    have cq0 := Nq3.out
    have bq1 := Nq4.out
    have cq1 := Nq1.out
    have zq3 : wr.cell? ⟨gb284, 0, none⟩ = some (.int .i64 t279) := sqc BK284 0
    have zq4 : wr.cell? ⟨gb284, 1, none⟩ = some (.int .i64 t280) := sqc BK284 1
    have zq5 : wr.cell? ⟨gb284, 2, none⟩ = some (u285002) := sqc BK284 2
    have fq3 := blk_frozen BK284.out 0
    have fq4 := blk_frozen BK284.out 1
    have fq5 := blk_frozen BK284.out 2
    have bq2 := Nq2.out
    have cq2 := Nq0.out
    have zq6 : wr.cell? ⟨gb278, 0, none⟩ = some (.int .i64 0) := sqc BK278 0
    have zq7 : wr.cell? ⟨gb278, 1, none⟩ = some (.int .i64 0) := sqc BK278 1
    have zq8 : wr.cell? ⟨gb278, 2, none⟩ = some (.slice none 0 0) := sqc BK278 2
    have fq6 := blk_frozen BK278.out 0
    have fq7 := blk_frozen BK278.out 1
    have fq8 := blk_frozen BK278.out 2
    obtain ⟨Ao41, co41, eo41⟩ := Kd.R_slice Oq1.out
    subst eo41
    go_wp2
    refine bodyPost_ret (results_cell_row rfl _ _ gb278 34 #[.int .i64 t279, .int .i64 t280, .slice Ao41 x285002_1.length co41] (0, 0) _ rfl (by (with_reducible repeat (first | refine blk_drewN ?_ _ | refine blk_drew ?_ | refine blk_alloc ?_ _)); refine blk_put (cs := #[.int .i64 t279, .int .i64 t280, .slice none 0 0]) ?_ 2 _ rfl; (with_reducible repeat (first | refine blk_drewN ?_ _ | refine blk_drew ?_ | refine blk_alloc ?_ _)); refine blk_put (cs := #[.int .i64 t279, .int .i64 0, .slice none 0 0]) ?_ 1 _ rfl; (with_reducible repeat (first | refine blk_drewN ?_ _ | refine blk_drew ?_ | refine blk_alloc ?_ _)); refine blk_put (cs := #[.int .i64 0, .int .i64 0, .slice none 0 0]) ?_ 0 _ rfl; (with_reducible repeat (first | refine blk_drewN ?_ _ | refine blk_drew ?_ | refine blk_alloc ?_ _)); exact BK278.out) Try.underlying34 rfl (by kernel_rfl)) rfl ?_
    exact ⟨_, by first | rfl | (simp [errW_none, errW_some] <;> rfl) | (simp [*, errW_none, errW_some] <;> rfl), by (with_reducible repeat (first | apply Kd.R_alloc | apply Kd.R_drewN | apply Kd.R_drew)); exact Kd.R_mono (Kd.R_far (p := ⟨gb278, 2, none⟩) (Kd.R_far (p := ⟨gb278, 1, none⟩) (Kd.R_far (p := ⟨gb278, 0, none⟩) (Kd.R_types Oq1.out BK278.out (by decide)) (fun _ hk => hk.2) (.int .i64 t279)) (fun _ hk => hk.2) (.int .i64 t280)) (fun _ hk => hk.2) (.slice Ao41 x285002_1.length co41)) (fun _ hk => trivial), by repeat (first | (with_reducible first | exact HI0.out | apply IsS79.alloc | apply IsS79.drewN | apply IsS79.drew | apply IsS79.set_1 | apply IsS79.set_2 | refine IsS79.far ?_ Nq0.out _ | refine IsS79.far ?_ Nq1.out _) | exact HI0.out), by repeat (first | (with_reducible first | exact HB.out | apply below_alloc | apply pw_below_drewN | apply below_drew1 | refine below_set ?_ (IsS79.ge HI0.out) | refine below_set ?_ GE278.out | refine below_set ?_ GE284.out) | exact HB.out), by repeat (first | (with_reducible first | exact HK.out | apply KeepBut.set_ | apply keep_drewN | apply keep_drew | apply keep_alloc | refine keep_far ?_ GW278.out _ | refine keep_far ?_ GW284.out _) | exact HK.out)⟩

end Go.Proofs.Ytfgfgkpmkfjeiaa.PFnOrderedBoards
