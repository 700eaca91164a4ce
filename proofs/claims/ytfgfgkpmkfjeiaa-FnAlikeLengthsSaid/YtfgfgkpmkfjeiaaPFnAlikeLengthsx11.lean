-- Printed for this claim by wip/pp.py over the kit's printer; Lean checks it.
import Derived.Test.YtfgfgkpmkfjeiaaPFnAlikeLengthsx0
import Derived.Test.YtfgfgkpmkfjeiaaPFnAlikeLengthsx1
import Derived.Test.YtfgfgkpmkfjeiaaPFnAlikeLengthsx4
import Derived.Test.YtfgfgkpmkfjeiaaPFnAlikeLengthsx5
import Derived.Test.YtfgfgkpmkfjeiaaPFnAlikeLengthsx6
import Derived.Test.YtfgfgkpmkfjeiaaPFnAlikeLengthsx7
import Derived.Test.YtfgfgkpmkfjeiaaPFnAlikeLengthsx8
import Derived.Test.YtfgfgkpmkfjeiaaPFnAlikeLengthsx10
namespace Go.Proofs.Ytfgfgkpmkfjeiaa.PFnAlikeLengths
open Go.RowKit Go.Proofs.YtfgfgkpmkfjeiaaW.PrintWords Go.Proofs.YtfgfgkpmkfjeiaaW.PrintLast Go.Proofs.YtfgfgkpmkfjeiaaW.PrintMore
attribute [local go_sem] max2_int min2_int max_two min_two max_three min_three max_four min_four   -- for this text's walks alone
set_option linter.unusedVariables false
set_option linter.unusedSimpArgs false

/-! ### spec_DrawLengthsFrom: function 44 -/
def spec_DrawLengthsFrom.f (k : Nat) (l0 : List Int) : Option (List Int) := (spec_l1Cur_lengths.f k l0 0 0).bind fun bt433 => ((spec_feGood.f k bt433.1).bind fun t438 => (if t438 = true then ((spec_feFactors.f k bt433.1).bind fun t439 => ((spec_l1Cur_pick.f l0 bt433.2.1 bt433.2.2 5).bind fun bt442 => (if bt442.1 = 0 then ((spec_l1Cur_pick.f l0 bt442.2.1 bt442.2.2 (t439.length : Int)).bind fun bt445 => (if 0 ≤ bt445.1 then (if bt445.1 < (t439.length : Int) then ((spec_l1Cur_pick.f l0 bt445.2.1 bt445.2.2 3).bind fun bt449 => (some (t439.set (bt445.1 : Int).toNat (wrap64 ((rd t439 bt445.1) + (wrap64 (bt449.1 - 1))))))) else (none)) else (none))) else (if bt442.1 = 1 then ((spec_l1Cur_among.f l0 bt442.2.1 bt442.2.2 (([(-9), 9, 4611686018427387904] : List Int))).bind fun bt456 => (if 0 < (t439.length : Int) then (some (t439.set (0 : Int).toNat bt456.1)) else (none))) else (some t439))))) else (some bt433.1)))
theorem spec_DrawLengthsFrom.mono : ∀ a0 k, LeO (spec_DrawLengthsFrom.f k a0) (spec_DrawLengthsFrom.f (k + 1) a0) := by
 intro a0 k
 unfold spec_DrawLengthsFrom.f
 repeat' first
   | (with_reducible exact spec_feFactors.mono _ _)
   | (with_reducible exact spec_feGood.mono _ _)
   | (with_reducible exact spec_l1Cur_lengths.mono _ _ _ _)
   | (with_reducible exact LeO.refl _)
   | (with_reducible exact LeO.none _)
   | (with_reducible refine LeO.ite ?_ ?_)
   | (with_reducible refine LeO.bind ?_ (fun _ => ?_))
   | exact spec_feFactors.mono _ _
   | exact spec_feGood.mono _ _
   | exact spec_l1Cur_lengths.mono _ _ _ _
   | exact LeO.none _
   | refine LeO.ite ?_ ?_
   | refine LeO.bind ?_ (fun _ => ?_)
def spec_DrawLengthsFrom.T8 : Bool × List (List Nat × List Nat) := (true, [([], []), ([], []), ([], []), ([2], [2]), ([1, 3], [1, 3]), ([0, 4], [0, 4]), ([5], [5]), ([], []), ([7, 4], [7]), ([8], [8]), ([6, 9], [6, 9]), ([0, 4, 0, 1, 2, 3, 4, 5, 6, 7, 8, 9, 10], [0, 4]), ([11, 10, 8, 0, 1, 2, 3, 4, 5, 6, 7, 8, 9, 10], [10, 11])])
def spec_DrawLengthsFrom.B8 : List Nat := [0, 0, 0, 4, 14, 31, 63, 0, 158, 414, 1023, 2047, 4095]
theorem spec_DrawLengthsFrom.tab8 : rtab .any (opsOf Try.f44 8) = spec_DrawLengthsFrom.T8 := by kernel_rfl
theorem spec_DrawLengthsFrom.bits8 : waitsOk spec_DrawLengthsFrom.T8.2 spec_DrawLengthsFrom.B8 = true := by kernel_rfl
set_option maxHeartbeats 8000000 in
set_option maxRecDepth 100000 in
theorem spec_DrawLengthsFrom.calls (k : Nat) (A0 : Option Addr) (c0 : Nat) (l0 : List Int) (r : List Int) (w : World) (hr0 : Kd.C (Kd.int .u8) w A0 l0.length l0) (hc0 : l0.length ≤ c0) (h : spec_DrawLengthsFrom.f k l0 = some r) :
  Calls Try.prog 44 #[.slice A0 l0.length c0] w fun e w' => ∃ v0_ : Value, e = .returned (v0_) ∧ Kd.R (Kd.int .i64) 3 w' w.heap.size (fun _ => True) v0_ r ∧ Below w.heap.size w w' := by
 have hu79 := Try.underlying79
 have HR0 := Aside0.mk hr0
 have HC0 := Aside0.mk hc0
 clear hr0 hc0
 have HB := am (Below.refl w.heap.size w)
 have H : ((spec_l1Cur_lengths.f k l0 0 0).bind fun bt433 => ((spec_feGood.f k bt433.1).bind fun t438 => (if t438 = true then ((spec_feFactors.f k bt433.1).bind fun t439 => ((spec_l1Cur_pick.f l0 bt433.2.1 bt433.2.2 5).bind fun bt442 => (if bt442.1 = 0 then ((spec_l1Cur_pick.f l0 bt442.2.1 bt442.2.2 (t439.length : Int)).bind fun bt445 => (if 0 ≤ bt445.1 then (if bt445.1 < (t439.length : Int) then ((spec_l1Cur_pick.f l0 bt445.2.1 bt445.2.2 3).bind fun bt449 => (some (t439.set (bt445.1 : Int).toNat (wrap64 ((rd t439 bt445.1) + (wrap64 (bt449.1 - 1))))))) else (none)) else (none))) else (if bt442.1 = 1 then ((spec_l1Cur_among.f l0 bt442.2.1 bt442.2.2 (([(-9), 9, 4611686018427387904] : List Int))).bind fun bt456 => (if 0 < (t439.length : Int) then (some (t439.set (0 : Int).toNat bt456.1)) else (none))) else (some t439))))) else (some bt433.1)))) = some r := h
 clear h
 replace H := Option.bind_eq_some_iff.mp H
 obtain ⟨⟨t433, t436, t437⟩, A20, H⟩ := H
 replace H : ((spec_feGood.f k t433).bind fun t438 => (if t438 = true then ((spec_feFactors.f k t433).bind fun t439 => ((spec_l1Cur_pick.f l0 t436 t437 5).bind fun bt442 => (if bt442.1 = 0 then ((spec_l1Cur_pick.f l0 bt442.2.1 bt442.2.2 (t439.length : Int)).bind fun bt445 => (if 0 ≤ bt445.1 then (if bt445.1 < (t439.length : Int) then ((spec_l1Cur_pick.f l0 bt445.2.1 bt445.2.2 3).bind fun bt449 => (some (t439.set (bt445.1 : Int).toNat (wrap64 ((rd t439 bt445.1) + (wrap64 (bt449.1 - 1))))))) else (none)) else (none))) else (if bt442.1 = 1 then ((spec_l1Cur_among.f l0 bt442.2.1 bt442.2.2 (([(-9), 9, 4611686018427387904] : List Int))).bind fun bt456 => (if 0 < (t439.length : Int) then (some (t439.set (0 : Int).toNat bt456.1)) else (none))) else (some t439))))) else (some t433))) = some r := H
 have A2 := Aside0.mk A20
 clear A20
 replace H := Option.bind_eq_some_iff.mp H
 obtain ⟨t438, A30, H⟩ := H
 replace H : (if t438 = true then ((spec_feFactors.f k t433).bind fun t439 => ((spec_l1Cur_pick.f l0 t436 t437 5).bind fun bt442 => (if bt442.1 = 0 then ((spec_l1Cur_pick.f l0 bt442.2.1 bt442.2.2 (t439.length : Int)).bind fun bt445 => (if 0 ≤ bt445.1 then (if bt445.1 < (t439.length : Int) then ((spec_l1Cur_pick.f l0 bt445.2.1 bt445.2.2 3).bind fun bt449 => (some (t439.set (bt445.1 : Int).toNat (wrap64 ((rd t439 bt445.1) + (wrap64 (bt449.1 - 1))))))) else (none)) else (none))) else (if bt442.1 = 1 then ((spec_l1Cur_among.f l0 bt442.2.1 bt442.2.2 (([(-9), 9, 4611686018427387904] : List Int))).bind fun bt456 => (if 0 < (t439.length : Int) then (some (t439.set (0 : Int).toNat bt456.1)) else (none))) else (some t439))))) else (some t433)) = some r := H
 have A3 := Aside0.mk A30
 clear A30
 by_cases c4 : t438 = true
 ·
  subst c4
  have H1 : ((spec_feFactors.f k t433).bind fun t439 => ((spec_l1Cur_pick.f l0 t436 t437 5).bind fun bt442 => (if bt442.1 = 0 then ((spec_l1Cur_pick.f l0 bt442.2.1 bt442.2.2 (t439.length : Int)).bind fun bt445 => (if 0 ≤ bt445.1 then (if bt445.1 < (t439.length : Int) then ((spec_l1Cur_pick.f l0 bt445.2.1 bt445.2.2 3).bind fun bt449 => (some (t439.set (bt445.1 : Int).toNat (wrap64 ((rd t439 bt445.1) + (wrap64 (bt449.1 - 1))))))) else (none)) else (none))) else (if bt442.1 = 1 then ((spec_l1Cur_among.f l0 bt442.2.1 bt442.2.2 (([(-9), 9, 4611686018427387904] : List Int))).bind fun bt456 => (if 0 < (t439.length : Int) then (some (t439.set (0 : Int).toNat bt456.1)) else (none))) else (some t439))))) = some r := by first | (rw [if_pos rfl] at H; exact H) | rfl
  clear H
  have H := H1
  clear H1
  replace H := Option.bind_eq_some_iff.mp H
  obtain ⟨t439, A50, H⟩ := H
  replace H : ((spec_l1Cur_pick.f l0 t436 t437 5).bind fun bt442 => (if bt442.1 = 0 then ((spec_l1Cur_pick.f l0 bt442.2.1 bt442.2.2 (t439.length : Int)).bind fun bt445 => (if 0 ≤ bt445.1 then (if bt445.1 < (t439.length : Int) then ((spec_l1Cur_pick.f l0 bt445.2.1 bt445.2.2 3).bind fun bt449 => (some (t439.set (bt445.1 : Int).toNat (wrap64 ((rd t439 bt445.1) + (wrap64 (bt449.1 - 1))))))) else (none)) else (none))) else (if bt442.1 = 1 then ((spec_l1Cur_among.f l0 bt442.2.1 bt442.2.2 (([(-9), 9, 4611686018427387904] : List Int))).bind fun bt456 => (if 0 < (t439.length : Int) then (some (t439.set (0 : Int).toNat bt456.1)) else (none))) else (some t439)))) = some r := H
  have A5 := Aside0.mk A50
  clear A50
  replace H := Option.bind_eq_some_iff.mp H
  obtain ⟨⟨t442, t443, t444⟩, A60, H⟩ := H
  replace H : (if t442 = 0 then ((spec_l1Cur_pick.f l0 t443 t444 (t439.length : Int)).bind fun bt445 => (if 0 ≤ bt445.1 then (if bt445.1 < (t439.length : Int) then ((spec_l1Cur_pick.f l0 bt445.2.1 bt445.2.2 3).bind fun bt449 => (some (t439.set (bt445.1 : Int).toNat (wrap64 ((rd t439 bt445.1) + (wrap64 (bt449.1 - 1))))))) else (none)) else (none))) else (if t442 = 1 then ((spec_l1Cur_among.f l0 t443 t444 (([(-9), 9, 4611686018427387904] : List Int))).bind fun bt456 => (if 0 < (t439.length : Int) then (some (t439.set (0 : Int).toNat bt456.1)) else (none))) else (some t439))) = some r := H
  have A6 := Aside0.mk A60
  clear A60
  by_cases c7 : t442 = 0
  ·
   rw [if_pos c7] at H
   have c7b0 : (t442 == 0) = true := beq_iff_eq.mpr c7
   have c7b1 : (t442 != 0) = false := bne_eq_false_iff_eq.mpr c7
   clear c7
   replace H := Option.bind_eq_some_iff.mp H
   obtain ⟨⟨t445, t446, t447⟩, A80, H⟩ := H
   replace H : (if 0 ≤ t445 then (if t445 < (t439.length : Int) then ((spec_l1Cur_pick.f l0 t446 t447 3).bind fun bt449 => (some (t439.set (t445 : Int).toNat (wrap64 ((rd t439 t445) + (wrap64 (bt449.1 - 1))))))) else (none)) else (none)) = some r := H
   have A8 := Aside0.mk A80
   clear A80
   by_cases c9 : 0 ≤ t445
   ·
    rw [if_pos c9] at H
    have c9b0 : decide (0 ≤ t445) = true := decide_eq_true c9
    clear c9
    by_cases c10 : t445 < (t439.length : Int)
    ·
     rw [if_pos c10] at H
     have c10b0 : decide (t445 < (t439.length : Int)) = true := decide_eq_true c10
     clear c10
     replace H := Option.bind_eq_some_iff.mp H
     obtain ⟨⟨t449, t450, t451⟩, A110, H⟩ := H
     replace H : (some (t439.set (t445 : Int).toNat (wrap64 ((rd t439 t445) + (wrap64 (t449 - 1)))))) = some r := H
     have A11 := Aside0.mk A110
     clear A110
     obtain ⟨y452, hy452⟩ : ∃ y_ : List Int, y_ = (t439.set (t445 : Int).toNat (wrap64 ((rd t439 t445) + (wrap64 (t449 - 1))))) := ⟨_, rfl⟩
     replace H : (some y452) = some r := by first | (rw [hy452]; with_reducible exact H) | (have H2_ := (Option.bind_some _ _).symm.trans H; rw [hy452]; with_reducible exact H2_) | (have H2_ := (Option.bind_some _ _).symm.trans H; with_reducible exact H2_) | with_reducible exact H | (rw [hy452]; exact H) | exact H
     have Ny452 := Aside0.mk hy452
     clear hy452
     obtain rfl := Option.some.inj H
     go_enter Try.func44, Try.ntmps44
     try go_wp2_with (first | ((with_reducible refine gate_dst (N := 8) rfl ?_); refine box_event ?hg (N := 8) ?hd (cs := #[.slice A0 l0.length c0, .int .i64 0, .int .u64 0]) (t := 79) ?hr ?_; (case hd => rfl); (case hg => rfl); (case hr => first | (go_simp; done) | (go_simp; rfl)); intro gb432 hg w13 hbox hb; have n0_ := am (below_step (by repeat with_reducible first | exact HB.out | apply pw_below_drewN | apply below_drew1) hb); have n1_ := am ((show IsS79 w w13 gb432 l0 0 0 from ⟨_, _, hbox, (by rw [hg]; exact (below_size (by repeat with_reducible first | exact HB.out | apply pw_below_drewN | apply below_drew1)) : w.heap.size ≤ gb432), HR0.out⟩)); have n2_ := am ((by rw [hg]; exact (below_size (by repeat with_reducible first | exact HB.out | apply pw_below_drewN | apply below_drew1)) : w.heap.size ≤ gb432)); have n3_ := am ((by rw [hg]; exact (below_size (by repeat with_reducible first | exact HB.out | apply pw_below_drewN | apply below_drew1)) : w.heap.size ≤ gb432)); clear HB; have HB := n0_; have HI432 := n1_; have GW432 := n2_; have GE432 := n3_; clear n0_ n1_ n2_ n3_; clear hb hbox hg) | ((with_reducible refine gate_callee (f := 105) rfl ?_); refine goesL_ (some 10) rfl rfl Try.func105 (by kernel_rfl) rfl #[.pointer (some ⟨gb432, 0, none⟩)] rfl (by (try simp only [List.map_toArray, List.map_cons, List.map_nil]); try rfl) ?_; (with_reducible refine (spec_l1Cur_lengths.calls k gb432 l0 0 0 t433 t436 t437 w _ ?side1 ?side2 A2.out).mono ?_); (case side1 => repeat (first | (with_reducible first | exact HI432.out | apply IsS79.alloc | apply IsS79.drewN | apply IsS79.drew | apply IsS79.set_1 | apply IsS79.set_2) | exact HI432.out)); (case side2 => repeat (first | (with_reducible first | exact HB.out | apply below_alloc | apply pw_below_drewN | apply below_drew1 | refine below_set ?_ (IsS79.ge HI432.out)) | exact HB.out)); rintro e w14 ⟨v434, rfl, ho0, hi, hb, hk⟩; refine ⟨_, rfl, ?_⟩; have n0_ := am (Kd.R_lower ho0 (below_size (by repeat (first | (with_reducible first | exact HB.out | apply below_alloc | apply pw_below_drewN | apply below_drew1 | refine below_set ?_ (IsS79.ge HI432.out)) | exact HB.out)))); have n1_ := am (hb); have n2_ := am (hi); clear HB; clear HI432; have Oq0 := n0_; have HB := n1_; have HI432 := n2_; clear n0_ n1_ n2_; (try clear hb); (try clear hb2); (try clear hk); (try clear hi); (try clear ho0); obtain ⟨Ao15, co15, eo15⟩ := Kd.R_slice Oq0.out; subst eo15) | ((with_reducible refine gate_callee (f := 109) rfl ?_); refine goesL_ (some 12) rfl rfl Try.func109 (by kernel_rfl) rfl #[.slice Ao15 t433.length co15] rfl (by (try simp only [List.map_toArray, List.map_cons, List.map_nil]); try rfl) ?_; (with_reducible refine (spec_feGood.calls k _ _ t433 true _ ?side1 ?side2 A3.out).mono ?_); (case side1 => repeat (first | exact (Kd.R_reads' Oq0.out).2.2 | (with_reducible first | refine Kd.C_alloc ?_ _ | refine Kd.C_drewN ?_ _ | refine Kd.C_drew ?_))); (case side2 => exact (Kd.R_reads' Oq0.out).2.1); rintro e w' ⟨rfl, ⟨nd, rfl⟩⟩; refine ⟨_, rfl, ?_⟩; (try (rw [drewN_self w14]; generalize hq_ : World.drewN w14 _ = w14; have n0_ : Aside0 (Kd.R (Kd.int .i64) 3 w14 w.heap.size (fun _ => True) (.slice Ao15 t433.length co15) t433) := ⟨by rw [← hq_]; exact (sqr Oq0)⟩; have n1_ : Aside0 (IsS79 w w14 gb432 l0 t436 t437) := ⟨by rw [← hq_]; exact (by repeat (first | (with_reducible first | exact HI432.out | apply IsS79.alloc | apply IsS79.drewN | apply IsS79.drew | apply IsS79.set_1 | apply IsS79.set_2) | exact HI432.out))⟩; have n2_ : Aside0 (Below w.heap.size w w14) := ⟨by rw [← hq_]; exact (by repeat (first | (with_reducible first | exact HB.out | apply below_alloc | apply pw_below_drewN | apply below_drew1 | refine below_set ?_ (IsS79.ge HI432.out)) | exact HB.out))⟩; clear Oq0 HI432 HB hq_; have Oq0 := n0_; have HI432 := n1_; have HB := n2_; clear n0_ n1_ n2_))) | ((with_reducible refine gate_callee (f := 111) rfl ?_); refine goesL_ (some 16) rfl rfl Try.func111 (by kernel_rfl) rfl #[.slice Ao15 t433.length co15] rfl (by (try simp only [List.map_toArray, List.map_cons, List.map_nil]); try rfl) ?_; (with_reducible refine (spec_feFactors.calls k _ _ t433 t439 _ ?side1 ?side2 A5.out).mono ?_); (case side1 => repeat (first | exact (Kd.R_reads' Oq0.out).2.2 | (with_reducible first | refine Kd.C_alloc ?_ _ | refine Kd.C_drewN ?_ _ | refine Kd.C_drew ?_))); (case side2 => exact (Kd.R_reads' Oq0.out).2.1); rintro e w16 ⟨v440, rfl, ho0, hb⟩; refine ⟨_, rfl, ?_⟩; have n1_ := am (Kd.R_lower (Kd.R_new' ho0 (sqL Oq0)) (below_size (by repeat (first | (with_reducible first | exact HB.out | apply below_alloc | apply pw_below_drewN | apply below_drew1 | refine below_set ?_ (IsS79.ge HI432.out)) | exact HB.out)))); have n2_ := am (IsS79.below (by repeat (first | (with_reducible first | exact HI432.out | apply IsS79.alloc | apply IsS79.drewN | apply IsS79.drew | apply IsS79.set_1 | apply IsS79.set_2) | exact HI432.out)) hb); have n3_ := am (below_step (by repeat (first | (with_reducible first | exact HB.out | apply below_alloc | apply pw_below_drewN | apply below_drew1 | refine below_set ?_ (IsS79.ge HI432.out)) | exact HB.out)) hb); clear HI432; clear HB; replace Oq0 := sqE Oq0 ho0 hb; have Oq1 := n1_; have HI432 := n2_; have HB := n3_; clear n1_ n2_ n3_; (try clear hb); (try clear hb2); (try clear hk); (try clear hi); (try clear ho0)) | ((with_reducible refine gate_callee (f := 123) rfl ?_); refine goesL_ (some 18) rfl rfl Try.func123 (by kernel_rfl) rfl #[.pointer (some ⟨gb432, 0, none⟩), .int .i64 5] rfl (by (try simp only [List.map_toArray, List.map_cons, List.map_nil]); try rfl) ?_; (with_reducible refine (spec_l1Cur_pick.calls gb432 l0 t436 t437 5 t442 t443 t444 w _ ?side1 ?side2 A6.out).mono ?_); (case side1 => repeat (first | (with_reducible first | exact HI432.out | apply IsS79.alloc | apply IsS79.drewN | apply IsS79.drew | apply IsS79.set_1 | apply IsS79.set_2) | exact HI432.out)); (case side2 => repeat (first | (with_reducible first | exact HB.out | apply below_alloc | apply pw_below_drewN | apply below_drew1 | refine below_set ?_ (IsS79.ge HI432.out)) | exact HB.out)); rintro e w17 ⟨rfl, hi, hb, hk⟩; refine ⟨_, rfl, ?_⟩; have n0_ := am (Kd.R_mono (Kd.R_keep (IsS79.apart (show IsS79 w _ gb432 l0 t436 t437 from by repeat (first | (with_reducible first | exact HI432.out | apply IsS79.alloc | apply IsS79.drewN | apply IsS79.drew | apply IsS79.set_1 | apply IsS79.set_2) | exact HI432.out)) (sqr Oq0) (by decide)) hk (fun _ h => h.2)) (fun _ h => h.1)); have n1_ := am (Kd.R_mono (Kd.R_keep (IsS79.apart (show IsS79 w _ gb432 l0 t436 t437 from by repeat (first | (with_reducible first | exact HI432.out | apply IsS79.alloc | apply IsS79.drewN | apply IsS79.drew | apply IsS79.set_1 | apply IsS79.set_2) | exact HI432.out)) (sqr Oq1) (by decide)) hk (fun _ h => h.2)) (fun _ h => h.1)); have n2_ := am (hb); have n3_ := am (hi); clear Oq0; clear Oq1; clear HB; clear HI432; have Oq0 := n0_; have Oq1 := n1_; have HB := n2_; have HI432 := n3_; clear n0_ n1_ n2_ n3_; (try clear hb); (try clear hb2); (try clear hk); (try clear hi)))
     have n0_ := am (Kd.R_drew Oq0.out)
     have n1_ := am (Kd.R_drew Oq1.out)
     have n2_ := am (IsS79.drew HI432.out)
     have n3_ := am (below_drew1 HB.out)
     clear Oq0 Oq1 HI432 HB
     have Oq0 := n0_
     have Oq1 := n1_
     have HI432 := n2_
     have HB := n3_
     clear n0_ n1_ n2_ n3_
     obtain ⟨Ao19, co19, eo19⟩ := Kd.R_slice Oq1.out
     (first | subst eo19 | (injection eo19 with f1_ f2_ f3_; have f4_ := f1_.symm; have f5_ := f3_.symm; clear f1_ f2_ f3_; subst f4_; subst f5_))
     have p448 : 0 ≤ (t445 : Int) := of_decide_eq_true (by first | (with_reducible assumption) | assumption)
     have q448 : t445 < (t439.length : Int) := of_decide_eq_true (by first | (with_reducible assumption) | assumption)
     obtain ⟨ad448, e448, hx448_0⟩ := Kd.at_int (Kd.R_reads' Oq1.out).2.2 t445 p448 q448
     cases e448
     replace p448 := eq_true p448
     replace q448 := eq_true q448
     refine start_ (n := 13) (S := fun w' => w'.cell? (ad448.add (t445).toNat) = some (.int .i64 (rd t439 t445))) (ds := [12]) #[false, false, false, false, false, false, false, false, false, false, false, false, false] (by kernel_rfl) rfl rfl (hx448_0) (fun hHeld => ?_); refine with_tabW spec_DrawLengthsFrom.tab8 spec_DrawLengthsFrom.bits8 (fun HT_ HW_ => ?_)
     generalize w17.drew = w18 at Oq0 Oq1 HI432 HB hx448_0 hHeld ⊢
     refine pure_ (i := 0) (N := some 21) (v := ?_) (a' := ?_) #[true, false, false, false, false, false, false, false, false, false, false, false, false] rfl rfl (any_of HT_.out (by kernel_rfl)) (fun _ _ _ h => h) (Or.inl ⟨by rfl, ?_⟩) ?_ ?_
     rotate_left
     ·
      intro w'
      go_simp
      with_reducible rfl
     rotate_left
     ·
      simp only [Act.put, List.setIfInBounds_toArray, List.set_cons_zero, List.set_cons_succ, i64_w, i32_w]
      rfl
     refine pure_ (i := 1) (N := some 22) (v := ?_) (a' := ?_) #[true, true, false, false, false, false, false, false, false, false, false, false, false] rfl rfl (any_of HT_.out (by kernel_rfl)) (fun _ _ _ h => h) (Or.inl ⟨by rfl, ?_⟩) ?_ ?_
     rotate_left
     ·
      intro w'
      go_simp
      with_reducible rfl
     rotate_left
     ·
      simp only [Act.put, List.setIfInBounds_toArray, List.set_cons_zero, List.set_cons_succ, i64_w, i32_w]
      rfl
     refine pure_ (i := 2) (N := some 23) (v := ?_) (a' := ?_) #[true, true, true, false, false, false, false, false, false, false, false, false, false] rfl rfl (any_of HT_.out (by kernel_rfl)) (fun _ _ _ h => h) (Or.inl ⟨by rfl, ?_⟩) ?_ ?_
     rotate_left
     ·
      intro w'
      go_simp
      with_reducible rfl
     rotate_left
     ·
      simp only [Act.put, List.setIfInBounds_toArray, List.set_cons_zero, List.set_cons_succ, i64_w, i32_w]
      rfl
     refine pure_ (i := 3) (N := some 24) (v := ?_) (a' := ?_) #[true, true, true, true, false, false, false, false, false, false, false, false, false] rfl rfl (any_of HT_.out (by kernel_rfl)) (fun _ _ _ h => h) (Or.inl ⟨by rfl, ?_⟩) ?_ ?_
     rotate_left
     ·
      intro w'
      go_simp
      with_reducible rfl
     rotate_left
     ·
      simp only [Act.put, List.setIfInBounds_toArray, List.set_cons_zero, List.set_cons_succ, i64_w, i32_w]
      rfl
     refine pure_ (i := 7) (N := some 28) (v := ?_) (a' := ?_) #[true, true, true, true, false, false, false, true, false, false, false, false, false] rfl rfl (any_of HT_.out (by kernel_rfl)) (fun _ _ _ h => h) (Or.inl ⟨by rfl, ?_⟩) ?_ ?_
     rotate_left
     ·
      intro w'
      go_simp
      with_reducible rfl
     rotate_left
     ·
      simp only [Act.put, List.setIfInBounds_toArray, List.set_cons_zero, List.set_cons_succ, i64_w, i32_w]
      rfl
     refine one_ (i := 4) (N := some 25) #[true, true, true, true, true, false, false, true, false, false, false, false, false] rfl rfl (one_of HT_.out (by kernel_rfl)) (by decide) (fun K hK => ?_)
     refine goes_ Try.func123 (by kernel_rfl) rfl #[.pointer (some ⟨gb432, 0, none⟩), .int .i64 (t439.length : Int)] (by rfl) rfl rfl (by (try simp only [List.map_toArray, List.map_cons, List.map_nil]); try rfl) ?_
     with_reducible refine (spec_l1Cur_pick.calls gb432 l0 t443 t444 (t439.length : Int) t445 t446 t447 w _ ?side1 ?side2 A8.out).mono ?_
     (case side1 => repeat (first | (with_reducible first | exact HI432.out | apply IsS79.alloc | apply IsS79.drewN | apply IsS79.drew | apply IsS79.set_1 | apply IsS79.set_2) | exact HI432.out))
     (case side2 => repeat (first | (with_reducible first | exact HB.out | apply below_alloc | apply pw_below_drewN | apply below_drew1 | refine below_set ?_ (IsS79.ge HI432.out)) | exact HB.out))
     rintro e w20 ⟨rfl, hi, hb, hk⟩
     have HS0_ := keep_cell hk (hHeld) (by first | (rw [add_block]; exact Kd.own_blk (IsS79.own_ne HI432.out Oq1.out (by decide))) | (show (Addr.add _ _).block ≠ _; rw [add_block]; exact Kd.own_blk (IsS79.own_ne HI432.out Oq1.out (by decide))) | exact Kd.own_blk (IsS79.own_ne HI432.out Oq1.out (by decide)))
     refine ⟨_, rfl, ?_⟩
     have n0_ := am (Kd.R_mono (Kd.R_keep (IsS79.apart (show IsS79 w _ gb432 l0 t443 t444 from by repeat (first | (with_reducible first | exact HI432.out | apply IsS79.alloc | apply IsS79.drewN | apply IsS79.drew | apply IsS79.set_1 | apply IsS79.set_2) | exact HI432.out)) (sqr Oq0) (by decide)) hk (fun _ h => h.2)) (fun _ h => h.1))
     have n1_ := am (Kd.R_mono (Kd.R_keep (IsS79.apart (show IsS79 w _ gb432 l0 t443 t444 from by repeat (first | (with_reducible first | exact HI432.out | apply IsS79.alloc | apply IsS79.drewN | apply IsS79.drew | apply IsS79.set_1 | apply IsS79.set_2) | exact HI432.out)) (sqr Oq1) (by decide)) hk (fun _ h => h.2)) (fun _ h => h.1))
     have n2_ := am (hb)
     have n3_ := am (hi)
     clear Oq0 Oq1 HB HI432
     have Oq0 := n0_
     have Oq1 := n1_
     have HB := n2_
     have HI432 := n3_
     clear n0_ n1_ n2_ n3_
     (try clear hb)
     (try clear hb2)
     (try clear hk)
     (try clear hi)
     refine hK.out _ _ (HS0_) (fun hHeld => ?_)
     clear hK K
     refine norm_ (a' := ?_) ?_ ?_
     rotate_left
     ·
      show Act.put _ (some 25) _ = _
      simp only [Act.put, List.setIfInBounds_toArray, List.set_cons_zero, List.set_cons_succ, i64_w, i32_w]
      rfl
     refine pure_ (i := 5) (N := some 26) (v := ?_) (a' := ?_) #[true, true, true, true, true, true, false, true, false, false, false, false, false] rfl rfl (any_of HT_.out (by kernel_rfl)) (fun _ _ _ h => h) (Or.inl ⟨by rfl, ?_⟩) ?_ ?_
     rotate_left
     ·
      intro w'
      go_simp
      with_reducible rfl
     rotate_left
     ·
      simp only [Act.put, List.setIfInBounds_toArray, List.set_cons_zero, List.set_cons_succ, i64_w, i32_w]
      rfl
     refine take_ (i := 6) (N := some 27) (v := ?_) (a' := ?_) #[true, true, true, true, true, true, true, true, false, false, false, false, false] rfl rfl (take_ofW HT_.out HW_.out (by kernel_rfl)) (fun _ _ _ h => h) (Or.inl ⟨by rfl, ?_⟩) hHeld ?_ ?_
     rotate_left
     ·
      intro w' s0
      go_simp
      with_reducible rfl
     rotate_left
     ·
      simp only [Act.put, List.setIfInBounds_toArray, List.set_cons_zero, List.set_cons_succ, i64_w, i32_w]
      rfl
     refine one_ (i := 8) (N := some 29) #[true, true, true, true, true, true, true, true, true, false, false, false, false] rfl rfl (one_of HT_.out (by kernel_rfl)) (by decide) (fun K hK => ?_)
     refine goes_ Try.func123 (by kernel_rfl) rfl #[.pointer (some ⟨gb432, 0, none⟩), .int .i64 3] (by rfl) rfl rfl (by (try simp only [List.map_toArray, List.map_cons, List.map_nil]); try rfl) ?_
     with_reducible refine (spec_l1Cur_pick.calls gb432 l0 t446 t447 3 t449 t450 t451 w _ ?side1 ?side2 A11.out).mono ?_
     (case side1 => repeat (first | (with_reducible first | exact HI432.out | apply IsS79.alloc | apply IsS79.drewN | apply IsS79.drew | apply IsS79.set_1 | apply IsS79.set_2) | exact HI432.out))
     (case side2 => repeat (first | (with_reducible first | exact HB.out | apply below_alloc | apply pw_below_drewN | apply below_drew1 | refine below_set ?_ (IsS79.ge HI432.out)) | exact HB.out))
     rintro e w21 ⟨rfl, hi, hb, hk⟩
     have HS0_ := keep_cell hk (hHeld) (by first | (rw [add_block]; exact Kd.own_blk (IsS79.own_ne HI432.out Oq1.out (by decide))) | (show (Addr.add _ _).block ≠ _; rw [add_block]; exact Kd.own_blk (IsS79.own_ne HI432.out Oq1.out (by decide))) | exact Kd.own_blk (IsS79.own_ne HI432.out Oq1.out (by decide)))
     refine ⟨_, rfl, ?_⟩
     have n0_ := am (Kd.R_mono (Kd.R_keep (IsS79.apart (show IsS79 w _ gb432 l0 t446 t447 from by repeat (first | (with_reducible first | exact HI432.out | apply IsS79.alloc | apply IsS79.drewN | apply IsS79.drew | apply IsS79.set_1 | apply IsS79.set_2) | exact HI432.out)) (sqr Oq0) (by decide)) hk (fun _ h => h.2)) (fun _ h => h.1))
     have n1_ := am (Kd.R_mono (Kd.R_keep (IsS79.apart (show IsS79 w _ gb432 l0 t446 t447 from by repeat (first | (with_reducible first | exact HI432.out | apply IsS79.alloc | apply IsS79.drewN | apply IsS79.drew | apply IsS79.set_1 | apply IsS79.set_2) | exact HI432.out)) (sqr Oq1) (by decide)) hk (fun _ h => h.2)) (fun _ h => h.1))
     have n2_ := am (hb)
     have n3_ := am (hi)
     clear Oq0 Oq1 HB HI432
     have Oq0 := n0_
     have Oq1 := n1_
     have HB := n2_
     have HI432 := n3_
     clear n0_ n1_ n2_ n3_
     (try clear hb)
     (try clear hb2)
     (try clear hk)
     (try clear hi)
     have p12 : 0 ≤ (t445 : Int) := of_decide_eq_true (by first | (with_reducible assumption) | assumption)
     have q12 : (t445 : Int) < ((t439.length : Int) : Int) := of_decide_eq_true (by first | (with_reducible assumption) | assumption)
     obtain ⟨go12, co12, eo12, gb12, gl12, cl12, HG12⟩ := Kd.R_form Oq1.out (by omega)
     (first | cases eo12 | (injection eo12 with ea_ en_ ec_; (first | subst ea_ | (injection ea_ with ea_; subst ea_)); subst ec_; clear en_))
     have GB12 := Aside0.mk gb12
     have GG12 := Aside0.mk HG12
     clear gb12 gl12 HG12
     (first | simp only [add_plain] at hx448_0 | skip)
     obtain ⟨hx12_0, hf12_0⟩ := Kd.R_celln 0 Oq1.out (t445 : Int) p12 q12
     replace p12 := eq_true p12
     replace q12 := eq_true q12
     have HN432_go12 := am (show gb432 ≠ go12 from by have h_ := IsS79.own_ne HI432.out Oq1.out (by decide); intro e_; exact h_ (by rw [e_]; rfl))
     have HP22 := Kd.R_putn Oq1.out (t445 : Int) (wrap64 ((rd t439 t445) + (wrap64 (t449 - 1))))
     rw [← Ny452.out] at HP22
     have HQ22 := Aside0.mk HP22
     clear HP22
     refine hK.out _ _ (HS0_) (fun hHeld => ?_)
     clear hK K
     refine norm_ (a' := ?_) ?_ ?_
     rotate_left
     ·
      show Act.put _ (some 29) _ = _
      simp only [Act.put, List.setIfInBounds_toArray, List.set_cons_zero, List.set_cons_succ, i64_w, i32_w]
      rfl
     refine pure_ (i := 9) (N := some 30) (v := ?_) (a' := ?_) #[true, true, true, true, true, true, true, true, true, true, false, false, false] rfl rfl (any_of HT_.out (by kernel_rfl)) (fun _ _ _ h => h) (Or.inl ⟨by rfl, ?_⟩) ?_ ?_
     rotate_left
     ·
      intro w'
      go_simp
      with_reducible rfl
     rotate_left
     ·
      simp only [Act.put, List.setIfInBounds_toArray, List.set_cons_zero, List.set_cons_succ, i64_w, i32_w]
      rfl
     refine pure_ (i := 10) (N := some 31) (v := ?_) (a' := ?_) #[true, true, true, true, true, true, true, true, true, true, true, false, false] rfl rfl (any_of HT_.out (by kernel_rfl)) (fun _ _ _ h => h) (Or.inl ⟨by rfl, ?_⟩) ?_ ?_
     rotate_left
     ·
      intro w'
      go_simp
      with_reducible rfl
     rotate_left
     ·
      simp only [Act.put, List.setIfInBounds_toArray, List.set_cons_zero, List.set_cons_succ, i64_w, i32_w]
      rfl
     refine pure_ (i := 11) (N := some 32) (v := ?_) (a' := ?_) #[true, true, true, true, true, true, true, true, true, true, true, true, false] rfl rfl (any_of HT_.out (by kernel_rfl)) (fun _ _ _ h => h) (Or.inl ⟨by rfl, ?_⟩) ?_ ?_
     rotate_left
     ·
      intro w'
      go_simp
      with_reducible rfl
     rotate_left
     ·
      simp only [Act.put, List.setIfInBounds_toArray, List.set_cons_zero, List.set_cons_succ, i64_w, i32_w]
      rfl
     refine last_ (i := 12) (N := none) #[true, true, true, true, true, true, true, true, true, true, true, true, true] rfl rfl (one_of HT_.out (by kernel_rfl)) (by decide) (fun K hK => ?_)
     refine skip_ (w1 := ?_) (by rfl) rfl ?_ ?_
     rotate_left
     ·
      go_simp
      rfl
     refine hK.out _ _ ?_
     clear hK K
     refine done_ (done_of HT_.out (by kernel_rfl)) ?_
     try go_wp2
     go_ret
     exact ⟨_, by first | rfl | (simp [errW_none, errW_some] <;> rfl) | (simp [*, errW_none, errW_some] <;> rfl), by exact sqm HQ22 (fun _ hk => trivial), by repeat (first | (with_reducible first | exact HB.out | apply below_alloc | apply pw_below_drewN | apply below_drew1 | refine below_set ?_ GB12.out | refine below_set ?_ (IsS79.ge HI432.out)) | exact HB.out)⟩
    ·
     rw [if_neg c10] at H
     exact absurd H (by simp)
   ·
    rw [if_neg c9] at H
    exact absurd H (by simp)
  ·
   rw [if_neg c7] at H
   have c7b0 : (t442 == 0) = false := beq_eq_false_iff_ne.mpr c7
   have c7b1 : (t442 != 0) = true := bne_iff_ne.mpr c7
   by_cases c23 : t442 = 1
   ·
    rw [if_pos c23] at H
    have c23b0 : (t442 == 1) = true := beq_iff_eq.mpr c23
    have c23b1 : (t442 != 1) = false := bne_eq_false_iff_eq.mpr c23
    clear c23
    obtain ⟨y453, hy453⟩ : ∃ y_ : List Int, y_ = (([(-9), 9, 4611686018427387904] : List Int)) := ⟨_, rfl⟩
    replace H : ((spec_l1Cur_among.f l0 t443 t444 y453).bind fun bt456 => (if 0 < (t439.length : Int) then (some (t439.set (0 : Int).toNat bt456.1)) else (none))) = some r := by first | (rw [hy453]; with_reducible exact H) | (have H2_ := (Option.bind_some _ _).symm.trans H; rw [hy453]; with_reducible exact H2_) | (have H2_ := (Option.bind_some _ _).symm.trans H; with_reducible exact H2_) | with_reducible exact H | (rw [hy453]; exact H) | exact H
    have Ny453 := Aside0.mk hy453
    clear hy453
    replace H := Option.bind_eq_some_iff.mp H
    obtain ⟨⟨t456, t457, t458⟩, A240, H⟩ := H
    replace H : (if 0 < (t439.length : Int) then (some (t439.set (0 : Int).toNat t456)) else (none)) = some r := H
    have A24 := Aside0.mk A240
    clear A240
    by_cases c25 : 0 < (t439.length : Int)
    ·
     rw [if_pos c25] at H
     have c25b0 : decide (0 < (t439.length : Int)) = true := decide_eq_true c25
     have c25b1 : decide (0 < t439.length) = true := decide_eq_true (by omega)
     clear c25
     obtain ⟨y459, hy459⟩ : ∃ y_ : List Int, y_ = (t439.set (0 : Int).toNat t456) := ⟨_, rfl⟩
     replace H : (some y459) = some r := by first | (rw [hy459]; with_reducible exact H) | (have H2_ := (Option.bind_some _ _).symm.trans H; rw [hy459]; with_reducible exact H2_) | (have H2_ := (Option.bind_some _ _).symm.trans H; with_reducible exact H2_) | with_reducible exact H | (rw [hy459]; exact H) | exact H
     have Ny459 := Aside0.mk hy459
     clear hy459
     obtain rfl := Option.some.inj H
     go_enter Try.func44, Try.ntmps44
     go_wp2_with (first | ((with_reducible refine gate_dst (N := 8) rfl ?_); refine box_event ?hg (N := 8) ?hd (cs := #[.slice A0 l0.length c0, .int .i64 0, .int .u64 0]) (t := 79) ?hr ?_; (case hd => rfl); (case hg => rfl); (case hr => first | (go_simp; done) | (go_simp; rfl)); intro gb432 hg w27 hbox hb; have n0_ := am (below_step (by repeat with_reducible first | exact HB.out | apply pw_below_drewN | apply below_drew1) hb); have n1_ := am ((show IsS79 w w27 gb432 l0 0 0 from ⟨_, _, hbox, (by rw [hg]; exact (below_size (by repeat with_reducible first | exact HB.out | apply pw_below_drewN | apply below_drew1)) : w.heap.size ≤ gb432), HR0.out⟩)); have n2_ := am ((by rw [hg]; exact (below_size (by repeat with_reducible first | exact HB.out | apply pw_below_drewN | apply below_drew1)) : w.heap.size ≤ gb432)); have n3_ := am ((by rw [hg]; exact (below_size (by repeat with_reducible first | exact HB.out | apply pw_below_drewN | apply below_drew1)) : w.heap.size ≤ gb432)); clear HB; have HB := n0_; have HI432 := n1_; have GW432 := n2_; have GE432 := n3_; clear n0_ n1_ n2_ n3_; clear hb hbox hg) | ((with_reducible refine gate_callee (f := 105) rfl ?_); refine goesL_ (some 10) rfl rfl Try.func105 (by kernel_rfl) rfl #[.pointer (some ⟨gb432, 0, none⟩)] rfl (by (try simp only [List.map_toArray, List.map_cons, List.map_nil]); try rfl) ?_; (with_reducible refine (spec_l1Cur_lengths.calls k gb432 l0 0 0 t433 t436 t437 w _ ?side1 ?side2 A2.out).mono ?_); (case side1 => repeat (first | (with_reducible first | exact HI432.out | apply IsS79.alloc | apply IsS79.drewN | apply IsS79.drew | apply IsS79.set_1 | apply IsS79.set_2) | exact HI432.out)); (case side2 => repeat (first | (with_reducible first | exact HB.out | apply below_alloc | apply pw_below_drewN | apply below_drew1 | refine below_set ?_ (IsS79.ge HI432.out)) | exact HB.out)); rintro e w28 ⟨v434, rfl, ho0, hi, hb, hk⟩; refine ⟨_, rfl, ?_⟩; have n0_ := am (Kd.R_lower ho0 (below_size (by repeat (first | (with_reducible first | exact HB.out | apply below_alloc | apply pw_below_drewN | apply below_drew1 | refine below_set ?_ (IsS79.ge HI432.out)) | exact HB.out)))); have n1_ := am (hb); have n2_ := am (hi); clear HB; clear HI432; have Oq0 := n0_; have HB := n1_; have HI432 := n2_; clear n0_ n1_ n2_; (try clear hb); (try clear hb2); (try clear hk); (try clear hi); (try clear ho0); obtain ⟨Ao29, co29, eo29⟩ := Kd.R_slice Oq0.out; subst eo29) | ((with_reducible refine gate_callee (f := 109) rfl ?_); refine goesL_ (some 12) rfl rfl Try.func109 (by kernel_rfl) rfl #[.slice Ao29 t433.length co29] rfl (by (try simp only [List.map_toArray, List.map_cons, List.map_nil]); try rfl) ?_; (with_reducible refine (spec_feGood.calls k _ _ t433 true _ ?side1 ?side2 A3.out).mono ?_); (case side1 => repeat (first | exact (Kd.R_reads' Oq0.out).2.2 | (with_reducible first | refine Kd.C_alloc ?_ _ | refine Kd.C_drewN ?_ _ | refine Kd.C_drew ?_))); (case side2 => exact (Kd.R_reads' Oq0.out).2.1); rintro e w' ⟨rfl, ⟨nd, rfl⟩⟩; refine ⟨_, rfl, ?_⟩; (try (rw [drewN_self w28]; generalize hq_ : World.drewN w28 _ = w28; have n0_ : Aside0 (Kd.R (Kd.int .i64) 3 w28 w.heap.size (fun _ => True) (.slice Ao29 t433.length co29) t433) := ⟨by rw [← hq_]; exact (sqr Oq0)⟩; have n1_ : Aside0 (IsS79 w w28 gb432 l0 t436 t437) := ⟨by rw [← hq_]; exact (by repeat (first | (with_reducible first | exact HI432.out | apply IsS79.alloc | apply IsS79.drewN | apply IsS79.drew | apply IsS79.set_1 | apply IsS79.set_2) | exact HI432.out))⟩; have n2_ : Aside0 (Below w.heap.size w w28) := ⟨by rw [← hq_]; exact (by repeat (first | (with_reducible first | exact HB.out | apply below_alloc | apply pw_below_drewN | apply below_drew1 | refine below_set ?_ (IsS79.ge HI432.out)) | exact HB.out))⟩; clear Oq0 HI432 HB hq_; have Oq0 := n0_; have HI432 := n1_; have HB := n2_; clear n0_ n1_ n2_))) | ((with_reducible refine gate_callee (f := 111) rfl ?_); refine goesL_ (some 16) rfl rfl Try.func111 (by kernel_rfl) rfl #[.slice Ao29 t433.length co29] rfl (by (try simp only [List.map_toArray, List.map_cons, List.map_nil]); try rfl) ?_; (with_reducible refine (spec_feFactors.calls k _ _ t433 t439 _ ?side1 ?side2 A5.out).mono ?_); (case side1 => repeat (first | exact (Kd.R_reads' Oq0.out).2.2 | (with_reducible first | refine Kd.C_alloc ?_ _ | refine Kd.C_drewN ?_ _ | refine Kd.C_drew ?_))); (case side2 => exact (Kd.R_reads' Oq0.out).2.1); rintro e w30 ⟨v440, rfl, ho0, hb⟩; refine ⟨_, rfl, ?_⟩; have n1_ := am (Kd.R_lower (Kd.R_new' ho0 (sqL Oq0)) (below_size (by repeat (first | (with_reducible first | exact HB.out | apply below_alloc | apply pw_below_drewN | apply below_drew1 | refine below_set ?_ (IsS79.ge HI432.out)) | exact HB.out)))); have n2_ := am (IsS79.below (by repeat (first | (with_reducible first | exact HI432.out | apply IsS79.alloc | apply IsS79.drewN | apply IsS79.drew | apply IsS79.set_1 | apply IsS79.set_2) | exact HI432.out)) hb); have n3_ := am (below_step (by repeat (first | (with_reducible first | exact HB.out | apply below_alloc | apply pw_below_drewN | apply below_drew1 | refine below_set ?_ (IsS79.ge HI432.out)) | exact HB.out)) hb); clear HI432; clear HB; replace Oq0 := sqE Oq0 ho0 hb; have Oq1 := n1_; have HI432 := n2_; have HB := n3_; clear n1_ n2_ n3_; (try clear hb); (try clear hb2); (try clear hk); (try clear hi); (try clear ho0)) | ((with_reducible refine gate_callee (f := 123) rfl ?_); refine goesL_ (some 18) rfl rfl Try.func123 (by kernel_rfl) rfl #[.pointer (some ⟨gb432, 0, none⟩), .int .i64 5] rfl (by (try simp only [List.map_toArray, List.map_cons, List.map_nil]); try rfl) ?_; (with_reducible refine (spec_l1Cur_pick.calls gb432 l0 t436 t437 5 t442 t443 t444 w _ ?side1 ?side2 A6.out).mono ?_); (case side1 => repeat (first | (with_reducible first | exact HI432.out | apply IsS79.alloc | apply IsS79.drewN | apply IsS79.drew | apply IsS79.set_1 | apply IsS79.set_2) | exact HI432.out)); (case side2 => repeat (first | (with_reducible first | exact HB.out | apply below_alloc | apply pw_below_drewN | apply below_drew1 | refine below_set ?_ (IsS79.ge HI432.out)) | exact HB.out)); rintro e w31 ⟨rfl, hi, hb, hk⟩; refine ⟨_, rfl, ?_⟩; have n0_ := am (Kd.R_mono (Kd.R_keep (IsS79.apart (show IsS79 w _ gb432 l0 t436 t437 from by repeat (first | (with_reducible first | exact HI432.out | apply IsS79.alloc | apply IsS79.drewN | apply IsS79.drew | apply IsS79.set_1 | apply IsS79.set_2) | exact HI432.out)) (sqr Oq0) (by decide)) hk (fun _ h => h.2)) (fun _ h => h.1)); have n1_ := am (Kd.R_mono (Kd.R_keep (IsS79.apart (show IsS79 w _ gb432 l0 t436 t437 from by repeat (first | (with_reducible first | exact HI432.out | apply IsS79.alloc | apply IsS79.drewN | apply IsS79.drew | apply IsS79.set_1 | apply IsS79.set_2) | exact HI432.out)) (sqr Oq1) (by decide)) hk (fun _ h => h.2)) (fun _ h => h.1)); have n2_ := am (hb); have n3_ := am (hi); clear Oq0; clear Oq1; clear HB; clear HI432; have Oq0 := n0_; have Oq1 := n1_; have HB := n2_; have HI432 := n3_; clear n0_ n1_ n2_ n3_; (try clear hb); (try clear hb2); (try clear hk); (try clear hi)) | ((with_reducible refine gate_dst (N := 37) rfl ?_); refine Kd.R_lit (Kd.int .i64) _ 3 ?hg (N := 37) ?hd (xs := ([(-9), 9, 4611686018427387904] : List Int)) (inner := [.int .i64 (-9), .int .i64 9, .int .i64 4611686018427387904]) (ok := fun _ => True) (okp := fun _ => True) ?hr ?hp (fun _ hk => hk) trivial (Below.refl _ _) (Nat.le_refl _) (by simp) ?_; (case hd => rfl); (case hg => rfl); (case hr => first | (go_simp; done) | (go_simp; rfl)); (case hp => exact (Reps.one (show Kd.M (Kd.int .i64) _ _ _ (-9) [.int .i64 (-9)] from rfl) (Reps.one (show Kd.M (Kd.int .i64) _ _ _ 9 [.int .i64 9] from rfl) (Reps.one (show Kd.M (Kd.int .i64) _ _ _ 4611686018427387904 [.int .i64 4611686018427387904] from rfl) (Reps.none _ _))))); intro v454 w32 ho33 hb hg_ hnew_; clear hg_ hnew_; (first | rw [← Ny453.out] at ho33 | (simp only [Int.reduceToNat] at ho33; rw [← Ny453.out] at ho33)); have n0_ := am (Kd.R_elder' (sqr Oq0) (Kd.R_base ho33) hb); have n1_ := am (Kd.R_elder' (sqr Oq1) (Kd.R_base ho33) hb); have n2_ := am (Kd.R_lower (Kd.R_new' (Kd.R_new' ho33 (sqL Oq0)) (sqL Oq1)) (below_size (by repeat (first | (with_reducible first | exact HB.out | apply below_alloc | apply pw_below_drewN | apply below_drew1 | refine below_set ?_ (IsS79.ge HI432.out)) | exact HB.out)))); have n3_ := am (IsS79.below (by repeat (first | (with_reducible first | exact HI432.out | apply IsS79.alloc | apply IsS79.drewN | apply IsS79.drew | apply IsS79.set_1 | apply IsS79.set_2) | exact HI432.out)) hb); have n4_ := am (below_step (by repeat (first | (with_reducible first | exact HB.out | apply below_alloc | apply pw_below_drewN | apply below_drew1 | refine below_set ?_ (IsS79.ge HI432.out)) | exact HB.out)) hb); clear Oq0; clear Oq1; clear HI432; clear HB; have Oq0 := n0_; have Oq1 := n1_; have Oq2 := n2_; have HI432 := n3_; have HB := n4_; clear n0_ n1_ n2_ n3_ n4_; clear hb ho33; obtain ⟨Ao34, co34, eo34⟩ := Kd.R_slice Oq2.out; subst eo34) | ((with_reducible refine gate_callee (f := 133) rfl ?_); refine goesL_ (some 38) rfl rfl Try.func133 (by kernel_rfl) rfl #[.pointer (some ⟨gb432, 0, none⟩), .slice Ao34 y453.length co34] rfl (by (try simp only [List.map_toArray, List.map_cons, List.map_nil]); try rfl) ?_; (with_reducible refine (spec_l1Cur_among.calls gb432 l0 t443 t444 _ _ y453 t456 t457 t458 w _ ?side1 ?side2 ?side3 ?side4 ?side5 A24.out).mono ?_); (case side1 => repeat (first | (with_reducible first | exact HI432.out | apply IsS79.alloc | apply IsS79.drewN | apply IsS79.drew | apply IsS79.set_1 | apply IsS79.set_2) | exact HI432.out)); (case side2 => repeat (first | (with_reducible first | exact HB.out | apply below_alloc | apply pw_below_drewN | apply below_drew1 | refine below_set ?_ (IsS79.ge HI432.out)) | exact HB.out)); (case side3 => repeat (first | exact (Kd.R_reads' Oq2.out).2.2 | (with_reducible first | refine Kd.C_alloc ?_ _ | refine Kd.C_drewN ?_ _ | refine Kd.C_drew ?_))); (case side4 => exact (Kd.R_reads' Oq2.out).2.1); (case side5 => exact far_slice (IsS79.own_ne HI432.out Oq2.out (by decide))); rintro e w35 ⟨rfl, hi, hb, hk⟩; refine ⟨_, rfl, ?_⟩; have n0_ := am (Kd.R_mono (Kd.R_keep (IsS79.apart (show IsS79 w _ gb432 l0 t443 t444 from by repeat (first | (with_reducible first | exact HI432.out | apply IsS79.alloc | apply IsS79.drewN | apply IsS79.drew | apply IsS79.set_1 | apply IsS79.set_2) | exact HI432.out)) (sqr Oq0) (by decide)) hk (fun _ h => h.2)) (fun _ h => h.1)); have n1_ := am (Kd.R_mono (Kd.R_keep (IsS79.apart (show IsS79 w _ gb432 l0 t443 t444 from by repeat (first | (with_reducible first | exact HI432.out | apply IsS79.alloc | apply IsS79.drewN | apply IsS79.drew | apply IsS79.set_1 | apply IsS79.set_2) | exact HI432.out)) (sqr Oq1) (by decide)) hk (fun _ h => h.2)) (fun _ h => h.1)); have n2_ := am (Kd.R_mono (Kd.R_keep (IsS79.apart (show IsS79 w _ gb432 l0 t443 t444 from by repeat (first | (with_reducible first | exact HI432.out | apply IsS79.alloc | apply IsS79.drewN | apply IsS79.drew | apply IsS79.set_1 | apply IsS79.set_2) | exact HI432.out)) (sqr Oq2) (by decide)) hk (fun _ h => h.2)) (fun _ h => h.1)); have n3_ := am (hb); have n4_ := am (hi); clear Oq0; clear Oq1; clear Oq2; clear HB; clear HI432; have Oq0 := n0_; have Oq1 := n1_; have Oq2 := n2_; have HB := n3_; have HI432 := n4_; clear n0_ n1_ n2_ n3_ n4_; (try clear hb); (try clear hb2); (try clear hk); (try clear hi); have p26 : 0 ≤ (0 : Int) := (by omega); have q26 : (0 : Int) < ((t439.length : Int) : Int) := of_decide_eq_true (by first | (with_reducible assumption) | assumption); have qi26 : (0 < t439.length) = True := eq_true (by omega); obtain ⟨go26, co26, eo26, gb26, gl26, cl26, HG26⟩ := Kd.R_form Oq1.out (by omega); (first | cases eo26 | (injection eo26 with ea_ en_ ec_; (first | subst ea_ | (injection ea_ with ea_; subst ea_)); subst ec_; clear en_)); have GB26 := Aside0.mk gb26; have GG26 := Aside0.mk HG26; clear gb26 gl26 HG26; obtain ⟨hx26_0, hf26_0⟩ := Kd.R_celln 0 Oq1.out (0 : Int) p26 q26; (try rw [show ((0 : Int)).toNat = 0 from rfl] at hx26_0); (try simp only [Nat.reduceMul, Nat.zero_mul, Nat.zero_add, Nat.reduceAdd] at hx26_0); (try rw [show ((0 : Int)).toNat = 0 from rfl] at hf26_0); (try simp only [Nat.reduceMul, Nat.zero_mul, Nat.zero_add, Nat.reduceAdd] at hf26_0); replace p26 := eq_true p26; replace q26 := eq_true q26; have n_ := am (Kd.R_mono (ok' := (fun k_ => some k_ ≠ (.slice Ao29 t433.length co29 : Value).ownBlock ∧ some k_ ≠ (.slice Ao34 y453.length co34 : Value).ownBlock)) Oq1.out (fun k_ hk => ⟨hk.1.2, hk.2⟩)); clear Oq1; have Oq1 := n_; clear n_; obtain ⟨hy36_, hz36_⟩ := Kd.R_celln 0 Oq1.out (0 : Int) (by omega) (of_decide_eq_true (by first | (with_reducible assumption) | assumption)); (try simp only [Int.reduceToNat, Int.toNat_zero, Int.toNat_ofNat, Nat.reduceMul, Nat.zero_mul, Nat.zero_add] at hy36_ hz36_); (try rw [show ((0 : Int)).toNat = 0 from rfl] at hy36_); (try rw [show ((0 : Int)).toNat = 0 from rfl] at hz36_); have HP36 := Kd.R_putg Oq1.out (0 : Int) t456) | ((with_reducible refine gate_store (t := 3) (p := 39) rfl ?_); refine store_event (t := 3) (p := 39) (v := ?vo_w37) (w1 := (w35.setCell ⟨go26, (0 : Int).toNat, none⟩ (.int .i64 t456))) ?hg ?ho ?hn ?hr ?_; (case ho => rfl); (case hg => rfl); (case hn => rfl); (case hr => first | (go_simp; done) | (go_simp; rfl)); intro w37 hw; have hg : w35.grownBy w37 (some go26) := (by rw [hw]; exact HP36.2); have hp_ : Kd.R (Kd.int .i64) 3 w37 w.heap.size (fun k_ => some k_ ≠ (.slice Ao29 t433.length co29 : Value).ownBlock ∧ some k_ ≠ (.slice Ao34 y453.length co34 : Value).ownBlock) (.slice (some ⟨go26, 0, none⟩) t439.length co26) y459 := (by rw [hw, Ny459.out]; exact HP36.1); clear HP36; have n0_ := am (IsS79.grown (by repeat (first | (with_reducible first | exact HI432.out | apply IsS79.alloc | apply IsS79.drewN | apply IsS79.drew | apply IsS79.set_1 | apply IsS79.set_2) | exact HI432.out)) hg (IsS79.own_ne HI432.out Oq1.out (by decide))); have n1_ := am (Kd.R_after (v := (.slice (some ⟨go26, 0, none⟩) t439.length co26)) (v1 := (.slice (some ⟨go26, 0, none⟩) t439.length co26)) (ok := (fun k_ => some k_ ≠ (.slice Ao34 y453.length co34 : Value).ownBlock)) (by exact sqm Oq0 (fun _ hk => ⟨hk.2, hk.1.2⟩)) hg (.inl rfl)); have n2_ := am (hp_); have n3_ := am (Kd.R_after (v := (.slice (some ⟨go26, 0, none⟩) t439.length co26)) (v1 := (.slice (some ⟨go26, 0, none⟩) t439.length co26)) (ok := (fun k_ => some k_ ≠ (.slice Ao29 t433.length co29 : Value).ownBlock)) (by exact sqm Oq2 (fun _ hk => ⟨hk.1.2, hk.2⟩)) hg (.inl rfl)); have n4_ := am ((by rw [hw]; exact below_set (HB.out) GB26.out : Below w.heap.size w w37)); clear HI432; clear Oq0; clear Oq1; clear Oq2; clear HB; have HI432 := n0_; have Oq0 := n1_; have Oq1 := n2_; have Oq2 := n3_; have HB := n4_; clear n0_ n1_ n2_ n3_ n4_; clear hg hw hp_))
     go_ret
     exact ⟨_, by first | rfl | (simp [errW_none, errW_some] <;> rfl) | (simp [*, errW_none, errW_some] <;> rfl), by exact sqm Oq1 (fun _ hk => trivial), by repeat (first | (with_reducible first | exact HB.out | apply below_alloc | apply pw_below_drewN | apply below_drew1 | refine below_set ?_ (IsS79.ge HI432.out)) | exact HB.out)⟩
    ·
     rw [if_neg c25] at H
     exact absurd H (by simp)
   ·
    rw [if_neg c23] at H
    have c23b0 : (t442 == 1) = false := beq_eq_false_iff_ne.mpr c23
    have c23b1 : (t442 != 1) = true := bne_iff_ne.mpr c23
    obtain rfl := Option.some.inj H
    go_enter Try.func44, Try.ntmps44
    go_wp2_with (first | ((with_reducible refine gate_dst (N := 8) rfl ?_); refine box_event ?hg (N := 8) ?hd (cs := #[.slice A0 l0.length c0, .int .i64 0, .int .u64 0]) (t := 79) ?hr ?_; (case hd => rfl); (case hg => rfl); (case hr => first | (go_simp; done) | (go_simp; rfl)); intro gb432 hg w38 hbox hb; have n0_ := am (below_step (by repeat with_reducible first | exact HB.out | apply pw_below_drewN | apply below_drew1) hb); have n1_ := am ((show IsS79 w w38 gb432 l0 0 0 from ⟨_, _, hbox, (by rw [hg]; exact (below_size (by repeat with_reducible first | exact HB.out | apply pw_below_drewN | apply below_drew1)) : w.heap.size ≤ gb432), HR0.out⟩)); have n2_ := am ((by rw [hg]; exact (below_size (by repeat with_reducible first | exact HB.out | apply pw_below_drewN | apply below_drew1)) : w.heap.size ≤ gb432)); have n3_ := am ((by rw [hg]; exact (below_size (by repeat with_reducible first | exact HB.out | apply pw_below_drewN | apply below_drew1)) : w.heap.size ≤ gb432)); clear HB; have HB := n0_; have HI432 := n1_; have GW432 := n2_; have GE432 := n3_; clear n0_ n1_ n2_ n3_; clear hb hbox hg) | ((with_reducible refine gate_callee (f := 105) rfl ?_); refine goesL_ (some 10) rfl rfl Try.func105 (by kernel_rfl) rfl #[.pointer (some ⟨gb432, 0, none⟩)] rfl (by (try simp only [List.map_toArray, List.map_cons, List.map_nil]); try rfl) ?_; (with_reducible refine (spec_l1Cur_lengths.calls k gb432 l0 0 0 t433 t436 t437 w _ ?side1 ?side2 A2.out).mono ?_); (case side1 => repeat (first | (with_reducible first | exact HI432.out | apply IsS79.alloc | apply IsS79.drewN | apply IsS79.drew | apply IsS79.set_1 | apply IsS79.set_2) | exact HI432.out)); (case side2 => repeat (first | (with_reducible first | exact HB.out | apply below_alloc | apply pw_below_drewN | apply below_drew1 | refine below_set ?_ (IsS79.ge HI432.out)) | exact HB.out)); rintro e w39 ⟨v434, rfl, ho0, hi, hb, hk⟩; refine ⟨_, rfl, ?_⟩; have n0_ := am (Kd.R_lower ho0 (below_size (by repeat (first | (with_reducible first | exact HB.out | apply below_alloc | apply pw_below_drewN | apply below_drew1 | refine below_set ?_ (IsS79.ge HI432.out)) | exact HB.out)))); have n1_ := am (hb); have n2_ := am (hi); clear HB; clear HI432; have Oq0 := n0_; have HB := n1_; have HI432 := n2_; clear n0_ n1_ n2_; (try clear hb); (try clear hb2); (try clear hk); (try clear hi); (try clear ho0); obtain ⟨Ao40, co40, eo40⟩ := Kd.R_slice Oq0.out; subst eo40) | ((with_reducible refine gate_callee (f := 109) rfl ?_); refine goesL_ (some 12) rfl rfl Try.func109 (by kernel_rfl) rfl #[.slice Ao40 t433.length co40] rfl (by (try simp only [List.map_toArray, List.map_cons, List.map_nil]); try rfl) ?_; (with_reducible refine (spec_feGood.calls k _ _ t433 true _ ?side1 ?side2 A3.out).mono ?_); (case side1 => repeat (first | exact (Kd.R_reads' Oq0.out).2.2 | (with_reducible first | refine Kd.C_alloc ?_ _ | refine Kd.C_drewN ?_ _ | refine Kd.C_drew ?_))); (case side2 => exact (Kd.R_reads' Oq0.out).2.1); rintro e w' ⟨rfl, ⟨nd, rfl⟩⟩; refine ⟨_, rfl, ?_⟩) | ((with_reducible refine gate_callee (f := 111) rfl ?_); refine goesL_ (some 16) rfl rfl Try.func111 (by kernel_rfl) rfl #[.slice Ao40 t433.length co40] rfl (by (try simp only [List.map_toArray, List.map_cons, List.map_nil]); try rfl) ?_; (with_reducible refine (spec_feFactors.calls k _ _ t433 t439 _ ?side1 ?side2 A5.out).mono ?_); (case side1 => repeat (first | exact (Kd.R_reads' Oq0.out).2.2 | (with_reducible first | refine Kd.C_alloc ?_ _ | refine Kd.C_drewN ?_ _ | refine Kd.C_drew ?_))); (case side2 => exact (Kd.R_reads' Oq0.out).2.1); rintro e w41 ⟨v440, rfl, ho0, hb⟩; refine ⟨_, rfl, ?_⟩; have n1_ := am (Kd.R_lower (Kd.R_new' ho0 (sqL Oq0)) (below_size (by repeat (first | (with_reducible first | exact HB.out | apply below_alloc | apply pw_below_drewN | apply below_drew1 | refine below_set ?_ (IsS79.ge HI432.out)) | exact HB.out)))); have n2_ := am (IsS79.below (by repeat (first | (with_reducible first | exact HI432.out | apply IsS79.alloc | apply IsS79.drewN | apply IsS79.drew | apply IsS79.set_1 | apply IsS79.set_2) | exact HI432.out)) hb); have n3_ := am (below_step (by repeat (first | (with_reducible first | exact HB.out | apply below_alloc | apply pw_below_drewN | apply below_drew1 | refine below_set ?_ (IsS79.ge HI432.out)) | exact HB.out)) hb); clear HI432; clear HB; replace Oq0 := sqE Oq0 ho0 hb; have Oq1 := n1_; have HI432 := n2_; have HB := n3_; clear n1_ n2_ n3_; (try clear hb); (try clear hb2); (try clear hk); (try clear hi); (try clear ho0)) | ((with_reducible refine gate_callee (f := 123) rfl ?_); refine goesL_ (some 18) rfl rfl Try.func123 (by kernel_rfl) rfl #[.pointer (some ⟨gb432, 0, none⟩), .int .i64 5] rfl (by (try simp only [List.map_toArray, List.map_cons, List.map_nil]); try rfl) ?_; (with_reducible refine (spec_l1Cur_pick.calls gb432 l0 t436 t437 5 t442 t443 t444 w _ ?side1 ?side2 A6.out).mono ?_); (case side1 => repeat (first | (with_reducible first | exact HI432.out | apply IsS79.alloc | apply IsS79.drewN | apply IsS79.drew | apply IsS79.set_1 | apply IsS79.set_2) | exact HI432.out)); (case side2 => repeat (first | (with_reducible first | exact HB.out | apply below_alloc | apply pw_below_drewN | apply below_drew1 | refine below_set ?_ (IsS79.ge HI432.out)) | exact HB.out)); rintro e w42 ⟨rfl, hi, hb, hk⟩; refine ⟨_, rfl, ?_⟩; have n0_ := am (Kd.R_mono (Kd.R_keep (IsS79.apart (show IsS79 w _ gb432 l0 t436 t437 from by repeat (first | (with_reducible first | exact HI432.out | apply IsS79.alloc | apply IsS79.drewN | apply IsS79.drew | apply IsS79.set_1 | apply IsS79.set_2) | exact HI432.out)) (sqr Oq0) (by decide)) hk (fun _ h => h.2)) (fun _ h => h.1)); have n1_ := am (Kd.R_mono (Kd.R_keep (IsS79.apart (show IsS79 w _ gb432 l0 t436 t437 from by repeat (first | (with_reducible first | exact HI432.out | apply IsS79.alloc | apply IsS79.drewN | apply IsS79.drew | apply IsS79.set_1 | apply IsS79.set_2) | exact HI432.out)) (sqr Oq1) (by decide)) hk (fun _ h => h.2)) (fun _ h => h.1)); have n2_ := am (hb); have n3_ := am (hi); clear Oq0; clear Oq1; clear HB; clear HI432; have Oq0 := n0_; have Oq1 := n1_; have HB := n2_; have HI432 := n3_; clear n0_ n1_ n2_ n3_; (try clear hb); (try clear hb2); (try clear hk); (try clear hi)))
    go_ret
    exact ⟨_, by first | rfl | (simp [errW_none, errW_some] <;> rfl) | (simp [*, errW_none, errW_some] <;> rfl), by exact sqm Oq1 (fun _ hk => trivial), by repeat (first | (with_reducible first | exact HB.out | apply below_alloc | apply pw_below_drewN | apply below_drew1 | refine below_set ?_ (IsS79.ge HI432.out)) | exact HB.out)⟩
 ·
  replace c4 := Bool.eq_false_iff.mpr c4
  subst c4
  have H1 : (some t433) = some r := by first | (rw [if_neg (show ¬ (false = true) by decide)] at H; exact H) | rfl
  clear H
  have H := H1
  clear H1
  obtain rfl := Option.some.inj H
  go_enter Try.func44, Try.ntmps44
  go_wp2_with (first | ((with_reducible refine gate_dst (N := 8) rfl ?_); refine box_event ?hg (N := 8) ?hd (cs := #[.slice A0 l0.length c0, .int .i64 0, .int .u64 0]) (t := 79) ?hr ?_; (case hd => rfl); (case hg => rfl); (case hr => first | (go_simp; done) | (go_simp; rfl)); intro gb432 hg w43 hbox hb; have n0_ := am (below_step (by repeat with_reducible first | exact HB.out | apply pw_below_drewN | apply below_drew1) hb); have n1_ := am ((show IsS79 w w43 gb432 l0 0 0 from ⟨_, _, hbox, (by rw [hg]; exact (below_size (by repeat with_reducible first | exact HB.out | apply pw_below_drewN | apply below_drew1)) : w.heap.size ≤ gb432), HR0.out⟩)); have n2_ := am ((by rw [hg]; exact (below_size (by repeat with_reducible first | exact HB.out | apply pw_below_drewN | apply below_drew1)) : w.heap.size ≤ gb432)); have n3_ := am ((by rw [hg]; exact (below_size (by repeat with_reducible first | exact HB.out | apply pw_below_drewN | apply below_drew1)) : w.heap.size ≤ gb432)); clear HB; have HB := n0_; have HI432 := n1_; have GW432 := n2_; have GE432 := n3_; clear n0_ n1_ n2_ n3_; clear hb hbox hg) | ((with_reducible refine gate_callee (f := 105) rfl ?_); refine goesL_ (some 10) rfl rfl Try.func105 (by kernel_rfl) rfl #[.pointer (some ⟨gb432, 0, none⟩)] rfl (by (try simp only [List.map_toArray, List.map_cons, List.map_nil]); try rfl) ?_; (with_reducible refine (spec_l1Cur_lengths.calls k gb432 l0 0 0 t433 t436 t437 w _ ?side1 ?side2 A2.out).mono ?_); (case side1 => repeat (first | (with_reducible first | exact HI432.out | apply IsS79.alloc | apply IsS79.drewN | apply IsS79.drew | apply IsS79.set_1 | apply IsS79.set_2) | exact HI432.out)); (case side2 => repeat (first | (with_reducible first | exact HB.out | apply below_alloc | apply pw_below_drewN | apply below_drew1 | refine below_set ?_ (IsS79.ge HI432.out)) | exact HB.out)); rintro e w44 ⟨v434, rfl, ho0, hi, hb, hk⟩; refine ⟨_, rfl, ?_⟩; have n0_ := am (Kd.R_lower ho0 (below_size (by repeat (first | (with_reducible first | exact HB.out | apply below_alloc | apply pw_below_drewN | apply below_drew1 | refine below_set ?_ (IsS79.ge HI432.out)) | exact HB.out)))); have n1_ := am (hb); have n2_ := am (hi); clear HB; clear HI432; have Oq0 := n0_; have HB := n1_; have HI432 := n2_; clear n0_ n1_ n2_; (try clear hb); (try clear hb2); (try clear hk); (try clear hi); (try clear ho0); obtain ⟨Ao45, co45, eo45⟩ := Kd.R_slice Oq0.out; subst eo45) | ((with_reducible refine gate_callee (f := 109) rfl ?_); refine goesL_ (some 12) rfl rfl Try.func109 (by kernel_rfl) rfl #[.slice Ao45 t433.length co45] rfl (by (try simp only [List.map_toArray, List.map_cons, List.map_nil]); try rfl) ?_; (with_reducible refine (spec_feGood.calls k _ _ t433 false _ ?side1 ?side2 A3.out).mono ?_); (case side1 => repeat (first | exact (Kd.R_reads' Oq0.out).2.2 | (with_reducible first | refine Kd.C_alloc ?_ _ | refine Kd.C_drewN ?_ _ | refine Kd.C_drew ?_))); (case side2 => exact (Kd.R_reads' Oq0.out).2.1); rintro e w' ⟨rfl, ⟨nd, rfl⟩⟩; refine ⟨_, rfl, ?_⟩))
  go_ret
  exact ⟨_, by first | rfl | (simp [errW_none, errW_some] <;> rfl) | (simp [*, errW_none, errW_some] <;> rfl), by (with_reducible repeat (first | apply Kd.R_alloc | apply Kd.R_drewN | apply Kd.R_drew)); exact Oq0.out, by repeat (first | (with_reducible first | exact HB.out | apply below_alloc | apply pw_below_drewN | apply below_drew1 | refine below_set ?_ (IsS79.ge HI432.out)) | exact HB.out)⟩

/-! ### impl_LengthsFrom: function 45 -/
def impl_LengthsFrom.j0 : Nat → List Int → Bool → Option (List Int × Bool)
 | 0, _, _ => none
 | k + 1, x0, x13 => if x13 = true then (some (([] : List Int), false)) else ((impl_having.f k x0).bind fun t462 => (if (t462.length : Int) = 0 then (some (([] : List Int), false)) else (if 0 < (t462.length : Int) then (some (rd_L2 t462 0, true)) else (none))))
def impl_LengthsFrom.f (k : Nat) (l0 : List Int) : Option (List Int × Bool) := (impl_isSide.f (l0.length : Int)).bind fun t460 => (if t460 = true then ((slices_IsSorted_int_int.f k l0).bind fun t461 => (impl_LengthsFrom.j0 k l0 (!t461))) else (impl_LengthsFrom.j0 k l0 true))
theorem impl_LengthsFrom.mono_l : ∀ k, (∀ y0 y1, LeO (impl_LengthsFrom.j0 k y0 y1) (impl_LengthsFrom.j0 (k + 1) y0 y1))
 | 0 => fun _ _ r h => by simp [impl_LengthsFrom.j0] at h
 | k + 1 => by
  have ih0 := impl_LengthsFrom.mono_l k
  ·
   intro y0 y1
   unfold impl_LengthsFrom.j0
   repeat' first
   | (with_reducible exact ih0 _ _)
   | (with_reducible exact impl_having.mono _ _)
   | (with_reducible exact slices_IsSorted_int_int.mono _ _)
   | (with_reducible exact LeO.refl _)
   | (with_reducible exact LeO.none _)
   | (with_reducible refine LeO.ite ?_ ?_)
   | (with_reducible refine LeO.bind ?_ (fun _ => ?_))
   | exact ih0 _ _
   | exact impl_having.mono _ _
   | exact slices_IsSorted_int_int.mono _ _
   | exact LeO.none _
   | refine LeO.ite ?_ ?_
   | refine LeO.bind ?_ (fun _ => ?_)
theorem impl_LengthsFrom.mono : ∀ a0 k, LeO (impl_LengthsFrom.f k a0) (impl_LengthsFrom.f (k + 1) a0) := by
 intro a0 k
 have ih0 := impl_LengthsFrom.mono_l k
 unfold impl_LengthsFrom.f
 repeat' first
   | (with_reducible exact ih0 _ _)
   | (with_reducible exact impl_having.mono _ _)
   | (with_reducible exact slices_IsSorted_int_int.mono _ _)
   | (with_reducible exact LeO.refl _)
   | (with_reducible exact LeO.none _)
   | (with_reducible refine LeO.ite ?_ ?_)
   | (with_reducible refine LeO.bind ?_ (fun _ => ?_))
   | exact ih0 _ _
   | exact impl_having.mono _ _
   | exact slices_IsSorted_int_int.mono _ _
   | exact LeO.none _
   | refine LeO.ite ?_ ?_
   | refine LeO.bind ?_ (fun _ => ?_)
set_option maxHeartbeats 8000000 in
set_option maxRecDepth 100000 in
theorem impl_LengthsFrom.calls (k : Nat) (A0 : Option Addr) (c0 : Nat) (l0 : List Int) (r1 : List Int) (r2 : Bool) (w : World) (hr0 : Kd.C (Kd.int .i64) w A0 l0.length l0) (hc0 : l0.length ≤ c0) (h : impl_LengthsFrom.f k l0 = some (r1, r2)) :
  Calls Try.prog 45 #[.slice A0 l0.length c0] w fun e w' => ∃ v0_ : Value, e = .returned (.tuple #[v0_, .bool r2]) ∧ Kd.R (Kd.int .i64) 3 w' w.heap.size (fun _ => True) v0_ r1 ∧ Below w.heap.size w w' := by
 have HR0 := Aside0.mk hr0
 have HC0 := Aside0.mk hc0
 clear hr0 hc0
 have HB := am (Below.refl w.heap.size w)
 have H : ((impl_isSide.f (l0.length : Int)).bind fun t460 => (if t460 = true then ((slices_IsSorted_int_int.f k l0).bind fun t461 => (impl_LengthsFrom.j0 k l0 (!t461))) else (impl_LengthsFrom.j0 k l0 true))) = some (r1, r2) := h
 clear h
 have HC2 := Aside0.mk H
 clear H
 go_enter Try.func45, Try.ntmps45
 go_upto_region 1 with (fail)
 go_cut [13] (fun v13 wc => ∃ (kq : Nat) (x13_1 : Bool), v13 = .bool x13_1 ∧ Aside0 (impl_LengthsFrom.j0 kq l0 x13_1 = some (r1, r2)) ∧ Aside0 (kq ≤ k) ∧ Aside0 (Below w.heap.size w wc))
 case first =>
  have H := HC2.out
  clear HC2
  replace H := Option.bind_eq_some_iff.mp H
  obtain ⟨t460, A30, H⟩ := H
  replace H : (if t460 = true then ((slices_IsSorted_int_int.f k l0).bind fun t461 => (impl_LengthsFrom.j0 k l0 (!t461))) else (impl_LengthsFrom.j0 k l0 true)) = some (r1, r2) := H
  have A3 := Aside0.mk A30
  clear A30
  by_cases c4 : t460 = true
  ·
   subst c4
   have H1 : ((slices_IsSorted_int_int.f k l0).bind fun t461 => (impl_LengthsFrom.j0 k l0 (!t461))) = some (r1, r2) := by first | (rw [if_pos rfl] at H; exact H) | rfl
   clear H
   have H := H1
   clear H1
   replace H := Option.bind_eq_some_iff.mp H
   obtain ⟨t461, A50, H⟩ := H
   replace H : (impl_LengthsFrom.j0 k l0 (!t461)) = some (r1, r2) := H
   have A5 := Aside0.mk A50
   clear A50
   have H' := Aside0.mk H
   clear H
   go_wp2_with (first | ((with_reducible refine gate_callee (f := 118) rfl ?_); refine goesL_ (some 7) rfl rfl Try.func118 (by kernel_rfl) rfl #[.int .i64 (l0.length : Int)] rfl (by (try simp only [List.map_toArray, List.map_cons, List.map_nil]); try rfl) ?_; (with_reducible refine (impl_isSide.calls (l0.length : Int) true _ A3.out).mono ?_); rintro e w' ⟨rfl, ⟨nd, rfl⟩⟩; refine ⟨_, rfl, ?_⟩) | (go_at_call 119; (with_reducible refine (slices_IsSorted_int_int.calls k _ _ l0 t461 _ ?side1 ?side2 A5.out).mono ?_); (case side1 => repeat (first | exact (Kd.C_below HR0.out (by repeat with_reducible first | exact HB.out | apply pw_below_drewN | apply below_drew1)) | (with_reducible first | refine Kd.C_alloc ?_ _ | refine Kd.C_drewN ?_ _ | refine Kd.C_drew ?_))); (case side2 => exact HC0.out); rintro e w' ⟨rfl, ⟨nd, rfl⟩⟩))
   go_meet
   case rel => exact ⟨_, (!t461), (by first | rfl | (simp; done) | (simp [*]; done)), H', ⟨by first | omega | exact Nat.le_refl _⟩, ⟨by repeat with_reducible first | exact HB.out | apply pw_below_drewN | apply below_drew1⟩⟩
  ·
   replace c4 := Bool.eq_false_iff.mpr c4
   subst c4
   have H1 : (impl_LengthsFrom.j0 k l0 true) = some (r1, r2) := by first | (rw [if_neg (show ¬ (false = true) by decide)] at H; exact H) | rfl
   clear H
   have H := H1
   clear H1
   have H' := Aside0.mk H
   clear H
   go_wp2_with (first | ((with_reducible refine gate_callee (f := 118) rfl ?_); refine goesL_ (some 7) rfl rfl Try.func118 (by kernel_rfl) rfl #[.int .i64 (l0.length : Int)] rfl (by (try simp only [List.map_toArray, List.map_cons, List.map_nil]); try rfl) ?_; (with_reducible refine (impl_isSide.calls (l0.length : Int) false _ A3.out).mono ?_); rintro e w' ⟨rfl, ⟨nd, rfl⟩⟩; refine ⟨_, rfl, ?_⟩))
   go_meet
   case rel => exact ⟨_, (true), (by first | rfl | (simp; done) | (simp [*]; done)), H', ⟨by first | omega | exact Nat.le_refl _⟩, ⟨by repeat with_reducible first | exact HB.out | apply pw_below_drewN | apply below_drew1⟩⟩
 case rest =>
  clear HC2
  try clear c1; try clear p2; try clear c4
  obtain ⟨kq, x13_1, rfl, HA, HJ1, HB⟩ := hcut
  cases kq with
  | zero => exact absurd HA.out (by simp [impl_LengthsFrom.j0])
  | succ kj1 =>
   have H := HA.out
   clear HA
   simp only [impl_LengthsFrom.j0] at H
   by_cases c6 : x13_1 = true
   ·
    subst c6
    have H1 : (some (([] : List Int), false)) = some (r1, r2) := by first | (rw [if_pos rfl] at H; exact H) | rfl
    clear H
    have H := H1
    clear H1
    simp only [Option.some.injEq, Prod.mk.injEq] at H
    obtain ⟨rfl, rfl⟩ := H
    go_wp2
    go_ret2
    exact ⟨_, by first | rfl | (simp [errW_none, errW_some] <;> rfl) | (simp [*, errW_none, errW_some] <;> rfl), by first | exact Kd.R_nil _ _ _ _ _ | exact Kd.N_nil _ _ _ _ _ | exact Kd.V_nil _ _ _ _ _ | exact Kd.Q_nil _ _ _ _ _ | exact Kd.S_nil _ _ _ _ _, by repeat with_reducible first | exact HB.out | apply pw_below_drewN | apply below_drew1⟩
   ·
    replace c6 := Bool.eq_false_iff.mpr c6
    subst c6
    have H1 : ((impl_having.f kj1 l0).bind fun t462 => (if (t462.length : Int) = 0 then (some (([] : List Int), false)) else (if 0 < (t462.length : Int) then (some (rd_L2 t462 0, true)) else (none)))) = some (r1, r2) := by first | (rw [if_neg (show ¬ (false = true) by decide)] at H; exact H) | rfl
    clear H
    have H := H1
    clear H1
    replace H := Option.bind_eq_some_iff.mp H
    obtain ⟨t462, A70, H⟩ := H
    replace H : (if (t462.length : Int) = 0 then (some (([] : List Int), false)) else (if 0 < (t462.length : Int) then (some (rd_L2 t462 0, true)) else (none))) = some (r1, r2) := H
    have A7 := Aside0.mk A70
    clear A70
    by_cases c8 : (t462.length : Int) = 0
    ·
     rw [if_pos c8] at H
     have c8b0 : ((t462.length : Int) == 0) = true := beq_iff_eq.mpr c8
     have c8b1 : ((t462.length : Int) != 0) = false := bne_eq_false_iff_eq.mpr c8
     clear c8
     simp only [Option.some.injEq, Prod.mk.injEq] at H
     obtain ⟨rfl, rfl⟩ := H
     go_wp2_with (first | ((with_reducible refine gate_callee (f := 129) rfl ?_); refine goesL_ (some 15) rfl rfl Try.func129 (by kernel_rfl) rfl #[.slice A0 l0.length c0] rfl (by (try simp only [List.map_toArray, List.map_cons, List.map_nil]); try rfl) ?_; (with_reducible refine (impl_having.calls kj1 _ _ l0 t462 _ ?side1 ?side2 A7.out).mono ?_); (case side1 => repeat (first | exact (Kd.C_below HR0.out HB.out) | (with_reducible first | refine Kd.C_alloc ?_ _ | refine Kd.C_drewN ?_ _ | refine Kd.C_drew ?_))); (case side2 => exact HC0.out); rintro e w9 ⟨v463, rfl, ho0, hb⟩; refine ⟨_, rfl, ?_⟩; have n0_ := am (Kd.S_lower ho0 (below_size (by repeat with_reducible first | exact HB.out | apply pw_below_drewN | apply below_drew1))); have n1_ := am (below_step (by repeat with_reducible first | exact HB.out | apply pw_below_drewN | apply below_drew1) hb); clear HB; have Oq3 := n0_; have HB := n1_; clear n0_ n1_; (try clear hb); (try clear hb2); (try clear hk); (try clear hi); (try clear ho0); obtain ⟨Ao10, co10, eo10⟩ := Kd.S_slice Oq3.out; subst eo10))
     go_ret2
     exact ⟨_, by first | rfl | (simp [errW_none, errW_some] <;> rfl) | (simp [*, errW_none, errW_some] <;> rfl), by first | exact Kd.R_nil _ _ _ _ _ | exact Kd.N_nil _ _ _ _ _ | exact Kd.V_nil _ _ _ _ _ | exact Kd.Q_nil _ _ _ _ _ | exact Kd.S_nil _ _ _ _ _, by repeat with_reducible first | exact HB.out | apply pw_below_drewN | apply below_drew1⟩
    ·
     rw [if_neg c8] at H
     have c8b0 : ((t462.length : Int) == 0) = false := beq_eq_false_iff_ne.mpr c8
     have c8b1 : ((t462.length : Int) != 0) = true := bne_iff_ne.mpr c8
     have c8b2 : ¬ (t462 = []) := fun h_ => c8 (by rw [h_]; rfl)
     by_cases c11 : 0 < (t462.length : Int)
     ·
      rw [if_pos c11] at H
      have c11b0 : decide (0 < (t462.length : Int)) = true := decide_eq_true c11
      have c11b1 : decide (0 < t462.length) = true := decide_eq_true (by omega)
      clear c11
      simp only [Option.some.injEq, Prod.mk.injEq] at H
      obtain ⟨rfl, rfl⟩ := H
      go_wp2_with (first | ((with_reducible refine gate_callee (f := 129) rfl ?_); refine goesL_ (some 15) rfl rfl Try.func129 (by kernel_rfl) rfl #[.slice A0 l0.length c0] rfl (by (try simp only [List.map_toArray, List.map_cons, List.map_nil]); try rfl) ?_; (with_reducible refine (impl_having.calls kj1 _ _ l0 t462 _ ?side1 ?side2 A7.out).mono ?_); (case side1 => repeat (first | exact (Kd.C_below HR0.out HB.out) | (with_reducible first | refine Kd.C_alloc ?_ _ | refine Kd.C_drewN ?_ _ | refine Kd.C_drew ?_))); (case side2 => exact HC0.out); rintro e w12 ⟨v463, rfl, ho0, hb⟩; refine ⟨_, rfl, ?_⟩; have n0_ := am (Kd.S_lower ho0 (below_size (by repeat with_reducible first | exact HB.out | apply pw_below_drewN | apply below_drew1))); have n1_ := am (below_step (by repeat with_reducible first | exact HB.out | apply pw_below_drewN | apply below_drew1) hb); clear HB; have Oq3 := n0_; have HB := n1_; clear n0_ n1_; (try clear hb); (try clear hb2); (try clear hk); (try clear hi); (try clear ho0); obtain ⟨Ao13, co13, eo13⟩ := Kd.S_slice Oq3.out; subst eo13; have p465 : 0 ≤ (0 : Int) := (by omega); have q465 : 0 < (t462.length : Int) := of_decide_eq_true (by first | (with_reducible assumption) | assumption); obtain ⟨ad465, A465_0, c465_0, e465, hx465_0, hl465_0, hi465_0⟩ := at_L2 (Kd.S_reads' Oq3.out).2.2 0 p465 q465; cases e465; obtain ⟨ce465, hce465, hMe465, hcc465⟩ := Kd.S_get Oq3.out [] 0 p465 (by first | exact q465 | exact of_decide_eq_true (by first | (with_reducible assumption) | assumption) | (have e_ := (Kd.S_reads' Oq3.out).1; omega)); obtain ⟨ve465_0, rfl, ge465_0⟩ := hMe465; have hv465_0 := hcc465 0 _ rfl; rw [Nat.add_zero, show ((Kd.slice 3 (Kd.int .i64))).sz = 1 from rfl, Nat.mul_one] at hv465_0; replace hv465_0 := Option.some.inj (hv465_0.symm.trans hx465_0); rw [hv465_0] at ge465_0; have HL465_0 := am (show Kd.R (Kd.int .i64) 3 _ _ _ _ (rd_L2 t462 0) from ge465_0); clear hv465_0 ge465_0; clear hcc465 hce465; have qi465 : (0 < t462.length) = True := eq_true (by omega); (try rw [show ((0 : Int)).toNat = 0 from rfl] at hx465_0); (try rw [Addr.add_zero'] at hx465_0); have HR465_0 := Aside0.mk hi465_0; have HC465_0 := Aside0.mk hl465_0; clear hi465_0 hl465_0; replace p465 := eq_true p465; replace q465 := eq_true q465))
      go_ret2
      exact ⟨_, by first | rfl | (simp [errW_none, errW_some] <;> rfl) | (simp [*, errW_none, errW_some] <;> rfl), by exact sqm HL465_0 (fun _ hk => trivial), by repeat with_reducible first | exact HB.out | apply pw_below_drewN | apply below_drew1⟩
     ·
      rw [if_neg c11] at H
      exact absurd H (by simp)

/-! ### spec_LengthsFrom: function 46 -/
def spec_LengthsFrom.j0 : Nat → List Int → Bool → Option (List Int × Bool)
 | 0, _, _ => none
 | k + 1, x0, x15 => if x15 = true then (some (([] : List Int), false)) else ((spec_feClass.f k x0).bind fun t471 => (if (t471.length : Int) = 0 then (some (([] : List Int), false)) else (if 0 < (t471.length : Int) then (some (rd_L2 t471 0, true)) else (none))))
def spec_LengthsFrom.f (k : Nat) (l0 : List Int) : Option (List Int × Bool) := (spec_boSide.f (l0.length : Int)).bind fun t466 => (if t466 = true then ((spec_feSorted.f k l0).bind fun t467 => ((spec_l1Same.f k t467 l0).bind fun t470 => (spec_LengthsFrom.j0 k l0 (!t470)))) else (spec_LengthsFrom.j0 k l0 true))
theorem spec_LengthsFrom.mono_l : ∀ k, (∀ y0 y1, LeO (spec_LengthsFrom.j0 k y0 y1) (spec_LengthsFrom.j0 (k + 1) y0 y1))
 | 0 => fun _ _ r h => by simp [spec_LengthsFrom.j0] at h
 | k + 1 => by
  have ih0 := spec_LengthsFrom.mono_l k
  ·
   intro y0 y1
   unfold spec_LengthsFrom.j0
   repeat' first
   | (with_reducible exact ih0 _ _)
   | (with_reducible exact spec_feClass.mono _ _)
   | (with_reducible exact spec_feSorted.mono _ _)
   | (with_reducible exact spec_l1Same.mono _ _ _)
   | (with_reducible exact LeO.refl _)
   | (with_reducible exact LeO.none _)
   | (with_reducible refine LeO.ite ?_ ?_)
   | (with_reducible refine LeO.bind ?_ (fun _ => ?_))
   | exact ih0 _ _
   | exact spec_feClass.mono _ _
   | exact spec_feSorted.mono _ _
   | exact spec_l1Same.mono _ _ _
   | exact LeO.none _
   | refine LeO.ite ?_ ?_
   | refine LeO.bind ?_ (fun _ => ?_)
theorem spec_LengthsFrom.mono : ∀ a0 k, LeO (spec_LengthsFrom.f k a0) (spec_LengthsFrom.f (k + 1) a0) := by
 intro a0 k
 have ih0 := spec_LengthsFrom.mono_l k
 unfold spec_LengthsFrom.f
 repeat' first
   | (with_reducible exact ih0 _ _)
   | (with_reducible exact spec_feClass.mono _ _)
   | (with_reducible exact spec_feSorted.mono _ _)
   | (with_reducible exact spec_l1Same.mono _ _ _)
   | (with_reducible exact LeO.refl _)
   | (with_reducible exact LeO.none _)
   | (with_reducible refine LeO.ite ?_ ?_)
   | (with_reducible refine LeO.bind ?_ (fun _ => ?_))
   | exact ih0 _ _
   | exact spec_feClass.mono _ _
   | exact spec_feSorted.mono _ _
   | exact spec_l1Same.mono _ _ _
   | exact LeO.none _
   | refine LeO.ite ?_ ?_
   | refine LeO.bind ?_ (fun _ => ?_)
set_option maxHeartbeats 8000000 in
set_option maxRecDepth 100000 in
theorem spec_LengthsFrom.calls (k : Nat) (A0 : Option Addr) (c0 : Nat) (l0 : List Int) (r1 : List Int) (r2 : Bool) (w : World) (hr0 : Kd.C (Kd.int .i64) w A0 l0.length l0) (hc0 : l0.length ≤ c0) (h : spec_LengthsFrom.f k l0 = some (r1, r2)) :
  Calls Try.prog 46 #[.slice A0 l0.length c0] w fun e w' => ∃ v0_ : Value, e = .returned (.tuple #[v0_, .bool r2]) ∧ Kd.V (Kd.int .i64) 3 w' w.heap.size (fun k_ => (w.heap.size ≤ k_)) v0_ r1 ∧ Below w.heap.size w w' := by
 have HR0 := Aside0.mk hr0
 have HC0 := Aside0.mk hc0
 clear hr0 hc0
 have HB := am (Below.refl w.heap.size w)
 have H : ((spec_boSide.f (l0.length : Int)).bind fun t466 => (if t466 = true then ((spec_feSorted.f k l0).bind fun t467 => ((spec_l1Same.f k t467 l0).bind fun t470 => (spec_LengthsFrom.j0 k l0 (!t470)))) else (spec_LengthsFrom.j0 k l0 true))) = some (r1, r2) := h
 clear h
 have HC2 := Aside0.mk H
 clear H
 go_enter Try.func46, Try.ntmps46
 go_upto_region 1 with (fail)
 go_cut [15] (fun v15 wc => ∃ (kq : Nat) (x15_1 : Bool), v15 = .bool x15_1 ∧ Aside0 (spec_LengthsFrom.j0 kq l0 x15_1 = some (r1, r2)) ∧ Aside0 (kq ≤ k) ∧ Aside0 (Below w.heap.size w wc))
 case first =>
  have H := HC2.out
  clear HC2
  replace H := Option.bind_eq_some_iff.mp H
  obtain ⟨t466, A30, H⟩ := H
  replace H : (if t466 = true then ((spec_feSorted.f k l0).bind fun t467 => ((spec_l1Same.f k t467 l0).bind fun t470 => (spec_LengthsFrom.j0 k l0 (!t470)))) else (spec_LengthsFrom.j0 k l0 true)) = some (r1, r2) := H
  have A3 := Aside0.mk A30
  clear A30
  by_cases c4 : t466 = true
  ·
   subst c4
   have H1 : ((spec_feSorted.f k l0).bind fun t467 => ((spec_l1Same.f k t467 l0).bind fun t470 => (spec_LengthsFrom.j0 k l0 (!t470)))) = some (r1, r2) := by first | (rw [if_pos rfl] at H; exact H) | rfl
   clear H
   have H := H1
   clear H1
   replace H := Option.bind_eq_some_iff.mp H
   obtain ⟨t467, A50, H⟩ := H
   replace H : ((spec_l1Same.f k t467 l0).bind fun t470 => (spec_LengthsFrom.j0 k l0 (!t470))) = some (r1, r2) := H
   have A5 := Aside0.mk A50
   clear A50
   replace H := Option.bind_eq_some_iff.mp H
   obtain ⟨t470, A60, H⟩ := H
   replace H : (spec_LengthsFrom.j0 k l0 (!t470)) = some (r1, r2) := H
   have A6 := Aside0.mk A60
   clear A60
   have H' := Aside0.mk H
   clear H
   go_wp2_with (first | ((with_reducible refine gate_callee (f := 124) rfl ?_); refine goesL_ (some 7) rfl rfl Try.func124 (by kernel_rfl) rfl #[.int .i64 (l0.length : Int)] rfl (by (try simp only [List.map_toArray, List.map_cons, List.map_nil]); try rfl) ?_; (with_reducible refine (spec_boSide.calls (l0.length : Int) true _ A3.out).mono ?_); rintro e w' ⟨rfl, ⟨nd, rfl⟩⟩; refine ⟨_, rfl, ?_⟩) | (go_at_call 134; (with_reducible refine (spec_feSorted.calls k _ _ l0 t467 _ ?side1 ?side2 A5.out).mono ?_); (case side1 => repeat (first | exact (Kd.C_below HR0.out (by repeat with_reducible first | exact HB.out | apply pw_below_drewN | apply below_drew1)) | (with_reducible first | refine Kd.C_alloc ?_ _ | refine Kd.C_drewN ?_ _ | refine Kd.C_drew ?_))); (case side2 => exact HC0.out); rintro e w7 ⟨v468, rfl, ho0, hb⟩; have n0_ := am (Kd.R_lower (Kd.R_newM (M := fun k_ => (w.heap.size ≤ k_)) ho0 (below_size (by repeat with_reducible first | exact HB.out | apply pw_below_drewN | apply below_drew1)) (fun k_ h_ => h_)) (below_size (by repeat with_reducible first | exact HB.out | apply pw_below_drewN | apply below_drew1))); have n1_ := am (below_step (by repeat with_reducible first | exact HB.out | apply pw_below_drewN | apply below_drew1) hb); clear HB; have Oq4 := n0_; have HB := n1_; clear n0_ n1_; (try clear hb); (try clear hb2); (try clear hk); (try clear hi); (try clear ho0); obtain ⟨Ao8, co8, eo8⟩ := Kd.R_slice Oq4.out; subst eo8) | (go_at_call 128; (with_reducible refine (spec_l1Same.calls k _ _ t467 _ _ l0 t470 _ ?side1 ?side2 ?side3 ?side4 A6.out).mono ?_); (case side1 => repeat (first | exact (Kd.R_reads' Oq4.out).2.2 | (with_reducible first | refine Kd.C_alloc ?_ _ | refine Kd.C_drewN ?_ _ | refine Kd.C_drew ?_))); (case side2 => exact (Kd.R_reads' Oq4.out).2.1); (case side3 => repeat (first | exact (Kd.C_below HR0.out HB.out) | (with_reducible first | refine Kd.C_alloc ?_ _ | refine Kd.C_drewN ?_ _ | refine Kd.C_drew ?_))); (case side4 => exact HC0.out); rintro e w' ⟨rfl, ⟨nd, rfl⟩⟩))
   go_meet
   case rel => exact ⟨_, (!t470), (by first | rfl | (simp; done) | (simp [*]; done)), H', ⟨by first | omega | exact Nat.le_refl _⟩, ⟨by repeat with_reducible first | exact HB.out | apply pw_below_drewN | apply below_drew1⟩⟩
  ·
   replace c4 := Bool.eq_false_iff.mpr c4
   subst c4
   have H1 : (spec_LengthsFrom.j0 k l0 true) = some (r1, r2) := by first | (rw [if_neg (show ¬ (false = true) by decide)] at H; exact H) | rfl
   clear H
   have H := H1
   clear H1
   have H' := Aside0.mk H
   clear H
   go_wp2_with (first | ((with_reducible refine gate_callee (f := 124) rfl ?_); refine goesL_ (some 7) rfl rfl Try.func124 (by kernel_rfl) rfl #[.int .i64 (l0.length : Int)] rfl (by (try simp only [List.map_toArray, List.map_cons, List.map_nil]); try rfl) ?_; (with_reducible refine (spec_boSide.calls (l0.length : Int) false _ A3.out).mono ?_); rintro e w' ⟨rfl, ⟨nd, rfl⟩⟩; refine ⟨_, rfl, ?_⟩))
   go_meet
   case rel => exact ⟨_, (true), (by first | rfl | (simp; done) | (simp [*]; done)), H', ⟨by first | omega | exact Nat.le_refl _⟩, ⟨by repeat with_reducible first | exact HB.out | apply pw_below_drewN | apply below_drew1⟩⟩
 case rest =>
  clear HC2
  try clear c1; try clear p2; try clear c4
  obtain ⟨kq, x15_1, rfl, HA, HJ1, HB⟩ := hcut
  cases kq with
  | zero => exact absurd HA.out (by simp [spec_LengthsFrom.j0])
  | succ kj1 =>
   have H := HA.out
   clear HA
   simp only [spec_LengthsFrom.j0] at H
   by_cases c9 : x15_1 = true
   ·
    subst c9
    have H1 : (some (([] : List Int), false)) = some (r1, r2) := by first | (rw [if_pos rfl] at H; exact H) | rfl
    clear H
    have H := H1
    clear H1
    simp only [Option.some.injEq, Prod.mk.injEq] at H
    obtain ⟨rfl, rfl⟩ := H
    go_wp2
    go_ret2
    exact ⟨_, by first | rfl | (simp [errW_none, errW_some] <;> rfl) | (simp [*, errW_none, errW_some] <;> rfl), Kd.R_V (base := w.heap.size) (by first | exact Kd.R_nil _ _ _ _ _ | exact Kd.N_nil _ _ _ _ _ | exact Kd.V_nil _ _ _ _ _ | exact Kd.Q_nil _ _ _ _ _ | exact Kd.S_nil _ _ _ _ _), by repeat with_reducible first | exact HB.out | apply pw_below_drewN | apply below_drew1⟩
   ·
    replace c9 := Bool.eq_false_iff.mpr c9
    subst c9
    have H1 : ((spec_feClass.f kj1 l0).bind fun t471 => (if (t471.length : Int) = 0 then (some (([] : List Int), false)) else (if 0 < (t471.length : Int) then (some (rd_L2 t471 0, true)) else (none)))) = some (r1, r2) := by first | (rw [if_neg (show ¬ (false = true) by decide)] at H; exact H) | rfl
    clear H
    have H := H1
    clear H1
    replace H := Option.bind_eq_some_iff.mp H
    obtain ⟨t471, A100, H⟩ := H
    replace H : (if (t471.length : Int) = 0 then (some (([] : List Int), false)) else (if 0 < (t471.length : Int) then (some (rd_L2 t471 0, true)) else (none))) = some (r1, r2) := H
    have A10 := Aside0.mk A100
    clear A100
    by_cases c11 : (t471.length : Int) = 0
    ·
     rw [if_pos c11] at H
     have c11b0 : ((t471.length : Int) == 0) = true := beq_iff_eq.mpr c11
     have c11b1 : ((t471.length : Int) != 0) = false := bne_eq_false_iff_eq.mpr c11
     clear c11
     simp only [Option.some.injEq, Prod.mk.injEq] at H
     obtain ⟨rfl, rfl⟩ := H
     go_wp2_with (first | ((with_reducible refine gate_callee (f := 130) rfl ?_); refine goesL_ (some 17) rfl rfl Try.func130 (by kernel_rfl) rfl #[.slice A0 l0.length c0] rfl (by (try simp only [List.map_toArray, List.map_cons, List.map_nil]); try rfl) ?_; (with_reducible refine (spec_feClass.calls kj1 _ _ l0 t471 _ ?side1 ?side2 A10.out).mono ?_); (case side1 => repeat (first | exact (Kd.C_below HR0.out HB.out) | (with_reducible first | refine Kd.C_alloc ?_ _ | refine Kd.C_drewN ?_ _ | refine Kd.C_drew ?_))); (case side2 => exact HC0.out); rintro e w12 ⟨v472, rfl, ho0, hb⟩; refine ⟨_, rfl, ?_⟩; have n0_ := am (Kd.N_lower (Kd.N_mono (ok' := fun k_ => (w.heap.size ≤ k_)) ho0 (fun k_ hk_ => (Nat.le_trans (below_size (by repeat with_reducible first | exact HB.out | apply pw_below_drewN | apply below_drew1)) hk_))) (below_size (by repeat with_reducible first | exact HB.out | apply pw_below_drewN | apply below_drew1))); have n1_ := am (below_step (by repeat with_reducible first | exact HB.out | apply pw_below_drewN | apply below_drew1) hb); clear HB; have Oq5 := n0_; have HB := n1_; clear n0_ n1_; (try clear hb); (try clear hb2); (try clear hk); (try clear hi); (try clear ho0); obtain ⟨Ao13, co13, eo13⟩ := Kd.N_slice Oq5.out; subst eo13))
     go_ret2
     exact ⟨_, by first | rfl | (simp [errW_none, errW_some] <;> rfl) | (simp [*, errW_none, errW_some] <;> rfl), Kd.R_V (base := w.heap.size) (by first | exact Kd.R_nil _ _ _ _ _ | exact Kd.N_nil _ _ _ _ _ | exact Kd.V_nil _ _ _ _ _ | exact Kd.Q_nil _ _ _ _ _ | exact Kd.S_nil _ _ _ _ _), by repeat with_reducible first | exact HB.out | apply pw_below_drewN | apply below_drew1⟩
    ·
     rw [if_neg c11] at H
     have c11b0 : ((t471.length : Int) == 0) = false := beq_eq_false_iff_ne.mpr c11
     have c11b1 : ((t471.length : Int) != 0) = true := bne_iff_ne.mpr c11
     have c11b2 : ¬ (t471 = []) := fun h_ => c11 (by rw [h_]; rfl)
     by_cases c14 : 0 < (t471.length : Int)
     ·
      rw [if_pos c14] at H
      have c14b0 : decide (0 < (t471.length : Int)) = true := decide_eq_true c14
      have c14b1 : decide (0 < t471.length) = true := decide_eq_true (by omega)
      clear c14
      simp only [Option.some.injEq, Prod.mk.injEq] at H
      obtain ⟨rfl, rfl⟩ := H
      go_wp2_with (first | ((with_reducible refine gate_callee (f := 130) rfl ?_); refine goesL_ (some 17) rfl rfl Try.func130 (by kernel_rfl) rfl #[.slice A0 l0.length c0] rfl (by (try simp only [List.map_toArray, List.map_cons, List.map_nil]); try rfl) ?_; (with_reducible refine (spec_feClass.calls kj1 _ _ l0 t471 _ ?side1 ?side2 A10.out).mono ?_); (case side1 => repeat (first | exact (Kd.C_below HR0.out HB.out) | (with_reducible first | refine Kd.C_alloc ?_ _ | refine Kd.C_drewN ?_ _ | refine Kd.C_drew ?_))); (case side2 => exact HC0.out); rintro e w15 ⟨v472, rfl, ho0, hb⟩; refine ⟨_, rfl, ?_⟩; have n0_ := am (Kd.N_lower (Kd.N_mono (ok' := fun k_ => (w.heap.size ≤ k_)) ho0 (fun k_ hk_ => (Nat.le_trans (below_size (by repeat with_reducible first | exact HB.out | apply pw_below_drewN | apply below_drew1)) hk_))) (below_size (by repeat with_reducible first | exact HB.out | apply pw_below_drewN | apply below_drew1))); have n1_ := am (below_step (by repeat with_reducible first | exact HB.out | apply pw_below_drewN | apply below_drew1) hb); clear HB; have Oq5 := n0_; have HB := n1_; clear n0_ n1_; (try clear hb); (try clear hb2); (try clear hk); (try clear hi); (try clear ho0); obtain ⟨Ao16, co16, eo16⟩ := Kd.N_slice Oq5.out; subst eo16; have p474 : 0 ≤ (0 : Int) := (by omega); have q474 : 0 < (t471.length : Int) := of_decide_eq_true (by first | (with_reducible assumption) | assumption); obtain ⟨ad474, A474_0, c474_0, e474, hx474_0, hl474_0, hi474_0⟩ := at_L2 (Kd.N_reads' Oq5.out).2.2 0 p474 q474; cases e474; obtain ⟨ce474, hce474, hMe474, hcc474⟩ := Kd.N_get Oq5.out [] 0 p474 (by first | exact q474 | exact of_decide_eq_true (by first | (with_reducible assumption) | assumption) | (have e_ := (Kd.N_reads' Oq5.out).1; omega)); obtain ⟨ua474_0, uc474_0, rfl, ul474_0, ge474_0⟩ := Kd.FK_slice_open hMe474; have hv474_0 := hcc474 0 _ rfl; rw [Nat.add_zero, show ((Kd.slice 3 (Kd.int .i64))).sz = 1 from rfl, Nat.mul_one] at hv474_0; replace hv474_0 := Option.some.inj (hv474_0.symm.trans hx474_0); injection hv474_0 with hva_ hvn_ hvc_; rw [hva_] at ge474_0; rw [hvc_] at ul474_0; have HL474_0 := am (show Kd.V (Kd.int .i64) 3 _ w.heap.size _ _ (rd_L2 t471 0) from Kd.V_mk ul474_0 ge474_0); clear hva_ hvn_ hvc_ ge474_0 ul474_0; clear hcc474 hce474; have qi474 : (0 < t471.length) = True := eq_true (by omega); (try rw [show ((0 : Int)).toNat = 0 from rfl] at hx474_0); (try rw [Addr.add_zero'] at hx474_0); have HR474_0 := Aside0.mk hi474_0; have HC474_0 := Aside0.mk hl474_0; clear hi474_0 hl474_0; replace p474 := eq_true p474; replace q474 := eq_true q474))
      go_ret2
      exact ⟨_, by first | rfl | (simp [errW_none, errW_some] <;> rfl) | (simp [*, errW_none, errW_some] <;> rfl), by (with_reducible repeat (first | apply Kd.V_alloc | apply Kd.V_drewN | apply Kd.V_drew)); exact Kd.V_mono HL474_0.out (fun _ hk => hk.1), by repeat with_reducible first | exact HB.out | apply pw_below_drewN | apply below_drew1⟩
     ·
      rw [if_neg c14] at H
      exact absurd H (by simp)

/-! ### laws_rLess: function 47 -/
def laws_rLess.l0 : Nat → List Int → List Int → Int → Int → Option (Bool)
 | 0, _, _, _, _ => none
 | k + 1, x0, x1, x7, x8 => if x8 < x7 then (if 0 ≤ x8 then (if x8 < (x0.length : Int) then (if x8 < (x1.length : Int) then (if (rd x0 x8) = (rd x1 x8) then (laws_rLess.l0 k x0 x1 x7 (wrap64 (x8 + 1))) else (some (decide ((rd x0 x8) < (rd x1 x8))))) else (none)) else (none)) else (none)) else (some false)
def laws_rLess.f (k : Nat) (l0 : List Int) (l1 : List Int) : Option (Bool) := laws_rLess.l0 k l0 l1 (l0.length : Int) 0
theorem laws_rLess.mono_l : ∀ k, (∀ y0 y1 y2 y3, LeO (laws_rLess.l0 k y0 y1 y2 y3) (laws_rLess.l0 (k + 1) y0 y1 y2 y3))
 | 0 => fun _ _ _ _ r h => by simp [laws_rLess.l0] at h
 | k + 1 => by
  have ih0 := laws_rLess.mono_l k
  ·
   intro y0 y1 y2 y3
   unfold laws_rLess.l0
   repeat' first
   | (with_reducible exact ih0 _ _ _ _)
   | (with_reducible exact LeO.refl _)
   | (with_reducible exact LeO.none _)
   | (with_reducible refine LeO.ite ?_ ?_)
   | (with_reducible refine LeO.bind ?_ (fun _ => ?_))
   | exact ih0 _ _ _ _
   | exact LeO.none _
   | refine LeO.ite ?_ ?_
   | refine LeO.bind ?_ (fun _ => ?_)
theorem laws_rLess.mono : ∀ a0 a1 k, LeO (laws_rLess.f k a0 a1) (laws_rLess.f (k + 1) a0 a1) := by
 intro a0 a1 k
 have ih0 := laws_rLess.mono_l k
 unfold laws_rLess.f
 repeat' first
   | (with_reducible exact ih0 _ _ _ _)
   | (with_reducible exact LeO.refl _)
   | (with_reducible exact LeO.none _)
   | (with_reducible refine LeO.ite ?_ ?_)
   | (with_reducible refine LeO.bind ?_ (fun _ => ?_))
   | exact ih0 _ _ _ _
   | exact LeO.none _
   | refine LeO.ite ?_ ?_
   | refine LeO.bind ?_ (fun _ => ?_)
set_option maxHeartbeats 8000000 in
set_option maxRecDepth 100000 in
theorem laws_rLess.calls (k : Nat) (A0 : Option Addr) (c0 : Nat) (l0 : List Int) (A1 : Option Addr) (c1 : Nat) (l1 : List Int) (r : Bool) (w : World) (hr0 : Kd.C (Kd.int .i64) w A0 l0.length l0) (hc0 : l0.length ≤ c0) (hr1 : Kd.C (Kd.int .i64) w A1 l1.length l1) (hc1 : l1.length ≤ c1) (h : laws_rLess.f k l0 l1 = some r) :
  Calls Try.prog 47 #[.slice A0 l0.length c0, .slice A1 l1.length c1] w fun e w' => e = .returned (.bool r) ∧ Drawn0 w w' := by
 have HR0 := Aside0.mk hr0
 have HC0 := Aside0.mk hc0
 clear hr0 hc0
 have HR1 := Aside0.mk hr1
 have HC1 := Aside0.mk hc1
 clear hr1 hc1
 have H : (laws_rLess.l0 k l0 l1 (l0.length : Int) 0) = some r := h
 clear h
 have H' := Aside0.mk H
 clear H
 go_enter Try.func47, Try.ntmps47
 go_wp2
 repeat (go_quiet (fail); try go_wp2)
 go_loopg [8] k (fun kq v8 w' => ∃ (x8_1 : Int), v8 = .int .i64 x8_1 ∧ Aside0 (laws_rLess.l0 kq l0 l1 (l0.length : Int) x8_1 = some r) ∧ Aside0 (kq ≤ k) ∧ Drawn0 w w')
 case atStart => exact ⟨(0), (by first | rfl | (simp; done) | (simp [*]; done)), H', ⟨Nat.le_refl _⟩, by repeat (first | exact Drawn0.refl _ | apply Drawn0.step)⟩
 case round =>
  clear H'
  try clear c1; try clear p2
  obtain ⟨x8_1, rfl, HA, HK1, ⟨m1, rfl⟩⟩ := hrel
  cases gk with
  | zero => exact absurd HA.out (by simp [laws_rLess.l0])
  | succ k1 =>
   have H := HA.out
   clear HA
   simp only [laws_rLess.l0] at H
   by_cases c3 : x8_1 < (l0.length : Int)
   ·
    rw [if_pos c3] at H
    have c3b0 : decide (x8_1 < (l0.length : Int)) = true := decide_eq_true c3
    clear c3
    by_cases c4 : 0 ≤ x8_1
    ·
     rw [if_pos c4] at H
     have c4b0 : decide (0 ≤ x8_1) = true := decide_eq_true c4
     clear c4
     by_cases c5 : x8_1 < (l0.length : Int)
     ·
      rw [if_pos c5] at H
      have c5b0 : decide (x8_1 < (l0.length : Int)) = true := decide_eq_true c5
      clear c5
      by_cases c6 : x8_1 < (l1.length : Int)
      ·
       rw [if_pos c6] at H
       have c6b0 : decide (x8_1 < (l1.length : Int)) = true := decide_eq_true c6
       clear c6
       by_cases c7 : (rd l0 x8_1) = (rd l1 x8_1)
       ·
        rw [if_pos c7] at H
        have c7b0 : ((rd l0 x8_1) == (rd l1 x8_1)) = true := beq_iff_eq.mpr c7
        have c7b1 : ((rd l0 x8_1) != (rd l1 x8_1)) = false := bne_eq_false_iff_eq.mpr c7
        clear c7
        have H' := Aside0.mk H
        clear H
        have p475 : 0 ≤ (x8_1 : Int) := of_decide_eq_true (by first | (with_reducible assumption) | assumption)
        have q475 : x8_1 < (l0.length : Int) := of_decide_eq_true (by first | (with_reducible assumption) | assumption)
        obtain ⟨ad475, e475, hx475_0⟩ := Kd.at_int HR0.out x8_1 p475 q475
        cases e475
        replace p475 := eq_true p475
        replace q475 := eq_true q475
        have p476 : 0 ≤ (x8_1 : Int) := of_decide_eq_true (by first | (with_reducible assumption) | assumption)
        have q476 : x8_1 < (l1.length : Int) := of_decide_eq_true (by first | (with_reducible assumption) | assumption)
        obtain ⟨ad476, e476, hx476_0⟩ := Kd.at_int HR1.out x8_1 p476 q476
        cases e476
        replace p476 := eq_true p476
        replace q476 := eq_true q476
        go_wp2
        repeat (go_quiet (fail); try go_wp2)
        go_roundg k1
        case measure => have := HK1.out; omega
        case rel => exact ⟨(wrap64 (x8_1 + 1)), (by first | rfl | (simp; done) | (simp [*]; done)), H', ⟨by have := HK1.out; omega⟩, by repeat (first | exact Drawn0.refl _ | apply Drawn0.step)⟩
       ·
        rw [if_neg c7] at H
        have c7b0 : ((rd l0 x8_1) == (rd l1 x8_1)) = false := beq_eq_false_iff_ne.mpr c7
        have c7b1 : ((rd l0 x8_1) != (rd l1 x8_1)) = true := bne_iff_ne.mpr c7
        obtain rfl := Option.some.inj H
        have p475 : 0 ≤ (x8_1 : Int) := of_decide_eq_true (by first | (with_reducible assumption) | assumption)
        have q475 : x8_1 < (l0.length : Int) := of_decide_eq_true (by first | (with_reducible assumption) | assumption)
        obtain ⟨ad475, e475, hx475_0⟩ := Kd.at_int HR0.out x8_1 p475 q475
        cases e475
        replace p475 := eq_true p475
        replace q475 := eq_true q475
        have p476 : 0 ≤ (x8_1 : Int) := of_decide_eq_true (by first | (with_reducible assumption) | assumption)
        have q476 : x8_1 < (l1.length : Int) := of_decide_eq_true (by first | (with_reducible assumption) | assumption)
        obtain ⟨ad476, e476, hx476_0⟩ := Kd.at_int HR1.out x8_1 p476 q476
        cases e476
        replace p476 := eq_true p476
        replace q476 := eq_true q476
        have p477 : 0 ≤ (x8_1 : Int) := of_decide_eq_true (by first | (with_reducible assumption) | assumption)
        have q477 : x8_1 < (l0.length : Int) := of_decide_eq_true (by first | (with_reducible assumption) | assumption)
        obtain ⟨ad477, e477, hx477_0⟩ := Kd.at_int HR0.out x8_1 p477 q477
        obtain rfl : ad475 = ad477 := (by injection e477)
        replace p477 := eq_true p477
        replace q477 := eq_true q477
        have p478 : 0 ≤ (x8_1 : Int) := of_decide_eq_true (by first | (with_reducible assumption) | assumption)
        have q478 : x8_1 < (l1.length : Int) := of_decide_eq_true (by first | (with_reducible assumption) | assumption)
        obtain ⟨ad478, e478, hx478_0⟩ := Kd.at_int HR1.out x8_1 p478 q478
        obtain rfl : ad476 = ad478 := (by injection e478)
        replace p478 := eq_true p478
        replace q478 := eq_true q478
        go_wp2
        repeat (go_quiet (fail); try go_wp2)
        go_ret
        exact ⟨by first | rfl | (simp; done) | (simp [*]; done), by repeat (first | exact Drawn0.refl _ | apply Drawn0.step)⟩
      ·
       rw [if_neg c6] at H
       exact absurd H (by simp)
     ·
      rw [if_neg c5] at H
      exact absurd H (by simp)
    ·
     rw [if_neg c4] at H
     exact absurd H (by simp)
   ·
    rw [if_neg c3] at H
    have c3b0 : decide (x8_1 < (l0.length : Int)) = false := decide_eq_false c3
    clear c3
    obtain rfl := Option.some.inj H
    go_wp2
    repeat (go_quiet (fail); try go_wp2)
    go_ret
    exact ⟨by first | rfl | (simp; done) | (simp [*]; done), by repeat (first | exact Drawn0.refl _ | apply Drawn0.step)⟩

end Go.Proofs.Ytfgfgkpmkfjeiaa.PFnAlikeLengths
