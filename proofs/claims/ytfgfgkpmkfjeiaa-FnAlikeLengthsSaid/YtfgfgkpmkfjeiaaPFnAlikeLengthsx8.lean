-- Printed for this claim by wip/pp.py over the kit's printer; Lean checks it.
import Derived.Test.YtfgfgkpmkfjeiaaPFnAlikeLengthsx0
import Derived.Test.YtfgfgkpmkfjeiaaPFnAlikeLengthsx1
import Derived.Test.YtfgfgkpmkfjeiaaPFnAlikeLengthsx4
import Derived.Test.YtfgfgkpmkfjeiaaPFnAlikeLengthsx5
import Derived.Test.YtfgfgkpmkfjeiaaPFnAlikeLengthsx6
import Derived.Test.YtfgfgkpmkfjeiaaPFnAlikeLengthsx7
namespace Go.Proofs.Ytfgfgkpmkfjeiaa.PFnAlikeLengths
open Go.RowKit Go.Proofs.YtfgfgkpmkfjeiaaW.PrintWords Go.Proofs.YtfgfgkpmkfjeiaaW.PrintLast Go.Proofs.YtfgfgkpmkfjeiaaW.PrintMore
attribute [local go_sem] max2_int min2_int max_two min_two max_three min_three max_four min_four   -- for this text's walks alone
set_option linter.unusedVariables false
set_option linter.unusedSimpArgs false

/-! ### spec_AreAlikeLengths: function 34 -/
def spec_AreAlikeLengths.j0 : Nat → List Int → List Int → Bool → Option (Bool × Bool)
 | 0, _, _, _ => none
 | k + 1, x0, x1, x13 => if x13 = true then (some (false, false)) else ((spec_feFactors.f k x0).bind fun t342 => ((spec_feFactors.f k x1).bind fun t345 => ((spec_l1Same.f k t342 t345).bind fun t348 => (some (t348, true)))))
def spec_AreAlikeLengths.f (k : Nat) (l0 : List Int) (l1 : List Int) : Option (Bool × Bool) := (spec_feGood.f k l0).bind fun t340 => (if t340 = true then ((spec_feGood.f k l1).bind fun t341 => (spec_AreAlikeLengths.j0 k l0 l1 (!t341))) else (spec_AreAlikeLengths.j0 k l0 l1 true))
theorem spec_AreAlikeLengths.mono_l : ∀ k, (∀ y0 y1 y2, LeO (spec_AreAlikeLengths.j0 k y0 y1 y2) (spec_AreAlikeLengths.j0 (k + 1) y0 y1 y2))
 | 0 => fun _ _ _ r h => by simp [spec_AreAlikeLengths.j0] at h
 | k + 1 => by
  have ih0 := spec_AreAlikeLengths.mono_l k
  ·
   intro y0 y1 y2
   unfold spec_AreAlikeLengths.j0
   repeat' first
   | (with_reducible exact ih0 _ _ _)
   | (with_reducible exact spec_feFactors.mono _ _)
   | (with_reducible exact spec_feGood.mono _ _)
   | (with_reducible exact spec_l1Same.mono _ _ _)
   | (with_reducible exact LeO.refl _)
   | (with_reducible exact LeO.none _)
   | (with_reducible refine LeO.ite ?_ ?_)
   | (with_reducible refine LeO.bind ?_ (fun _ => ?_))
   | exact ih0 _ _ _
   | exact spec_feFactors.mono _ _
   | exact spec_feGood.mono _ _
   | exact spec_l1Same.mono _ _ _
   | exact LeO.none _
   | refine LeO.ite ?_ ?_
   | refine LeO.bind ?_ (fun _ => ?_)
theorem spec_AreAlikeLengths.mono : ∀ a0 a1 k, LeO (spec_AreAlikeLengths.f k a0 a1) (spec_AreAlikeLengths.f (k + 1) a0 a1) := by
 intro a0 a1 k
 have ih0 := spec_AreAlikeLengths.mono_l k
 unfold spec_AreAlikeLengths.f
 repeat' first
   | (with_reducible exact ih0 _ _ _)
   | (with_reducible exact spec_feFactors.mono _ _)
   | (with_reducible exact spec_feGood.mono _ _)
   | (with_reducible exact spec_l1Same.mono _ _ _)
   | (with_reducible exact LeO.refl _)
   | (with_reducible exact LeO.none _)
   | (with_reducible refine LeO.ite ?_ ?_)
   | (with_reducible refine LeO.bind ?_ (fun _ => ?_))
   | exact ih0 _ _ _
   | exact spec_feFactors.mono _ _
   | exact spec_feGood.mono _ _
   | exact spec_l1Same.mono _ _ _
   | exact LeO.none _
   | refine LeO.ite ?_ ?_
   | refine LeO.bind ?_ (fun _ => ?_)
set_option maxHeartbeats 8000000 in
set_option maxRecDepth 100000 in
theorem spec_AreAlikeLengths.calls (k : Nat) (A0 : Option Addr) (c0 : Nat) (l0 : List Int) (A1 : Option Addr) (c1 : Nat) (l1 : List Int) (r1 : Bool) (r2 : Bool) (w : World) (hr0 : Kd.C (Kd.int .i64) w A0 l0.length l0) (hc0 : l0.length ≤ c0) (hr1 : Kd.C (Kd.int .i64) w A1 l1.length l1) (hc1 : l1.length ≤ c1) (h : spec_AreAlikeLengths.f k l0 l1 = some (r1, r2)) :
  Calls Try.prog 34 #[.slice A0 l0.length c0, .slice A1 l1.length c1] w fun e w' => e = .returned (.tuple #[.bool r1, .bool r2]) ∧ Below w.heap.size w w' := by
 have HR0 := Aside0.mk hr0
 have HC0 := Aside0.mk hc0
 clear hr0 hc0
 have HR1 := Aside0.mk hr1
 have HC1 := Aside0.mk hc1
 clear hr1 hc1
 have HB := am (Below.refl w.heap.size w)
 have H : ((spec_feGood.f k l0).bind fun t340 => (if t340 = true then ((spec_feGood.f k l1).bind fun t341 => (spec_AreAlikeLengths.j0 k l0 l1 (!t341))) else (spec_AreAlikeLengths.j0 k l0 l1 true))) = some (r1, r2) := h
 clear h
 have HC3 := Aside0.mk H
 clear H
 go_enter Try.func34, Try.ntmps34
 go_upto_region 1 with (fail)
 go_cut [13] (fun v13 wc => ∃ (kq : Nat) (x13_2 : Bool), v13 = .bool x13_2 ∧ Aside0 (spec_AreAlikeLengths.j0 kq l0 l1 x13_2 = some (r1, r2)) ∧ Aside0 (kq ≤ k) ∧ Aside0 (Below w.heap.size w wc))
 case first =>
  have H := HC3.out
  clear HC3
  replace H := Option.bind_eq_some_iff.mp H
  obtain ⟨t340, A40, H⟩ := H
  replace H : (if t340 = true then ((spec_feGood.f k l1).bind fun t341 => (spec_AreAlikeLengths.j0 k l0 l1 (!t341))) else (spec_AreAlikeLengths.j0 k l0 l1 true)) = some (r1, r2) := H
  have A4 := Aside0.mk A40
  clear A40
  by_cases c5 : t340 = true
  ·
   subst c5
   have H1 : ((spec_feGood.f k l1).bind fun t341 => (spec_AreAlikeLengths.j0 k l0 l1 (!t341))) = some (r1, r2) := by first | (rw [if_pos rfl] at H; exact H) | rfl
   clear H
   have H := H1
   clear H1
   replace H := Option.bind_eq_some_iff.mp H
   obtain ⟨t341, A60, H⟩ := H
   replace H : (spec_AreAlikeLengths.j0 k l0 l1 (!t341)) = some (r1, r2) := H
   have A6 := Aside0.mk A60
   clear A60
   have H' := Aside0.mk H
   clear H
   go_wp2_with (first | ((with_reducible refine gate_callee (f := 109) rfl ?_); refine goesL_ (some 7) rfl rfl Try.func109 (by kernel_rfl) rfl #[.slice A0 l0.length c0] rfl (by (try simp only [List.map_toArray, List.map_cons, List.map_nil]); try rfl) ?_; (with_reducible refine (spec_feGood.calls k _ _ l0 true _ ?side1 ?side2 A4.out).mono ?_); (case side1 => repeat (first | exact (Kd.C_below HR0.out HB.out) | (with_reducible first | refine Kd.C_alloc ?_ _ | refine Kd.C_drewN ?_ _ | refine Kd.C_drew ?_))); (case side2 => exact HC0.out); rintro e w' ⟨rfl, ⟨nd, rfl⟩⟩; refine ⟨_, rfl, ?_⟩) | (go_at_call 109; (with_reducible refine (spec_feGood.calls k _ _ l1 t341 _ ?side1 ?side2 A6.out).mono ?_); (case side1 => repeat (first | exact (Kd.C_below HR1.out (by repeat with_reducible first | exact HB.out | apply pw_below_drewN | apply below_drew1)) | (with_reducible first | refine Kd.C_alloc ?_ _ | refine Kd.C_drewN ?_ _ | refine Kd.C_drew ?_))); (case side2 => exact HC1.out); rintro e w' ⟨rfl, ⟨nd, rfl⟩⟩))
   go_meet
   case rel => exact ⟨_, (!t341), (by first | rfl | (simp; done) | (simp [*]; done)), H', ⟨by first | omega | exact Nat.le_refl _⟩, ⟨by repeat with_reducible first | exact HB.out | apply pw_below_drewN | apply below_drew1⟩⟩
  ·
   replace c5 := Bool.eq_false_iff.mpr c5
   subst c5
   have H1 : (spec_AreAlikeLengths.j0 k l0 l1 true) = some (r1, r2) := by first | (rw [if_neg (show ¬ (false = true) by decide)] at H; exact H) | rfl
   clear H
   have H := H1
   clear H1
   have H' := Aside0.mk H
   clear H
   go_wp2_with (first | ((with_reducible refine gate_callee (f := 109) rfl ?_); refine goesL_ (some 7) rfl rfl Try.func109 (by kernel_rfl) rfl #[.slice A0 l0.length c0] rfl (by (try simp only [List.map_toArray, List.map_cons, List.map_nil]); try rfl) ?_; (with_reducible refine (spec_feGood.calls k _ _ l0 false _ ?side1 ?side2 A4.out).mono ?_); (case side1 => repeat (first | exact (Kd.C_below HR0.out HB.out) | (with_reducible first | refine Kd.C_alloc ?_ _ | refine Kd.C_drewN ?_ _ | refine Kd.C_drew ?_))); (case side2 => exact HC0.out); rintro e w' ⟨rfl, ⟨nd, rfl⟩⟩; refine ⟨_, rfl, ?_⟩))
   go_meet
   case rel => exact ⟨_, (true), (by first | rfl | (simp; done) | (simp [*]; done)), H', ⟨by first | omega | exact Nat.le_refl _⟩, ⟨by repeat with_reducible first | exact HB.out | apply pw_below_drewN | apply below_drew1⟩⟩
 case rest =>
  clear HC3
  try clear c1; try clear p2; try clear c3; try clear c5
  obtain ⟨kq, x13_2, rfl, HA, HJ2, HB⟩ := hcut
  cases kq with
  | zero => exact absurd HA.out (by simp [spec_AreAlikeLengths.j0])
  | succ kj2 =>
   have H := HA.out
   clear HA
   simp only [spec_AreAlikeLengths.j0] at H
   by_cases c7 : x13_2 = true
   ·
    subst c7
    have H1 : (some (false, false)) = some (r1, r2) := by first | (rw [if_pos rfl] at H; exact H) | rfl
    clear H
    have H := H1
    clear H1
    simp only [Option.some.injEq, Prod.mk.injEq] at H
    obtain ⟨rfl, rfl⟩ := H
    go_wp2
    go_ret2
    exact ⟨by first | rfl | (simp [errW_none, errW_some] <;> rfl) | (simp [*, errW_none, errW_some] <;> rfl), by repeat with_reducible first | exact HB.out | apply pw_below_drewN | apply below_drew1⟩
   ·
    replace c7 := Bool.eq_false_iff.mpr c7
    subst c7
    have H1 : ((spec_feFactors.f kj2 l0).bind fun t342 => ((spec_feFactors.f kj2 l1).bind fun t345 => ((spec_l1Same.f kj2 t342 t345).bind fun t348 => (some (t348, true))))) = some (r1, r2) := by first | (rw [if_neg (show ¬ (false = true) by decide)] at H; exact H) | rfl
    clear H
    have H := H1
    clear H1
    replace H := Option.bind_eq_some_iff.mp H
    obtain ⟨t342, A80, H⟩ := H
    replace H : ((spec_feFactors.f kj2 l1).bind fun t345 => ((spec_l1Same.f kj2 t342 t345).bind fun t348 => (some (t348, true)))) = some (r1, r2) := H
    have A8 := Aside0.mk A80
    clear A80
    replace H := Option.bind_eq_some_iff.mp H
    obtain ⟨t345, A90, H⟩ := H
    replace H : ((spec_l1Same.f kj2 t342 t345).bind fun t348 => (some (t348, true))) = some (r1, r2) := H
    have A9 := Aside0.mk A90
    clear A90
    replace H := Option.bind_eq_some_iff.mp H
    obtain ⟨t348, A100, H⟩ := H
    replace H : (some (t348, true)) = some (r1, r2) := H
    have A10 := Aside0.mk A100
    clear A100
    simp only [Option.some.injEq, Prod.mk.injEq] at H
    obtain ⟨rfl, rfl⟩ := H
    go_wp2_with (first | ((with_reducible refine gate_callee (f := 111) rfl ?_); refine goesL_ (some 15) rfl rfl Try.func111 (by kernel_rfl) rfl #[.slice A0 l0.length c0] rfl (by (try simp only [List.map_toArray, List.map_cons, List.map_nil]); try rfl) ?_; (with_reducible refine (spec_feFactors.calls kj2 _ _ l0 t342 _ ?side1 ?side2 A8.out).mono ?_); (case side1 => repeat (first | exact (Kd.C_below HR0.out HB.out) | (with_reducible first | refine Kd.C_alloc ?_ _ | refine Kd.C_drewN ?_ _ | refine Kd.C_drew ?_))); (case side2 => exact HC0.out); rintro e w11 ⟨v343, rfl, ho0, hb⟩; refine ⟨_, rfl, ?_⟩; have n0_ := am (Kd.R_lower ho0 (below_size (by repeat with_reducible first | exact HB.out | apply pw_below_drewN | apply below_drew1))); have n1_ := am (below_step (by repeat with_reducible first | exact HB.out | apply pw_below_drewN | apply below_drew1) hb); clear HB; have Oq2 := n0_; have HB := n1_; clear n0_ n1_; (try clear hb); (try clear hb2); (try clear hk); (try clear hi); (try clear ho0)) | ((with_reducible refine gate_callee (f := 111) rfl ?_); refine goesL_ (some 17) rfl rfl Try.func111 (by kernel_rfl) rfl #[.slice A1 l1.length c1] rfl (by (try simp only [List.map_toArray, List.map_cons, List.map_nil]); try rfl) ?_; (with_reducible refine (spec_feFactors.calls kj2 _ _ l1 t345 _ ?side1 ?side2 A9.out).mono ?_); (case side1 => repeat (first | exact (Kd.C_below HR1.out HB.out) | (with_reducible first | refine Kd.C_alloc ?_ _ | refine Kd.C_drewN ?_ _ | refine Kd.C_drew ?_))); (case side2 => exact HC1.out); rintro e w12 ⟨v346, rfl, ho0, hb⟩; refine ⟨_, rfl, ?_⟩; have n1_ := am (Kd.R_lower (Kd.R_new' ho0 (sqL Oq2)) (below_size (by repeat with_reducible first | exact HB.out | apply pw_below_drewN | apply below_drew1))); have n2_ := am (below_step (by repeat with_reducible first | exact HB.out | apply pw_below_drewN | apply below_drew1) hb); clear HB; replace Oq2 := sqE Oq2 ho0 hb; have Oq3 := n1_; have HB := n2_; clear n1_ n2_; (try clear hb); (try clear hb2); (try clear hk); (try clear hi); (try clear ho0); obtain ⟨Ao13, co13, eo13⟩ := Kd.R_slice Oq2.out; subst eo13; obtain ⟨Ao14, co14, eo14⟩ := Kd.R_slice Oq3.out; subst eo14) | ((with_reducible refine gate_callee (f := 128) rfl ?_); refine goesL_ (some 18) rfl rfl Try.func128 (by kernel_rfl) rfl #[.slice Ao13 t342.length co13, .slice Ao14 t345.length co14] rfl (by (try simp only [List.map_toArray, List.map_cons, List.map_nil]); try rfl) ?_; (with_reducible refine (spec_l1Same.calls kj2 _ _ t342 _ _ t345 t348 _ ?side1 ?side2 ?side3 ?side4 A10.out).mono ?_); (case side1 => repeat (first | exact (Kd.R_reads' Oq2.out).2.2 | (with_reducible first | refine Kd.C_alloc ?_ _ | refine Kd.C_drewN ?_ _ | refine Kd.C_drew ?_))); (case side2 => exact (Kd.R_reads' Oq2.out).2.1); (case side3 => repeat (first | exact (Kd.R_reads' Oq3.out).2.2 | (with_reducible first | refine Kd.C_alloc ?_ _ | refine Kd.C_drewN ?_ _ | refine Kd.C_drew ?_))); (case side4 => exact (Kd.R_reads' Oq3.out).2.1); rintro e w' ⟨rfl, ⟨nd, rfl⟩⟩; refine ⟨_, rfl, ?_⟩))
    go_ret2
    exact ⟨by first | rfl | (simp [errW_none, errW_some] <;> rfl) | (simp [*, errW_none, errW_some] <;> rfl), by repeat with_reducible first | exact HB.out | apply pw_below_drewN | apply below_drew1⟩

/-! ### spec_DrawAreLengths: function 112 -/
def spec_DrawAreLengths.f (k : Nat) (l0 : List Int) : Option (List Int) := (spec_l1Cur_lengths.f k l0 0 0).bind fun bt350 => (some bt350.1)
theorem spec_DrawAreLengths.mono : ∀ a0 k, LeO (spec_DrawAreLengths.f k a0) (spec_DrawAreLengths.f (k + 1) a0) := by
 intro a0 k
 unfold spec_DrawAreLengths.f
 repeat' first
   | (with_reducible exact spec_l1Cur_lengths.mono _ _ _ _)
   | (with_reducible exact LeO.refl _)
   | (with_reducible exact LeO.none _)
   | (with_reducible refine LeO.ite ?_ ?_)
   | (with_reducible refine LeO.bind ?_ (fun _ => ?_))
   | exact spec_l1Cur_lengths.mono _ _ _ _
   | exact LeO.none _
   | refine LeO.ite ?_ ?_
   | refine LeO.bind ?_ (fun _ => ?_)
set_option maxHeartbeats 8000000 in
set_option maxRecDepth 100000 in
theorem spec_DrawAreLengths.calls (k : Nat) (A0 : Option Addr) (c0 : Nat) (l0 : List Int) (r : List Int) (w : World) (hr0 : Kd.C (Kd.int .u8) w A0 l0.length l0) (hc0 : l0.length ≤ c0) (h : spec_DrawAreLengths.f k l0 = some r) :
  Calls Try.prog 112 #[.slice A0 l0.length c0] w fun e w' => ∃ v0_ : Value, e = .returned (v0_) ∧ Kd.R (Kd.int .i64) 3 w' w.heap.size (fun _ => True) v0_ r ∧ Below w.heap.size w w' := by
 have hu79 := Try.underlying79
 have HR0 := Aside0.mk hr0
 have HC0 := Aside0.mk hc0
 clear hr0 hc0
 have HB := am (Below.refl w.heap.size w)
 have H : ((spec_l1Cur_lengths.f k l0 0 0).bind fun bt350 => (some bt350.1)) = some r := h
 clear h
 replace H := Option.bind_eq_some_iff.mp H
 obtain ⟨⟨t350, t353, t354⟩, A20, H⟩ := H
 replace H : (some t350) = some r := H
 have A2 := Aside0.mk A20
 clear A20
 obtain rfl := Option.some.inj H
 go_enter Try.func112, Try.ntmps112
 go_wp2_with (first | ((with_reducible refine gate_dst (N := 6) rfl ?_); refine box_event ?hg (N := 6) ?hd (cs := #[.slice A0 l0.length c0, .int .i64 0, .int .u64 0]) (t := 79) ?hr ?_; (case hd => rfl); (case hg => rfl); (case hr => first | (go_simp; done) | (go_simp; rfl)); intro gb349 hg w3 hbox hb; have n0_ := am (below_step (by repeat with_reducible first | exact HB.out | apply pw_below_drewN | apply below_drew1) hb); have n1_ := am ((show IsS79 w w3 gb349 l0 0 0 from ⟨_, _, hbox, (by rw [hg]; exact (below_size (by repeat with_reducible first | exact HB.out | apply pw_below_drewN | apply below_drew1)) : w.heap.size ≤ gb349), HR0.out⟩)); have n2_ := am ((by rw [hg]; exact (below_size (by repeat with_reducible first | exact HB.out | apply pw_below_drewN | apply below_drew1)) : w.heap.size ≤ gb349)); have n3_ := am ((by rw [hg]; exact (below_size (by repeat with_reducible first | exact HB.out | apply pw_below_drewN | apply below_drew1)) : w.heap.size ≤ gb349)); clear HB; have HB := n0_; have HI349 := n1_; have GW349 := n2_; have GE349 := n3_; clear n0_ n1_ n2_ n3_; clear hb hbox hg) | ((with_reducible refine gate_callee (f := 105) rfl ?_); refine goesL_ (some 8) rfl rfl Try.func105 (by kernel_rfl) rfl #[.pointer (some ⟨gb349, 0, none⟩)] rfl (by (try simp only [List.map_toArray, List.map_cons, List.map_nil]); try rfl) ?_; (with_reducible refine (spec_l1Cur_lengths.calls k gb349 l0 0 0 t350 t353 t354 w _ ?side1 ?side2 A2.out).mono ?_); (case side1 => repeat (first | (with_reducible first | exact HI349.out | apply IsS79.alloc | apply IsS79.drewN | apply IsS79.drew | apply IsS79.set_1 | apply IsS79.set_2) | exact HI349.out)); (case side2 => repeat (first | (with_reducible first | exact HB.out | apply below_alloc | apply pw_below_drewN | apply below_drew1 | refine below_set ?_ (IsS79.ge HI349.out)) | exact HB.out)); rintro e w4 ⟨v351, rfl, ho0, hi, hb, hk⟩; refine ⟨_, rfl, ?_⟩; have n0_ := am (Kd.R_lower ho0 (below_size (by repeat (first | (with_reducible first | exact HB.out | apply below_alloc | apply pw_below_drewN | apply below_drew1 | refine below_set ?_ (IsS79.ge HI349.out)) | exact HB.out)))); have n1_ := am (hb); have n2_ := am (hi); clear HB; clear HI349; have Oq4 := n0_; have HB := n1_; have HI349 := n2_; clear n0_ n1_ n2_; (try clear hb); (try clear hb2); (try clear hk); (try clear hi); (try clear ho0)))
 go_ret
 exact ⟨_, by first | rfl | (simp [errW_none, errW_some] <;> rfl) | (simp [*, errW_none, errW_some] <;> rfl), by (with_reducible repeat (first | apply Kd.R_alloc | apply Kd.R_drewN | apply Kd.R_drew)); exact Oq4.out, by repeat (first | (with_reducible first | exact HB.out | apply below_alloc | apply pw_below_drewN | apply below_drew1 | refine below_set ?_ (IsS79.ge HI349.out)) | exact HB.out)⟩

/-! ### spec_DrawClassOf: function 35 -/
def spec_DrawClassOf.f (k : Nat) (l0 : List Int) : Option (List Int) := (spec_DrawAreLengths.f k l0).bind fun t355 => (some t355)
theorem spec_DrawClassOf.mono : ∀ a0 k, LeO (spec_DrawClassOf.f k a0) (spec_DrawClassOf.f (k + 1) a0) := by
 intro a0 k
 unfold spec_DrawClassOf.f
 repeat' first
   | (with_reducible exact spec_DrawAreLengths.mono _ _)
   | (with_reducible exact LeO.refl _)
   | (with_reducible exact LeO.none _)
   | (with_reducible refine LeO.ite ?_ ?_)
   | (with_reducible refine LeO.bind ?_ (fun _ => ?_))
   | exact spec_DrawAreLengths.mono _ _
   | exact LeO.none _
   | refine LeO.ite ?_ ?_
   | refine LeO.bind ?_ (fun _ => ?_)
set_option maxHeartbeats 8000000 in
set_option maxRecDepth 100000 in
theorem spec_DrawClassOf.calls (k : Nat) (A0 : Option Addr) (c0 : Nat) (l0 : List Int) (r : List Int) (w : World) (hr0 : Kd.C (Kd.int .u8) w A0 l0.length l0) (hc0 : l0.length ≤ c0) (h : spec_DrawClassOf.f k l0 = some r) :
  Calls Try.prog 35 #[.slice A0 l0.length c0] w fun e w' => ∃ v0_ : Value, e = .returned (v0_) ∧ Kd.R (Kd.int .i64) 3 w' w.heap.size (fun _ => True) v0_ r ∧ Below w.heap.size w w' := by
 have HR0 := Aside0.mk hr0
 have HC0 := Aside0.mk hc0
 clear hr0 hc0
 have HB := am (Below.refl w.heap.size w)
 have H : ((spec_DrawAreLengths.f k l0).bind fun t355 => (some t355)) = some r := h
 clear h
 replace H := Option.bind_eq_some_iff.mp H
 obtain ⟨t355, A20, H⟩ := H
 replace H : (some t355) = some r := H
 have A2 := Aside0.mk A20
 clear A20
 obtain rfl := Option.some.inj H
 go_enter Try.func35, Try.ntmps35
 go_wp2_with (first | ((with_reducible refine gate_callee (f := 112) rfl ?_); refine goesL_ (some 4) rfl rfl Try.func112 (by kernel_rfl) rfl #[.slice A0 l0.length c0] rfl (by (try simp only [List.map_toArray, List.map_cons, List.map_nil]); try rfl) ?_; (with_reducible refine (spec_DrawAreLengths.calls k _ _ l0 t355 _ ?side1 ?side2 A2.out).mono ?_); (case side1 => repeat (first | exact HR0.out | (with_reducible first | refine Kd.C_alloc ?_ _ | refine Kd.C_drewN ?_ _ | refine Kd.C_drew ?_))); (case side2 => exact HC0.out); rintro e w3 ⟨v356, rfl, ho0, hb⟩; refine ⟨_, rfl, ?_⟩; have n0_ := am (Kd.R_lower ho0 (below_size (by repeat with_reducible first | exact HB.out | apply pw_below_drewN | apply below_drew1))); have n1_ := am (below_step (by repeat with_reducible first | exact HB.out | apply pw_below_drewN | apply below_drew1) hb); clear HB; have Oq5 := n0_; have HB := n1_; clear n0_ n1_; (try clear hb); (try clear hb2); (try clear hk); (try clear hi); (try clear ho0)))
 go_ret
 exact ⟨_, by first | rfl | (simp [errW_none, errW_some] <;> rfl) | (simp [*, errW_none, errW_some] <;> rfl), by (with_reducible repeat (first | apply Kd.R_alloc | apply Kd.R_drewN | apply Kd.R_drew)); exact Oq5.out, by repeat with_reducible first | exact HB.out | apply pw_below_drewN | apply below_drew1⟩

/-! ### slices_Clone_int_int: function 158 (by hand) -/
def slices_Clone_int_int.f (l0 : List Int) : Option (List Int) := if l0.length < 17592186044416 then some l0 else none
-- (walk)
set_option maxHeartbeats 8000000 in
set_option maxRecDepth 100000 in
theorem slices_Clone_int_int.calls (A0 : Option Addr) (c0 : Nat) (l0 : List Int) (r : List Int) (w : World) (hr0 : Kd.C (Kd.int .i64) w A0 l0.length l0) (hc0 : l0.length ≤ c0) (h : slices_Clone_int_int.f l0 = some r) :
  Calls Try.prog 158 #[.slice A0 l0.length c0] w fun e w' => ∃ v0_ : Value, e = .returned (v0_) ∧ Kd.R (Kd.int .i64) 3 w' w.heap.size (fun _ => True) v0_ r ∧ Below w.heap.size w w' := by
 have hu := Try.underlying24
 have HR0 := Aside0.mk hr0
 have HC0 := Aside0.mk hc0
 have HL0 := am (Kd.C_len hr0)
 have HZ0 := am (show A0 = none → l0 = [] from fun e => by
  subst e
  by_cases h0 : 0 < l0.length
  ·
   obtain ⟨_, _, h3⟩ := hr0
   obtain ⟨ad, e, _⟩ := h3 h0
   cases e
  ·
   exact List.eq_nil_of_length_eq_zero (by omega))
 clear hr0 hc0
 have HB := am (Below.refl w.heap.size w)
 unfold slices_Clone_int_int.f at h
 by_cases c2 : l0.length < 17592186044416
 ·
  rw [if_pos c2] at h
  obtain rfl := Option.some.inj h
  have LM := Aside0.mk c2
  clear c2 h
  cases A0 with
  | none =>
   obtain rfl := HZ0.out rfl
   have hq := fun (W : World) => Lib.run_eql_slice_nil (P := Try.prog) W 24 3 none 0 c0 0 0 Try.underlying24
   go_enter Try.func158, Try.ntmps158
   go_wp2
   go_ret
   exact ⟨_, rfl, Kd.R_nil _ _ _ _ _, HB.out⟩
  | some a =>
   have hq := fun (W : World) => Lib.run_eql_slice_nil (P := Try.prog) W 24 3 (some a) l0.length c0 0 0 Try.underlying24
   go_enter Try.func158, Try.ntmps158
   have hd : (some a : Option Addr).isNone = false := rfl
   obtain ⟨y133, hy133⟩ : ∃ y_ : List Int, y_ = (([] : List Int)) := ⟨_, rfl⟩
   obtain ⟨y136, hy136⟩ : ∃ y_ : List Int, y_ = (y133 ++ l0) := ⟨_, rfl⟩
   have e136 := am (show y136 = l0 by rw [hy136, hy133]; rfl)
   have hl133 := am (show y133.length = 0 by rw [hy133]; rfl)
   have Ny133 := Aside0.mk hy133
   have Ny136 := Aside0.mk hy136
   clear hy133 hy136
   go_wp2_with (first | ((with_reducible refine gate_dst (N := 5) rfl ?_); refine Kd.R_lit (Kd.int .i64) _ 3 ?hg (N := 5) ?hd (xs := ([] : List Int)) (inner := []) (ok := fun _ => True) (okp := fun _ => True) ?hr ?hp (fun _ hk => hk) trivial (Below.refl _ _) (Nat.le_refl _) (by simp) ?_; (case hd => rfl); (case hg => rfl); (case hr => first | (go_simp; done) | (go_simp; rfl)); (case hp => exact (Reps.none _ _)); intro v134 w3 ho4 hb hg_ hnew_; clear hg_ hnew_; (first | rw [← Ny133.out] at ho4 | (simp only [Int.reduceToNat] at ho4; rw [← Ny133.out] at ho4)); have n0_ := am (Kd.R_lower ho4 (below_size (by repeat with_reducible first | exact HB.out | apply pw_below_drewN | apply below_drew1))); have n1_ := am (below_step (by repeat with_reducible first | exact HB.out | apply pw_below_drewN | apply below_drew1) hb); clear HB; have Oq0 := n0_; have HB := n1_; clear n0_ n1_; clear hb ho4) | ((with_reducible refine gate_builtin (b := .append) (xs := #[.tmp 5, .tmp 6]) rfl ?_); at_builtin; refine Kd.R_append_rows (Kd.int .i64) (w0 := w) w.heap.size rfl (.tmp 5) (.tmp 6) 24 3 (.int .i64 0) 8 rfl Try.underlying24 info3 rfl (by decide) (by omega) v134 y133 l0 _ _ _ (fun _ => True) (fun _ => False) rfl rfl ?aO ?aR (fun _ _ h => h) (fun _ h => h.elim) ?aF ?aB ?aS ?aL ?_; (case aR => repeat (first | exact (Kd.C_below HR0.out HB.out) | (with_reducible first | refine Kd.C_alloc ?_ _ | refine Kd.C_drewN ?_ _ | refine Kd.C_drew ?_))); (case aB => exact (by repeat with_reducible first | exact HB.out | apply pw_below_drewN | apply below_drew1)); (case aF => exact (fun _ _ => trivial)); (case aO => exact (sqr Oq0)); (case aS => exact (below_size (by repeat with_reducible first | exact HB.out | apply pw_below_drewN | apply below_drew1))); (case aL => have := LM.out; have := hl133.out; omega); intro v137 w5 ho hb hg hat; rw [← Ny136.out] at ho; have n0_ := am (hb); have n1_ := am (ho); clear HB; clear Oq0; have HB := n0_; have Oq1 := n1_; clear n0_ n1_; clear ho hb hg hat))
   go_ret
   exact ⟨_, rfl, by rw [← e136.out]; (with_reducible repeat (first | apply Kd.R_alloc | apply Kd.R_drewN | apply Kd.R_drew)); exact Oq1.out, by repeat with_reducible first | exact HB.out | apply pw_below_drewN | apply below_drew1⟩
 ·
  rw [if_neg c2] at h; exact absurd h (by simp)

/-! ### impl_having: function 129 (by hand) -/
/-- All lists of d numbers more, none below the last one, none above n. -/
def allL (n : Nat) : Nat → List Int → List (List Int)
 | 0, l => [l]
 | d + 1, l => (List.range (n + 1 - (l.getLastD 0).toNat)).flatMap fun i => allL n d (l ++ [(((l.getLastD 0).toNat + i : Nat) : Int)])
/-- Are a list's factors told, and is the comparison? -/
def okH (k : Nat) (own l : List Int) : Bool := match impl_factors.f k l with
 | some fl => slices_Equal_int_int.f k fl own == some (decide (fl = own))
 | none => false
def impl_having.f (k : Nat) (l0 : List Int) : Option (List (List Int)) := if l0.length ≤ 6 ∧ ((allL l0.length l0.length []).all (okH k l0)) = true then some ((allL l0.length l0.length []).filter fun l => impl_factors.f k l == some l0) else none
-- (walk)
/-- The search's variables in memory, what it holds and what it found. -/
def HvP (w0 : World) (gl gn gown gout gx n : Nat) (A0 : Option Addr) (c0 : Nat) (l0 : List Int) (A : Option Addr) (cl : Nat) (Ao : Option Addr) (co : Nat) (l : List Int) (out : List (List Int)) (w : World) : Prop :=
 w.heap[gl]? = some (.cells #[.slice A l.length cl] 24 (0, 0)) ∧
 w.heap[gn]? = some (.cells #[.int .i64 n] 3 (0, 0)) ∧
 w.heap[gown]? = some (.cells #[.slice A0 l0.length c0] 24 (0, 0)) ∧
 w.heap[gout]? = some (.cells #[.slice Ao out.length co] 49 (0, 0)) ∧
 w.heap[gx]? = some (.cells #[.func (.func 204) #[] #[.pointer (some ⟨gl, 0, none⟩), .pointer (some ⟨gn, 0, none⟩), .pointer (some ⟨gown, 0, none⟩), .pointer (some ⟨gout, 0, none⟩), .pointer (some ⟨gx, 0, none⟩)]] 1 (0, 0)) ∧
 Kd.R (Kd.int .i64) 3 w w0.heap.size (fun k => k ≠ gn) (.slice A l.length cl) l ∧
 Kd.S (Kd.slice 3 (Kd.int .i64)) 24 w w0.heap.size (fun k => (k ≠ gn ∧ k ≠ gl ∧ k ≠ gown) ∧ some k ≠ (Value.slice A l.length cl).ownBlock) (.slice Ao out.length co) out ∧
 Below w0.heap.size w0 w ∧ gl ≠ gown ∧ (w0.heap.size ≤ gl ∧ w0.heap.size ≤ gout)
section
variable {w0 w w1 w9 W : World} {gl gn gown gout gx n cl co c0 m : Nat} {A0 A Ao : Option Addr} {l0 l l' : List Int} {out : List (List Int)}
theorem HvP.below (h : HvP w0 gl gn gown gout gx n A0 c0 l0 A cl Ao co l out w) (hb : Below w.heap.size w w1) : HvP w0 gl gn gown gout gx n A0 c0 l0 A cl Ao co l out w1 := by
 obtain ⟨b1, b2, b3, b4, b5, hR, hS, hB, hg⟩ := h
 exact ⟨blk_below b1 hb, blk_below b2 hb, blk_below b3 hb, blk_below b4 hb, blk_below b5 hb, Kd.R_below hR hb, Kd.S_below hS hb, below_step hB hb, hg⟩
theorem HvP.drewN (h : HvP w0 gl gn gown gout gx n A0 c0 l0 A cl Ao co l out w) (k : Nat) : HvP w0 gl gn gown gout gx n A0 c0 l0 A cl Ao co l out (w.drewN k) := h.below (pw_below_drewN (Below.refl _ _) k)
theorem HvP.reads (h : HvP w0 gl gn gown gout gx n A0 c0 l0 A cl Ao co l out w) : l.length ≤ cl ∧ Kd.C (Kd.int .i64) w A l.length l := (Kd.R_reads' h.2.2.2.2.2.1).2
theorem HvP.came (h : HvP w0 gl gn gown gout gx n A0 c0 l0 A cl Ao co l out w) (h0 : Kd.C (Kd.int .i64) w0 A0 l0.length l0) : Kd.C (Kd.int .i64) w A0 l0.length l0 := Kd.C_below h0 h.2.2.2.2.2.2.2.1
/-- One more number: the row's new value is stored. -/
theorem HvP.push {v1 : Value} {x : Int} (h : HvP w0 gl gn gown gout gx n A0 c0 l0 A cl Ao co l out W) (hr : Kd.R (Kd.int .i64) 3 w1 w0.heap.size (fun k => k ≠ gn) v1 (l ++ [x])) (hb : Below w0.heap.size w0 w1) (hg : W.grownBy w1 (Value.slice A l.length cl).ownBlock)
  (hat : v1.ownBlock = (Value.slice A l.length cl).ownBlock ∨ ∃ b, v1.ownBlock = some b ∧ W.heap.size ≤ b) :
  w1.heap[gl]? = some (.cells #[.slice A l.length cl] 24 (0, 0)) ∧ ∃ A1 cl1, v1 = .slice A1 (l ++ [x]).length cl1 ∧ HvP w0 gl gn gown gout gx n A0 c0 l0 A1 cl1 Ao co (l ++ [x]) out (w1.setCell ⟨gl, 0, none⟩ v1) := by
 obtain ⟨b1, b2, b3, b4, b5, hR, hS, hB, hgg, hgl, hgo⟩ := h
 obtain ⟨A1, cl1, rfl⟩ := Kd.R_slice hr
 have k1 : w1.heap[gl]? = _ := (hg.block gl (blk_lt b1) (Kd.R_ne hR b1 (by decide))).trans b1
 have k2 : w1.heap[gn]? = _ := (hg.block gn (blk_lt b2) (Kd.R_away hR (fun k hk => hk))).trans b2
 have k3 : w1.heap[gown]? = _ := (hg.block gown (blk_lt b3) (Kd.R_ne hR b3 (by decide))).trans b3
 have k4 : w1.heap[gout]? = _ := (hg.block gout (blk_lt b4) (Kd.R_ne hR b4 (by decide))).trans b4
 have k5 : w1.heap[gx]? = _ := (hg.block gx (blk_lt b5) (Kd.R_ne hR b5 (by decide))).trans b5
 have hS1 := Kd.S_after hS hg hat
 refine ⟨k1, A1, cl1, rfl, blk_put k1 0 _ rfl, blk_far (p := ⟨gl, 0, none⟩) k2 (blk_ne k2 k1 (by decide)) _, blk_far (p := ⟨gl, 0, none⟩) k3 (Ne.symm hgg) _, blk_far (p := ⟨gl, 0, none⟩) k4 (blk_ne k4 k1 (by decide)) _, blk_far (p := ⟨gl, 0, none⟩) k5 (blk_ne k5 k1 (by decide)) _, Kd.R_set hr k1 (by intro q hq; simp [Kd.int, Kd.scalar] at hq; subst hq; decide) 0 _, Kd.S_far (p := ⟨gl, 0, none⟩) hS1 (fun k hk => hk.1.2.1) _, below_set hb hgl, hgg, hgl, hgo⟩
/-- The last number is cut off. -/
theorem HvP.pop {j : Nat} {x : Int} (h : HvP w0 gl gn gown gout gx n A0 c0 l0 A cl Ao co (l ++ [x]) out W) (hj : j = l.length) :
  HvP w0 gl gn gown gout gx n A0 c0 l0 A cl Ao co l out (W.setCell ⟨gl, 0, none⟩ (.slice A j cl)) := by
 obtain ⟨b1, b2, b3, b4, b5, hR, hS, hB, hgg, hgl, hgo⟩ := h
 subst hj
 have e : ∀ a b : Nat, (Value.slice A a cl).ownBlock = (Value.slice A b cl).ownBlock := by intro a b; cases A <;> rfl
 have hR1 := Kd.R_take hR (m := l.length) (by rw [List.length_append]; omega)
 rw [List.take_left'  rfl] at hR1
 rw [e _ l.length] at hS
 exact ⟨blk_put b1 0 _ rfl, blk_far (p := ⟨gl, 0, none⟩) b2 (blk_ne b2 b1 (by decide)) _, blk_far (p := ⟨gl, 0, none⟩) b3 (Ne.symm hgg) _, blk_far (p := ⟨gl, 0, none⟩) b4 (blk_ne b4 b1 (by decide)) _, blk_far (p := ⟨gl, 0, none⟩) b5 (blk_ne b5 b1 (by decide)) _, Kd.R_set hR1 b1 (by intro q hq; simp [Kd.int, Kd.scalar] at hq; subst hq; decide) 0 _, Kd.S_far (p := ⟨gl, 0, none⟩) hS (fun k hk => hk.1.2.1) _, below_set hB hgl, hgg, hgl, hgo⟩
/-- Behind a copy: what the append asks for. -/
theorem HvP.clone {d : Nat} {Ac : Option Addr} {ql cc : Nat} (h : HvP w0 gl gn gown gout gx n A0 c0 l0 A cl Ao co l out w)
  (hoc : Kd.R (Kd.int .i64) 3 w9 (w.drewN d).heap.size (fun _ => True) (.slice Ac ql cc) l) (hb9 : Below (w.drewN d).heap.size (w.drewN d) w9) :
  HvP w0 gl gn gown gout gx n A0 c0 l0 A cl Ao co l out w9 ∧ Kd.S (Kd.slice 3 (Kd.int .i64)) 24 w9 w0.heap.size (fun k => ((k ≠ gn ∧ k ≠ gl ∧ k ≠ gown) ∧ some k ≠ (Value.slice A l.length cl).ownBlock) ∧ ¬ (w.heap.size ≤ k ∧ k < w9.heap.size)) (.slice Ao out.length co) out ∧ (Kd.slice 3 (Kd.int .i64)).M w9 w0.heap.size (fun k => w.heap.size ≤ k ∧ k < w9.heap.size) l [.slice Ac ql cc] ∧
  (∀ k, w.heap.size ≤ k → ((k ≠ gn ∧ k ≠ gl ∧ k ≠ gown) ∧ some k ≠ (Value.slice A l.length cl).ownBlock) ∧ some k ≠ (Value.slice Ao out.length co).ownBlock) ∧ w.heap.size ≤ w9.heap.size ∧ w0.heap.size ≤ w.heap.size := by
 have h9 := (h.drewN d).below hb9
 obtain ⟨b1, b2, b3, b4, b5, hR, hS, hB, hgg, hgl, hgo⟩ := h
 refine ⟨h9, Kd.S_mono (Kd.S_old (Kd.S_drewN hS d) hb9) (fun k hk => ⟨hk.1, fun h => Nat.lt_irrefl _ (Nat.lt_of_lt_of_le hk.2 h.1)⟩), ⟨_, rfl, Kd.R_mono (Kd.R_lower (Kd.R_bound hoc) hB.size) (fun k hk => ⟨hk.2.1, hk.2.2.1⟩)⟩, ?_, hb9.size, hB.size⟩
 intro k hk
 have l1 := blk_lt b1
 have l2 := blk_lt b2
 have l3 := blk_lt b3
 exact ⟨⟨⟨by omega, by omega, by omega⟩, fun e => by have := Kd.R_lt hR k e.symm; omega⟩, fun e => by have := Kd.S_lt hS k e.symm; omega⟩
/-- One more list found: the row's new value is stored. -/
theorem HvP.found {v1 : Value} {q : List Int} (h : HvP w0 gl gn gown gout gx n A0 c0 l0 A cl Ao co l out W) (hr : Kd.S (Kd.slice 3 (Kd.int .i64)) 24 w1 w0.heap.size (fun k => (k ≠ gn ∧ k ≠ gl ∧ k ≠ gown) ∧ some k ≠ (Value.slice A l.length cl).ownBlock) v1 (out ++ [q])) (hb : Below w0.heap.size w0 w1) (hg : W.grownBy w1 (Value.slice Ao out.length co).ownBlock) :
  w1.heap[gout]? = some (.cells #[.slice Ao out.length co] 49 (0, 0)) ∧ ∃ A1 co1, v1 = .slice A1 (out ++ [q]).length co1 ∧ HvP w0 gl gn gown gout gx n A0 c0 l0 A cl A1 co1 l (out ++ [q]) (w1.setCell ⟨gout, 0, none⟩ v1) := by
 obtain ⟨b1, b2, b3, b4, b5, hR, hS, hB, hgg, hgl, hgo⟩ := h
 obtain ⟨A1, co1, rfl⟩ := Kd.S_slice hr
 have k1 : w1.heap[gl]? = _ := (hg.block gl (blk_lt b1) (Kd.S_away hS (fun k hk => hk.1.2.1))).trans b1
 have k2 : w1.heap[gn]? = _ := (hg.block gn (blk_lt b2) (Kd.S_ne hS b2 (by decide))).trans b2
 have k3 : w1.heap[gown]? = _ := (hg.block gown (blk_lt b3) (Kd.S_away hS (fun k hk => hk.1.2.2))).trans b3
 have k4 : w1.heap[gout]? = _ := (hg.block gout (blk_lt b4) (Kd.S_ne hS b4 (by decide))).trans b4
 have k5 : w1.heap[gx]? = _ := (hg.block gx (blk_lt b5) (Kd.S_ne hS b5 (by decide))).trans b5
 have hR1 := Kd.R_grown2 hR rfl hg (fun k hk => by
  obtain ⟨cells, hc⟩ := Kd.S_typed hS k hk
  exact Kd.R_ne hR hc (by decide))
 exact ⟨k4, A1, co1, rfl, blk_far (p := ⟨gout, 0, none⟩) k1 (blk_ne k1 k4 (by decide)) _, blk_far (p := ⟨gout, 0, none⟩) k2 (blk_ne k2 k4 (by decide)) _, blk_far (p := ⟨gout, 0, none⟩) k3 (blk_ne k3 k4 (by decide)) _, blk_put k4 0 _ rfl, blk_far (p := ⟨gout, 0, none⟩) k5 (blk_ne k5 k4 (by decide)) _, Kd.R_set hR1 k4 (by intro q hq; simp [Kd.int, Kd.scalar] at hq; subst hq; decide) 0 _, Kd.S_set hr k4 (by intro x hx; simp [Kd.slice, Kd.int, Kd.scalar] at hx; rcases hx with rfl | rfl <;> decide) 0 _, below_set hb hgo, hgg, hgl, hgo⟩
end
theorem okH_ok {k : Nat} {own l : List Int} (h : okH k own l = true) : ∃ fl, impl_factors.f k l = some fl ∧ slices_Equal_int_int.f k fl own = some (decide (fl = own)) := by
 unfold okH at h
 split at h
 ·
  rename_i fl hf
  exact ⟨fl, hf, by rwa [beq_iff_eq] at h⟩
 ·
  cases h
set_option maxHeartbeats 2000000 in
set_option maxRecDepth 4000 in
theorem hv_no {w0 w : World} {gl gn gown gout gx cl co c0 k : Nat} {A0 A Ao : Option Addr} {l0 l fl : List Int} {out : List (List Int)}
  (hc0 : l0.length ≤ c0) (hl0 : Kd.C (Kd.int .i64) w0 A0 l0.length l0) (h : HvP w0 gl gn gown gout gx l.length A0 c0 l0 A cl Ao co l out w) (hf : impl_factors.f k l = some fl) (he : slices_Equal_int_int.f k fl l0 = some false) :
  Calls Try.prog 204 #[.pointer (some ⟨gl, 0, none⟩), .pointer (some ⟨gn, 0, none⟩), .pointer (some ⟨gown, 0, none⟩), .pointer (some ⟨gout, 0, none⟩), .pointer (some ⟨gx, 0, none⟩)] w fun e w' => e = .returned (.tuple #[]) ∧ HvP w0 gl gn gown gout gx l.length A0 c0 l0 A cl Ao co l out w' := by
 have HP := Aside0.mk h
 have HF := Aside0.mk hf
 have HE := Aside0.mk he
 have HL0 := Aside0.mk hl0
 have hlc := h.reads.1
 have HCL := Aside0.mk h.reads.2
 have HCO := am (h.came hl0)
 have c1 := blk_cell h.1 0
 have c2 := blk_cell h.2.1 0
 have c3 := blk_cell h.2.2.1 0
 clear h hf he hl0
 go_enter Try.func204, Try.ntmps204
 go_wp2_with fail
 go_region_with (first
  | (go_at_call 108; (refine (impl_factors.calls k _ _ l fl _ ?side1 hlc HF.out).mono ?_); (case side1 => repeat (first | exact HCL.out | (with_reducible refine Kd.C_drewN ?_ _) | (with_reducible refine Kd.C_drew ?_))); rintro e w9 ⟨vf, rfl, hrf, hb9⟩; obtain ⟨Af, cf, rfl, hcf, hCf⟩ := Kd.R_reads hrf; have HF9 := Aside0.mk hCf; have HP9 := am ((HP.out.drewN _).below hb9); have HCO9 := am (HP9.out.came HL0.out); have c39 := blk_cell HP9.out.2.2.1 0; clear hrf hb9 hCf c1 c2 c3)
  | (go_at_call 127; (refine (slices_Equal_int_int.calls k _ _ fl _ _ l0 _ _ ?side1 hcf ?side2 hc0 HE.out).mono ?_); (case side1 => repeat (first | exact HF9.out | (with_reducible refine Kd.C_drewN ?_ _) | (with_reducible refine Kd.C_drew ?_))); (case side2 => repeat (first | exact HCO9.out | (with_reducible refine Kd.C_drewN ?_ _) | (with_reducible refine Kd.C_drew ?_))); rintro e w' ⟨rfl, ⟨nd, rfl⟩⟩))
 all_goals (simp only [Exit.then]; go_wp2)
 all_goals (first | go_end0 | ((try simp only [Exit.inBlock, Exit.then]); refine bodyPost_ret (results_none rfl _ _ _) rfl ?_))
 all_goals exact ⟨rfl, HP9.out.drewN _⟩
set_option maxHeartbeats 8000000 in
set_option maxRecDepth 4000 in
theorem hv_yes {w0 w : World} {gl gn gown gout gx cl co c0 k : Nat} {A0 A Ao : Option Addr} {l0 l : List Int} {out : List (List Int)}
  (hc0 : l0.length ≤ c0) (h6 : l.length ≤ 6) (hout : out.length ≤ 1000000) (hl0 : Kd.C (Kd.int .i64) w0 A0 l0.length l0) (h : HvP w0 gl gn gown gout gx l.length A0 c0 l0 A cl Ao co l out w) (hf : impl_factors.f k l = some l0) (he : slices_Equal_int_int.f k l0 l0 = some true) :
  Calls Try.prog 204 #[.pointer (some ⟨gl, 0, none⟩), .pointer (some ⟨gn, 0, none⟩), .pointer (some ⟨gown, 0, none⟩), .pointer (some ⟨gout, 0, none⟩), .pointer (some ⟨gx, 0, none⟩)] w fun e w' => e = .returned (.tuple #[]) ∧ ∃ A1 co1, HvP w0 gl gn gown gout gx l.length A0 c0 l0 A cl A1 co1 l (out ++ [l]) w' := by
 have HP := Aside0.mk h
 have HF := Aside0.mk hf
 have HE := Aside0.mk he
 have HL0 := Aside0.mk hl0
 have hlc := h.reads.1
 have HCL := Aside0.mk h.reads.2
 have INF := am (show (Try.prog.info? 24).map (fun i => (i.zero, i.size, i.bytes)) = some (some (.slice none 0 0), 1, 24) by kernel_rfl)
 have c1 := blk_cell h.1 0
 have c2 := blk_cell h.2.1 0
 have c3 := blk_cell h.2.2.1 0
 clear h hf he hl0
 go_enter Try.func204, Try.ntmps204
 go_wp2_with fail
 go_region_with (first
  | (go_at_call 108; (refine (impl_factors.calls k _ _ l l0 _ ?side1 hlc HF.out).mono ?_); (case side1 => repeat (first | exact HCL.out | (with_reducible refine Kd.C_drewN ?_ _) | (with_reducible refine Kd.C_drew ?_))); rintro e w9 ⟨vf, rfl, hrf, hb9⟩; obtain ⟨Af, cf, rfl, hcf, hCf⟩ := Kd.R_reads hrf; have HF9 := Aside0.mk hCf; have HP9 := am ((HP.out.drewN _).below hb9); have HCO9 := am (HP9.out.came HL0.out); have c39 := blk_cell HP9.out.2.2.1 0; clear hrf hb9 hCf c1 c2 c3)
  | (go_at_call 127; (refine (slices_Equal_int_int.calls k _ _ l0 _ _ l0 _ _ ?side1 hcf ?side2 hc0 HE.out).mono ?_); (case side1 => repeat (first | exact HF9.out | (with_reducible refine Kd.C_drewN ?_ _) | (with_reducible refine Kd.C_drew ?_))); (case side2 => repeat (first | exact HCO9.out | (with_reducible refine Kd.C_drewN ?_ _) | (with_reducible refine Kd.C_drew ?_))); rintro e w' ⟨rfl, ⟨nd, rfl⟩⟩))
 all_goals
  have HCL9 := Aside0.mk HP9.out.reads.2
  have d1 := blk_cell HP9.out.1 0
  have d4 := blk_cell HP9.out.2.2.2.1 0
  have g4 := blk_frozen HP9.out.2.2.2.1 0
  clear c39
 all_goals (simp only [Exit.then]; go_wp2)
 all_goals
  go_region_law (first
   | (go_simp; go_at_call 158; (refine (slices_Clone_int_int.calls _ _ l l _ ?side1 hlc (by unfold slices_Clone_int_int.f; rw [if_pos (by omega)])).mono ?_); (case side1 => repeat (first | exact HCL9.out | (with_reducible first | refine Kd.C_alloc ?_ _ | refine Kd.C_drewN ?_ _ | refine Kd.C_drew ?_))); rintro e w10 ⟨vc, rfl, hoc, hb10⟩; obtain ⟨Ac, cc, rfl⟩ := Kd.R_slice hoc; have H10 := am (HP9.out.clone hoc hb10); have e4 := blk_cell H10.out.1.2.2.2.1 0; have f4 := blk_frozen H10.out.1.2.2.2.1 0; have e4a := blk_cell (blk_alloc H10.out.1.2.2.2.1 (Obj.cells #[Value.slice Ac l.length cc] 24)) 0; clear hoc hb10)
   | (refine Kd.S_append_step (Kd.slice 3 (Kd.int .i64)) (w0 := w0) w0.heap.size (by rfl) (.tmp 15) (.tmp 18) 49 24 (.slice none 0 0) 24 rfl Try.underlying49 INF.out rfl (by decide) (by omega) (.slice Ao out.length co) out l [.slice Ac l.length cc] (fun k => (k ≠ gn ∧ k ≠ gl ∧ k ≠ gown) ∧ some k ≠ (Value.slice A l.length cl).ownBlock) (fun k => w9.heap.size ≤ k ∧ k < w10.heap.size) rfl rfl H10.out.2.2.1 (fun k hk => H10.out.2.2.2.1 k hk.1) (fun k hk => (H10.out.2.2.2.1 k (Nat.le_trans H10.out.2.2.2.2.1 hk)).1) H10.out.2.1 H10.out.1.2.2.2.2.2.2.2.1 (Nat.le_trans H10.out.2.2.2.2.2 H10.out.2.2.2.2.1) (by omega) ?_; intro v1 w1 ho1 hb1 hg1 _; obtain ⟨b1v, A1, co1, rfl, hp1⟩ := H10.out.1.found ho1 hb1 hg1; have H1 := Aside0.mk hp1; have c1v := blk_cell b1v 0; have f1v := blk_frozen b1v 0; clear ho1 hb1 hg1 hp1 b1v))
 all_goals go_wp2
 all_goals (first | go_end0 | ((try simp only [Exit.inBlock, Exit.then]); refine bodyPost_ret (results_none rfl _ _ _) rfl ?_))
 all_goals
  have h2 := H1.out
  simp only [List.length_append, List.length_cons, List.length_nil, Nat.zero_add] at h2
  exact ⟨rfl, _, _, h2⟩
theorem allL_len (n : Nat) : ∀ (d : Nat) (l : List Int), (allL n d l).length ≤ (n + 1) ^ d := by
 intro d
 induction d with
 | zero => intro l; simp [allL]
 | succ d ih =>
  intro l
  have key : ∀ (c : Nat) (f : Nat → List (List Int)), (∀ i, (f i).length ≤ (n + 1) ^ d) → ((List.range c).flatMap f).length ≤ c * (n + 1) ^ d := by
   intro c f hf
   induction c with
   | zero => simp
   | succ c ihn => rw [List.range_succ, List.flatMap_append, List.length_append, Nat.succ_mul]; simp only [List.flatMap_cons, List.flatMap_nil, List.append_nil]; have := hf c; omega
  unfold allL
  refine Nat.le_trans (key _ _ (fun i => ih _)) ?_
  rw [Nat.pow_succ, Nat.mul_comm]
  exact Nat.mul_le_mul_left _ (by omega)
theorem allL_succ (n d : Nat) (l : List Int) : allL n (d + 1) l = (List.range (n + 1 - (l.getLastD 0).toNat)).flatMap fun i => allL n d (l ++ [(((l.getLastD 0).toNat + i : Nat) : Int)]) := by rw [allL]
theorem hv_flat {α : Type} (f : Nat → List α) {i c : Nat} (h : i ≤ c) : ((List.range i).flatMap f).length ≤ ((List.range c).flatMap f).length := by
 obtain ⟨j, rfl⟩ := Nat.le.dest h
 rw [List.range_add, List.flatMap_append, List.length_append]
 omega
theorem hv_last (l : List Int) : l.getLastD 0 = if l.length = 0 then 0 else rd l ((l.length : Int) - 1) := by
 rcases List.eq_nil_or_concat l with rfl | ⟨t, x, rfl⟩
 ·
  rfl
 ·
  rw [if_neg (by simp), List.concat_eq_append]
  unfold rd
  rw [show (((t ++ [x]).length : Int) - 1).toNat = t.length from by rw [List.length_append, List.length_singleton]; omega]
  simp
set_option maxHeartbeats 4000000 in
set_option maxRecDepth 4000 in
theorem hv_row {w0 : World} {gl gn gown gout gx n c0 k : Nat} {A0 : Option Addr} {l0 : List Int} (hn : n ≤ 6) (hc0 : l0.length ≤ c0) (hl0 : Kd.C (Kd.int .i64) w0 A0 l0.length l0) :
  ∀ (d : Nat) (l : List Int) (out : List (List Int)) (w : World), l.length + d = n → 0 ≤ l.getLastD 0 → (∀ q ∈ allL n d l, okH k l0 q = true) → out.length + (allL n d l).length ≤ 1000000 → (∃ A cl Ao co, HvP w0 gl gn gown gout gx n A0 c0 l0 A cl Ao co l out w) →
  Calls Try.prog 204 #[.pointer (some ⟨gl, 0, none⟩), .pointer (some ⟨gn, 0, none⟩), .pointer (some ⟨gown, 0, none⟩), .pointer (some ⟨gout, 0, none⟩), .pointer (some ⟨gx, 0, none⟩)] w fun e w' => e = .returned (.tuple #[]) ∧ ∃ A cl Ao co, HvP w0 gl gn gown gout gx n A0 c0 l0 A cl Ao co l (out ++ (allL n d l).filter fun q => impl_factors.f k q == some l0) w' := by
 have HL0 := Aside0.mk hl0
 clear hl0
 intro d
 induction d with
 | zero =>
  intro l out w hd _ hok hlen ⟨A, cl, Ao, co, h⟩
  obtain rfl : n = l.length := by omega
  obtain ⟨fl, hf, he⟩ := okH_ok (hok l (by simp [allL]))
  simp only [allL, List.length_singleton] at hlen ⊢
  by_cases hfl : fl = l0
  ·
   subst hfl
   rw [decide_eq_true rfl] at he
   refine (hv_yes hc0 hn (by omega) HL0.out h hf he).mono ?_
   rintro e w' ⟨rfl, A1, co1, h1⟩
   refine ⟨rfl, A, cl, A1, co1, ?_⟩
   rw [List.filter_cons_of_pos (by rw [hf]; exact beq_self_eq_true _)]
   exact h1
  ·
   rw [decide_eq_false hfl] at he
   refine (hv_no hc0 HL0.out h hf he).mono ?_
   rintro e w' ⟨rfl, h1⟩
   refine ⟨rfl, A, cl, Ao, co, ?_⟩
   rw [List.filter_cons_of_neg (by rw [hf]; intro hh; exact hfl (Option.some.inj (eq_of_beq hh))), List.filter_nil, List.append_nil]
   exact h1
 | succ d ih =>
  intro l out w hd hls hok hlen ⟨A, cl, Ao, co, h⟩
  have HIH := Aside0.mk ih
  clear ih
  have hlt : l.length < n := by omega
  obtain ⟨ls, hls2⟩ : ∃ ls : Nat, l.getLastD 0 = (ls : Int) := ⟨(l.getLastD 0).toNat, by omega⟩
  obtain ⟨cand, hcand⟩ : ∃ cand : Nat → List (List Int), cand = fun i => allL n d (l ++ [((ls + i : Nat) : Int)]) := ⟨_, rfl⟩
  obtain ⟨cnt, hcnt⟩ : ∃ cnt : Nat, cnt = n + 1 - ls := ⟨_, rfl⟩
  have HALL := am (show allL n (d + 1) l = (List.range cnt).flatMap cand by rw [hcand, hcnt, allL_succ, hls2, Int.toNat_natCast])
  rw [HALL.out] at hok hlen
  have HOK := Aside0.mk hok
  have HLEN := Aside0.mk hlen
  have HC := Aside0.mk hcand
  have HLS := Aside0.mk hls2
  clear hok hlen hcand hls hls2
  have hne : ((l.length : Int) == (n : Int)) = false := by simp; omega
  have c1 := blk_cell h.1 0
  have c2 := blk_cell h.2.1 0
  obtain ⟨hlcap, hlC⟩ := h.reads
  have HI := am (show ∃ A cl Ao co, HvP w0 gl gn gown gout gx n A0 c0 l0 A cl Ao co l out w from ⟨A, cl, Ao, co, h⟩)
  have INF := am (show (Try.prog.info? 3).map (fun i => (i.zero, i.size, i.bytes)) = some (some (.int .i64 0), 1, 8) by kernel_rfl)
  clear h
  by_cases hl : l.length = 0
  case' pos =>
   have hls0 := am (show ls = 0 by have := HLS.out; rw [hv_last, if_pos hl] at this; omega)
   have hpos : decide (0 < l.length) = false := decide_eq_false (by omega)
   have hpos' : decide (0 < (l.length : Int)) = false := decide_eq_false (by omega)
   clear hlC hlcap hl
   go_enter Try.func204, Try.ntmps204
   go_wp2_with fail
  case' neg =>
   have hpos : decide (0 < l.length) = true := decide_eq_true (by omega)
   have hpos' : decide (0 < (l.length : Int)) = true := decide_eq_true (by omega)
   obtain ⟨ji, hji⟩ : ∃ j_ : Int, (wrap64 ((l.length : Int) - 1)) = j_ := ⟨_, rfl⟩
   have hjiw : (IntKind.i64.wrap ((l.length : Int) - 1)) = ji := (i64_w _).trans hji
   have hj2 : ji = (l.length : Int) - 1 := by rw [← hji]; unfold wrap64; omega
   have p1 : 0 ≤ ji := by omega
   have q1 : ji < (l.length : Int) := by omega
   obtain ⟨ad, e1, hx⟩ := Kd.at_int hlC ji p1 q1
   have hrd : rd l ji = (ls : Int) := by rw [← HLS.out, hv_last, if_neg hl, hj2]
   rw [hrd] at hx
   cases e1
   replace p1 := eq_true p1
   replace q1 := eq_true q1
   clear hlC hj2 hrd
   go_enter Try.func204, Try.ntmps204
   go_wp2_with fail
  all_goals
   go_loopw [6] (fun v6 w' => ∃ (i m : Nat), i ≤ cnt ∧ Aside0 (m = ls + i) ∧ v6 = .int .i64 (m : Int) ∧ Aside0 (∃ A cl Ao co, HvP w0 gl gn gown gout gx n A0 c0 l0 A cl Ao co l (out ++ ((List.range i).flatMap cand).filter fun q => impl_factors.f k q == some l0) w')) (fun v6 _ => ((n : Int) + 1 - intOf v6).toNat)
   case atStart => exact ⟨0, ls, by omega, ⟨rfl⟩, by first | rfl | (rw [hls0.out]; rfl), ⟨by rw [List.range_zero, List.flatMap_nil, List.filter_nil, List.append_nil]; exact HI.out⟩⟩
   case round =>
    clear HI c1 c2
    obtain ⟨i, m, hi, ⟨hm⟩, rfl, ⟨A1, cl1, Ao1, co1, h1⟩⟩ := hrel
    by_cases hic : i < cnt
    ·
     have hle : decide ((m : Int) ≤ (n : Int)) = true := decide_eq_true (by omega)
     have hle' : decide (m ≤ n) = true := decide_eq_true (by omega)
     have c1 := blk_cell h1.1 0
     have f1 := blk_frozen h1.1 0
     have c2 := blk_cell h1.2.1 0
     have H1 := Aside0.mk h1
     have HM := Aside0.mk hm
     have HCI := am (show cand i = allL n d (l ++ [((ls + i : Nat) : Int)]) by rw [HC.out])
     have hmn : m ≤ n := by omega
     have HW := am (show wrap64 ((m : Int) + 1) = ((m + 1 : Nat) : Int) by unfold wrap64; omega)
     clear h1 hm
     go_wp2_with (first
      | ((with_reducible refine gate_builtin (b := .append) (xs := #[.tmp 35, .tmp 37]) rfl ?_); at_builtin; refine Kd.R_append (Kd.int .i64) (w0 := w0) w0.heap.size rfl (.tmp 35) (.tmp 37) 24 3 (.int .i64 0) 8 rfl Try.underlying24 INF.out rfl (by decide) (by omega) (.slice A1 l.length cl1) l (m : Int) [.int .i64 (m : Int)] (fun k => k ≠ gn) (fun _ => False) rfl rfl rfl (fun _ hk => hk.elim) (fun k hk => by have := blk_lt H1.out.2.1; omega) H1.out.2.2.2.2.2.1 H1.out.2.2.2.2.2.2.2.1 H1.out.2.2.2.2.2.2.2.1.size (by omega) ?_; intro v1 w1 ho hb hg hat; obtain ⟨b2, A2, cl2, ev, h2⟩ := H1.out.push ho hb hg hat; obtain ⟨L2, hL2⟩ : ∃ L2, L2 = (l ++ [(m : Int)]).length := ⟨_, rfl⟩; rw [← hL2] at ev; clear hL2 ho hb hg hat; subst ev; clear c1 f1; have c1 := blk_cell b2 0; have f1 := blk_frozen b2 0; have c5 := blk_cell h2.2.2.2.2.1 0; have H2 := Aside0.mk h2; clear b2 h2))
     refine (HIH.out (l ++ [(m : Int)]) _ _ (by rw [List.length_append, List.length_singleton]; omega) (by simp) (fun q hq => HOK.out q (List.mem_flatMap.2 ⟨i, List.mem_range.2 hic, by rw [HC.out]; rwa [HM.out] at hq⟩)) ?len ⟨_, _, _, _, H2.out⟩).mono ?_
     case len =>
      have e1 := hv_flat cand (show i + 1 ≤ cnt from hic)
      rw [List.range_succ, List.flatMap_append, List.length_append, List.flatMap_singleton] at e1
      have e2 := List.length_filter_le (fun q => impl_factors.f k q == some l0) ((List.range i).flatMap cand)
      have e3 := HLEN.out
      rw [List.length_append, HM.out, ← HCI.out]
      omega
     rintro e w3 ⟨rfl, A3, cl3, Ao3, co3, h3⟩
     obtain ⟨L1, hL1⟩ : ∃ L1, L1 = (l ++ [(m : Int)]).length := ⟨_, rfl⟩
     have hL2 : L1 = l.length + 1 := by rw [hL1, List.length_append, List.length_singleton]
     have c1 := blk_cell h3.1 0
     have f1 := blk_frozen h3.1 0
     have hcap := h3.reads.1
     rw [← hL1] at c1 hcap
     obtain ⟨jt, hjt⟩ : ∃ j_ : Int, (wrap64 ((L1 : Int) - 1)) = j_ := ⟨_, rfl⟩
     have hjtw : (IntKind.i64.wrap ((L1 : Int) - 1)) = jt := (i64_w _).trans hjt
     have hjt2 : jt = (l.length : Int) := by rw [← hjt]; unfold wrap64; omega
     obtain ⟨i0, hi0, _, hsz, _⟩ := info_parts INF.out
     have hcut := cut_to (P := Try.prog) 24 3 .i64 Try.underlying24 hi0 A3 L1 cl3 jt (by omega) (by omega) hcap
     have H3 := am (h3.pop (j := jt.toNat) (by omega))
     clear h3 hL1 hL2 hjt2 hi0 hsz
     go_wp2_with fail
     go_roundw
     case rel => exact ⟨i + 1, m + 1, by omega, ⟨by have := HM.out; omega⟩, by go_num, ⟨_, _, _, _, by rw [List.range_succ, List.flatMap_append, List.flatMap_singleton, List.filter_append, ← List.append_assoc, HCI.out, ← HM.out]; exact H3.out⟩⟩
     case measure => simp [intOf]; omega
    ·
     have hle : decide ((m : Int) ≤ (n : Int)) = false := decide_eq_false (by omega)
     have hle' : decide (m ≤ n) = false := decide_eq_false (by omega)
     have c2 := blk_cell h1.2.1 0
     obtain rfl : i = cnt := by omega
     have H1 := Aside0.mk h1
     clear h1 hm
     go_wp2
     first | go_end0 | ((try simp only [Exit.inBlock, Exit.then]); refine bodyPost_ret (results_none rfl _ _ _) rfl ?_)
     exact ⟨rfl, _, _, _, _, by rw [HALL.out]; exact H1.out⟩
theorem impl_having.mono : ∀ a0 k, LeO (impl_having.f k a0) (impl_having.f (k + 1) a0) := by
 intro l0 k
 unfold impl_having.f
 by_cases h : l0.length ≤ 6 ∧ ((allL l0.length l0.length []).all (okH k l0)) = true
 ·
  have hu : ∀ q ∈ allL l0.length l0.length [], okH (k + 1) l0 q = true ∧ impl_factors.f (k + 1) q = impl_factors.f k q := by
   intro q hq
   obtain ⟨fl, hf, he⟩ := okH_ok (List.all_eq_true.1 h.2 q hq)
   have hf' := impl_factors.mono q k _ hf
   have he' := slices_Equal_int_int.mono fl l0 k _ he
   refine ⟨?_, by rw [hf', hf]⟩
   unfold okH
   rw [hf']
   simp only [he']
   exact beq_self_eq_true _
  rw [if_pos h, if_pos ⟨h.1, List.all_eq_true.2 fun q hq => (hu q hq).1⟩]
  have : (allL l0.length l0.length []).filter (fun l => impl_factors.f k l == some l0) = (allL l0.length l0.length []).filter (fun l => impl_factors.f (k + 1) l == some l0) := List.filter_congr fun q hq => by rw [(hu q hq).2]
  rw [this]
  exact LeO.refl _
 ·
  rw [if_neg h]; exact LeO.none _
theorem hv_start {w w1 w2 w3 w4 w5 w6 w9 : World} {gown gn gout gl gx c0 cl cv : Nat} {A0 Al Av : Option Addr} {l0 : List Int} {V : Value} (hV : V = .func (.func 204) #[] #[.pointer (some ⟨gl, 0, none⟩), .pointer (some ⟨gn, 0, none⟩), .pointer (some ⟨gown, 0, none⟩), .pointer (some ⟨gout, 0, none⟩), .pointer (some ⟨gx, 0, none⟩)])
  (GO : gown = w.heap.size) (BO : w1.heap[gown]? = some (.cells #[.slice A0 l0.length c0] 24 (0, 0))) (HB1 : Below w.heap.size w w1)
  (HS : Kd.S (Kd.slice 3 (Kd.int .i64)) 24 w2 w1.heap.size (fun _ => True) (.slice Av 0 cv) []) (HB2 : Below w1.heap.size w1 w2) (HL : Kd.R (Kd.int .i64) 3 w3 w2.heap.size (fun _ => True) (.slice Al 0 cl) []) (HB3 : Below w2.heap.size w2 w3)
  (GN : gn = w3.heap.size) (BN : w4.heap[gn]? = some (.cells #[.int .i64 0] 3 (0, 0))) (HB4 : Below w3.heap.size w3 w4) (GT : gout = w4.heap.size) (BT : w5.heap[gout]? = some (.cells #[.slice none 0 0] 49 (0, 0))) (HB5 : Below w4.heap.size w4 w5)
  (GL : gl = w5.heap.size) (BL : w6.heap[gl]? = some (.cells #[.slice none 0 0] 24 (0, 0))) (HB6 : Below w5.heap.size w5 w6)
  {W : World} (hW : W = ((w6.setCell ⟨gn, 0, none⟩ (.int .i64 (l0.length : Int))).setCell ⟨gout, 0, none⟩ (.slice Av 0 cv)).setCell ⟨gl, 0, none⟩ (.slice Al 0 cl)) (BX : w9.heap[gx]? = some (.cells #[.nilFunc] 1 (0, 0))) (GX : gx = W.heap.size) (HB9 : Below W.heap.size W w9) :
  HvP w gl gn gown gout gx l0.length A0 c0 l0 Al cl Av cv [] [] (w9.setCell ⟨gx, 0, none⟩ V) := by
 have s1 := HB1.size
 have s2 := HB2.size
 have s3 := HB3.size
 have s4 := HB4.size
 have s5 := HB5.size
 have s6 := HB6.size
 have lo := blk_lt BO
 have ln4 := blk_lt BN
 have lt5 := blk_lt BT
 have ll6 := blk_lt BL
 have T6 : Below w.heap.size w w6 := below_step (below_step (below_step (below_step (below_step HB1 HB2) HB3) HB4) HB5) HB6
 have TW : Below w.heap.size w W := by rw [hW]; exact below_set (below_set (below_set T6 (by omega)) (by omega)) (by omega)
 have T9 : Below w.heap.size w w9 := below_step TW HB9
 have sW := TW.size
 have bo6 := blk_below (blk_below (blk_below (blk_below (blk_below BO HB2) HB3) HB4) HB5) HB6
 have bn6 := blk_below (blk_below BN HB5) HB6
 have bt6 := blk_below BT HB6
 have HS6 := Kd.S_below (Kd.S_below (Kd.S_below (Kd.S_below (Kd.S_mono (ok' := fun k => w1.heap.size ≤ k ∧ k < w2.heap.size) (Kd.S_bound HS) (fun k hk => ⟨hk.2.1, hk.2.2.1⟩)) HB3) HB4) HB5) HB6
 have HL6 := Kd.R_below (Kd.R_below (Kd.R_below (Kd.R_mono (ok' := fun k => w2.heap.size ≤ k ∧ k < w3.heap.size) (Kd.R_bound HL) (fun k hk => ⟨hk.2.1, hk.2.2.1⟩)) HB4) HB5) HB6
 have bn7 := blk_put (cs' := #[.int .i64 (l0.length : Int)]) bn6 0 (.int .i64 (l0.length : Int)) rfl
 have bt7 := blk_far (p := ⟨gn, 0, none⟩) bt6 (by show gout ≠ gn; omega) (.int .i64 (l0.length : Int))
 have bl7 := blk_far (p := ⟨gn, 0, none⟩) BL (by show gl ≠ gn; omega) (.int .i64 (l0.length : Int))
 have bo7 := blk_far (p := ⟨gn, 0, none⟩) bo6 (by show gown ≠ gn; omega) (.int .i64 (l0.length : Int))
 have HS7 := Kd.S_far (p := ⟨gn, 0, none⟩) HS6 (fun k hk => by show k ≠ gn; omega) (.int .i64 (l0.length : Int))
 have HL7 := Kd.R_far (p := ⟨gn, 0, none⟩) HL6 (fun k hk => by show k ≠ gn; omega) (.int .i64 (l0.length : Int))
 have bt8 := blk_put (cs' := #[.slice Av 0 cv]) bt7 0 (.slice Av 0 cv) rfl
 have bn8 := blk_far (p := ⟨gout, 0, none⟩) bn7 (by show gn ≠ gout; omega) (.slice Av 0 cv)
 have bl8 := blk_far (p := ⟨gout, 0, none⟩) bl7 (by show gl ≠ gout; omega) (.slice Av 0 cv)
 have bo8 := blk_far (p := ⟨gout, 0, none⟩) bo7 (by show gown ≠ gout; omega) (.slice Av 0 cv)
 have HS8 := Kd.S_far (p := ⟨gout, 0, none⟩) HS7 (fun k hk => by show k ≠ gout; omega) (.slice Av 0 cv)
 have HL8 := Kd.R_far (p := ⟨gout, 0, none⟩) HL7 (fun k hk => by show k ≠ gout; omega) (.slice Av 0 cv)
 have bl9 := blk_put (cs' := #[.slice Al 0 cl]) bl8 0 (.slice Al 0 cl) rfl
 have bn9 := blk_far (p := ⟨gl, 0, none⟩) bn8 (by show gn ≠ gl; omega) (.slice Al 0 cl)
 have bt9 := blk_far (p := ⟨gl, 0, none⟩) bt8 (by show gout ≠ gl; omega) (.slice Al 0 cl)
 have bo9 := blk_far (p := ⟨gl, 0, none⟩) bo8 (by show gown ≠ gl; omega) (.slice Al 0 cl)
 have HS9 := Kd.S_far (p := ⟨gl, 0, none⟩) HS8 (fun k hk => by show k ≠ gl; omega) (.slice Al 0 cl)
 have HL9 := Kd.R_far (p := ⟨gl, 0, none⟩) HL8 (fun k hk => by show k ≠ gl; omega) (.slice Al 0 cl)
 rw [← hW] at bl9 bn9 bt9 bo9 HS9 HL9
 have ll := blk_lt bl9
 have ln := blk_lt bn9
 have lt := blk_lt bt9
 have lo9 := blk_lt bo9
 have HS10 := Kd.S_far (p := ⟨gx, 0, none⟩) (Kd.S_below HS9 HB9) (fun k hk => by show k ≠ gx; omega) V
 have HL10 := Kd.R_far (p := ⟨gx, 0, none⟩) (Kd.R_below HL9 HB9) (fun k hk => by show k ≠ gx; omega) V
 refine ⟨blk_far (p := ⟨gx, 0, none⟩) (blk_below bl9 HB9) (by show gl ≠ gx; omega) _, blk_far (p := ⟨gx, 0, none⟩) (blk_below bn9 HB9) (by show gn ≠ gx; omega) _, blk_far (p := ⟨gx, 0, none⟩) (blk_below bo9 HB9) (by show gown ≠ gx; omega) _, blk_far (p := ⟨gx, 0, none⟩) (blk_below bt9 HB9) (by show gout ≠ gx; omega) _, by rw [hV]; exact blk_put BX 0 _ rfl, Kd.R_mono (Kd.R_lower HL10 (by omega)) (fun k hk => by omega), Kd.S_mono (Kd.S_lower HS10 (by omega)) (fun k hk => ⟨⟨by omega, by omega, by omega⟩, fun e => by have := HL10.1 k e.symm; omega⟩), below_set T9 (by omega), by omega, by omega, by omega⟩
set_option maxHeartbeats 2000000 in
set_option maxRecDepth 4000 in
theorem impl_having.calls (k : Nat) (A0 : Option Addr) (c0 : Nat) (l0 : List Int) (r : List (List Int)) (w : World) (hr0 : Kd.C (Kd.int .i64) w A0 l0.length l0) (hc0 : l0.length ≤ c0) (h : impl_having.f k l0 = some r) :
  Calls Try.prog 129 #[.slice A0 l0.length c0] w fun e w' => ∃ v0_ : Value, e = .returned (v0_) ∧ Kd.S (Kd.slice 3 (Kd.int .i64)) 24 w' w.heap.size (fun _ => True) v0_ r ∧ Below w.heap.size w w' := by
 unfold impl_having.f at h
 by_cases hc : l0.length ≤ 6 ∧ ((allL l0.length l0.length []).all (okH k l0)) = true
 case neg => rw [if_neg hc] at h; exact absurd h (by simp)
 rw [if_pos hc] at h
 have HRes := am (Option.some.inj h)
 have HOK := am (List.all_eq_true.1 hc.2)
 have h6 := hc.1
 clear h hc
 have HR0 := Aside0.mk hr0
 clear hr0
 obtain ⟨n, hn⟩ : ∃ n, n = l0.length := ⟨_, rfl⟩
 have HN := Aside0.mk hn
 go_enter Try.func129, Try.ntmps129
 go_wp2_with (first
  | ((with_reducible refine gate_dst (N := 1) rfl ?_); refine box_event ?hg (N := 1) ?hd (cs := #[.slice A0 l0.length c0]) (t := 24) ?hr ?_; (case hd => rfl); (case hg => rfl); (case hr => first | (go_simp; done) | (go_simp; rfl)); intro gown hgown w1 bo hb1; have co1 := blk_cell bo 0; have GO := Aside0.mk hgown; have BO := Aside0.mk bo; have HB1 := Aside0.mk hb1; clear hgown bo hb1)
  | ((with_reducible refine gate_dst (N := 9) rfl ?_); refine Kd.S_lit (Kd.slice 3 (Kd.int .i64)) (w0 := w1) w1.heap.size 24 ?hg (N := 9) ?hd (xs := ([] : List (List Int))) (inner := []) (ok := fun _ => True) (okp := fun _ => True) ?hr ?hp (fun _ hk => hk) trivial (Below.refl _ _) (Nat.le_refl _) (by simp) ?_; (case hd => rfl); (case hg => rfl); (case hr => first | (go_simp; done) | (go_simp; rfl)); (case hp => exact (Reps.none _ _)); intro v1 w2 ho hb2 hgr2 hnw2; obtain ⟨Av, cv, ev⟩ := Kd.S_slice ho; rw [List.length_nil] at ev; subst ev; have HS := Aside0.mk ho; have HB2 := Aside0.mk hb2; clear ho hb2 hgr2 hnw2 co1)
  | ((with_reducible refine gate_dst (N := 10) rfl ?_); refine Kd.R_lit (Kd.int .i64) (w0 := w2) w2.heap.size 3 ?hg (N := 10) ?hd (xs := ([] : List Int)) (inner := []) (ok := fun _ => True) (okp := fun _ => True) ?hr ?hp (fun _ hk => hk) trivial (Below.refl _ _) (Nat.le_refl _) (by simp) ?_; (case hd => rfl); (case hg => rfl); (case hr => first | (go_simp; done) | (go_simp; rfl)); (case hp => exact (Reps.none _ _)); intro v2 w3 ho hb3 hgr3 hnw3; obtain ⟨Al, cl, ev⟩ := Kd.R_slice ho; rw [List.length_nil] at ev; subst ev; have HL := Aside0.mk ho; have HB3 := Aside0.mk hb3; clear ho hb3 hgr3 hnw3)
  | ((with_reducible refine gate_dst (N := 3) rfl ?_); refine box_event ?hg (N := 3) ?hd (cs := #[.int .i64 0]) (t := 3) ?hr ?_; (case hd => rfl); (case hg => rfl); (case hr => first | (go_simp; done) | (go_simp; rfl)); intro gn hgn w4 bn hb4; have GN := Aside0.mk hgn; have BN := Aside0.mk bn; have HB4 := Aside0.mk hb4; clear hgn bn hb4)
  | ((with_reducible refine gate_dst (N := 4) rfl ?_); refine box_event ?hg (N := 4) ?hd (cs := #[.slice none 0 0]) (t := 49) ?hr ?_; (case hd => rfl); (case hg => rfl); (case hr => first | (go_simp; done) | (go_simp; rfl)); intro gout hgout w5 bt hb5; have GT := Aside0.mk hgout; have BT := Aside0.mk bt; have HB5 := Aside0.mk hb5; clear hgout bt hb5)
  | ((with_reducible refine gate_dst (N := 5) rfl ?_); refine box_event ?hg (N := 5) ?hd (cs := #[.slice none 0 0]) (t := 24) ?hr ?_; (case hd => rfl); (case hg => rfl); (case hr => first | (go_simp; done) | (go_simp; rfl)); intro gl hgl w6 bl hb6; have GL := Aside0.mk hgl; have BL := Aside0.mk bl; have HB6 := Aside0.mk hb6; have bn6 := blk_below (blk_below BN.out HB5.out) hb6; have bt6 := blk_below BT.out hb6; have q1 := blk_cell bn6 0; have q2 := blk_frozen bn6 0; have bt7 := blk_far (p := ⟨gn, 0, none⟩) bt6 (blk_ne bt6 bn6 (by decide)) (.int .i64 (l0.length : Int)); have q3 := blk_cell bt7 0; have q4 := blk_frozen bt7 0; have bl7 := blk_far (p := ⟨gn, 0, none⟩) bl (blk_ne bl bn6 (by decide)) (.int .i64 (l0.length : Int)); have bl8 := blk_far (p := ⟨gout, 0, none⟩) bl7 (blk_ne bl7 bt7 (by decide)) (.slice Av 0 cv); have q5 := blk_cell bl8 0; have q6 := blk_frozen bl8 0; clear hgl bl hb6 bn6 bt6 bt7 bl7 bl8)
  | ((with_reducible refine gate_dst (N := 6) rfl ?_); refine box_event ?hg (N := 6) ?hd (cs := #[.nilFunc]) (t := 1) ?hr ?_; (case hd => rfl); (case hg => rfl); (case hr => first | (go_simp; done) | (go_simp; rfl)); intro gx hgx w9 bx hb9; have GX := Aside0.mk hgx; have BX := Aside0.mk bx; have HB9 := Aside0.mk hb9; have cr0 : w9.cell? ⟨gx, 0, none⟩ = some .nilFunc := (blk_cell bx 0).trans rfl; have fr0 := blk_frozen bx 0; have cr1 := blk_cell (blk_put (cs' := #[.func (.func 204) #[] #[.pointer (some ⟨gl, 0, none⟩), .pointer (some ⟨gn, 0, none⟩), .pointer (some ⟨gown, 0, none⟩), .pointer (some ⟨gout, 0, none⟩), .pointer (some ⟨gx, 0, none⟩)]]) bx 0 (.func (.func 204) #[] #[.pointer (some ⟨gl, 0, none⟩), .pointer (some ⟨gn, 0, none⟩), .pointer (some ⟨gown, 0, none⟩), .pointer (some ⟨gout, 0, none⟩), .pointer (some ⟨gx, 0, none⟩)]) rfl) 0; clear hgx bx hb9 q1 q2 q3 q4 q5 q6)
  )
 clear cr0 fr0 cr1
 have H0 := hv_start (l0 := l0) rfl GO.out BO.out HB1.out HS.out HB2.out HL.out HB3.out GN.out BN.out HB4.out GT.out BT.out HB5.out GL.out BL.out HB6.out rfl BX.out GX.out HB9.out
 have hlen := allL_len l0.length l0.length []
 have h7 : (l0.length + 1) ^ l0.length ≤ 1000000 := Nat.le_trans (Nat.pow_le_pow_left (by omega : l0.length + 1 ≤ 7) _) (Nat.le_trans (Nat.pow_le_pow_right (by omega) (by omega : l0.length ≤ 6)) (by decide))
 refine (hv_row (k := k) h6 hc0 HR0.out l0.length [] [] _ (by simp) (by simp) HOK.out (by rw [List.length_nil]; omega) ⟨_, _, _, _, H0⟩).mono ?_
 rintro e w10 ⟨rfl, A10, cl10, Ao10, co10, h10⟩
 obtain ⟨L, hL⟩ : ∃ L, L = ([] ++ (allL l0.length l0.length []).filter fun q => impl_factors.f k q == some l0) := ⟨_, rfl⟩
 rw [← hL] at h10
 have HL := Aside0.mk hL
 have cv10 := blk_cell h10.2.2.2.1 0
 have HO := am (Kd.S_mono h10.2.2.2.2.2.2.1 (fun _ _ => trivial) (ok' := fun _ => True))
 have HB := Aside0.mk h10.2.2.2.2.2.2.2.1
 clear h10 hL H0 hlen h7
 go_wp2
 go_ret
 exact ⟨_, rfl, by rw [← HRes.out]; have := HL.out; rw [List.nil_append] at this; rw [← this]; exact HO.out, HB.out⟩

/-! ### impl_ClassOf: function 36 -/
def impl_ClassOf.f (k : Nat) (l0 : List Int) : Option ((List (List Int)) × Bool) := (impl_AreLengths.f k l0).bind fun t358 => (if t358 = true then ((impl_factors.f k l0).bind fun t359 => ((impl_having.f k t359).bind fun t362 => (some (t362, true)))) else (some (([] : List (List Int)), false)))
theorem impl_ClassOf.mono : ∀ a0 k, LeO (impl_ClassOf.f k a0) (impl_ClassOf.f (k + 1) a0) := by
 intro a0 k
 unfold impl_ClassOf.f
 repeat' first
   | (with_reducible exact impl_AreLengths.mono _ _)
   | (with_reducible exact impl_factors.mono _ _)
   | (with_reducible exact impl_having.mono _ _)
   | (with_reducible exact LeO.refl _)
   | (with_reducible exact LeO.none _)
   | (with_reducible refine LeO.ite ?_ ?_)
   | (with_reducible refine LeO.bind ?_ (fun _ => ?_))
   | exact impl_AreLengths.mono _ _
   | exact impl_factors.mono _ _
   | exact impl_having.mono _ _
   | exact LeO.none _
   | refine LeO.ite ?_ ?_
   | refine LeO.bind ?_ (fun _ => ?_)
set_option maxHeartbeats 8000000 in
set_option maxRecDepth 100000 in
theorem impl_ClassOf.calls (k : Nat) (A0 : Option Addr) (c0 : Nat) (l0 : List Int) (r1 : List (List Int)) (r2 : Bool) (w : World) (hr0 : Kd.C (Kd.int .i64) w A0 l0.length l0) (hc0 : l0.length ≤ c0) (h : impl_ClassOf.f k l0 = some (r1, r2)) :
  Calls Try.prog 36 #[.slice A0 l0.length c0] w fun e w' => ∃ v0_ : Value, e = .returned (.tuple #[v0_, .bool r2]) ∧ Kd.S (Kd.slice 3 (Kd.int .i64)) 24 w' w.heap.size (fun _ => True) v0_ r1 ∧ Below w.heap.size w w' := by
 have HR0 := Aside0.mk hr0
 have HC0 := Aside0.mk hc0
 clear hr0 hc0
 have HB := am (Below.refl w.heap.size w)
 have H : ((impl_AreLengths.f k l0).bind fun t358 => (if t358 = true then ((impl_factors.f k l0).bind fun t359 => ((impl_having.f k t359).bind fun t362 => (some (t362, true)))) else (some (([] : List (List Int)), false)))) = some (r1, r2) := h
 clear h
 replace H := Option.bind_eq_some_iff.mp H
 obtain ⟨t358, A20, H⟩ := H
 replace H : (if t358 = true then ((impl_factors.f k l0).bind fun t359 => ((impl_having.f k t359).bind fun t362 => (some (t362, true)))) else (some (([] : List (List Int)), false))) = some (r1, r2) := H
 have A2 := Aside0.mk A20
 clear A20
 by_cases c3 : t358 = true
 ·
  subst c3
  have H1 : ((impl_factors.f k l0).bind fun t359 => ((impl_having.f k t359).bind fun t362 => (some (t362, true)))) = some (r1, r2) := by first | (rw [if_pos rfl] at H; exact H) | rfl
  clear H
  have H := H1
  clear H1
  replace H := Option.bind_eq_some_iff.mp H
  obtain ⟨t359, A40, H⟩ := H
  replace H : ((impl_having.f k t359).bind fun t362 => (some (t362, true))) = some (r1, r2) := H
  have A4 := Aside0.mk A40
  clear A40
  replace H := Option.bind_eq_some_iff.mp H
  obtain ⟨t362, A50, H⟩ := H
  replace H : (some (t362, true)) = some (r1, r2) := H
  have A5 := Aside0.mk A50
  clear A50
  simp only [Option.some.injEq, Prod.mk.injEq] at H
  obtain ⟨rfl, rfl⟩ := H
  go_enter Try.func36, Try.ntmps36
  go_wp2_with (first | ((with_reducible refine gate_callee (f := 25) rfl ?_); refine goesL_ (some 5) rfl rfl Try.func25 (by kernel_rfl) rfl #[.slice A0 l0.length c0] rfl (by (try simp only [List.map_toArray, List.map_cons, List.map_nil]); try rfl) ?_; (with_reducible refine (impl_AreLengths.calls k _ _ l0 true _ ?side1 ?side2 A2.out).mono ?_); (case side1 => repeat (first | exact HR0.out | (with_reducible first | refine Kd.C_alloc ?_ _ | refine Kd.C_drewN ?_ _ | refine Kd.C_drew ?_))); (case side2 => exact HC0.out); rintro e w' ⟨rfl, ⟨nd, rfl⟩⟩; refine ⟨_, rfl, ?_⟩) | ((with_reducible refine gate_callee (f := 108) rfl ?_); refine goesL_ (some 8) rfl rfl Try.func108 (by kernel_rfl) rfl #[.slice A0 l0.length c0] rfl (by (try simp only [List.map_toArray, List.map_cons, List.map_nil]); try rfl) ?_; (with_reducible refine (impl_factors.calls k _ _ l0 t359 _ ?side1 ?side2 A4.out).mono ?_); (case side1 => repeat (first | exact HR0.out | (with_reducible first | refine Kd.C_alloc ?_ _ | refine Kd.C_drewN ?_ _ | refine Kd.C_drew ?_))); (case side2 => exact HC0.out); rintro e w6 ⟨v360, rfl, ho0, hb⟩; refine ⟨_, rfl, ?_⟩; have n0_ := am (Kd.R_lower ho0 (below_size (by repeat with_reducible first | exact HB.out | apply pw_below_drewN | apply below_drew1))); have n1_ := am (below_step (by repeat with_reducible first | exact HB.out | apply pw_below_drewN | apply below_drew1) hb); clear HB; have Oq6 := n0_; have HB := n1_; clear n0_ n1_; (try clear hb); (try clear hb2); (try clear hk); (try clear hi); (try clear ho0); obtain ⟨Ao7, co7, eo7⟩ := Kd.R_slice Oq6.out; subst eo7) | ((with_reducible refine gate_callee (f := 129) rfl ?_); refine goesL_ (some 9) rfl rfl Try.func129 (by kernel_rfl) rfl #[.slice Ao7 t359.length co7] rfl (by (try simp only [List.map_toArray, List.map_cons, List.map_nil]); try rfl) ?_; (with_reducible refine (impl_having.calls k _ _ t359 t362 _ ?side1 ?side2 A5.out).mono ?_); (case side1 => repeat (first | exact (Kd.R_reads' Oq6.out).2.2 | (with_reducible first | refine Kd.C_alloc ?_ _ | refine Kd.C_drewN ?_ _ | refine Kd.C_drew ?_))); (case side2 => exact (Kd.R_reads' Oq6.out).2.1); rintro e w8 ⟨v363, rfl, ho0, hb⟩; refine ⟨_, rfl, ?_⟩; have n1_ := am (Kd.S_lower (Kd.S_new' ho0 (sqL Oq6)) (below_size (by repeat with_reducible first | exact HB.out | apply pw_below_drewN | apply below_drew1))); have n2_ := am (below_step (by repeat with_reducible first | exact HB.out | apply pw_below_drewN | apply below_drew1) hb); clear HB; replace Oq6 := sqR Oq6 hb; have Oq7 := n1_; have HB := n2_; clear n1_ n2_; (try clear hb); (try clear hb2); (try clear hk); (try clear hi); (try clear ho0)))
  go_ret2
  exact ⟨_, by first | rfl | (simp [errW_none, errW_some] <;> rfl) | (simp [*, errW_none, errW_some] <;> rfl), by (with_reducible repeat (first | apply Kd.S_alloc | apply Kd.S_drewN | apply Kd.S_drew)); exact Kd.S_mono Oq7.out (fun _ hk => trivial), by repeat with_reducible first | exact HB.out | apply pw_below_drewN | apply below_drew1⟩
 ·
  replace c3 := Bool.eq_false_iff.mpr c3
  subst c3
  have H1 : (some (([] : List (List Int)), false)) = some (r1, r2) := by first | (rw [if_neg (show ¬ (false = true) by decide)] at H; exact H) | rfl
  clear H
  have H := H1
  clear H1
  simp only [Option.some.injEq, Prod.mk.injEq] at H
  obtain ⟨rfl, rfl⟩ := H
  go_enter Try.func36, Try.ntmps36
  go_wp2_with (first | ((with_reducible refine gate_callee (f := 25) rfl ?_); refine goesL_ (some 5) rfl rfl Try.func25 (by kernel_rfl) rfl #[.slice A0 l0.length c0] rfl (by (try simp only [List.map_toArray, List.map_cons, List.map_nil]); try rfl) ?_; (with_reducible refine (impl_AreLengths.calls k _ _ l0 false _ ?side1 ?side2 A2.out).mono ?_); (case side1 => repeat (first | exact HR0.out | (with_reducible first | refine Kd.C_alloc ?_ _ | refine Kd.C_drewN ?_ _ | refine Kd.C_drew ?_))); (case side2 => exact HC0.out); rintro e w' ⟨rfl, ⟨nd, rfl⟩⟩; refine ⟨_, rfl, ?_⟩))
  go_ret2
  exact ⟨_, by first | rfl | (simp [errW_none, errW_some] <;> rfl) | (simp [*, errW_none, errW_some] <;> rfl), by first | exact Kd.S_nil _ _ _ _ _ | exact Kd.N_nil _ _ _ _ _ | exact Kd.V_nil _ _ _ _ _ | exact Kd.Q_nil _ _ _ _ _ | exact Kd.R_nil _ _ _ _ _, by repeat with_reducible first | exact HB.out | apply pw_below_drewN | apply below_drew1⟩

/-! ### spec_ClassOf: function 37 -/
def spec_ClassOf.f (k : Nat) (l0 : List Int) : Option ((List (List Int)) × Bool) := (spec_feGood.f k l0).bind fun t365 => (if t365 = true then ((spec_feFactors.f k l0).bind fun t366 => ((spec_feClass.f k t366).bind fun t369 => (some (t369, true)))) else (some (([] : List (List Int)), false)))
theorem spec_ClassOf.mono : ∀ a0 k, LeO (spec_ClassOf.f k a0) (spec_ClassOf.f (k + 1) a0) := by
 intro a0 k
 unfold spec_ClassOf.f
 repeat' first
   | (with_reducible exact spec_feClass.mono _ _)
   | (with_reducible exact spec_feFactors.mono _ _)
   | (with_reducible exact spec_feGood.mono _ _)
   | (with_reducible exact LeO.refl _)
   | (with_reducible exact LeO.none _)
   | (with_reducible refine LeO.ite ?_ ?_)
   | (with_reducible refine LeO.bind ?_ (fun _ => ?_))
   | exact spec_feClass.mono _ _
   | exact spec_feFactors.mono _ _
   | exact spec_feGood.mono _ _
   | exact LeO.none _
   | refine LeO.ite ?_ ?_
   | refine LeO.bind ?_ (fun _ => ?_)
set_option maxHeartbeats 8000000 in
set_option maxRecDepth 100000 in
theorem spec_ClassOf.calls (k : Nat) (A0 : Option Addr) (c0 : Nat) (l0 : List Int) (r1 : List (List Int)) (r2 : Bool) (w : World) (hr0 : Kd.C (Kd.int .i64) w A0 l0.length l0) (hc0 : l0.length ≤ c0) (h : spec_ClassOf.f k l0 = some (r1, r2)) :
  Calls Try.prog 37 #[.slice A0 l0.length c0] w fun e w' => ∃ v0_ : Value, e = .returned (.tuple #[v0_, .bool r2]) ∧ Kd.N (Kd.slice 3 (Kd.int .i64)) 24 w' w.heap.size (fun k_ => (w.heap.size ≤ k_)) v0_ r1 ∧ Below w.heap.size w w' := by
 have HR0 := Aside0.mk hr0
 have HC0 := Aside0.mk hc0
 clear hr0 hc0
 have HB := am (Below.refl w.heap.size w)
 have H : ((spec_feGood.f k l0).bind fun t365 => (if t365 = true then ((spec_feFactors.f k l0).bind fun t366 => ((spec_feClass.f k t366).bind fun t369 => (some (t369, true)))) else (some (([] : List (List Int)), false)))) = some (r1, r2) := h
 clear h
 replace H := Option.bind_eq_some_iff.mp H
 obtain ⟨t365, A20, H⟩ := H
 replace H : (if t365 = true then ((spec_feFactors.f k l0).bind fun t366 => ((spec_feClass.f k t366).bind fun t369 => (some (t369, true)))) else (some (([] : List (List Int)), false))) = some (r1, r2) := H
 have A2 := Aside0.mk A20
 clear A20
 by_cases c3 : t365 = true
 ·
  subst c3
  have H1 : ((spec_feFactors.f k l0).bind fun t366 => ((spec_feClass.f k t366).bind fun t369 => (some (t369, true)))) = some (r1, r2) := by first | (rw [if_pos rfl] at H; exact H) | rfl
  clear H
  have H := H1
  clear H1
  replace H := Option.bind_eq_some_iff.mp H
  obtain ⟨t366, A40, H⟩ := H
  replace H : ((spec_feClass.f k t366).bind fun t369 => (some (t369, true))) = some (r1, r2) := H
  have A4 := Aside0.mk A40
  clear A40
  replace H := Option.bind_eq_some_iff.mp H
  obtain ⟨t369, A50, H⟩ := H
  replace H : (some (t369, true)) = some (r1, r2) := H
  have A5 := Aside0.mk A50
  clear A50
  simp only [Option.some.injEq, Prod.mk.injEq] at H
  obtain ⟨rfl, rfl⟩ := H
  go_enter Try.func37, Try.ntmps37
  go_wp2_with (first | ((with_reducible refine gate_callee (f := 109) rfl ?_); refine goesL_ (some 5) rfl rfl Try.func109 (by kernel_rfl) rfl #[.slice A0 l0.length c0] rfl (by (try simp only [List.map_toArray, List.map_cons, List.map_nil]); try rfl) ?_; (with_reducible refine (spec_feGood.calls k _ _ l0 true _ ?side1 ?side2 A2.out).mono ?_); (case side1 => repeat (first | exact HR0.out | (with_reducible first | refine Kd.C_alloc ?_ _ | refine Kd.C_drewN ?_ _ | refine Kd.C_drew ?_))); (case side2 => exact HC0.out); rintro e w' ⟨rfl, ⟨nd, rfl⟩⟩; refine ⟨_, rfl, ?_⟩) | ((with_reducible refine gate_callee (f := 111) rfl ?_); refine goesL_ (some 8) rfl rfl Try.func111 (by kernel_rfl) rfl #[.slice A0 l0.length c0] rfl (by (try simp only [List.map_toArray, List.map_cons, List.map_nil]); try rfl) ?_; (with_reducible refine (spec_feFactors.calls k _ _ l0 t366 _ ?side1 ?side2 A4.out).mono ?_); (case side1 => repeat (first | exact HR0.out | (with_reducible first | refine Kd.C_alloc ?_ _ | refine Kd.C_drewN ?_ _ | refine Kd.C_drew ?_))); (case side2 => exact HC0.out); rintro e w6 ⟨v367, rfl, ho0, hb⟩; refine ⟨_, rfl, ?_⟩; have n0_ := am (Kd.R_lower (Kd.R_newM (M := fun k_ => (w.heap.size ≤ k_)) ho0 (below_size (by repeat with_reducible first | exact HB.out | apply pw_below_drewN | apply below_drew1)) (fun k_ h_ => h_)) (below_size (by repeat with_reducible first | exact HB.out | apply pw_below_drewN | apply below_drew1))); have n1_ := am (below_step (by repeat with_reducible first | exact HB.out | apply pw_below_drewN | apply below_drew1) hb); clear HB; have Oq8 := n0_; have HB := n1_; clear n0_ n1_; (try clear hb); (try clear hb2); (try clear hk); (try clear hi); (try clear ho0); obtain ⟨Ao7, co7, eo7⟩ := Kd.R_slice Oq8.out; subst eo7) | ((with_reducible refine gate_callee (f := 130) rfl ?_); refine goesL_ (some 9) rfl rfl Try.func130 (by kernel_rfl) rfl #[.slice Ao7 t366.length co7] rfl (by (try simp only [List.map_toArray, List.map_cons, List.map_nil]); try rfl) ?_; (with_reducible refine (spec_feClass.calls k _ _ t366 t369 _ ?side1 ?side2 A5.out).mono ?_); (case side1 => repeat (first | exact (Kd.R_reads' Oq8.out).2.2 | (with_reducible first | refine Kd.C_alloc ?_ _ | refine Kd.C_drewN ?_ _ | refine Kd.C_drew ?_))); (case side2 => exact (Kd.R_reads' Oq8.out).2.1); rintro e w8 ⟨v370, rfl, ho0, hb⟩; refine ⟨_, rfl, ?_⟩; have n1_ := am (Kd.N_lower (Kd.N_mono (ok' := fun k_ => (w.heap.size ≤ k_) ∧ some k_ ≠ (.slice Ao7 t366.length co7 : Value).ownBlock) ho0 (fun k_ hk_ => ⟨(Nat.le_trans (below_size (by repeat with_reducible first | exact HB.out | apply pw_below_drewN | apply below_drew1)) hk_), (Kd.fresh' (sqL Oq8) k_ hk_)⟩)) (below_size (by repeat with_reducible first | exact HB.out | apply pw_below_drewN | apply below_drew1))); have n2_ := am (below_step (by repeat with_reducible first | exact HB.out | apply pw_below_drewN | apply below_drew1) hb); clear HB; replace Oq8 := sqR Oq8 hb; have Oq9 := n1_; have HB := n2_; clear n1_ n2_; (try clear hb); (try clear hb2); (try clear hk); (try clear hi); (try clear ho0)))
  go_ret2
  exact ⟨_, by first | rfl | (simp [errW_none, errW_some] <;> rfl) | (simp [*, errW_none, errW_some] <;> rfl), by (with_reducible repeat (first | apply Kd.N_alloc | apply Kd.N_drewN | apply Kd.N_drew)); exact Kd.N_mono Oq9.out (fun _ hk => hk.1), by repeat with_reducible first | exact HB.out | apply pw_below_drewN | apply below_drew1⟩
 ·
  replace c3 := Bool.eq_false_iff.mpr c3
  subst c3
  have H1 : (some (([] : List (List Int)), false)) = some (r1, r2) := by first | (rw [if_neg (show ¬ (false = true) by decide)] at H; exact H) | rfl
  clear H
  have H := H1
  clear H1
  simp only [Option.some.injEq, Prod.mk.injEq] at H
  obtain ⟨rfl, rfl⟩ := H
  go_enter Try.func37, Try.ntmps37
  go_wp2_with (first | ((with_reducible refine gate_callee (f := 109) rfl ?_); refine goesL_ (some 5) rfl rfl Try.func109 (by kernel_rfl) rfl #[.slice A0 l0.length c0] rfl (by (try simp only [List.map_toArray, List.map_cons, List.map_nil]); try rfl) ?_; (with_reducible refine (spec_feGood.calls k _ _ l0 false _ ?side1 ?side2 A2.out).mono ?_); (case side1 => repeat (first | exact HR0.out | (with_reducible first | refine Kd.C_alloc ?_ _ | refine Kd.C_drewN ?_ _ | refine Kd.C_drew ?_))); (case side2 => exact HC0.out); rintro e w' ⟨rfl, ⟨nd, rfl⟩⟩; refine ⟨_, rfl, ?_⟩))
  go_ret2
  exact ⟨_, by first | rfl | (simp [errW_none, errW_some] <;> rfl) | (simp [*, errW_none, errW_some] <;> rfl), by first | exact Kd.S_nil _ _ _ _ _ | exact Kd.N_nil _ _ _ _ _ | exact Kd.V_nil _ _ _ _ _ | exact Kd.Q_nil _ _ _ _ _ | exact Kd.R_nil _ _ _ _ _, by repeat with_reducible first | exact HB.out | apply pw_below_drewN | apply below_drew1⟩

/-! ### impl_CountClass: function 38 -/
def impl_CountClass.f (k : Nat) (l0 : List Int) : Option (Int × Bool) := (impl_ClassOf.f k l0).bind fun bt372 => (some ((bt372.1.length : Int), bt372.2))
theorem impl_CountClass.mono : ∀ a0 k, LeO (impl_CountClass.f k a0) (impl_CountClass.f (k + 1) a0) := by
 intro a0 k
 unfold impl_CountClass.f
 repeat' first
   | (with_reducible exact impl_ClassOf.mono _ _)
   | (with_reducible exact LeO.refl _)
   | (with_reducible exact LeO.none _)
   | (with_reducible refine LeO.ite ?_ ?_)
   | (with_reducible refine LeO.bind ?_ (fun _ => ?_))
   | exact impl_ClassOf.mono _ _
   | exact LeO.none _
   | refine LeO.ite ?_ ?_
   | refine LeO.bind ?_ (fun _ => ?_)
set_option maxHeartbeats 8000000 in
set_option maxRecDepth 100000 in
theorem impl_CountClass.calls (k : Nat) (A0 : Option Addr) (c0 : Nat) (l0 : List Int) (r1 : Int) (r2 : Bool) (w : World) (hr0 : Kd.C (Kd.int .i64) w A0 l0.length l0) (hc0 : l0.length ≤ c0) (h : impl_CountClass.f k l0 = some (r1, r2)) :
  Calls Try.prog 38 #[.slice A0 l0.length c0] w fun e w' => e = .returned (.tuple #[.int .i64 r1, .bool r2]) ∧ Below w.heap.size w w' := by
 have HR0 := Aside0.mk hr0
 have HC0 := Aside0.mk hc0
 clear hr0 hc0
 have HB := am (Below.refl w.heap.size w)
 have H : ((impl_ClassOf.f k l0).bind fun bt372 => (some ((bt372.1.length : Int), bt372.2))) = some (r1, r2) := h
 clear h
 replace H := Option.bind_eq_some_iff.mp H
 obtain ⟨⟨t372, t373⟩, A20, H⟩ := H
 replace H : (some ((t372.length : Int), t373)) = some (r1, r2) := H
 have A2 := Aside0.mk A20
 clear A20
 simp only [Option.some.injEq, Prod.mk.injEq] at H
 obtain ⟨rfl, rfl⟩ := H
 go_enter Try.func38, Try.ntmps38
 go_wp2_with (first | ((with_reducible refine gate_callee (f := 36) rfl ?_); refine goesL_ (some 8) rfl rfl Try.func36 (by kernel_rfl) rfl #[.slice A0 l0.length c0] rfl (by (try simp only [List.map_toArray, List.map_cons, List.map_nil]); try rfl) ?_; (with_reducible refine (impl_ClassOf.calls k _ _ l0 t372 t373 _ ?side1 ?side2 A2.out).mono ?_); (case side1 => repeat (first | exact HR0.out | (with_reducible first | refine Kd.C_alloc ?_ _ | refine Kd.C_drewN ?_ _ | refine Kd.C_drew ?_))); (case side2 => exact HC0.out); rintro e w3 ⟨v374, rfl, ho0, hb⟩; refine ⟨_, rfl, ?_⟩; have n0_ := am (Kd.S_lower ho0 (below_size (by repeat with_reducible first | exact HB.out | apply pw_below_drewN | apply below_drew1))); have n1_ := am (below_step (by repeat with_reducible first | exact HB.out | apply pw_below_drewN | apply below_drew1) hb); clear HB; have Oq10 := n0_; have HB := n1_; clear n0_ n1_; (try clear hb); (try clear hb2); (try clear hk); (try clear hi); (try clear ho0); obtain ⟨Ao4, co4, eo4⟩ := Kd.S_slice Oq10.out; subst eo4))
 go_ret2
 exact ⟨by first | rfl | (simp [errW_none, errW_some] <;> rfl) | (simp [*, errW_none, errW_some] <;> rfl), by repeat with_reducible first | exact HB.out | apply pw_below_drewN | apply below_drew1⟩

end Go.Proofs.Ytfgfgkpmkfjeiaa.PFnAlikeLengths
