-- Printed for this claim by wip/pp.py over the kit's printer; Lean checks it.
import Derived.Test.YtlbffjkckpdclaaPFnExactOrderRowsx0
import Derived.Test.YtlbffjkckpdclaaPFnExactOrderRowsx1
import Derived.Test.YtlbffjkckpdclaaPFnExactOrderRowsx3
import Derived.Test.YtlbffjkckpdclaaPFnExactOrderRowsx4
namespace Go.Proofs.Ytlbffjkckpdclaa.PFnExactOrderRows
open Go.RowKit Go.Proofs.YtlbffjkckpdclaaW.PrintWords Go.Proofs.YtlbffjkckpdclaaW.PrintLast Go.Proofs.YtlbffjkckpdclaaW.PrintMore
attribute [local go_sem] max2_int min2_int max_two min_two max_three min_three max_four min_four   -- for this text's walks alone
set_option linter.unusedVariables false
set_option linter.unusedSimpArgs false

/-! ### laws_FnExactOrderRows: function 5 -/
mutual
def laws_FnExactOrderRows.j0 : Nat → List Int → Bool → List Int → Bool → Bool → Int → Int → List Int → Int → Int → List Int → Int → Int → List Int → Int → Int → List Int → Option (Bool)
  | 0, _, _, _, _, _, _, _, _, _, _, _, _, _, _, _, _, _ => none
  | k + 1, x1, x7, x9, x11, x51, x174000, x174001, x174002, x190000, x190001, x190002, x196000, x196001, x196002, x206000, x206001, x206002 => if x51 = true then (some false) else ((laws_toBoard.f k x174000 x174001 x174002).bind fun bt207 => ((laws_eqBoard.f k x196000 x196001 x196002 bt207.1 bt207.2.1 bt207.2.2).bind fun t212 => (if t212 = true then ((laws_toIntS.f k x1).bind fun t213 => ((laws_eqIntS.f k x9 t213).bind fun t216 => (if t216 = true then ((laws_markBoard.f k x196000 x196001 x196002 1).bind fun bt217 => ((laws_markIntS.f k x9 bt217.1).bind fun bt219 => (if bt219.1 < 0 then (laws_FnExactOrderRows.j1 k x1 x7 true x174000 x174001 x174002 x190000 x190001 x190002 x206000 x206001 x206002) else ((laws_eqBoard.f k x206000 x206001 x206002 x190000 x190001 x190002).bind fun t221 => (if t221 = true then (laws_FnExactOrderRows.j1 k x1 x7 (x11 != x7) x174000 x174001 x174002 x190000 x190001 x190002 x206000 x206001 x206002) else (laws_FnExactOrderRows.j1 k x1 x7 true x174000 x174001 x174002 x190000 x190001 x190002 x206000 x206001 x206002)))))) else (some false)))) else (some false))))
def laws_FnExactOrderRows.j1 : Nat → List Int → Bool → Bool → Int → Int → List Int → Int → Int → List Int → Int → Int → List Int → Option (Bool)
  | 0, _, _, _, _, _, _, _, _, _, _, _, _ => none
  | k + 1, x1, x7, x80, x174000, x174001, x174002, x190000, x190001, x190002, x206000, x206001, x206002 => if x80 = true then (some false) else ((laws_markBoard.f k x206000 x206001 x206002 1).bind fun bt222 => ((laws_heldBoard.f k x206000 x206001 bt222.2 1).bind fun t224 => (if t224 < 0 then (some false) else (if t224 = bt222.1 then ((laws_toBoard.f k x174000 x174001 x174002).bind fun bt225 => ((laws_toIntS.f k x1).bind fun t230 => ((impl_OrderRows.f k bt225.1 bt225.2.1 bt225.2.2 t230).bind fun bt233 => ((laws_eqBoard.f k bt233.1 bt233.2.1 bt233.2.2.1 x190000 x190001 x190002).bind fun t240 => (if t240 = true then (laws_FnExactOrderRows.j2 k bt222.1 (bt233.2.2.2 != x7) x206000 x206001 bt222.2) else (laws_FnExactOrderRows.j2 k bt222.1 true x206000 x206001 bt222.2)))))) else (some false)))))
def laws_FnExactOrderRows.j2 : Nat → Int → Bool → Int → Int → List Int → Option (Bool)
  | 0, _, _, _, _, _ => none
  | k + 1, x13, x108, x206000, x206001, x206002 => if x108 = true then (some false) else ((laws_heldBoard.f k x206000 x206001 x206002 1).bind fun t241 => (if t241 < 0 then (some false) else (if t241 = x13 then (some true) else (some false))))
end
def laws_FnExactOrderRows.f (k : Nat) (a0_0 : Int) (a0_1 : Int) (l0_2 : List Int) (l1 : List Int) : Option (Bool) := if (l1.length : Int) > 1048576 then (some true) else ((laws_szBoard.f a0_0 a0_1 l0_2 1048576).bind fun t174 => (if t174 < 0 then (some true) else ((laws_toBoard.f k a0_0 a0_1 l0_2).bind fun bt175 => ((laws_toIntS.f k l1).bind fun t180 => ((spec_OrderRows.f k bt175.1 bt175.2.1 bt175.2.2 t180).bind fun bt183 => ((laws_toBoard.f k a0_0 a0_1 l0_2).bind fun bt190 => ((laws_toIntS.f k l1).bind fun t196 => ((impl_OrderRows.f k bt190.1 bt190.2.1 bt190.2.2 t196).bind fun bt199 => ((laws_eqBoard.f k bt199.1 bt199.2.1 bt199.2.2.1 bt183.1 bt183.2.1 bt183.2.2.1).bind fun t206 => (if t206 = true then (laws_FnExactOrderRows.j0 k l1 bt183.2.2.2 t196 bt199.2.2.2 (bt199.2.2.2 != bt183.2.2.2) a0_0 a0_1 l0_2 bt183.1 bt183.2.1 bt183.2.2.1 bt190.1 bt190.2.1 bt190.2.2 bt199.1 bt199.2.1 bt199.2.2.1) else (laws_FnExactOrderRows.j0 k l1 bt183.2.2.2 t196 bt199.2.2.2 true a0_0 a0_1 l0_2 bt183.1 bt183.2.1 bt183.2.2.1 bt190.1 bt190.2.1 bt190.2.2 bt199.1 bt199.2.1 bt199.2.2.1)))))))))))
theorem laws_FnExactOrderRows.mono_l : ∀ k, (∀ y0 y1 y2 y3 y4 y5 y6 y7 y8 y9 y10 y11 y12 y13 y14 y15 y16, LeO (laws_FnExactOrderRows.j0 k y0 y1 y2 y3 y4 y5 y6 y7 y8 y9 y10 y11 y12 y13 y14 y15 y16) (laws_FnExactOrderRows.j0 (k + 1) y0 y1 y2 y3 y4 y5 y6 y7 y8 y9 y10 y11 y12 y13 y14 y15 y16)) ∧ (∀ y0 y1 y2 y3 y4 y5 y6 y7 y8 y9 y10 y11, LeO (laws_FnExactOrderRows.j1 k y0 y1 y2 y3 y4 y5 y6 y7 y8 y9 y10 y11) (laws_FnExactOrderRows.j1 (k + 1) y0 y1 y2 y3 y4 y5 y6 y7 y8 y9 y10 y11)) ∧ (∀ y0 y1 y2 y3 y4, LeO (laws_FnExactOrderRows.j2 k y0 y1 y2 y3 y4) (laws_FnExactOrderRows.j2 (k + 1) y0 y1 y2 y3 y4))
  | 0 => ⟨fun _ _ _ _ _ _ _ _ _ _ _ _ _ _ _ _ _ r h => by simp [laws_FnExactOrderRows.j0] at h, fun _ _ _ _ _ _ _ _ _ _ _ _ r h => by simp [laws_FnExactOrderRows.j1] at h, fun _ _ _ _ _ r h => by simp [laws_FnExactOrderRows.j2] at h⟩
  | k + 1 => by
    obtain ⟨ih0, ih1, ih2⟩ := laws_FnExactOrderRows.mono_l k
    refine ⟨?_, ?_, ?_⟩
    · intro y0 y1 y2 y3 y4 y5 y6 y7 y8 y9 y10 y11 y12 y13 y14 y15 y16
      unfold laws_FnExactOrderRows.j0
      repeat' first
      | (with_reducible exact ih0 _ _ _ _ _ _ _ _ _ _ _ _ _ _ _ _ _)
      | (with_reducible exact ih1 _ _ _ _ _ _ _ _ _ _ _ _)
      | (with_reducible exact ih2 _ _ _ _ _)
      | (with_reducible exact impl_OrderRows.mono _ _ _ _ _)
      | (with_reducible exact laws_eqBoard.mono _ _ _ _ _ _ _)
      | (with_reducible exact laws_eqIntS.mono _ _ _)
      | (with_reducible exact laws_heldBoard.mono _ _ _ _ _)
      | (with_reducible exact laws_markBoard.mono _ _ _ _ _)
      | (with_reducible exact laws_markIntS.mono _ _ _)
      | (with_reducible exact laws_toBoard.mono _ _ _ _)
      | (with_reducible exact laws_toIntS.mono _ _)
      | (with_reducible exact spec_OrderRows.mono _ _ _ _ _)
      | (with_reducible exact LeO.refl _)
      | (with_reducible exact LeO.none _)
      | (with_reducible refine LeO.ite ?_ ?_)
      | (with_reducible refine LeO.bind ?_ (fun _ => ?_))
      | exact ih0 _ _ _ _ _ _ _ _ _ _ _ _ _ _ _ _ _
      | exact ih1 _ _ _ _ _ _ _ _ _ _ _ _
      | exact ih2 _ _ _ _ _
      | exact impl_OrderRows.mono _ _ _ _ _
      | exact laws_eqBoard.mono _ _ _ _ _ _ _
      | exact laws_eqIntS.mono _ _ _
      | exact laws_heldBoard.mono _ _ _ _ _
      | exact laws_markBoard.mono _ _ _ _ _
      | exact laws_markIntS.mono _ _ _
      | exact laws_toBoard.mono _ _ _ _
      | exact laws_toIntS.mono _ _
      | exact spec_OrderRows.mono _ _ _ _ _
      | exact LeO.none _
      | refine LeO.ite ?_ ?_
      | refine LeO.bind ?_ (fun _ => ?_)
    · intro y0 y1 y2 y3 y4 y5 y6 y7 y8 y9 y10 y11
      unfold laws_FnExactOrderRows.j1
      repeat' first
      | (with_reducible exact ih0 _ _ _ _ _ _ _ _ _ _ _ _ _ _ _ _ _)
      | (with_reducible exact ih1 _ _ _ _ _ _ _ _ _ _ _ _)
      | (with_reducible exact ih2 _ _ _ _ _)
      | (with_reducible exact impl_OrderRows.mono _ _ _ _ _)
      | (with_reducible exact laws_eqBoard.mono _ _ _ _ _ _ _)
      | (with_reducible exact laws_eqIntS.mono _ _ _)
      | (with_reducible exact laws_heldBoard.mono _ _ _ _ _)
      | (with_reducible exact laws_markBoard.mono _ _ _ _ _)
      | (with_reducible exact laws_markIntS.mono _ _ _)
      | (with_reducible exact laws_toBoard.mono _ _ _ _)
      | (with_reducible exact laws_toIntS.mono _ _)
      | (with_reducible exact spec_OrderRows.mono _ _ _ _ _)
      | (with_reducible exact LeO.refl _)
      | (with_reducible exact LeO.none _)
      | (with_reducible refine LeO.ite ?_ ?_)
      | (with_reducible refine LeO.bind ?_ (fun _ => ?_))
      | exact ih0 _ _ _ _ _ _ _ _ _ _ _ _ _ _ _ _ _
      | exact ih1 _ _ _ _ _ _ _ _ _ _ _ _
      | exact ih2 _ _ _ _ _
      | exact impl_OrderRows.mono _ _ _ _ _
      | exact laws_eqBoard.mono _ _ _ _ _ _ _
      | exact laws_eqIntS.mono _ _ _
      | exact laws_heldBoard.mono _ _ _ _ _
      | exact laws_markBoard.mono _ _ _ _ _
      | exact laws_markIntS.mono _ _ _
      | exact laws_toBoard.mono _ _ _ _
      | exact laws_toIntS.mono _ _
      | exact spec_OrderRows.mono _ _ _ _ _
      | exact LeO.none _
      | refine LeO.ite ?_ ?_
      | refine LeO.bind ?_ (fun _ => ?_)
    · intro y0 y1 y2 y3 y4
      unfold laws_FnExactOrderRows.j2
      repeat' first
      | (with_reducible exact ih0 _ _ _ _ _ _ _ _ _ _ _ _ _ _ _ _ _)
      | (with_reducible exact ih1 _ _ _ _ _ _ _ _ _ _ _ _)
      | (with_reducible exact ih2 _ _ _ _ _)
      | (with_reducible exact impl_OrderRows.mono _ _ _ _ _)
      | (with_reducible exact laws_eqBoard.mono _ _ _ _ _ _ _)
      | (with_reducible exact laws_eqIntS.mono _ _ _)
      | (with_reducible exact laws_heldBoard.mono _ _ _ _ _)
      | (with_reducible exact laws_markBoard.mono _ _ _ _ _)
      | (with_reducible exact laws_markIntS.mono _ _ _)
      | (with_reducible exact laws_toBoard.mono _ _ _ _)
      | (with_reducible exact laws_toIntS.mono _ _)
      | (with_reducible exact spec_OrderRows.mono _ _ _ _ _)
      | (with_reducible exact LeO.refl _)
      | (with_reducible exact LeO.none _)
      | (with_reducible refine LeO.ite ?_ ?_)
      | (with_reducible refine LeO.bind ?_ (fun _ => ?_))
      | exact ih0 _ _ _ _ _ _ _ _ _ _ _ _ _ _ _ _ _
      | exact ih1 _ _ _ _ _ _ _ _ _ _ _ _
      | exact ih2 _ _ _ _ _
      | exact impl_OrderRows.mono _ _ _ _ _
      | exact laws_eqBoard.mono _ _ _ _ _ _ _
      | exact laws_eqIntS.mono _ _ _
      | exact laws_heldBoard.mono _ _ _ _ _
      | exact laws_markBoard.mono _ _ _ _ _
      | exact laws_markIntS.mono _ _ _
      | exact laws_toBoard.mono _ _ _ _
      | exact laws_toIntS.mono _ _
      | exact spec_OrderRows.mono _ _ _ _ _
      | exact LeO.none _
      | refine LeO.ite ?_ ?_
      | refine LeO.bind ?_ (fun _ => ?_)
theorem laws_FnExactOrderRows.mono : ∀ a0 a1 a2 a3 k, LeO (laws_FnExactOrderRows.f k a0 a1 a2 a3) (laws_FnExactOrderRows.f (k + 1) a0 a1 a2 a3) := by
  intro a0 a1 a2 a3 k
  obtain ⟨ih0, ih1, ih2⟩ := laws_FnExactOrderRows.mono_l k
  unfold laws_FnExactOrderRows.f
  repeat' first
      | (with_reducible exact ih0 _ _ _ _ _ _ _ _ _ _ _ _ _ _ _ _ _)
      | (with_reducible exact ih1 _ _ _ _ _ _ _ _ _ _ _ _)
      | (with_reducible exact ih2 _ _ _ _ _)
      | (with_reducible exact impl_OrderRows.mono _ _ _ _ _)
      | (with_reducible exact laws_eqBoard.mono _ _ _ _ _ _ _)
      | (with_reducible exact laws_eqIntS.mono _ _ _)
      | (with_reducible exact laws_heldBoard.mono _ _ _ _ _)
      | (with_reducible exact laws_markBoard.mono _ _ _ _ _)
      | (with_reducible exact laws_markIntS.mono _ _ _)
      | (with_reducible exact laws_toBoard.mono _ _ _ _)
      | (with_reducible exact laws_toIntS.mono _ _)
      | (with_reducible exact spec_OrderRows.mono _ _ _ _ _)
      | (with_reducible exact LeO.refl _)
      | (with_reducible exact LeO.none _)
      | (with_reducible refine LeO.ite ?_ ?_)
      | (with_reducible refine LeO.bind ?_ (fun _ => ?_))
      | exact ih0 _ _ _ _ _ _ _ _ _ _ _ _ _ _ _ _ _
      | exact ih1 _ _ _ _ _ _ _ _ _ _ _ _
      | exact ih2 _ _ _ _ _
      | exact impl_OrderRows.mono _ _ _ _ _
      | exact laws_eqBoard.mono _ _ _ _ _ _ _
      | exact laws_eqIntS.mono _ _ _
      | exact laws_heldBoard.mono _ _ _ _ _
      | exact laws_markBoard.mono _ _ _ _ _
      | exact laws_markIntS.mono _ _ _
      | exact laws_toBoard.mono _ _ _ _
      | exact laws_toIntS.mono _ _
      | exact spec_OrderRows.mono _ _ _ _ _
      | exact LeO.none _
      | refine LeO.ite ?_ ?_
      | refine LeO.bind ?_ (fun _ => ?_)
theorem laws_FnExactOrderRows.j0_no (k : Nat) (x1 : List Int) (x7 : Bool) (x9 : List Int) (x11 : Bool) (x174000 : Int) (x174001 : Int) (x174002 : List Int) (x190000 : Int) (x190001 : Int) (x190002 : List Int) (x196000 : Int) (x196001 : Int) (x196002 : List Int) (x206000 : Int) (x206001 : Int) (x206002 : List Int) : ¬ (laws_FnExactOrderRows.j0 k x1 x7 x9 x11 true x174000 x174001 x174002 x190000 x190001 x190002 x196000 x196001 x196002 x206000 x206001 x206002 = some true) := by
  cases k <;> simp [laws_FnExactOrderRows.j0]
theorem laws_FnExactOrderRows.j1_no (k : Nat) (x1 : List Int) (x7 : Bool) (x174000 : Int) (x174001 : Int) (x174002 : List Int) (x190000 : Int) (x190001 : Int) (x190002 : List Int) (x206000 : Int) (x206001 : Int) (x206002 : List Int) : ¬ (laws_FnExactOrderRows.j1 k x1 x7 true x174000 x174001 x174002 x190000 x190001 x190002 x206000 x206001 x206002 = some true) := by
  cases k <;> simp [laws_FnExactOrderRows.j1]
theorem laws_FnExactOrderRows.j2_no (k : Nat) (x13 : Int) (x206000 : Int) (x206001 : Int) (x206002 : List Int) : ¬ (laws_FnExactOrderRows.j2 k x13 true x206000 x206001 x206002 = some true) := by
  cases k <;> simp [laws_FnExactOrderRows.j2]
set_option maxHeartbeats 8000000 in
set_option maxRecDepth 100000 in
theorem laws_FnExactOrderRows.calls (k : Nat) (a0_0 : Int) (a0_1 : Int) (A0_2 : Option Addr) (c0_2 : Nat) (l0_2 : List Int) (A1 : Option Addr) (c1 : Nat) (l1 : List Int) (w : World) (hr0_2 : Kd.C (Kd.int .i64) w A0_2 l0_2.length l0_2) (hc0_2 : l0_2.length ≤ c0_2) (hr1 : Kd.C (Kd.int .i64) w A1 l1.length l1) (hc1 : l1.length ≤ c1) (h : laws_FnExactOrderRows.f k a0_0 a0_1 l0_2 l1 = some true) :
    Calls Try.prog 5 #[.agg #[.int .i64 a0_0, .int .i64 a0_1, .slice A0_2 l0_2.length c0_2], .slice A1 l1.length c1] w fun e w' => e = .returned (.bool true) ∧ Below w.heap.size w w' := by
  have hu24 := Try.underlying24
  have hu26 := Try.underlying26
  have HR0_2 := Aside0.mk hr0_2
  have HC0_2 := Aside0.mk hc0_2
  clear hr0_2 hc0_2
  have HR1 := Aside0.mk hr1
  have HC1 := Aside0.mk hc1
  clear hr1 hc1
  have HB := Aside0.mk (Below.refl w.heap.size w)
  have H : (if (l1.length : Int) > 1048576 then (some true) else ((laws_szBoard.f a0_0 a0_1 l0_2 1048576).bind fun t174 => (if t174 < 0 then (some true) else ((laws_toBoard.f k a0_0 a0_1 l0_2).bind fun bt175 => ((laws_toIntS.f k l1).bind fun t180 => ((spec_OrderRows.f k bt175.1 bt175.2.1 bt175.2.2 t180).bind fun bt183 => ((laws_toBoard.f k a0_0 a0_1 l0_2).bind fun bt190 => ((laws_toIntS.f k l1).bind fun t196 => ((impl_OrderRows.f k bt190.1 bt190.2.1 bt190.2.2 t196).bind fun bt199 => ((laws_eqBoard.f k bt199.1 bt199.2.1 bt199.2.2.1 bt183.1 bt183.2.1 bt183.2.2.1).bind fun t206 => (if t206 = true then (laws_FnExactOrderRows.j0 k l1 bt183.2.2.2 t196 bt199.2.2.2 (bt199.2.2.2 != bt183.2.2.2) a0_0 a0_1 l0_2 bt183.1 bt183.2.1 bt183.2.2.1 bt190.1 bt190.2.1 bt190.2.2 bt199.1 bt199.2.1 bt199.2.2.1) else (laws_FnExactOrderRows.j0 k l1 bt183.2.2.2 t196 bt199.2.2.2 true a0_0 a0_1 l0_2 bt183.1 bt183.2.1 bt183.2.2.1 bt190.1 bt190.2.1 bt190.2.2 bt199.1 bt199.2.1 bt199.2.2.1)))))))))))) = some true := h
  clear h
  by_cases c3 : (l1.length : Int) > 1048576
  · rw [if_pos c3] at H
    have c3b0 : decide (1048576 < (l1.length : Int)) = true := decide_eq_true c3
    have c3b1 : decide (1048576 < l1.length) = true := decide_eq_true (by omega)
    clear c3
    clear H
    go_enter Try.func5, Try.ntmps5
    go_wp2_with (first | ((with_reducible refine gate_dst (N := 2) rfl ?_); refine box_event ?hg (N := 2) ?hd (cs := #[.int .i64 a0_0, .int .i64 a0_1, .slice A0_2 l0_2.length c0_2]) (t := 24) ?hr ?_; (case hd => rfl); (case hg => rfl); (case hr => first | (go_simp; done) | (go_simp; rfl)); intro gb173 hg w4 hbox hb; have n0_ := Aside0.mk (below_step (by repeat (first | (with_reducible first | exact HB.out | apply below_alloc | apply pw_below_drewN | apply below_drew1) | exact HB.out)) hb); have n1_ := Aside0.mk (hbox); have n2_ := Aside0.mk ((by rw [hg]; exact (below_size (by repeat (first | (with_reducible first | exact HB.out | apply below_alloc | apply pw_below_drewN | apply below_drew1) | exact HB.out))) : w.heap.size ≤ gb173)); have n3_ := Aside0.mk ((by rw [hg]; exact (below_size (by repeat (first | (with_reducible first | exact HB.out | apply below_alloc | apply pw_below_drewN | apply below_drew1) | exact HB.out))) : w.heap.size ≤ gb173)); clear HB; have HB := n0_; have BK173 := n1_; have GW173 := n2_; have GE173 := n3_; clear n0_ n1_ n2_ n3_; clear hb hbox hg))
    go_ret
    exact ⟨by first | rfl | (simp [errW_none, errW_some] <;> rfl) | (simp [*, errW_none, errW_some] <;> rfl), by repeat (first | (with_reducible first | exact HB.out | apply below_alloc | apply pw_below_drewN | apply below_drew1 | refine below_set ?_ GE173.out) | exact HB.out)⟩
  · rw [if_neg c3] at H
    have c3b0 : decide (1048576 < (l1.length : Int)) = false := decide_eq_false c3
    have c3b1 : decide (1048576 < l1.length) = false := decide_eq_false (by omega)
    clear c3
    replace H := Option.bind_eq_some_iff.mp H
    obtain ⟨t174, A50, H⟩ := H
    replace H : (if t174 < 0 then (some true) else ((laws_toBoard.f k a0_0 a0_1 l0_2).bind fun bt175 => ((laws_toIntS.f k l1).bind fun t180 => ((spec_OrderRows.f k bt175.1 bt175.2.1 bt175.2.2 t180).bind fun bt183 => ((laws_toBoard.f k a0_0 a0_1 l0_2).bind fun bt190 => ((laws_toIntS.f k l1).bind fun t196 => ((impl_OrderRows.f k bt190.1 bt190.2.1 bt190.2.2 t196).bind fun bt199 => ((laws_eqBoard.f k bt199.1 bt199.2.1 bt199.2.2.1 bt183.1 bt183.2.1 bt183.2.2.1).bind fun t206 => (if t206 = true then (laws_FnExactOrderRows.j0 k l1 bt183.2.2.2 t196 bt199.2.2.2 (bt199.2.2.2 != bt183.2.2.2) a0_0 a0_1 l0_2 bt183.1 bt183.2.1 bt183.2.2.1 bt190.1 bt190.2.1 bt190.2.2 bt199.1 bt199.2.1 bt199.2.2.1) else (laws_FnExactOrderRows.j0 k l1 bt183.2.2.2 t196 bt199.2.2.2 true a0_0 a0_1 l0_2 bt183.1 bt183.2.1 bt183.2.2.1 bt190.1 bt190.2.1 bt190.2.2 bt199.1 bt199.2.1 bt199.2.2.1)))))))))) = some true := H
    have A5 := Aside0.mk A50
    clear A50
    by_cases c6 : t174 < 0
    · rw [if_pos c6] at H
      have c6b0 : decide (t174 < 0) = true := decide_eq_true c6
      clear c6
      clear H
      go_enter Try.func5, Try.ntmps5
      go_wp2_with (first | ((with_reducible refine gate_dst (N := 2) rfl ?_); refine box_event ?hg (N := 2) ?hd (cs := #[.int .i64 a0_0, .int .i64 a0_1, .slice A0_2 l0_2.length c0_2]) (t := 24) ?hr ?_; (case hd => rfl); (case hg => rfl); (case hr => first | (go_simp; done) | (go_simp; rfl)); intro gb173 hg w7 hbox hb; have n0_ := Aside0.mk (below_step (by repeat (first | (with_reducible first | exact HB.out | apply below_alloc | apply pw_below_drewN | apply below_drew1) | exact HB.out)) hb); have n1_ := Aside0.mk (hbox); have n2_ := Aside0.mk ((by rw [hg]; exact (below_size (by repeat (first | (with_reducible first | exact HB.out | apply below_alloc | apply pw_below_drewN | apply below_drew1) | exact HB.out))) : w.heap.size ≤ gb173)); have n3_ := Aside0.mk ((by rw [hg]; exact (below_size (by repeat (first | (with_reducible first | exact HB.out | apply below_alloc | apply pw_below_drewN | apply below_drew1) | exact HB.out))) : w.heap.size ≤ gb173)); clear HB; have HB := n0_; have BK173 := n1_; have GW173 := n2_; have GE173 := n3_; clear n0_ n1_ n2_ n3_; clear hb hbox hg; have hcz8_0 : w7.cell? ⟨gb173, 0, none⟩ = some (.int .i64 a0_0) := (blk_cell BK173.out 0).trans rfl; have hcz8_1 : w7.cell? ⟨gb173, 1, none⟩ = some (.int .i64 a0_1) := (blk_cell BK173.out 1).trans rfl; have hcz8_2 : w7.cell? ⟨gb173, 2, none⟩ = some (.slice A0_2 l0_2.length c0_2) := (blk_cell BK173.out 2).trans rfl; have hfz8_0 := blk_frozen BK173.out 0; have hfz8_1 := blk_frozen BK173.out 1; have hfz8_2 := blk_frozen BK173.out 2) | ((with_reducible refine gate_callee (f := 12) rfl ?_); refine goesL_ (some 22) rfl rfl Try.func12 (by kernel_rfl) rfl #[.agg #[.int .i64 a0_0, .int .i64 a0_1, .slice A0_2 l0_2.length c0_2], .int .i64 1048576] rfl (by (try simp only [List.map_toArray, List.map_cons, List.map_nil]); first | done | rfl | (simp only [List.length_drop, List.length_take]; rfl)) ?_; (with_reducible refine (laws_szBoard.calls a0_0 a0_1 _ _ l0_2 1048576 t174 _ ?side1 ?side2 A5.out).mono ?_); (case side1 => repeat (first | exact (Kd.C_below HR0_2.out HB.out) | (with_reducible refine Kd.C_alloc ?_ _) | (with_reducible refine Kd.C_drewN ?_ _) | (with_reducible refine Kd.C_drew ?_))); (case side2 => exact HC0_2.out); rintro e w9 ⟨rfl, hb⟩; refine ⟨_, rfl, ?_⟩; have n0_ := Aside0.mk (blk_below (g := gb173) (o := .cells #[.int .i64 a0_0, .int .i64 a0_1, .slice A0_2 l0_2.length c0_2] 24 (0, 0)) (by (with_reducible repeat (first | refine blk_drewN ?_ _ | refine blk_drew ?_ | refine blk_alloc ?_ _)); exact BK173.out) hb); have n1_ := Aside0.mk (below_step (by repeat (first | (with_reducible first | exact HB.out | apply below_alloc | apply pw_below_drewN | apply below_drew1 | refine below_set ?_ GE173.out) | exact HB.out)) hb); clear BK173; clear HB; have BK173 := n0_; have HB := n1_; clear n0_ n1_; (try clear hb); (try clear hb2); (try clear hk); (try clear hi)))
      go_ret
      exact ⟨by first | rfl | (simp [errW_none, errW_some] <;> rfl) | (simp [*, errW_none, errW_some] <;> rfl), by repeat (first | (with_reducible first | exact HB.out | apply below_alloc | apply pw_below_drewN | apply below_drew1 | refine below_set ?_ GE173.out) | exact HB.out)⟩
    · rw [if_neg c6] at H
      have c6b0 : decide (t174 < 0) = false := decide_eq_false c6
      clear c6
      replace H := Option.bind_eq_some_iff.mp H
      obtain ⟨⟨t175, t176, t177⟩, A100, H⟩ := H
      replace H : ((laws_toIntS.f k l1).bind fun t180 => ((spec_OrderRows.f k t175 t176 t177 t180).bind fun bt183 => ((laws_toBoard.f k a0_0 a0_1 l0_2).bind fun bt190 => ((laws_toIntS.f k l1).bind fun t196 => ((impl_OrderRows.f k bt190.1 bt190.2.1 bt190.2.2 t196).bind fun bt199 => ((laws_eqBoard.f k bt199.1 bt199.2.1 bt199.2.2.1 bt183.1 bt183.2.1 bt183.2.2.1).bind fun t206 => (if t206 = true then (laws_FnExactOrderRows.j0 k l1 bt183.2.2.2 t196 bt199.2.2.2 (bt199.2.2.2 != bt183.2.2.2) a0_0 a0_1 l0_2 bt183.1 bt183.2.1 bt183.2.2.1 bt190.1 bt190.2.1 bt190.2.2 bt199.1 bt199.2.1 bt199.2.2.1) else (laws_FnExactOrderRows.j0 k l1 bt183.2.2.2 t196 bt199.2.2.2 true a0_0 a0_1 l0_2 bt183.1 bt183.2.1 bt183.2.2.1 bt190.1 bt190.2.1 bt190.2.2 bt199.1 bt199.2.1 bt199.2.2.1)))))))) = some true := H
      have A10 := Aside0.mk A100
      clear A100
      replace H := Option.bind_eq_some_iff.mp H
      obtain ⟨t180, A110, H⟩ := H
      replace H : ((spec_OrderRows.f k t175 t176 t177 t180).bind fun bt183 => ((laws_toBoard.f k a0_0 a0_1 l0_2).bind fun bt190 => ((laws_toIntS.f k l1).bind fun t196 => ((impl_OrderRows.f k bt190.1 bt190.2.1 bt190.2.2 t196).bind fun bt199 => ((laws_eqBoard.f k bt199.1 bt199.2.1 bt199.2.2.1 bt183.1 bt183.2.1 bt183.2.2.1).bind fun t206 => (if t206 = true then (laws_FnExactOrderRows.j0 k l1 bt183.2.2.2 t196 bt199.2.2.2 (bt199.2.2.2 != bt183.2.2.2) a0_0 a0_1 l0_2 bt183.1 bt183.2.1 bt183.2.2.1 bt190.1 bt190.2.1 bt190.2.2 bt199.1 bt199.2.1 bt199.2.2.1) else (laws_FnExactOrderRows.j0 k l1 bt183.2.2.2 t196 bt199.2.2.2 true a0_0 a0_1 l0_2 bt183.1 bt183.2.1 bt183.2.2.1 bt190.1 bt190.2.1 bt190.2.2 bt199.1 bt199.2.1 bt199.2.2.1))))))) = some true := H
      have A11 := Aside0.mk A110
      clear A110
      replace H := Option.bind_eq_some_iff.mp H
      obtain ⟨⟨t183, t184, t185, t188⟩, A120, H⟩ := H
      replace H : ((laws_toBoard.f k a0_0 a0_1 l0_2).bind fun bt190 => ((laws_toIntS.f k l1).bind fun t196 => ((impl_OrderRows.f k bt190.1 bt190.2.1 bt190.2.2 t196).bind fun bt199 => ((laws_eqBoard.f k bt199.1 bt199.2.1 bt199.2.2.1 t183 t184 t185).bind fun t206 => (if t206 = true then (laws_FnExactOrderRows.j0 k l1 t188 t196 bt199.2.2.2 (bt199.2.2.2 != t188) a0_0 a0_1 l0_2 t183 t184 t185 bt190.1 bt190.2.1 bt190.2.2 bt199.1 bt199.2.1 bt199.2.2.1) else (laws_FnExactOrderRows.j0 k l1 t188 t196 bt199.2.2.2 true a0_0 a0_1 l0_2 t183 t184 t185 bt190.1 bt190.2.1 bt190.2.2 bt199.1 bt199.2.1 bt199.2.2.1)))))) = some true := H
      have A12 := Aside0.mk A120
      clear A120
      replace H := Option.bind_eq_some_iff.mp H
      obtain ⟨⟨t190, t191, t192⟩, A130, H⟩ := H
      replace H : ((laws_toIntS.f k l1).bind fun t196 => ((impl_OrderRows.f k t190 t191 t192 t196).bind fun bt199 => ((laws_eqBoard.f k bt199.1 bt199.2.1 bt199.2.2.1 t183 t184 t185).bind fun t206 => (if t206 = true then (laws_FnExactOrderRows.j0 k l1 t188 t196 bt199.2.2.2 (bt199.2.2.2 != t188) a0_0 a0_1 l0_2 t183 t184 t185 t190 t191 t192 bt199.1 bt199.2.1 bt199.2.2.1) else (laws_FnExactOrderRows.j0 k l1 t188 t196 bt199.2.2.2 true a0_0 a0_1 l0_2 t183 t184 t185 t190 t191 t192 bt199.1 bt199.2.1 bt199.2.2.1))))) = some true := H
      have A13 := Aside0.mk A130
      clear A130
      replace H := Option.bind_eq_some_iff.mp H
      obtain ⟨t196, A140, H⟩ := H
      replace H : ((impl_OrderRows.f k t190 t191 t192 t196).bind fun bt199 => ((laws_eqBoard.f k bt199.1 bt199.2.1 bt199.2.2.1 t183 t184 t185).bind fun t206 => (if t206 = true then (laws_FnExactOrderRows.j0 k l1 t188 t196 bt199.2.2.2 (bt199.2.2.2 != t188) a0_0 a0_1 l0_2 t183 t184 t185 t190 t191 t192 bt199.1 bt199.2.1 bt199.2.2.1) else (laws_FnExactOrderRows.j0 k l1 t188 t196 bt199.2.2.2 true a0_0 a0_1 l0_2 t183 t184 t185 t190 t191 t192 bt199.1 bt199.2.1 bt199.2.2.1)))) = some true := H
      have A14 := Aside0.mk A140
      clear A140
      replace H := Option.bind_eq_some_iff.mp H
      obtain ⟨⟨t199, t200, t201, t204⟩, A150, H⟩ := H
      replace H : ((laws_eqBoard.f k t199 t200 t201 t183 t184 t185).bind fun t206 => (if t206 = true then (laws_FnExactOrderRows.j0 k l1 t188 t196 t204 (t204 != t188) a0_0 a0_1 l0_2 t183 t184 t185 t190 t191 t192 t199 t200 t201) else (laws_FnExactOrderRows.j0 k l1 t188 t196 t204 true a0_0 a0_1 l0_2 t183 t184 t185 t190 t191 t192 t199 t200 t201))) = some true := H
      have A15 := Aside0.mk A150
      clear A150
      have HC16 := Aside0.mk H
      clear H
      go_enter Try.func5, Try.ntmps5
      go_upto_region 11 with (first | ((with_reducible refine gate_dst (N := 2) rfl ?_); refine box_event ?hg (N := 2) ?hd (cs := #[.int .i64 a0_0, .int .i64 a0_1, .slice A0_2 l0_2.length c0_2]) (t := 24) ?hr ?_; (case hd => rfl); (case hg => rfl); (case hr => first | (go_simp; done) | (go_simp; rfl)); intro gb173 hg w17 hbox hb; have n0_ := Aside0.mk (below_step (by repeat (first | (with_reducible first | exact HB.out | apply below_alloc | apply pw_below_drewN | apply below_drew1) | exact HB.out)) hb); have n1_ := Aside0.mk (hbox); have n2_ := Aside0.mk ((by rw [hg]; exact (below_size (by repeat (first | (with_reducible first | exact HB.out | apply below_alloc | apply pw_below_drewN | apply below_drew1) | exact HB.out))) : w.heap.size ≤ gb173)); have n3_ := Aside0.mk ((by rw [hg]; exact (below_size (by repeat (first | (with_reducible first | exact HB.out | apply below_alloc | apply pw_below_drewN | apply below_drew1) | exact HB.out))) : w.heap.size ≤ gb173)); clear HB; have HB := n0_; have BK173 := n1_; have GW173 := n2_; have GE173 := n3_; clear n0_ n1_ n2_ n3_; clear hb hbox hg; have hcz18_0 : w17.cell? ⟨gb173, 0, none⟩ = some (.int .i64 a0_0) := (blk_cell BK173.out 0).trans rfl; have hcz18_1 : w17.cell? ⟨gb173, 1, none⟩ = some (.int .i64 a0_1) := (blk_cell BK173.out 1).trans rfl; have hcz18_2 : w17.cell? ⟨gb173, 2, none⟩ = some (.slice A0_2 l0_2.length c0_2) := (blk_cell BK173.out 2).trans rfl; have hfz18_0 := blk_frozen BK173.out 0; have hfz18_1 := blk_frozen BK173.out 1; have hfz18_2 := blk_frozen BK173.out 2) | ((with_reducible refine gate_callee (f := 12) rfl ?_); refine goesL_ (some 22) rfl rfl Try.func12 (by kernel_rfl) rfl #[.agg #[.int .i64 a0_0, .int .i64 a0_1, .slice A0_2 l0_2.length c0_2], .int .i64 1048576] rfl (by (try simp only [List.map_toArray, List.map_cons, List.map_nil]); first | done | rfl | (simp only [List.length_drop, List.length_take]; rfl)) ?_; (with_reducible refine (laws_szBoard.calls a0_0 a0_1 _ _ l0_2 1048576 t174 _ ?side1 ?side2 A5.out).mono ?_); (case side1 => repeat (first | exact (Kd.C_below HR0_2.out HB.out) | (with_reducible refine Kd.C_alloc ?_ _) | (with_reducible refine Kd.C_drewN ?_ _) | (with_reducible refine Kd.C_drew ?_))); (case side2 => exact HC0_2.out); rintro e w19 ⟨rfl, hb⟩; refine ⟨_, rfl, ?_⟩; have n0_ := Aside0.mk (blk_below (g := gb173) (o := .cells #[.int .i64 a0_0, .int .i64 a0_1, .slice A0_2 l0_2.length c0_2] 24 (0, 0)) (by (with_reducible repeat (first | refine blk_drewN ?_ _ | refine blk_drew ?_ | refine blk_alloc ?_ _)); exact BK173.out) hb); have n1_ := Aside0.mk (below_step (by repeat (first | (with_reducible first | exact HB.out | apply below_alloc | apply pw_below_drewN | apply below_drew1 | refine below_set ?_ GE173.out) | exact HB.out)) hb); clear BK173; clear HB; have BK173 := n0_; have HB := n1_; clear n0_ n1_; (try clear hb); (try clear hb2); (try clear hk); (try clear hi); have hcz20_0 : w19.cell? ⟨gb173, 0, none⟩ = some (.int .i64 a0_0) := (blk_cell BK173.out 0).trans rfl; have hcz20_1 : w19.cell? ⟨gb173, 1, none⟩ = some (.int .i64 a0_1) := (blk_cell BK173.out 1).trans rfl; have hcz20_2 : w19.cell? ⟨gb173, 2, none⟩ = some (.slice A0_2 l0_2.length c0_2) := (blk_cell BK173.out 2).trans rfl; have hfz20_0 := blk_frozen BK173.out 0; have hfz20_1 := blk_frozen BK173.out 1; have hfz20_2 := blk_frozen BK173.out 2) | ((with_reducible refine gate_callee (f := 14) rfl ?_); refine goesL_ (some 27) rfl rfl Try.func14 (by kernel_rfl) rfl #[.agg #[.int .i64 a0_0, .int .i64 a0_1, .slice A0_2 l0_2.length c0_2]] rfl (by (try simp only [List.map_toArray, List.map_cons, List.map_nil]); first | done | rfl | (simp only [List.length_drop, List.length_take]; rfl)) ?_; (with_reducible refine (laws_toBoard.calls k a0_0 a0_1 _ _ l0_2 t175 t176 t177 _ ?side1 ?side2 A10.out).mono ?_); (case side1 => repeat (first | exact (Kd.C_below HR0_2.out HB.out) | (with_reducible refine Kd.C_alloc ?_ _) | (with_reducible refine Kd.C_drewN ?_ _) | (with_reducible refine Kd.C_drew ?_))); (case side2 => exact HC0_2.out); rintro e w21 ⟨v178, rfl, ho0, hb⟩; refine ⟨_, rfl, ?_⟩; have n0_ := Aside0.mk (Kd.R_lower ho0 (below_size (by repeat (first | (with_reducible first | exact HB.out | apply below_alloc | apply pw_below_drewN | apply below_drew1 | refine below_set ?_ GE173.out) | exact HB.out)))); have n1_ := Aside0.mk (blk_below (g := gb173) (o := .cells #[.int .i64 a0_0, .int .i64 a0_1, .slice A0_2 l0_2.length c0_2] 24 (0, 0)) (by (with_reducible repeat (first | refine blk_drewN ?_ _ | refine blk_drew ?_ | refine blk_alloc ?_ _)); exact BK173.out) hb); have n2_ := Aside0.mk (below_step (by repeat (first | (with_reducible first | exact HB.out | apply below_alloc | apply pw_below_drewN | apply below_drew1 | refine below_set ?_ GE173.out) | exact HB.out)) hb); clear BK173; clear HB; have HO179 := n0_; have BK173 := n1_; have HB := n2_; clear n0_ n1_ n2_; (try clear hb); (try clear hb2); (try clear hk); (try clear hi); (try clear ho0)) | ((with_reducible refine gate_callee (f := 22) rfl ?_); refine goesL_ (some 29) rfl rfl Try.func22 (by kernel_rfl) rfl #[.slice A1 l1.length c1] rfl (by (try simp only [List.map_toArray, List.map_cons, List.map_nil]); first | done | rfl | (simp only [List.length_drop, List.length_take]; rfl)) ?_; (with_reducible refine (laws_toIntS.calls k _ _ l1 t180 _ ?side1 ?side2 A11.out).mono ?_); (case side1 => repeat (first | exact (Kd.C_below HR1.out HB.out) | (with_reducible refine Kd.C_alloc ?_ _) | (with_reducible refine Kd.C_drewN ?_ _) | (with_reducible refine Kd.C_drew ?_))); (case side2 => exact HC1.out); rintro e w22 ⟨v181, rfl, ho0, hb⟩; refine ⟨_, rfl, ?_⟩; have n0_ := Aside0.mk (Kd.R_elder' (by (with_reducible repeat (first | apply Kd.R_alloc | apply Kd.R_drewN | apply Kd.R_drew)); exact HO179.out) (Kd.R_base ho0) hb); have n1_ := Aside0.mk (Kd.R_lower (Kd.R_new' ho0 (Kd.R_lt (by (with_reducible repeat (first | apply Kd.R_alloc | apply Kd.R_drewN | apply Kd.R_drew)); exact HO179.out))) (below_size (by repeat (first | (with_reducible first | exact HB.out | apply below_alloc | apply pw_below_drewN | apply below_drew1 | refine below_set ?_ GE173.out) | exact HB.out)))); have n2_ := Aside0.mk (blk_below (g := gb173) (o := .cells #[.int .i64 a0_0, .int .i64 a0_1, .slice A0_2 l0_2.length c0_2] 24 (0, 0)) (by (with_reducible repeat (first | refine blk_drewN ?_ _ | refine blk_drew ?_ | refine blk_alloc ?_ _)); exact BK173.out) hb); have n3_ := Aside0.mk (below_step (by repeat (first | (with_reducible first | exact HB.out | apply below_alloc | apply pw_below_drewN | apply below_drew1 | refine below_set ?_ GE173.out) | exact HB.out)) hb); clear HO179; clear BK173; clear HB; have HO179 := n0_; have HO182 := n1_; have BK173 := n2_; have HB := n3_; clear n0_ n1_ n2_ n3_; (try clear hb); (try clear hb2); (try clear hk); (try clear hi); (try clear ho0); obtain ⟨Ao23, co23, eo23⟩ := Kd.R_slice HO179.out; subst eo23; obtain ⟨Ao24, co24, eo24⟩ := Kd.R_slice HO182.out; subst eo24) | ((with_reducible refine gate_callee (f := 21) rfl ?_); refine goesL_ (some 30) rfl rfl Try.func21 (by kernel_rfl) rfl #[.agg #[.int .i64 t175, .int .i64 t176, .slice Ao23 t177.length co23], .slice Ao24 t180.length co24] rfl (by (try simp only [List.map_toArray, List.map_cons, List.map_nil]); first | done | rfl | (simp only [List.length_drop, List.length_take]; rfl)) ?_; (with_reducible refine (spec_OrderRows.calls k t175 t176 _ _ t177 _ _ t180 t183 t184 t185 t188 _ ?side1 ?side2 ?side3 ?side4 A12.out).mono ?_); (case side1 => repeat (first | exact (Kd.R_reads' HO179.out).2.2 | (with_reducible refine Kd.C_alloc ?_ _) | (with_reducible refine Kd.C_drewN ?_ _) | (with_reducible refine Kd.C_drew ?_))); (case side2 => exact (Kd.R_reads' HO179.out).2.1); (case side3 => repeat (first | exact (Kd.R_reads' HO182.out).2.2 | (with_reducible refine Kd.C_alloc ?_ _) | (with_reducible refine Kd.C_drewN ?_ _) | (with_reducible refine Kd.C_drew ?_))); (case side4 => exact (Kd.R_reads' HO182.out).2.1); rintro e w25 ⟨v186, rfl, ho0, hb⟩; refine ⟨_, rfl, ?_⟩; have n0_ := Aside0.mk (Kd.R_elder' (by (with_reducible repeat (first | apply Kd.R_alloc | apply Kd.R_drewN | apply Kd.R_drew)); exact HO179.out) (Kd.R_base ho0) hb); have n1_ := Aside0.mk (Kd.R_elder' (by (with_reducible repeat (first | apply Kd.R_alloc | apply Kd.R_drewN | apply Kd.R_drew)); exact HO182.out) (Kd.R_base ho0) hb); have n2_ := Aside0.mk (Kd.R_lower (Kd.R_new' (Kd.R_new' ho0 (Kd.R_lt (by (with_reducible repeat (first | apply Kd.R_alloc | apply Kd.R_drewN | apply Kd.R_drew)); exact HO179.out))) (Kd.R_lt (by (with_reducible repeat (first | apply Kd.R_alloc | apply Kd.R_drewN | apply Kd.R_drew)); exact HO182.out))) (below_size (by repeat (first | (with_reducible first | exact HB.out | apply below_alloc | apply pw_below_drewN | apply below_drew1 | refine below_set ?_ GE173.out) | exact HB.out)))); have n3_ := Aside0.mk (blk_below (g := gb173) (o := .cells #[.int .i64 a0_0, .int .i64 a0_1, .slice A0_2 l0_2.length c0_2] 24 (0, 0)) (by (with_reducible repeat (first | refine blk_drewN ?_ _ | refine blk_drew ?_ | refine blk_alloc ?_ _)); exact BK173.out) hb); have n4_ := Aside0.mk (below_step (by repeat (first | (with_reducible first | exact HB.out | apply below_alloc | apply pw_below_drewN | apply below_drew1 | refine below_set ?_ GE173.out) | exact HB.out)) hb); clear HO179; clear HO182; clear BK173; clear HB; have HO179 := n0_; have HO182 := n1_; have HO187 := n2_; have BK173 := n3_; have HB := n4_; clear n0_ n1_ n2_ n3_ n4_; (try clear hb); (try clear hb2); (try clear hk); (try clear hi); (try clear ho0)) | ((with_reducible refine gate_dst (N := 6) rfl ?_); refine box_event ?hg (N := 6) ?hd (cs := #[.int .i64 0, .int .i64 0, .slice none 0 0]) (t := 26) ?hr ?_; (case hd => rfl); (case hg => rfl); (case hr => first | (go_simp; done) | (go_simp; rfl)); intro gb189 hg w26 hbox hb; have n0_ := Aside0.mk (Kd.R_below (by (with_reducible repeat (first | apply Kd.R_alloc | apply Kd.R_drewN | apply Kd.R_drew)); exact HO179.out) hb); have n1_ := Aside0.mk (Kd.R_below (by (with_reducible repeat (first | apply Kd.R_alloc | apply Kd.R_drewN | apply Kd.R_drew)); exact HO182.out) hb); have n2_ := Aside0.mk (Kd.R_below (by (with_reducible repeat (first | apply Kd.R_alloc | apply Kd.R_drewN | apply Kd.R_drew)); exact HO187.out) hb); have n3_ := Aside0.mk (blk_below (g := gb173) (o := .cells #[.int .i64 a0_0, .int .i64 a0_1, .slice A0_2 l0_2.length c0_2] 24 (0, 0)) (by (with_reducible repeat (first | refine blk_drewN ?_ _ | refine blk_drew ?_ | refine blk_alloc ?_ _)); exact BK173.out) hb); have n4_ := Aside0.mk (below_step (by repeat (first | (with_reducible first | exact HB.out | apply below_alloc | apply pw_below_drewN | apply below_drew1 | refine below_set ?_ GE173.out) | exact HB.out)) hb); have n5_ := Aside0.mk (hbox); have n6_ := Aside0.mk ((by rw [hg]; exact (below_size (by repeat (first | (with_reducible first | exact HB.out | apply below_alloc | apply pw_below_drewN | apply below_drew1 | refine below_set ?_ GE173.out) | exact HB.out))) : w.heap.size ≤ gb189)); have n7_ := Aside0.mk ((by rw [hg]; exact (below_size (by repeat (first | (with_reducible first | exact HB.out | apply below_alloc | apply pw_below_drewN | apply below_drew1 | refine below_set ?_ GE173.out) | exact HB.out))) : w.heap.size ≤ gb189)); have n8_ := Aside0.mk ((by rw [hg]; exact Nat.ne_of_lt (blk_lt (g := gb173) (o := .cells #[.int .i64 a0_0, .int .i64 a0_1, .slice A0_2 l0_2.length c0_2] 24 (0, 0)) (by (with_reducible repeat (first | refine blk_drewN ?_ _ | refine blk_drew ?_ | refine blk_alloc ?_ _)); exact BK173.out)) : gb173 ≠ gb189)); have n9_ := Aside0.mk ((by rw [hg]; exact Nat.ne_of_gt (blk_lt (g := gb173) (o := .cells #[.int .i64 a0_0, .int .i64 a0_1, .slice A0_2 l0_2.length c0_2] 24 (0, 0)) (by (with_reducible repeat (first | refine blk_drewN ?_ _ | refine blk_drew ?_ | refine blk_alloc ?_ _)); exact BK173.out)) : gb189 ≠ gb173)); clear HO179; clear HO182; clear HO187; clear BK173; clear HB; have HO179 := n0_; have HO182 := n1_; have HO187 := n2_; have BK173 := n3_; have HB := n4_; have BK189 := n5_; have GW189 := n6_; have GE189 := n7_; have NB173_189 := n8_; have NB189_173 := n9_; clear n0_ n1_ n2_ n3_ n4_ n5_ n6_ n7_ n8_ n9_; clear hb hbox hg; have hnb27 := NB189_173.out; have hnc27 := NB173_189.out; have hcz28_0 : w26.cell? ⟨gb189, 0, none⟩ = some (.int .i64 0) := (blk_cell BK189.out 0).trans rfl; have hcz28_1 : w26.cell? ⟨gb189, 1, none⟩ = some (.int .i64 0) := (blk_cell BK189.out 1).trans rfl; have hcz28_2 : w26.cell? ⟨gb189, 2, none⟩ = some (.slice none 0 0) := (blk_cell BK189.out 2).trans rfl; have hfz28_0 := blk_frozen BK189.out 0; have hfz28_1 := blk_frozen BK189.out 1; have hfz28_2 := blk_frozen BK189.out 2; obtain ⟨Ao29, co29, eo29⟩ := Kd.R_slice HO187.out; subst eo29; have hcz30_0 : w26.cell? ⟨gb173, 0, none⟩ = some (.int .i64 a0_0) := (blk_cell BK173.out 0).trans rfl; have hcz30_1 : w26.cell? ⟨gb173, 1, none⟩ = some (.int .i64 a0_1) := (blk_cell BK173.out 1).trans rfl; have hcz30_2 : w26.cell? ⟨gb173, 2, none⟩ = some (.slice A0_2 l0_2.length c0_2) := (blk_cell BK173.out 2).trans rfl; have hfz30_0 := blk_frozen BK173.out 0; have hfz30_1 := blk_frozen BK173.out 1; have hfz30_2 := blk_frozen BK173.out 2) | ((with_reducible refine gate_callee (f := 14) rfl ?_); refine goesL_ (some 34) rfl rfl Try.func14 (by kernel_rfl) rfl #[.agg #[.int .i64 a0_0, .int .i64 a0_1, .slice A0_2 l0_2.length c0_2]] rfl (by (try simp only [List.map_toArray, List.map_cons, List.map_nil]); first | done | rfl | (simp only [List.length_drop, List.length_take]; rfl)) ?_; (with_reducible refine (laws_toBoard.calls k a0_0 a0_1 _ _ l0_2 t190 t191 t192 _ ?side1 ?side2 A13.out).mono ?_); (case side1 => exact Kd.C_below HR0_2.out (by repeat (first | (with_reducible first | exact HB.out | apply below_alloc | apply pw_below_drewN | apply below_drew1 | refine below_set ?_ GE173.out | refine below_set ?_ GE189.out) | exact HB.out))); (case side2 => exact HC0_2.out); rintro e w31 ⟨v193, rfl, ho0, hb⟩; refine ⟨_, rfl, ?_⟩; have n0_ := Aside0.mk (Kd.R_elder' (by (with_reducible repeat (first | apply Kd.R_alloc | apply Kd.R_drewN | apply Kd.R_drew)); exact (Kd.R_mono (Kd.R_far (p := ⟨gb189, 2, none⟩) (Kd.R_far (p := ⟨gb189, 1, none⟩) (Kd.R_far (p := ⟨gb189, 0, none⟩) (Kd.R_types HO179.out BK189.out (by decide)) (fun _ hk => hk.2) (.int .i64 t183)) (fun _ hk => hk.2) (.int .i64 t184)) (fun _ hk => hk.2) (.slice Ao29 t185.length co29)) (fun _ h_ => h_.1))) (Kd.R_base ho0) hb); have n1_ := Aside0.mk (Kd.R_elder' (by (with_reducible repeat (first | apply Kd.R_alloc | apply Kd.R_drewN | apply Kd.R_drew)); exact (Kd.R_mono (Kd.R_far (p := ⟨gb189, 2, none⟩) (Kd.R_far (p := ⟨gb189, 1, none⟩) (Kd.R_far (p := ⟨gb189, 0, none⟩) (Kd.R_types HO182.out BK189.out (by decide)) (fun _ hk => hk.2) (.int .i64 t183)) (fun _ hk => hk.2) (.int .i64 t184)) (fun _ hk => hk.2) (.slice Ao29 t185.length co29)) (fun _ h_ => h_.1))) (Kd.R_base ho0) hb); have n2_ := Aside0.mk (Kd.R_elder' (by (with_reducible repeat (first | apply Kd.R_alloc | apply Kd.R_drewN | apply Kd.R_drew)); exact (Kd.R_mono (Kd.R_far (p := ⟨gb189, 2, none⟩) (Kd.R_far (p := ⟨gb189, 1, none⟩) (Kd.R_far (p := ⟨gb189, 0, none⟩) (Kd.R_types HO187.out BK189.out (by decide)) (fun _ hk => hk.2) (.int .i64 t183)) (fun _ hk => hk.2) (.int .i64 t184)) (fun _ hk => hk.2) (.slice Ao29 t185.length co29)) (fun _ h_ => h_.1))) (Kd.R_base ho0) hb); have n3_ := Aside0.mk (Kd.R_lower (Kd.R_new' (Kd.R_new' (Kd.R_new' ho0 (Kd.R_lt (by (with_reducible repeat (first | apply Kd.R_alloc | apply Kd.R_drewN | apply Kd.R_drew)); exact (Kd.R_mono (Kd.R_far (p := ⟨gb189, 2, none⟩) (Kd.R_far (p := ⟨gb189, 1, none⟩) (Kd.R_far (p := ⟨gb189, 0, none⟩) (Kd.R_types HO179.out BK189.out (by decide)) (fun _ hk => hk.2) (.int .i64 t183)) (fun _ hk => hk.2) (.int .i64 t184)) (fun _ hk => hk.2) (.slice Ao29 t185.length co29)) (fun _ h_ => h_.1))))) (Kd.R_lt (by (with_reducible repeat (first | apply Kd.R_alloc | apply Kd.R_drewN | apply Kd.R_drew)); exact (Kd.R_mono (Kd.R_far (p := ⟨gb189, 2, none⟩) (Kd.R_far (p := ⟨gb189, 1, none⟩) (Kd.R_far (p := ⟨gb189, 0, none⟩) (Kd.R_types HO182.out BK189.out (by decide)) (fun _ hk => hk.2) (.int .i64 t183)) (fun _ hk => hk.2) (.int .i64 t184)) (fun _ hk => hk.2) (.slice Ao29 t185.length co29)) (fun _ h_ => h_.1))))) (Kd.R_lt (by (with_reducible repeat (first | apply Kd.R_alloc | apply Kd.R_drewN | apply Kd.R_drew)); exact (Kd.R_mono (Kd.R_far (p := ⟨gb189, 2, none⟩) (Kd.R_far (p := ⟨gb189, 1, none⟩) (Kd.R_far (p := ⟨gb189, 0, none⟩) (Kd.R_types HO187.out BK189.out (by decide)) (fun _ hk => hk.2) (.int .i64 t183)) (fun _ hk => hk.2) (.int .i64 t184)) (fun _ hk => hk.2) (.slice Ao29 t185.length co29)) (fun _ h_ => h_.1))))) (below_size (by repeat (first | (with_reducible first | exact HB.out | apply below_alloc | apply pw_below_drewN | apply below_drew1 | refine below_set ?_ GE173.out | refine below_set ?_ GE189.out) | exact HB.out)))); have n4_ := Aside0.mk (blk_below (g := gb173) (o := .cells #[.int .i64 a0_0, .int .i64 a0_1, .slice A0_2 l0_2.length c0_2] 24 (0, 0)) (by (with_reducible repeat (first | refine blk_drewN ?_ _ | refine blk_drew ?_ | refine blk_alloc ?_ _)); refine blk_far ?_ NB173_189.out _; (with_reducible repeat (first | refine blk_drewN ?_ _ | refine blk_drew ?_ | refine blk_alloc ?_ _)); refine blk_far ?_ NB173_189.out _; (with_reducible repeat (first | refine blk_drewN ?_ _ | refine blk_drew ?_ | refine blk_alloc ?_ _)); refine blk_far ?_ NB173_189.out _; (with_reducible repeat (first | refine blk_drewN ?_ _ | refine blk_drew ?_ | refine blk_alloc ?_ _)); exact BK173.out) hb); have n5_ := Aside0.mk (blk_below (g := gb189) (o := .cells #[.int .i64 t183, .int .i64 t184, .slice Ao29 t185.length co29] 26 (0, 0)) (by (with_reducible repeat (first | refine blk_drewN ?_ _ | refine blk_drew ?_ | refine blk_alloc ?_ _)); refine blk_put (cs := #[.int .i64 t183, .int .i64 t184, .slice none 0 0]) ?_ 2 _ rfl; (with_reducible repeat (first | refine blk_drewN ?_ _ | refine blk_drew ?_ | refine blk_alloc ?_ _)); refine blk_put (cs := #[.int .i64 t183, .int .i64 0, .slice none 0 0]) ?_ 1 _ rfl; (with_reducible repeat (first | refine blk_drewN ?_ _ | refine blk_drew ?_ | refine blk_alloc ?_ _)); refine blk_put (cs := #[.int .i64 0, .int .i64 0, .slice none 0 0]) ?_ 0 _ rfl; (with_reducible repeat (first | refine blk_drewN ?_ _ | refine blk_drew ?_ | refine blk_alloc ?_ _)); exact BK189.out) hb); have n6_ := Aside0.mk (below_step (by repeat (first | (with_reducible first | exact HB.out | apply below_alloc | apply pw_below_drewN | apply below_drew1 | refine below_set ?_ GE173.out | refine below_set ?_ GE189.out) | exact HB.out)) hb); clear HO179; clear HO182; clear HO187; clear BK173; clear BK189; clear HB; have HO179 := n0_; have HO182 := n1_; have HO187 := n2_; have HO194 := n3_; have BK173 := n4_; have BK189 := n5_; have HB := n6_; clear n0_ n1_ n2_ n3_ n4_ n5_ n6_; (try clear hb); (try clear hb2); (try clear hk); (try clear hi); (try clear ho0)) | ((with_reducible refine gate_dst (N := 8) rfl ?_); refine box_event ?hg (N := 8) ?hd (cs := #[.int .i64 0, .int .i64 0, .slice none 0 0]) (t := 26) ?hr ?_; (case hd => rfl); (case hg => rfl); (case hr => first | (go_simp; done) | (go_simp; rfl)); intro gb195 hg w32 hbox hb; have n0_ := Aside0.mk (Kd.R_below (by (with_reducible repeat (first | apply Kd.R_alloc | apply Kd.R_drewN | apply Kd.R_drew)); exact HO179.out) hb); have n1_ := Aside0.mk (Kd.R_below (by (with_reducible repeat (first | apply Kd.R_alloc | apply Kd.R_drewN | apply Kd.R_drew)); exact HO182.out) hb); have n2_ := Aside0.mk (Kd.R_below (by (with_reducible repeat (first | apply Kd.R_alloc | apply Kd.R_drewN | apply Kd.R_drew)); exact HO187.out) hb); have n3_ := Aside0.mk (Kd.R_below (by (with_reducible repeat (first | apply Kd.R_alloc | apply Kd.R_drewN | apply Kd.R_drew)); exact HO194.out) hb); have n4_ := Aside0.mk (blk_below (g := gb173) (o := .cells #[.int .i64 a0_0, .int .i64 a0_1, .slice A0_2 l0_2.length c0_2] 24 (0, 0)) (by (with_reducible repeat (first | refine blk_drewN ?_ _ | refine blk_drew ?_ | refine blk_alloc ?_ _)); exact BK173.out) hb); have n5_ := Aside0.mk (blk_below (g := gb189) (o := .cells #[.int .i64 t183, .int .i64 t184, .slice Ao29 t185.length co29] 26 (0, 0)) (by (with_reducible repeat (first | refine blk_drewN ?_ _ | refine blk_drew ?_ | refine blk_alloc ?_ _)); exact BK189.out) hb); have n6_ := Aside0.mk (below_step (by repeat (first | (with_reducible first | exact HB.out | apply below_alloc | apply pw_below_drewN | apply below_drew1 | refine below_set ?_ GE173.out | refine below_set ?_ GE189.out) | exact HB.out)) hb); have n7_ := Aside0.mk (hbox); have n8_ := Aside0.mk ((by rw [hg]; exact (below_size (by repeat (first | (with_reducible first | exact HB.out | apply below_alloc | apply pw_below_drewN | apply below_drew1 | refine below_set ?_ GE173.out | refine below_set ?_ GE189.out) | exact HB.out))) : w.heap.size ≤ gb195)); have n9_ := Aside0.mk ((by rw [hg]; exact (below_size (by repeat (first | (with_reducible first | exact HB.out | apply below_alloc | apply pw_below_drewN | apply below_drew1 | refine below_set ?_ GE173.out | refine below_set ?_ GE189.out) | exact HB.out))) : w.heap.size ≤ gb195)); have n10_ := Aside0.mk ((by rw [hg]; exact Nat.ne_of_lt (blk_lt (g := gb173) (o := .cells #[.int .i64 a0_0, .int .i64 a0_1, .slice A0_2 l0_2.length c0_2] 24 (0, 0)) (by (with_reducible repeat (first | refine blk_drewN ?_ _ | refine blk_drew ?_ | refine blk_alloc ?_ _)); exact BK173.out)) : gb173 ≠ gb195)); have n11_ := Aside0.mk ((by rw [hg]; exact Nat.ne_of_gt (blk_lt (g := gb173) (o := .cells #[.int .i64 a0_0, .int .i64 a0_1, .slice A0_2 l0_2.length c0_2] 24 (0, 0)) (by (with_reducible repeat (first | refine blk_drewN ?_ _ | refine blk_drew ?_ | refine blk_alloc ?_ _)); exact BK173.out)) : gb195 ≠ gb173)); have n12_ := Aside0.mk ((by rw [hg]; exact Nat.ne_of_lt (blk_lt (g := gb189) (o := .cells #[.int .i64 t183, .int .i64 t184, .slice Ao29 t185.length co29] 26 (0, 0)) (by (with_reducible repeat (first | refine blk_drewN ?_ _ | refine blk_drew ?_ | refine blk_alloc ?_ _)); exact BK189.out)) : gb189 ≠ gb195)); have n13_ := Aside0.mk ((by rw [hg]; exact Nat.ne_of_gt (blk_lt (g := gb189) (o := .cells #[.int .i64 t183, .int .i64 t184, .slice Ao29 t185.length co29] 26 (0, 0)) (by (with_reducible repeat (first | refine blk_drewN ?_ _ | refine blk_drew ?_ | refine blk_alloc ?_ _)); exact BK189.out)) : gb195 ≠ gb189)); clear HO179; clear HO182; clear HO187; clear HO194; clear BK173; clear BK189; clear HB; have HO179 := n0_; have HO182 := n1_; have HO187 := n2_; have HO194 := n3_; have BK173 := n4_; have BK189 := n5_; have HB := n6_; have BK195 := n7_; have GW195 := n8_; have GE195 := n9_; have NB173_195 := n10_; have NB195_173 := n11_; have NB189_195 := n12_; have NB195_189 := n13_; clear n0_ n1_ n2_ n3_ n4_ n5_ n6_ n7_ n8_ n9_ n10_ n11_ n12_ n13_; clear hb hbox hg; have hnb33 := NB195_173.out; have hnc33 := NB173_195.out; have hnb34 := NB195_189.out; have hnc34 := NB189_195.out; have hcz35_0 : w32.cell? ⟨gb195, 0, none⟩ = some (.int .i64 0) := (blk_cell BK195.out 0).trans rfl; have hcz35_1 : w32.cell? ⟨gb195, 1, none⟩ = some (.int .i64 0) := (blk_cell BK195.out 1).trans rfl; have hcz35_2 : w32.cell? ⟨gb195, 2, none⟩ = some (.slice none 0 0) := (blk_cell BK195.out 2).trans rfl; have hfz35_0 := blk_frozen BK195.out 0; have hfz35_1 := blk_frozen BK195.out 1; have hfz35_2 := blk_frozen BK195.out 2; obtain ⟨Ao36, co36, eo36⟩ := Kd.R_slice HO194.out; subst eo36) | ((with_reducible refine gate_callee (f := 22) rfl ?_); refine goesL_ (some 36) rfl rfl Try.func22 (by kernel_rfl) rfl #[.slice A1 l1.length c1] rfl (by (try simp only [List.map_toArray, List.map_cons, List.map_nil]); first | done | rfl | (simp only [List.length_drop, List.length_take]; rfl)) ?_; (with_reducible refine (laws_toIntS.calls k _ _ l1 t196 _ ?side1 ?side2 A14.out).mono ?_); (case side1 => exact Kd.C_below HR1.out (by repeat (first | (with_reducible first | exact HB.out | apply below_alloc | apply pw_below_drewN | apply below_drew1 | refine below_set ?_ GE173.out | refine below_set ?_ GE189.out | refine below_set ?_ GE195.out) | exact HB.out))); (case side2 => exact HC1.out); rintro e w37 ⟨v197, rfl, ho0, hb⟩; refine ⟨_, rfl, ?_⟩; have n0_ := Aside0.mk (Kd.R_elder' (by (with_reducible repeat (first | apply Kd.R_alloc | apply Kd.R_drewN | apply Kd.R_drew)); exact (Kd.R_mono (Kd.R_far (p := ⟨gb195, 2, none⟩) (Kd.R_far (p := ⟨gb195, 1, none⟩) (Kd.R_far (p := ⟨gb195, 0, none⟩) (Kd.R_types HO179.out BK195.out (by decide)) (fun _ hk => hk.2) (.int .i64 t190)) (fun _ hk => hk.2) (.int .i64 t191)) (fun _ hk => hk.2) (.slice Ao36 t192.length co36)) (fun _ h_ => h_.1))) (Kd.R_base ho0) hb); have n1_ := Aside0.mk (Kd.R_elder' (by (with_reducible repeat (first | apply Kd.R_alloc | apply Kd.R_drewN | apply Kd.R_drew)); exact (Kd.R_mono (Kd.R_far (p := ⟨gb195, 2, none⟩) (Kd.R_far (p := ⟨gb195, 1, none⟩) (Kd.R_far (p := ⟨gb195, 0, none⟩) (Kd.R_types HO182.out BK195.out (by decide)) (fun _ hk => hk.2) (.int .i64 t190)) (fun _ hk => hk.2) (.int .i64 t191)) (fun _ hk => hk.2) (.slice Ao36 t192.length co36)) (fun _ h_ => h_.1))) (Kd.R_base ho0) hb); have n2_ := Aside0.mk (Kd.R_elder' (by (with_reducible repeat (first | apply Kd.R_alloc | apply Kd.R_drewN | apply Kd.R_drew)); exact (Kd.R_mono (Kd.R_far (p := ⟨gb195, 2, none⟩) (Kd.R_far (p := ⟨gb195, 1, none⟩) (Kd.R_far (p := ⟨gb195, 0, none⟩) (Kd.R_types HO187.out BK195.out (by decide)) (fun _ hk => hk.2) (.int .i64 t190)) (fun _ hk => hk.2) (.int .i64 t191)) (fun _ hk => hk.2) (.slice Ao36 t192.length co36)) (fun _ h_ => h_.1))) (Kd.R_base ho0) hb); have n3_ := Aside0.mk (Kd.R_elder' (by (with_reducible repeat (first | apply Kd.R_alloc | apply Kd.R_drewN | apply Kd.R_drew)); exact (Kd.R_mono (Kd.R_far (p := ⟨gb195, 2, none⟩) (Kd.R_far (p := ⟨gb195, 1, none⟩) (Kd.R_far (p := ⟨gb195, 0, none⟩) (Kd.R_types HO194.out BK195.out (by decide)) (fun _ hk => hk.2) (.int .i64 t190)) (fun _ hk => hk.2) (.int .i64 t191)) (fun _ hk => hk.2) (.slice Ao36 t192.length co36)) (fun _ h_ => h_.1))) (Kd.R_base ho0) hb); have n4_ := Aside0.mk (Kd.R_lower (Kd.R_new' (Kd.R_new' (Kd.R_new' (Kd.R_new' ho0 (Kd.R_lt (by (with_reducible repeat (first | apply Kd.R_alloc | apply Kd.R_drewN | apply Kd.R_drew)); exact (Kd.R_mono (Kd.R_far (p := ⟨gb195, 2, none⟩) (Kd.R_far (p := ⟨gb195, 1, none⟩) (Kd.R_far (p := ⟨gb195, 0, none⟩) (Kd.R_types HO179.out BK195.out (by decide)) (fun _ hk => hk.2) (.int .i64 t190)) (fun _ hk => hk.2) (.int .i64 t191)) (fun _ hk => hk.2) (.slice Ao36 t192.length co36)) (fun _ h_ => h_.1))))) (Kd.R_lt (by (with_reducible repeat (first | apply Kd.R_alloc | apply Kd.R_drewN | apply Kd.R_drew)); exact (Kd.R_mono (Kd.R_far (p := ⟨gb195, 2, none⟩) (Kd.R_far (p := ⟨gb195, 1, none⟩) (Kd.R_far (p := ⟨gb195, 0, none⟩) (Kd.R_types HO182.out BK195.out (by decide)) (fun _ hk => hk.2) (.int .i64 t190)) (fun _ hk => hk.2) (.int .i64 t191)) (fun _ hk => hk.2) (.slice Ao36 t192.length co36)) (fun _ h_ => h_.1))))) (Kd.R_lt (by (with_reducible repeat (first | apply Kd.R_alloc | apply Kd.R_drewN | apply Kd.R_drew)); exact (Kd.R_mono (Kd.R_far (p := ⟨gb195, 2, none⟩) (Kd.R_far (p := ⟨gb195, 1, none⟩) (Kd.R_far (p := ⟨gb195, 0, none⟩) (Kd.R_types HO187.out BK195.out (by decide)) (fun _ hk => hk.2) (.int .i64 t190)) (fun _ hk => hk.2) (.int .i64 t191)) (fun _ hk => hk.2) (.slice Ao36 t192.length co36)) (fun _ h_ => h_.1))))) (Kd.R_lt (by (with_reducible repeat (first | apply Kd.R_alloc | apply Kd.R_drewN | apply Kd.R_drew)); exact (Kd.R_mono (Kd.R_far (p := ⟨gb195, 2, none⟩) (Kd.R_far (p := ⟨gb195, 1, none⟩) (Kd.R_far (p := ⟨gb195, 0, none⟩) (Kd.R_types HO194.out BK195.out (by decide)) (fun _ hk => hk.2) (.int .i64 t190)) (fun _ hk => hk.2) (.int .i64 t191)) (fun _ hk => hk.2) (.slice Ao36 t192.length co36)) (fun _ h_ => h_.1))))) (below_size (by repeat (first | (with_reducible first | exact HB.out | apply below_alloc | apply pw_below_drewN | apply below_drew1 | refine below_set ?_ GE173.out | refine below_set ?_ GE189.out | refine below_set ?_ GE195.out) | exact HB.out)))); have n5_ := Aside0.mk (blk_below (g := gb173) (o := .cells #[.int .i64 a0_0, .int .i64 a0_1, .slice A0_2 l0_2.length c0_2] 24 (0, 0)) (by (with_reducible repeat (first | refine blk_drewN ?_ _ | refine blk_drew ?_ | refine blk_alloc ?_ _)); refine blk_far ?_ NB173_195.out _; (with_reducible repeat (first | refine blk_drewN ?_ _ | refine blk_drew ?_ | refine blk_alloc ?_ _)); refine blk_far ?_ NB173_195.out _; (with_reducible repeat (first | refine blk_drewN ?_ _ | refine blk_drew ?_ | refine blk_alloc ?_ _)); refine blk_far ?_ NB173_195.out _; (with_reducible repeat (first | refine blk_drewN ?_ _ | refine blk_drew ?_ | refine blk_alloc ?_ _)); exact BK173.out) hb); have n6_ := Aside0.mk (blk_below (g := gb189) (o := .cells #[.int .i64 t183, .int .i64 t184, .slice Ao29 t185.length co29] 26 (0, 0)) (by (with_reducible repeat (first | refine blk_drewN ?_ _ | refine blk_drew ?_ | refine blk_alloc ?_ _)); refine blk_far ?_ NB189_195.out _; (with_reducible repeat (first | refine blk_drewN ?_ _ | refine blk_drew ?_ | refine blk_alloc ?_ _)); refine blk_far ?_ NB189_195.out _; (with_reducible repeat (first | refine blk_drewN ?_ _ | refine blk_drew ?_ | refine blk_alloc ?_ _)); refine blk_far ?_ NB189_195.out _; (with_reducible repeat (first | refine blk_drewN ?_ _ | refine blk_drew ?_ | refine blk_alloc ?_ _)); exact BK189.out) hb); have n7_ := Aside0.mk (blk_below (g := gb195) (o := .cells #[.int .i64 t190, .int .i64 t191, .slice Ao36 t192.length co36] 26 (0, 0)) (by (with_reducible repeat (first | refine blk_drewN ?_ _ | refine blk_drew ?_ | refine blk_alloc ?_ _)); refine blk_put (cs := #[.int .i64 t190, .int .i64 t191, .slice none 0 0]) ?_ 2 _ rfl; (with_reducible repeat (first | refine blk_drewN ?_ _ | refine blk_drew ?_ | refine blk_alloc ?_ _)); refine blk_put (cs := #[.int .i64 t190, .int .i64 0, .slice none 0 0]) ?_ 1 _ rfl; (with_reducible repeat (first | refine blk_drewN ?_ _ | refine blk_drew ?_ | refine blk_alloc ?_ _)); refine blk_put (cs := #[.int .i64 0, .int .i64 0, .slice none 0 0]) ?_ 0 _ rfl; (with_reducible repeat (first | refine blk_drewN ?_ _ | refine blk_drew ?_ | refine blk_alloc ?_ _)); exact BK195.out) hb); have n8_ := Aside0.mk (below_step (by repeat (first | (with_reducible first | exact HB.out | apply below_alloc | apply pw_below_drewN | apply below_drew1 | refine below_set ?_ GE173.out | refine below_set ?_ GE189.out | refine below_set ?_ GE195.out) | exact HB.out)) hb); clear HO179; clear HO182; clear HO187; clear HO194; clear BK173; clear BK189; clear BK195; clear HB; have HO179 := n0_; have HO182 := n1_; have HO187 := n2_; have HO194 := n3_; have HO198 := n4_; have BK173 := n5_; have BK189 := n6_; have BK195 := n7_; have HB := n8_; clear n0_ n1_ n2_ n3_ n4_ n5_ n6_ n7_ n8_; (try clear hb); (try clear hb2); (try clear hk); (try clear hi); (try clear ho0); have hcz38_0 : w37.cell? ⟨gb195, 0, none⟩ = some (.int .i64 t190) := (blk_cell BK195.out 0).trans rfl; have hcz38_1 : w37.cell? ⟨gb195, 1, none⟩ = some (.int .i64 t191) := (blk_cell BK195.out 1).trans rfl; have hcz38_2 : w37.cell? ⟨gb195, 2, none⟩ = some (.slice Ao36 t192.length co36) := (blk_cell BK195.out 2).trans rfl; have hfz38_0 := blk_frozen BK195.out 0; have hfz38_1 := blk_frozen BK195.out 1; have hfz38_2 := blk_frozen BK195.out 2; obtain ⟨Ao39, co39, eo39⟩ := Kd.R_slice HO198.out; subst eo39) | ((with_reducible refine gate_callee (f := 23) rfl ?_); refine goesL_ (some 40) rfl rfl Try.func23 (by kernel_rfl) rfl #[.agg #[.int .i64 t190, .int .i64 t191, .slice Ao36 t192.length co36], .slice Ao39 t196.length co39] rfl (by (try simp only [List.map_toArray, List.map_cons, List.map_nil]); first | done | rfl | (simp only [List.length_drop, List.length_take]; rfl)) ?_; (with_reducible refine (impl_OrderRows.calls k t190 t191 _ _ t192 _ _ t196 t199 t200 t201 t204 _ ?side1 ?side2 ?side3 ?side4 A15.out).mono ?_); (case side1 => repeat (first | exact (Kd.R_reads' HO194.out).2.2 | (with_reducible refine Kd.C_alloc ?_ _) | (with_reducible refine Kd.C_drewN ?_ _) | (with_reducible refine Kd.C_drew ?_))); (case side2 => exact (Kd.R_reads' HO194.out).2.1); (case side3 => repeat (first | exact (Kd.R_reads' HO198.out).2.2 | (with_reducible refine Kd.C_alloc ?_ _) | (with_reducible refine Kd.C_drewN ?_ _) | (with_reducible refine Kd.C_drew ?_))); (case side4 => exact (Kd.R_reads' HO198.out).2.1); rintro e w40 ⟨v202, rfl, ho0, hb⟩; refine ⟨_, rfl, ?_⟩; have n0_ := Aside0.mk (Kd.R_elder' (by (with_reducible repeat (first | apply Kd.R_alloc | apply Kd.R_drewN | apply Kd.R_drew)); exact HO179.out) (Kd.R_base ho0) hb); have n1_ := Aside0.mk (Kd.R_elder' (by (with_reducible repeat (first | apply Kd.R_alloc | apply Kd.R_drewN | apply Kd.R_drew)); exact HO182.out) (Kd.R_base ho0) hb); have n2_ := Aside0.mk (Kd.R_elder' (by (with_reducible repeat (first | apply Kd.R_alloc | apply Kd.R_drewN | apply Kd.R_drew)); exact HO187.out) (Kd.R_base ho0) hb); have n3_ := Aside0.mk (Kd.R_elder' (by (with_reducible repeat (first | apply Kd.R_alloc | apply Kd.R_drewN | apply Kd.R_drew)); exact HO194.out) (Kd.R_base ho0) hb); have n4_ := Aside0.mk (Kd.R_elder' (by (with_reducible repeat (first | apply Kd.R_alloc | apply Kd.R_drewN | apply Kd.R_drew)); exact HO198.out) (Kd.R_base ho0) hb); have n5_ := Aside0.mk (Kd.R_lower (Kd.R_new' (Kd.R_new' (Kd.R_new' (Kd.R_new' (Kd.R_new' ho0 (Kd.R_lt (by (with_reducible repeat (first | apply Kd.R_alloc | apply Kd.R_drewN | apply Kd.R_drew)); exact HO179.out))) (Kd.R_lt (by (with_reducible repeat (first | apply Kd.R_alloc | apply Kd.R_drewN | apply Kd.R_drew)); exact HO182.out))) (Kd.R_lt (by (with_reducible repeat (first | apply Kd.R_alloc | apply Kd.R_drewN | apply Kd.R_drew)); exact HO187.out))) (Kd.R_lt (by (with_reducible repeat (first | apply Kd.R_alloc | apply Kd.R_drewN | apply Kd.R_drew)); exact HO194.out))) (Kd.R_lt (by (with_reducible repeat (first | apply Kd.R_alloc | apply Kd.R_drewN | apply Kd.R_drew)); exact HO198.out))) (below_size (by repeat (first | (with_reducible first | exact HB.out | apply below_alloc | apply pw_below_drewN | apply below_drew1 | refine below_set ?_ GE173.out | refine below_set ?_ GE189.out | refine below_set ?_ GE195.out) | exact HB.out)))); have n6_ := Aside0.mk (blk_below (g := gb173) (o := .cells #[.int .i64 a0_0, .int .i64 a0_1, .slice A0_2 l0_2.length c0_2] 24 (0, 0)) (by (with_reducible repeat (first | refine blk_drewN ?_ _ | refine blk_drew ?_ | refine blk_alloc ?_ _)); exact BK173.out) hb); have n7_ := Aside0.mk (blk_below (g := gb189) (o := .cells #[.int .i64 t183, .int .i64 t184, .slice Ao29 t185.length co29] 26 (0, 0)) (by (with_reducible repeat (first | refine blk_drewN ?_ _ | refine blk_drew ?_ | refine blk_alloc ?_ _)); exact BK189.out) hb); have n8_ := Aside0.mk (blk_below (g := gb195) (o := .cells #[.int .i64 t190, .int .i64 t191, .slice Ao36 t192.length co36] 26 (0, 0)) (by (with_reducible repeat (first | refine blk_drewN ?_ _ | refine blk_drew ?_ | refine blk_alloc ?_ _)); exact BK195.out) hb); have n9_ := Aside0.mk (below_step (by repeat (first | (with_reducible first | exact HB.out | apply below_alloc | apply pw_below_drewN | apply below_drew1 | refine below_set ?_ GE173.out | refine below_set ?_ GE189.out | refine below_set ?_ GE195.out) | exact HB.out)) hb); clear HO179; clear HO182; clear HO187; clear HO194; clear HO198; clear BK173; clear BK189; clear BK195; clear HB; have HO179 := n0_; have HO182 := n1_; have HO187 := n2_; have HO194 := n3_; have HO198 := n4_; have HO203 := n5_; have BK173 := n6_; have BK189 := n7_; have BK195 := n8_; have HB := n9_; clear n0_ n1_ n2_ n3_ n4_ n5_ n6_ n7_ n8_ n9_; (try clear hb); (try clear hb2); (try clear hk); (try clear hi); (try clear ho0)) | ((with_reducible refine gate_dst (N := 10) rfl ?_); refine box_event ?hg (N := 10) ?hd (cs := #[.int .i64 0, .int .i64 0, .slice none 0 0]) (t := 26) ?hr ?_; (case hd => rfl); (case hg => rfl); (case hr => first | (go_simp; done) | (go_simp; rfl)); intro gb205 hg w41 hbox hb; have n0_ := Aside0.mk (Kd.R_below (by (with_reducible repeat (first | apply Kd.R_alloc | apply Kd.R_drewN | apply Kd.R_drew)); exact HO179.out) hb); have n1_ := Aside0.mk (Kd.R_below (by (with_reducible repeat (first | apply Kd.R_alloc | apply Kd.R_drewN | apply Kd.R_drew)); exact HO182.out) hb); have n2_ := Aside0.mk (Kd.R_below (by (with_reducible repeat (first | apply Kd.R_alloc | apply Kd.R_drewN | apply Kd.R_drew)); exact HO187.out) hb); have n3_ := Aside0.mk (Kd.R_below (by (with_reducible repeat (first | apply Kd.R_alloc | apply Kd.R_drewN | apply Kd.R_drew)); exact HO194.out) hb); have n4_ := Aside0.mk (Kd.R_below (by (with_reducible repeat (first | apply Kd.R_alloc | apply Kd.R_drewN | apply Kd.R_drew)); exact HO198.out) hb); have n5_ := Aside0.mk (Kd.R_below (by (with_reducible repeat (first | apply Kd.R_alloc | apply Kd.R_drewN | apply Kd.R_drew)); exact HO203.out) hb); have n6_ := Aside0.mk (blk_below (g := gb173) (o := .cells #[.int .i64 a0_0, .int .i64 a0_1, .slice A0_2 l0_2.length c0_2] 24 (0, 0)) (by (with_reducible repeat (first | refine blk_drewN ?_ _ | refine blk_drew ?_ | refine blk_alloc ?_ _)); exact BK173.out) hb); have n7_ := Aside0.mk (blk_below (g := gb189) (o := .cells #[.int .i64 t183, .int .i64 t184, .slice Ao29 t185.length co29] 26 (0, 0)) (by (with_reducible repeat (first | refine blk_drewN ?_ _ | refine blk_drew ?_ | refine blk_alloc ?_ _)); exact BK189.out) hb); have n8_ := Aside0.mk (blk_below (g := gb195) (o := .cells #[.int .i64 t190, .int .i64 t191, .slice Ao36 t192.length co36] 26 (0, 0)) (by (with_reducible repeat (first | refine blk_drewN ?_ _ | refine blk_drew ?_ | refine blk_alloc ?_ _)); exact BK195.out) hb); have n9_ := Aside0.mk (below_step (by repeat (first | (with_reducible first | exact HB.out | apply below_alloc | apply pw_below_drewN | apply below_drew1 | refine below_set ?_ GE173.out | refine below_set ?_ GE189.out | refine below_set ?_ GE195.out) | exact HB.out)) hb); have n10_ := Aside0.mk (hbox); have n11_ := Aside0.mk ((by rw [hg]; exact (below_size (by repeat (first | (with_reducible first | exact HB.out | apply below_alloc | apply pw_below_drewN | apply below_drew1 | refine below_set ?_ GE173.out | refine below_set ?_ GE189.out | refine below_set ?_ GE195.out) | exact HB.out))) : w.heap.size ≤ gb205)); have n12_ := Aside0.mk ((by rw [hg]; exact (below_size (by repeat (first | (with_reducible first | exact HB.out | apply below_alloc | apply pw_below_drewN | apply below_drew1 | refine below_set ?_ GE173.out | refine below_set ?_ GE189.out | refine below_set ?_ GE195.out) | exact HB.out))) : w.heap.size ≤ gb205)); have n13_ := Aside0.mk ((by rw [hg]; exact Nat.ne_of_lt (blk_lt (g := gb173) (o := .cells #[.int .i64 a0_0, .int .i64 a0_1, .slice A0_2 l0_2.length c0_2] 24 (0, 0)) (by (with_reducible repeat (first | refine blk_drewN ?_ _ | refine blk_drew ?_ | refine blk_alloc ?_ _)); exact BK173.out)) : gb173 ≠ gb205)); have n14_ := Aside0.mk ((by rw [hg]; exact Nat.ne_of_gt (blk_lt (g := gb173) (o := .cells #[.int .i64 a0_0, .int .i64 a0_1, .slice A0_2 l0_2.length c0_2] 24 (0, 0)) (by (with_reducible repeat (first | refine blk_drewN ?_ _ | refine blk_drew ?_ | refine blk_alloc ?_ _)); exact BK173.out)) : gb205 ≠ gb173)); have n15_ := Aside0.mk ((by rw [hg]; exact Nat.ne_of_lt (blk_lt (g := gb189) (o := .cells #[.int .i64 t183, .int .i64 t184, .slice Ao29 t185.length co29] 26 (0, 0)) (by (with_reducible repeat (first | refine blk_drewN ?_ _ | refine blk_drew ?_ | refine blk_alloc ?_ _)); exact BK189.out)) : gb189 ≠ gb205)); have n16_ := Aside0.mk ((by rw [hg]; exact Nat.ne_of_gt (blk_lt (g := gb189) (o := .cells #[.int .i64 t183, .int .i64 t184, .slice Ao29 t185.length co29] 26 (0, 0)) (by (with_reducible repeat (first | refine blk_drewN ?_ _ | refine blk_drew ?_ | refine blk_alloc ?_ _)); exact BK189.out)) : gb205 ≠ gb189)); have n17_ := Aside0.mk ((by rw [hg]; exact Nat.ne_of_lt (blk_lt (g := gb195) (o := .cells #[.int .i64 t190, .int .i64 t191, .slice Ao36 t192.length co36] 26 (0, 0)) (by (with_reducible repeat (first | refine blk_drewN ?_ _ | refine blk_drew ?_ | refine blk_alloc ?_ _)); exact BK195.out)) : gb195 ≠ gb205)); have n18_ := Aside0.mk ((by rw [hg]; exact Nat.ne_of_gt (blk_lt (g := gb195) (o := .cells #[.int .i64 t190, .int .i64 t191, .slice Ao36 t192.length co36] 26 (0, 0)) (by (with_reducible repeat (first | refine blk_drewN ?_ _ | refine blk_drew ?_ | refine blk_alloc ?_ _)); exact BK195.out)) : gb205 ≠ gb195)); clear HO179; clear HO182; clear HO187; clear HO194; clear HO198; clear HO203; clear BK173; clear BK189; clear BK195; clear HB; have HO179 := n0_; have HO182 := n1_; have HO187 := n2_; have HO194 := n3_; have HO198 := n4_; have HO203 := n5_; have BK173 := n6_; have BK189 := n7_; have BK195 := n8_; have HB := n9_; have BK205 := n10_; have GW205 := n11_; have GE205 := n12_; have NB173_205 := n13_; have NB205_173 := n14_; have NB189_205 := n15_; have NB205_189 := n16_; have NB195_205 := n17_; have NB205_195 := n18_; clear n0_ n1_ n2_ n3_ n4_ n5_ n6_ n7_ n8_ n9_ n10_ n11_ n12_ n13_ n14_ n15_ n16_ n17_ n18_; clear hb hbox hg; have hnb42 := NB205_173.out; have hnc42 := NB173_205.out; have hnb43 := NB205_189.out; have hnc43 := NB189_205.out; have hnb44 := NB205_195.out; have hnc44 := NB195_205.out; have hcz45_0 : w41.cell? ⟨gb205, 0, none⟩ = some (.int .i64 0) := (blk_cell BK205.out 0).trans rfl; have hcz45_1 : w41.cell? ⟨gb205, 1, none⟩ = some (.int .i64 0) := (blk_cell BK205.out 1).trans rfl; have hcz45_2 : w41.cell? ⟨gb205, 2, none⟩ = some (.slice none 0 0) := (blk_cell BK205.out 2).trans rfl; have hfz45_0 := blk_frozen BK205.out 0; have hfz45_1 := blk_frozen BK205.out 1; have hfz45_2 := blk_frozen BK205.out 2; obtain ⟨Ao46, co46, eo46⟩ := Kd.R_slice HO203.out; subst eo46))
      (try simp only [Act.put, List.setIfInBounds_toArray, List.set_cons_zero, List.set_cons_succ])
      go_cut [51] (fun v51 wc => ∃ (kq : Nat) (x51_15 : Bool), v51 = .bool x51_15 ∧ Aside0 (laws_FnExactOrderRows.j0 kq l1 t188 t196 t204 x51_15 a0_0 a0_1 l0_2 t183 t184 t185 t190 t191 t192 t199 t200 t201 = some true) ∧ Aside0 (kq ≤ k) ∧ Aside0 (Kd.R (Kd.int .i64) 3 wc w.heap.size (fun k_ => some k_ ≠ ((.slice Ao29 t185.length co29) : Value).ownBlock ∧ some k_ ≠ ((.slice Ao36 t192.length co36) : Value).ownBlock ∧ some k_ ≠ ((.slice Ao46 t201.length co46) : Value).ownBlock) (.slice Ao39 t196.length co39) t196) ∧ Aside0 (Kd.R (Kd.int .i64) 3 wc w.heap.size (fun k_ => some k_ ≠ ((.slice Ao39 t196.length co39) : Value).ownBlock ∧ some k_ ≠ ((.slice Ao36 t192.length co36) : Value).ownBlock ∧ some k_ ≠ ((.slice Ao46 t201.length co46) : Value).ownBlock) (.slice Ao29 t185.length co29) t185) ∧ Aside0 (Kd.R (Kd.int .i64) 3 wc w.heap.size (fun k_ => some k_ ≠ ((.slice Ao39 t196.length co39) : Value).ownBlock ∧ some k_ ≠ ((.slice Ao29 t185.length co29) : Value).ownBlock ∧ some k_ ≠ ((.slice Ao46 t201.length co46) : Value).ownBlock) (.slice Ao36 t192.length co36) t192) ∧ Aside0 (Kd.R (Kd.int .i64) 3 wc w.heap.size (fun k_ => some k_ ≠ ((.slice Ao39 t196.length co39) : Value).ownBlock ∧ some k_ ≠ ((.slice Ao29 t185.length co29) : Value).ownBlock ∧ some k_ ≠ ((.slice Ao36 t192.length co36) : Value).ownBlock) (.slice Ao46 t201.length co46) t201) ∧ Aside0 (wc.heap[gb173]? = some (.cells #[.int .i64 a0_0, .int .i64 a0_1, (.slice A0_2 l0_2.length c0_2)] 24 (0, 0))) ∧ Aside0 (wc.heap[gb189]? = some (.cells #[.int .i64 t183, .int .i64 t184, (.slice Ao29 t185.length co29)] 26 (0, 0))) ∧ Aside0 (wc.heap[gb195]? = some (.cells #[.int .i64 t190, .int .i64 t191, (.slice Ao36 t192.length co36)] 26 (0, 0))) ∧ Aside0 (wc.heap[gb205]? = some (.cells #[.int .i64 t199, .int .i64 t200, (.slice Ao46 t201.length co46)] 26 (0, 0))) ∧ Aside0 (Below w.heap.size w wc))
      case first =>
        have H := HC16.out
        clear HC16
        replace H := Option.bind_eq_some_iff.mp H
        obtain ⟨t206, A470, H⟩ := H
        replace H : (if t206 = true then (laws_FnExactOrderRows.j0 k l1 t188 t196 t204 (t204 != t188) a0_0 a0_1 l0_2 t183 t184 t185 t190 t191 t192 t199 t200 t201) else (laws_FnExactOrderRows.j0 k l1 t188 t196 t204 true a0_0 a0_1 l0_2 t183 t184 t185 t190 t191 t192 t199 t200 t201)) = some true := H
        have A47 := Aside0.mk A470
        clear A470
        by_cases c48 : t206 = true
        · subst c48
          have H1 : (laws_FnExactOrderRows.j0 k l1 t188 t196 t204 (t204 != t188) a0_0 a0_1 l0_2 t183 t184 t185 t190 t191 t192 t199 t200 t201) = some true := by first | (rw [if_pos rfl] at H; exact H) | rfl
          clear H
          have H := H1
          clear H1
          have H' := Aside0.mk H
          clear H
          have hnb49 := NB205_173.out
          have hnc49 := NB173_205.out
          have hnb50 := NB205_189.out
          have hnc50 := NB189_205.out
          have hnb51 := NB205_195.out
          have hnc51 := NB195_205.out
          have hcz52_0 : w41.cell? ⟨gb205, 0, none⟩ = some (.int .i64 0) := (blk_cell BK205.out 0).trans rfl
          have hcz52_1 : w41.cell? ⟨gb205, 1, none⟩ = some (.int .i64 0) := (blk_cell BK205.out 1).trans rfl
          have hcz52_2 : w41.cell? ⟨gb205, 2, none⟩ = some (.slice none 0 0) := (blk_cell BK205.out 2).trans rfl
          have hfz52_0 := blk_frozen BK205.out 0
          have hfz52_1 := blk_frozen BK205.out 1
          have hfz52_2 := blk_frozen BK205.out 2
          have hnb53 := NB189_173.out
          have hnc53 := NB173_189.out
          have hnb54 := NB189_195.out
          have hnc54 := NB195_189.out
          have hcz55_0 : w41.cell? ⟨gb189, 0, none⟩ = some (.int .i64 t183) := (blk_cell BK189.out 0).trans rfl
          have hcz55_1 : w41.cell? ⟨gb189, 1, none⟩ = some (.int .i64 t184) := (blk_cell BK189.out 1).trans rfl
          have hcz55_2 : w41.cell? ⟨gb189, 2, none⟩ = some (.slice Ao29 t185.length co29) := (blk_cell BK189.out 2).trans rfl
          have hfz55_0 := blk_frozen BK189.out 0
          have hfz55_1 := blk_frozen BK189.out 1
          have hfz55_2 := blk_frozen BK189.out 2
          go_wp2_with (first | ((with_reducible refine gate_callee (f := 16) rfl ?_); refine goesL_ (some 45) rfl rfl Try.func16 (by kernel_rfl) rfl #[.agg #[.int .i64 t199, .int .i64 t200, .slice Ao46 t201.length co46], .agg #[.int .i64 t183, .int .i64 t184, .slice Ao29 t185.length co29]] rfl (by (try simp only [List.map_toArray, List.map_cons, List.map_nil]); first | done | rfl | (simp only [List.length_drop, List.length_take]; rfl)) ?_; (with_reducible refine (laws_eqBoard.calls k t199 t200 _ _ t201 t183 t184 _ _ t185 true _ ?side1 ?side2 ?side3 ?side4 A47.out).mono ?_); (case side1 => refine (Kd.R_reads' (e := 3) (base := w.heap.size) (ok := fun k_ => (((((True ∧ some k_ ≠ (.slice Ao23 t177.length co23 : Value).ownBlock) ∧ some k_ ≠ (.slice Ao24 t180.length co24 : Value).ownBlock) ∧ some k_ ≠ (.slice Ao29 t185.length co29 : Value).ownBlock) ∧ some k_ ≠ (.slice Ao36 t192.length co36 : Value).ownBlock) ∧ some k_ ≠ (.slice Ao39 t196.length co39 : Value).ownBlock)) (n := t201.length) (c := co46) ?_).2.2; exact (by (with_reducible repeat (first | apply Kd.R_alloc | apply Kd.R_drewN | apply Kd.R_drew)); exact (Kd.R_mono (Kd.R_far (p := ⟨gb205, 2, none⟩) (Kd.R_far (p := ⟨gb205, 1, none⟩) (Kd.R_far (p := ⟨gb205, 0, none⟩) (Kd.R_types HO203.out BK205.out (by decide)) (fun _ hk => hk.2) (.int .i64 t199)) (fun _ hk => hk.2) (.int .i64 t200)) (fun _ hk => hk.2) (.slice Ao46 t201.length co46)) (fun _ h_ => h_.1)))); (case side2 => exact (Kd.R_reads' HO203.out).2.1); (case side3 => refine (Kd.R_reads' (e := 3) (base := w.heap.size) (ok := fun k_ => (((((True ∧ some k_ ≠ (.slice Ao23 t177.length co23 : Value).ownBlock) ∧ some k_ ≠ (.slice Ao24 t180.length co24 : Value).ownBlock) ∧ some k_ ≠ (.slice Ao36 t192.length co36 : Value).ownBlock) ∧ some k_ ≠ (.slice Ao39 t196.length co39 : Value).ownBlock) ∧ some k_ ≠ (.slice Ao46 t201.length co46 : Value).ownBlock)) (n := t185.length) (c := co29) ?_).2.2; exact (by (with_reducible repeat (first | apply Kd.R_alloc | apply Kd.R_drewN | apply Kd.R_drew)); exact (Kd.R_mono (Kd.R_far (p := ⟨gb205, 2, none⟩) (Kd.R_far (p := ⟨gb205, 1, none⟩) (Kd.R_far (p := ⟨gb205, 0, none⟩) (Kd.R_types HO187.out BK205.out (by decide)) (fun _ hk => hk.2) (.int .i64 t199)) (fun _ hk => hk.2) (.int .i64 t200)) (fun _ hk => hk.2) (.slice Ao46 t201.length co46)) (fun _ h_ => h_.1)))); (case side4 => exact (Kd.R_reads' HO187.out).2.1); rintro e w56 ⟨rfl, hb⟩; refine ⟨_, rfl, ?_⟩; have n0_ := Aside0.mk (Kd.R_below (by (with_reducible repeat (first | apply Kd.R_alloc | apply Kd.R_drewN | apply Kd.R_drew)); exact (Kd.R_mono (Kd.R_far (p := ⟨gb205, 2, none⟩) (Kd.R_far (p := ⟨gb205, 1, none⟩) (Kd.R_far (p := ⟨gb205, 0, none⟩) (Kd.R_types HO179.out BK205.out (by decide)) (fun _ hk => hk.2) (.int .i64 t199)) (fun _ hk => hk.2) (.int .i64 t200)) (fun _ hk => hk.2) (.slice Ao46 t201.length co46)) (fun _ h_ => h_.1))) hb); have n1_ := Aside0.mk (Kd.R_below (by (with_reducible repeat (first | apply Kd.R_alloc | apply Kd.R_drewN | apply Kd.R_drew)); exact (Kd.R_mono (Kd.R_far (p := ⟨gb205, 2, none⟩) (Kd.R_far (p := ⟨gb205, 1, none⟩) (Kd.R_far (p := ⟨gb205, 0, none⟩) (Kd.R_types HO182.out BK205.out (by decide)) (fun _ hk => hk.2) (.int .i64 t199)) (fun _ hk => hk.2) (.int .i64 t200)) (fun _ hk => hk.2) (.slice Ao46 t201.length co46)) (fun _ h_ => h_.1))) hb); have n2_ := Aside0.mk (Kd.R_below (by (with_reducible repeat (first | apply Kd.R_alloc | apply Kd.R_drewN | apply Kd.R_drew)); exact (Kd.R_mono (Kd.R_far (p := ⟨gb205, 2, none⟩) (Kd.R_far (p := ⟨gb205, 1, none⟩) (Kd.R_far (p := ⟨gb205, 0, none⟩) (Kd.R_types HO187.out BK205.out (by decide)) (fun _ hk => hk.2) (.int .i64 t199)) (fun _ hk => hk.2) (.int .i64 t200)) (fun _ hk => hk.2) (.slice Ao46 t201.length co46)) (fun _ h_ => h_.1))) hb); have n3_ := Aside0.mk (Kd.R_below (by (with_reducible repeat (first | apply Kd.R_alloc | apply Kd.R_drewN | apply Kd.R_drew)); exact (Kd.R_mono (Kd.R_far (p := ⟨gb205, 2, none⟩) (Kd.R_far (p := ⟨gb205, 1, none⟩) (Kd.R_far (p := ⟨gb205, 0, none⟩) (Kd.R_types HO194.out BK205.out (by decide)) (fun _ hk => hk.2) (.int .i64 t199)) (fun _ hk => hk.2) (.int .i64 t200)) (fun _ hk => hk.2) (.slice Ao46 t201.length co46)) (fun _ h_ => h_.1))) hb); have n4_ := Aside0.mk (Kd.R_below (by (with_reducible repeat (first | apply Kd.R_alloc | apply Kd.R_drewN | apply Kd.R_drew)); exact (Kd.R_mono (Kd.R_far (p := ⟨gb205, 2, none⟩) (Kd.R_far (p := ⟨gb205, 1, none⟩) (Kd.R_far (p := ⟨gb205, 0, none⟩) (Kd.R_types HO198.out BK205.out (by decide)) (fun _ hk => hk.2) (.int .i64 t199)) (fun _ hk => hk.2) (.int .i64 t200)) (fun _ hk => hk.2) (.slice Ao46 t201.length co46)) (fun _ h_ => h_.1))) hb); have n5_ := Aside0.mk (Kd.R_below (by (with_reducible repeat (first | apply Kd.R_alloc | apply Kd.R_drewN | apply Kd.R_drew)); exact (Kd.R_mono (Kd.R_far (p := ⟨gb205, 2, none⟩) (Kd.R_far (p := ⟨gb205, 1, none⟩) (Kd.R_far (p := ⟨gb205, 0, none⟩) (Kd.R_types HO203.out BK205.out (by decide)) (fun _ hk => hk.2) (.int .i64 t199)) (fun _ hk => hk.2) (.int .i64 t200)) (fun _ hk => hk.2) (.slice Ao46 t201.length co46)) (fun _ h_ => h_.1))) hb); have n6_ := Aside0.mk (blk_below (g := gb173) (o := .cells #[.int .i64 a0_0, .int .i64 a0_1, .slice A0_2 l0_2.length c0_2] 24 (0, 0)) (by (with_reducible repeat (first | refine blk_drewN ?_ _ | refine blk_drew ?_ | refine blk_alloc ?_ _)); refine blk_far ?_ NB173_205.out _; (with_reducible repeat (first | refine blk_drewN ?_ _ | refine blk_drew ?_ | refine blk_alloc ?_ _)); refine blk_far ?_ NB173_205.out _; (with_reducible repeat (first | refine blk_drewN ?_ _ | refine blk_drew ?_ | refine blk_alloc ?_ _)); refine blk_far ?_ NB173_205.out _; (with_reducible repeat (first | refine blk_drewN ?_ _ | refine blk_drew ?_ | refine blk_alloc ?_ _)); exact BK173.out) hb); have n7_ := Aside0.mk (blk_below (g := gb189) (o := .cells #[.int .i64 t183, .int .i64 t184, .slice Ao29 t185.length co29] 26 (0, 0)) (by (with_reducible repeat (first | refine blk_drewN ?_ _ | refine blk_drew ?_ | refine blk_alloc ?_ _)); refine blk_far ?_ NB189_205.out _; (with_reducible repeat (first | refine blk_drewN ?_ _ | refine blk_drew ?_ | refine blk_alloc ?_ _)); refine blk_far ?_ NB189_205.out _; (with_reducible repeat (first | refine blk_drewN ?_ _ | refine blk_drew ?_ | refine blk_alloc ?_ _)); refine blk_far ?_ NB189_205.out _; (with_reducible repeat (first | refine blk_drewN ?_ _ | refine blk_drew ?_ | refine blk_alloc ?_ _)); exact BK189.out) hb); have n8_ := Aside0.mk (blk_below (g := gb195) (o := .cells #[.int .i64 t190, .int .i64 t191, .slice Ao36 t192.length co36] 26 (0, 0)) (by (with_reducible repeat (first | refine blk_drewN ?_ _ | refine blk_drew ?_ | refine blk_alloc ?_ _)); refine blk_far ?_ NB195_205.out _; (with_reducible repeat (first | refine blk_drewN ?_ _ | refine blk_drew ?_ | refine blk_alloc ?_ _)); refine blk_far ?_ NB195_205.out _; (with_reducible repeat (first | refine blk_drewN ?_ _ | refine blk_drew ?_ | refine blk_alloc ?_ _)); refine blk_far ?_ NB195_205.out _; (with_reducible repeat (first | refine blk_drewN ?_ _ | refine blk_drew ?_ | refine blk_alloc ?_ _)); exact BK195.out) hb); have n9_ := Aside0.mk (blk_below (g := gb205) (o := .cells #[.int .i64 t199, .int .i64 t200, .slice Ao46 t201.length co46] 26 (0, 0)) (by (with_reducible repeat (first | refine blk_drewN ?_ _ | refine blk_drew ?_ | refine blk_alloc ?_ _)); refine blk_put (cs := #[.int .i64 t199, .int .i64 t200, .slice none 0 0]) ?_ 2 _ rfl; (with_reducible repeat (first | refine blk_drewN ?_ _ | refine blk_drew ?_ | refine blk_alloc ?_ _)); refine blk_put (cs := #[.int .i64 t199, .int .i64 0, .slice none 0 0]) ?_ 1 _ rfl; (with_reducible repeat (first | refine blk_drewN ?_ _ | refine blk_drew ?_ | refine blk_alloc ?_ _)); refine blk_put (cs := #[.int .i64 0, .int .i64 0, .slice none 0 0]) ?_ 0 _ rfl; (with_reducible repeat (first | refine blk_drewN ?_ _ | refine blk_drew ?_ | refine blk_alloc ?_ _)); exact BK205.out) hb); have n10_ := Aside0.mk (below_step (by repeat (first | (with_reducible first | exact HB.out | apply below_alloc | apply pw_below_drewN | apply below_drew1 | refine below_set ?_ GE173.out | refine below_set ?_ GE189.out | refine below_set ?_ GE195.out | refine below_set ?_ GE205.out) | exact HB.out)) hb); clear HO179; clear HO182; clear HO187; clear HO194; clear HO198; clear HO203; clear BK173; clear BK189; clear BK195; clear BK205; clear HB; have HO179 := n0_; have HO182 := n1_; have HO187 := n2_; have HO194 := n3_; have HO198 := n4_; have HO203 := n5_; have BK173 := n6_; have BK189 := n7_; have BK195 := n8_; have BK205 := n9_; have HB := n10_; clear n0_ n1_ n2_ n3_ n4_ n5_ n6_ n7_ n8_ n9_ n10_; (try clear hb); (try clear hb2); (try clear hk); (try clear hi)))
          go_meet
          case rel => exact ⟨_, ((t204 != t188)), (by first | rfl | (simp; done) | (simp [*]; done)), H', ⟨by first | omega | exact Nat.le_refl _⟩, ⟨by (with_reducible repeat (first | apply Kd.R_alloc | apply Kd.R_drewN | apply Kd.R_drew)); exact Kd.R_mono HO198.out (fun _ hk => ⟨hk.1.1.2, ⟨hk.1.2, hk.2⟩⟩)⟩, ⟨by (with_reducible repeat (first | apply Kd.R_alloc | apply Kd.R_drewN | apply Kd.R_drew)); exact Kd.R_mono HO187.out (fun _ hk => ⟨hk.1.2, ⟨hk.1.1.2, hk.2⟩⟩)⟩, ⟨by (with_reducible repeat (first | apply Kd.R_alloc | apply Kd.R_drewN | apply Kd.R_drew)); exact Kd.R_mono HO194.out (fun _ hk => ⟨hk.1.2, ⟨hk.1.1.2, hk.2⟩⟩)⟩, ⟨by (with_reducible repeat (first | apply Kd.R_alloc | apply Kd.R_drewN | apply Kd.R_drew)); exact Kd.R_mono HO203.out (fun _ hk => ⟨hk.2, ⟨hk.1.1.2, hk.1.2⟩⟩)⟩, ⟨by (with_reducible repeat (first | refine blk_drewN ?_ _ | refine blk_drew ?_ | refine blk_alloc ?_ _)); exact BK173.out⟩, ⟨by (with_reducible repeat (first | refine blk_drewN ?_ _ | refine blk_drew ?_ | refine blk_alloc ?_ _)); exact BK189.out⟩, ⟨by (with_reducible repeat (first | refine blk_drewN ?_ _ | refine blk_drew ?_ | refine blk_alloc ?_ _)); exact BK195.out⟩, ⟨by (with_reducible repeat (first | refine blk_drewN ?_ _ | refine blk_drew ?_ | refine blk_alloc ?_ _)); exact BK205.out⟩, ⟨by repeat (first | (with_reducible first | exact HB.out | apply below_alloc | apply pw_below_drewN | apply below_drew1 | refine below_set ?_ GE173.out | refine below_set ?_ GE189.out | refine below_set ?_ GE195.out | refine below_set ?_ GE205.out) | exact HB.out)⟩⟩
        · replace c48 := Bool.eq_false_iff.mpr c48
          subst c48
          have H1 : (laws_FnExactOrderRows.j0 k l1 t188 t196 t204 true a0_0 a0_1 l0_2 t183 t184 t185 t190 t191 t192 t199 t200 t201) = some true := by first | (rw [if_neg (show ¬ (false = true) by decide)] at H; exact H) | rfl
          clear H
          have H := H1
          clear H1
          exact absurd H (laws_FnExactOrderRows.j0_no _ _ _ _ _ _ _ _ _ _ _ _ _ _ _ _ _)
      case rest =>
        clear HC16
        try clear c1
        try clear c2
        try clear p2
        try clear c3
        try clear c3b0
        try clear c3b1
        try clear c4
        try clear c5
        try clear c6
        try clear c6b0
        try clear c12
        try clear c14
        try clear c16
        try clear c21
        try clear c22
        try clear c23
        try clear c27
        try clear c33
        try clear c34
        try clear c42
        try clear c43
        try clear c44
        try clear c48
        try clear c49
        try clear c50
        try clear c51
        try clear c53
        try clear c54
        try clear hcz18_0
        try clear hcz18_1
        try clear hcz18_2
        try clear hcz20_0
        try clear hcz20_1
        try clear hcz20_2
        try clear hcz28_0
        try clear hcz28_1
        try clear hcz28_2
        try clear hcz30_0
        try clear hcz30_1
        try clear hcz30_2
        try clear hcz35_0
        try clear hcz35_1
        try clear hcz35_2
        try clear hcz38_0
        try clear hcz38_1
        try clear hcz38_2
        try clear hcz45_0
        try clear hcz45_1
        try clear hcz45_2
        try clear hcz52_0
        try clear hcz52_1
        try clear hcz52_2
        try clear hcz55_0
        try clear hcz55_1
        try clear hcz55_2
        try clear hcz8_0
        try clear hcz8_1
        try clear hcz8_2
        try clear hfz18_0
        try clear hfz18_1
        try clear hfz18_2
        try clear hfz20_0
        try clear hfz20_1
        try clear hfz20_2
        try clear hfz28_0
        try clear hfz28_1
        try clear hfz28_2
        try clear hfz30_0
        try clear hfz30_1
        try clear hfz30_2
        try clear hfz35_0
        try clear hfz35_1
        try clear hfz35_2
        try clear hfz38_0
        try clear hfz38_1
        try clear hfz38_2
        try clear hfz45_0
        try clear hfz45_1
        try clear hfz45_2
        try clear hfz52_0
        try clear hfz52_1
        try clear hfz52_2
        try clear hfz55_0
        try clear hfz55_1
        try clear hfz55_2
        try clear hfz8_0
        try clear hfz8_1
        try clear hfz8_2
        obtain ⟨kq, x51_15, rfl, HA, HJ15, HO_9, HO_190002, HO_196002, HO_206002, BK173, BK189, BK195, BK205, HB⟩ := hcut
        cases kq with
        | zero => exact absurd HA.out (by simp [laws_FnExactOrderRows.j0])
        | succ kj15 =>
          have H := HA.out
          clear HA
          simp only [laws_FnExactOrderRows.j0] at H
          by_cases c57 : x51_15 = true
          · subst c57
            have H1 : (some false) = some true := by first | (rw [if_pos rfl] at H; exact H) | rfl
            clear H
            have H := H1
            clear H1
            exact absurd (Option.some.inj H) (by decide)
          · replace c57 := Bool.eq_false_iff.mpr c57
            subst c57
            have H1 : ((laws_toBoard.f kj15 a0_0 a0_1 l0_2).bind fun bt207 => ((laws_eqBoard.f kj15 t190 t191 t192 bt207.1 bt207.2.1 bt207.2.2).bind fun t212 => (if t212 = true then ((laws_toIntS.f kj15 l1).bind fun t213 => ((laws_eqIntS.f kj15 t196 t213).bind fun t216 => (if t216 = true then ((laws_markBoard.f kj15 t190 t191 t192 1).bind fun bt217 => ((laws_markIntS.f kj15 t196 bt217.1).bind fun bt219 => (if bt219.1 < 0 then (laws_FnExactOrderRows.j1 kj15 l1 t188 true a0_0 a0_1 l0_2 t183 t184 t185 t199 t200 t201) else ((laws_eqBoard.f kj15 t199 t200 t201 t183 t184 t185).bind fun t221 => (if t221 = true then (laws_FnExactOrderRows.j1 kj15 l1 t188 (t204 != t188) a0_0 a0_1 l0_2 t183 t184 t185 t199 t200 t201) else (laws_FnExactOrderRows.j1 kj15 l1 t188 true a0_0 a0_1 l0_2 t183 t184 t185 t199 t200 t201)))))) else (some false)))) else (some false)))) = some true := by first | (rw [if_neg (show ¬ (false = true) by decide)] at H; exact H) | rfl
            clear H
            have H := H1
            clear H1
            replace H := Option.bind_eq_some_iff.mp H
            obtain ⟨⟨t207, t208, t209⟩, A580, H⟩ := H
            replace H : ((laws_eqBoard.f kj15 t190 t191 t192 t207 t208 t209).bind fun t212 => (if t212 = true then ((laws_toIntS.f kj15 l1).bind fun t213 => ((laws_eqIntS.f kj15 t196 t213).bind fun t216 => (if t216 = true then ((laws_markBoard.f kj15 t190 t191 t192 1).bind fun bt217 => ((laws_markIntS.f kj15 t196 bt217.1).bind fun bt219 => (if bt219.1 < 0 then (laws_FnExactOrderRows.j1 kj15 l1 t188 true a0_0 a0_1 l0_2 t183 t184 t185 t199 t200 t201) else ((laws_eqBoard.f kj15 t199 t200 t201 t183 t184 t185).bind fun t221 => (if t221 = true then (laws_FnExactOrderRows.j1 kj15 l1 t188 (t204 != t188) a0_0 a0_1 l0_2 t183 t184 t185 t199 t200 t201) else (laws_FnExactOrderRows.j1 kj15 l1 t188 true a0_0 a0_1 l0_2 t183 t184 t185 t199 t200 t201)))))) else (some false)))) else (some false))) = some true := H
            have A58 := Aside0.mk A580
            clear A580
            replace H := Option.bind_eq_some_iff.mp H
            obtain ⟨t212, A590, H⟩ := H
            replace H : (if t212 = true then ((laws_toIntS.f kj15 l1).bind fun t213 => ((laws_eqIntS.f kj15 t196 t213).bind fun t216 => (if t216 = true then ((laws_markBoard.f kj15 t190 t191 t192 1).bind fun bt217 => ((laws_markIntS.f kj15 t196 bt217.1).bind fun bt219 => (if bt219.1 < 0 then (laws_FnExactOrderRows.j1 kj15 l1 t188 true a0_0 a0_1 l0_2 t183 t184 t185 t199 t200 t201) else ((laws_eqBoard.f kj15 t199 t200 t201 t183 t184 t185).bind fun t221 => (if t221 = true then (laws_FnExactOrderRows.j1 kj15 l1 t188 (t204 != t188) a0_0 a0_1 l0_2 t183 t184 t185 t199 t200 t201) else (laws_FnExactOrderRows.j1 kj15 l1 t188 true a0_0 a0_1 l0_2 t183 t184 t185 t199 t200 t201)))))) else (some false)))) else (some false)) = some true := H
            have A59 := Aside0.mk A590
            clear A590
            by_cases c60 : t212 = true
            · subst c60
              have H1 : ((laws_toIntS.f kj15 l1).bind fun t213 => ((laws_eqIntS.f kj15 t196 t213).bind fun t216 => (if t216 = true then ((laws_markBoard.f kj15 t190 t191 t192 1).bind fun bt217 => ((laws_markIntS.f kj15 t196 bt217.1).bind fun bt219 => (if bt219.1 < 0 then (laws_FnExactOrderRows.j1 kj15 l1 t188 true a0_0 a0_1 l0_2 t183 t184 t185 t199 t200 t201) else ((laws_eqBoard.f kj15 t199 t200 t201 t183 t184 t185).bind fun t221 => (if t221 = true then (laws_FnExactOrderRows.j1 kj15 l1 t188 (t204 != t188) a0_0 a0_1 l0_2 t183 t184 t185 t199 t200 t201) else (laws_FnExactOrderRows.j1 kj15 l1 t188 true a0_0 a0_1 l0_2 t183 t184 t185 t199 t200 t201)))))) else (some false)))) = some true := by first | (rw [if_pos rfl] at H; exact H) | rfl
              clear H
              have H := H1
              clear H1
              replace H := Option.bind_eq_some_iff.mp H
              obtain ⟨t213, A610, H⟩ := H
              replace H : ((laws_eqIntS.f kj15 t196 t213).bind fun t216 => (if t216 = true then ((laws_markBoard.f kj15 t190 t191 t192 1).bind fun bt217 => ((laws_markIntS.f kj15 t196 bt217.1).bind fun bt219 => (if bt219.1 < 0 then (laws_FnExactOrderRows.j1 kj15 l1 t188 true a0_0 a0_1 l0_2 t183 t184 t185 t199 t200 t201) else ((laws_eqBoard.f kj15 t199 t200 t201 t183 t184 t185).bind fun t221 => (if t221 = true then (laws_FnExactOrderRows.j1 kj15 l1 t188 (t204 != t188) a0_0 a0_1 l0_2 t183 t184 t185 t199 t200 t201) else (laws_FnExactOrderRows.j1 kj15 l1 t188 true a0_0 a0_1 l0_2 t183 t184 t185 t199 t200 t201)))))) else (some false))) = some true := H
              have A61 := Aside0.mk A610
              clear A610
              replace H := Option.bind_eq_some_iff.mp H
              obtain ⟨t216, A620, H⟩ := H
              replace H : (if t216 = true then ((laws_markBoard.f kj15 t190 t191 t192 1).bind fun bt217 => ((laws_markIntS.f kj15 t196 bt217.1).bind fun bt219 => (if bt219.1 < 0 then (laws_FnExactOrderRows.j1 kj15 l1 t188 true a0_0 a0_1 l0_2 t183 t184 t185 t199 t200 t201) else ((laws_eqBoard.f kj15 t199 t200 t201 t183 t184 t185).bind fun t221 => (if t221 = true then (laws_FnExactOrderRows.j1 kj15 l1 t188 (t204 != t188) a0_0 a0_1 l0_2 t183 t184 t185 t199 t200 t201) else (laws_FnExactOrderRows.j1 kj15 l1 t188 true a0_0 a0_1 l0_2 t183 t184 t185 t199 t200 t201)))))) else (some false)) = some true := H
              have A62 := Aside0.mk A620
              clear A620
              by_cases c63 : t216 = true
              · subst c63
                have H1 : ((laws_markBoard.f kj15 t190 t191 t192 1).bind fun bt217 => ((laws_markIntS.f kj15 t196 bt217.1).bind fun bt219 => (if bt219.1 < 0 then (laws_FnExactOrderRows.j1 kj15 l1 t188 true a0_0 a0_1 l0_2 t183 t184 t185 t199 t200 t201) else ((laws_eqBoard.f kj15 t199 t200 t201 t183 t184 t185).bind fun t221 => (if t221 = true then (laws_FnExactOrderRows.j1 kj15 l1 t188 (t204 != t188) a0_0 a0_1 l0_2 t183 t184 t185 t199 t200 t201) else (laws_FnExactOrderRows.j1 kj15 l1 t188 true a0_0 a0_1 l0_2 t183 t184 t185 t199 t200 t201)))))) = some true := by first | (rw [if_pos rfl] at H; exact H) | rfl
                clear H
                have H := H1
                clear H1
                replace H := Option.bind_eq_some_iff.mp H
                obtain ⟨⟨t217, t218⟩, A640, H⟩ := H
                replace H : ((laws_markIntS.f kj15 t196 t217).bind fun bt219 => (if bt219.1 < 0 then (laws_FnExactOrderRows.j1 kj15 l1 t188 true a0_0 a0_1 l0_2 t183 t184 t185 t199 t200 t201) else ((laws_eqBoard.f kj15 t199 t200 t201 t183 t184 t185).bind fun t221 => (if t221 = true then (laws_FnExactOrderRows.j1 kj15 l1 t188 (t204 != t188) a0_0 a0_1 l0_2 t183 t184 t185 t199 t200 t201) else (laws_FnExactOrderRows.j1 kj15 l1 t188 true a0_0 a0_1 l0_2 t183 t184 t185 t199 t200 t201))))) = some true := H
                have A64 := Aside0.mk A640
                clear A640
                replace H := Option.bind_eq_some_iff.mp H
                obtain ⟨⟨t219, t220⟩, A650, H⟩ := H
                replace H : (if t219 < 0 then (laws_FnExactOrderRows.j1 kj15 l1 t188 true a0_0 a0_1 l0_2 t183 t184 t185 t199 t200 t201) else ((laws_eqBoard.f kj15 t199 t200 t201 t183 t184 t185).bind fun t221 => (if t221 = true then (laws_FnExactOrderRows.j1 kj15 l1 t188 (t204 != t188) a0_0 a0_1 l0_2 t183 t184 t185 t199 t200 t201) else (laws_FnExactOrderRows.j1 kj15 l1 t188 true a0_0 a0_1 l0_2 t183 t184 t185 t199 t200 t201)))) = some true := H
                have A65 := Aside0.mk A650
                clear A650
                have HC66 := Aside0.mk H
                clear H
                try go_wp2
                have n0_ := Aside0.mk (Kd.R_drew HO_9.out)
                have n1_ := Aside0.mk (Kd.R_drew HO_190002.out)
                have n2_ := Aside0.mk (Kd.R_drew HO_196002.out)
                have n3_ := Aside0.mk (Kd.R_drew HO_206002.out)
                have n4_ := Aside0.mk (blk_drew BK173.out)
                have n5_ := Aside0.mk (blk_drew BK189.out)
                have n6_ := Aside0.mk (blk_drew BK195.out)
                have n7_ := Aside0.mk (blk_drew BK205.out)
                have n8_ := Aside0.mk (below_drew1 HB.out)
                clear HO_9
                clear HO_190002
                clear HO_196002
                clear HO_206002
                clear BK173
                clear BK189
                clear BK195
                clear BK205
                clear HB
                have HO_9 := n0_
                have HO_190002 := n1_
                have HO_196002 := n2_
                have HO_206002 := n3_
                have BK173 := n4_
                have BK189 := n5_
                have BK195 := n6_
                have BK205 := n7_
                have HB := n8_
                clear n0_ n1_ n2_ n3_ n4_ n5_ n6_ n7_ n8_
                refine start_ (n := 5) (S := fun w' => w'.cell? ⟨gb195, 0, none⟩ = some (.int .i64 t190) ∧ w'.cell? ⟨gb195, 1, none⟩ = some (.int .i64 t191) ∧ w'.cell? ⟨gb195, 2, none⟩ = some (.slice Ao36 t192.length co36) ∧ w'.cell? ⟨gb173, 0, none⟩ = some (.int .i64 a0_0) ∧ w'.cell? ⟨gb173, 1, none⟩ = some (.int .i64 a0_1) ∧ w'.cell? ⟨gb173, 2, none⟩ = some (.slice A0_2 l0_2.length c0_2)) (ds := []) #[false, false, false, false, false] (by kernel_rfl) rfl rfl ⟨(blk_cell BK195.out 0).trans rfl, (blk_cell BK195.out 1).trans rfl, (blk_cell BK195.out 2).trans rfl, (blk_cell BK173.out 0).trans rfl, (blk_cell BK173.out 1).trans rfl, (blk_cell BK173.out 2).trans rfl⟩ (fun hHeld => ?_)
                generalize wc.drew = w67 at HO_9 HO_190002 HO_196002 HO_206002 BK173 BK189 BK195 BK205 HB hHeld ⊢
                refine take_ (i := 0) (N := some 52) (v := ?_) (a' := ?_) #[true, false, false, false, false] rfl rfl (by kernel_rfl) (fun _ _ _ h => h) (Or.inl ⟨by rfl, ?_⟩) hHeld ?_ ?_
                rotate_left
                · rintro w' ⟨s0, s1, s2, s3, s4, s5⟩
                  go_simp
                  with_reducible rfl
                rotate_left
                · simp only [Act.put, List.setIfInBounds_toArray, List.set_cons_zero, List.set_cons_succ, i64_w, i32_w]
                  rfl
                refine take_ (i := 1) (N := some 53) (v := ?_) (a' := ?_) #[true, true, false, false, false] rfl rfl (by kernel_rfl) (fun _ _ _ h => h) (Or.inl ⟨by rfl, ?_⟩) hHeld ?_ ?_
                rotate_left
                · rintro w' ⟨s0, s1, s2, s3, s4, s5⟩
                  go_simp
                  with_reducible rfl
                rotate_left
                · simp only [Act.put, List.setIfInBounds_toArray, List.set_cons_zero, List.set_cons_succ, i64_w, i32_w]
                  rfl
                refine one_ (i := 2) (N := some 54) #[true, true, true, false, false] rfl rfl (by kernel_rfl) (by decide) (fun K hK => ?_)
                refine goes_ Try.func14 (by kernel_rfl) rfl #[.agg #[.int .i64 a0_0, .int .i64 a0_1, .slice A0_2 l0_2.length c0_2]] (by rfl) rfl rfl (by (try simp only [List.map_toArray, List.map_cons, List.map_nil]); first | done | rfl | (simp only [List.length_drop, List.length_take]; rfl)) ?_
                with_reducible refine (laws_toBoard.calls kj15 a0_0 a0_1 _ _ l0_2 t207 t208 t209 _ ?side1 ?side2 A58.out).mono ?_
                (case side1 => repeat (first | exact (Kd.C_below HR0_2.out HB.out) | (with_reducible refine Kd.C_alloc ?_ _) | (with_reducible refine Kd.C_drewN ?_ _) | (with_reducible refine Kd.C_drew ?_)))
                (case side2 => exact HC0_2.out)
                rintro e w68 ⟨v210, rfl, ho0, hb⟩
                refine ⟨_, rfl, ?_⟩
                have n0_ := Aside0.mk (Kd.R_elder' (by (with_reducible repeat (first | apply Kd.R_alloc | apply Kd.R_drewN | apply Kd.R_drew)); exact HO_9.out) (Kd.R_base ho0) hb)
                have n1_ := Aside0.mk (Kd.R_elder' (by (with_reducible repeat (first | apply Kd.R_alloc | apply Kd.R_drewN | apply Kd.R_drew)); exact HO_190002.out) (Kd.R_base ho0) hb)
                have n2_ := Aside0.mk (Kd.R_elder' (by (with_reducible repeat (first | apply Kd.R_alloc | apply Kd.R_drewN | apply Kd.R_drew)); exact HO_196002.out) (Kd.R_base ho0) hb)
                have n3_ := Aside0.mk (Kd.R_elder' (by (with_reducible repeat (first | apply Kd.R_alloc | apply Kd.R_drewN | apply Kd.R_drew)); exact HO_206002.out) (Kd.R_base ho0) hb)
                have n4_ := Aside0.mk (Kd.R_lower (Kd.R_new' (Kd.R_new' (Kd.R_new' (Kd.R_new' ho0 (Kd.R_lt (by (with_reducible repeat (first | apply Kd.R_alloc | apply Kd.R_drewN | apply Kd.R_drew)); exact HO_9.out))) (Kd.R_lt (by (with_reducible repeat (first | apply Kd.R_alloc | apply Kd.R_drewN | apply Kd.R_drew)); exact HO_190002.out))) (Kd.R_lt (by (with_reducible repeat (first | apply Kd.R_alloc | apply Kd.R_drewN | apply Kd.R_drew)); exact HO_196002.out))) (Kd.R_lt (by (with_reducible repeat (first | apply Kd.R_alloc | apply Kd.R_drewN | apply Kd.R_drew)); exact HO_206002.out))) (below_size (by repeat (first | (with_reducible first | exact HB.out | apply below_alloc | apply pw_below_drewN | apply below_drew1 | refine below_set ?_ GE173.out | refine below_set ?_ GE189.out | refine below_set ?_ GE195.out | refine below_set ?_ GE205.out) | exact HB.out))))
                have n5_ := Aside0.mk (blk_below (g := gb173) (o := .cells #[.int .i64 a0_0, .int .i64 a0_1, .slice A0_2 l0_2.length c0_2] 24 (0, 0)) (by (with_reducible repeat (first | refine blk_drewN ?_ _ | refine blk_drew ?_ | refine blk_alloc ?_ _)); exact BK173.out) hb)
                have n6_ := Aside0.mk (blk_below (g := gb189) (o := .cells #[.int .i64 t183, .int .i64 t184, .slice Ao29 t185.length co29] 26 (0, 0)) (by (with_reducible repeat (first | refine blk_drewN ?_ _ | refine blk_drew ?_ | refine blk_alloc ?_ _)); exact BK189.out) hb)
                have n7_ := Aside0.mk (blk_below (g := gb195) (o := .cells #[.int .i64 t190, .int .i64 t191, .slice Ao36 t192.length co36] 26 (0, 0)) (by (with_reducible repeat (first | refine blk_drewN ?_ _ | refine blk_drew ?_ | refine blk_alloc ?_ _)); exact BK195.out) hb)
                have n8_ := Aside0.mk (blk_below (g := gb205) (o := .cells #[.int .i64 t199, .int .i64 t200, .slice Ao46 t201.length co46] 26 (0, 0)) (by (with_reducible repeat (first | refine blk_drewN ?_ _ | refine blk_drew ?_ | refine blk_alloc ?_ _)); exact BK205.out) hb)
                have n9_ := Aside0.mk (below_step (by repeat (first | (with_reducible first | exact HB.out | apply below_alloc | apply pw_below_drewN | apply below_drew1 | refine below_set ?_ GE173.out | refine below_set ?_ GE189.out | refine below_set ?_ GE195.out | refine below_set ?_ GE205.out) | exact HB.out)) hb)
                clear HO_9
                clear HO_190002
                clear HO_196002
                clear HO_206002
                clear BK173
                clear BK189
                clear BK195
                clear BK205
                clear HB
                have HO_9 := n0_
                have HO_190002 := n1_
                have HO_196002 := n2_
                have HO_206002 := n3_
                have HO211 := n4_
                have BK173 := n5_
                have BK189 := n6_
                have BK195 := n7_
                have BK205 := n8_
                have HB := n9_
                clear n0_ n1_ n2_ n3_ n4_ n5_ n6_ n7_ n8_ n9_
                (try clear hb)
                (try clear hb2)
                (try clear hk)
                (try clear hi)
                (try clear ho0)
                obtain ⟨Ao69, co69, eo69⟩ := Kd.R_slice HO211.out
                (first | subst eo69 | (injection eo69 with f1_ f2_ f3_; have f4_ := f1_.symm; have f5_ := f3_.symm; clear f1_ f2_ f3_; subst f4_; subst f5_))
                refine hK.out _ _ ⟨(blk_cell BK195.out 0).trans rfl, (blk_cell BK195.out 1).trans rfl, (blk_cell BK195.out 2).trans rfl, (blk_cell BK173.out 0).trans rfl, (blk_cell BK173.out 1).trans rfl, (blk_cell BK173.out 2).trans rfl⟩ (fun hHeld => ?_)
                clear hK K
                refine norm_ (a' := ?_) ?_ ?_
                rotate_left
                · show Act.put _ (some 54) _ = _
                  simp only [Act.put, List.setIfInBounds_toArray, List.set_cons_zero, List.set_cons_succ, i64_w, i32_w]
                  rfl
                refine one_ (i := 3) (N := some 55) #[true, true, true, true, false] rfl rfl (by kernel_rfl) (by decide) (fun K hK => ?_)
                refine goes_ Try.func16 (by kernel_rfl) rfl #[.agg #[.int .i64 t190, .int .i64 t191, .slice Ao36 t192.length co36], .agg #[.int .i64 t207, .int .i64 t208, .slice Ao69 t209.length co69]] (by rfl) rfl rfl (by (try simp only [List.map_toArray, List.map_cons, List.map_nil]); first | done | rfl | (simp only [List.length_drop, List.length_take]; rfl)) ?_
                with_reducible refine (laws_eqBoard.calls kj15 t190 t191 _ _ t192 t207 t208 _ _ t209 true _ ?side1 ?side2 ?side3 ?side4 A59.out).mono ?_
                (case side1 => repeat (first | exact (Kd.R_reads' HO_196002.out).2.2 | (with_reducible refine Kd.C_alloc ?_ _) | (with_reducible refine Kd.C_drewN ?_ _) | (with_reducible refine Kd.C_drew ?_)))
                (case side2 => exact (Kd.R_reads' HO_196002.out).2.1)
                (case side3 => repeat (first | exact (Kd.R_reads' HO211.out).2.2 | (with_reducible refine Kd.C_alloc ?_ _) | (with_reducible refine Kd.C_drewN ?_ _) | (with_reducible refine Kd.C_drew ?_)))
                (case side4 => exact (Kd.R_reads' HO211.out).2.1)
                rintro e w70 ⟨rfl, hb⟩
                refine ⟨_, rfl, ?_⟩
                have n0_ := Aside0.mk (Kd.R_below (by (with_reducible repeat (first | apply Kd.R_alloc | apply Kd.R_drewN | apply Kd.R_drew)); exact HO_9.out) hb)
                have n1_ := Aside0.mk (Kd.R_below (by (with_reducible repeat (first | apply Kd.R_alloc | apply Kd.R_drewN | apply Kd.R_drew)); exact HO_190002.out) hb)
                have n2_ := Aside0.mk (Kd.R_below (by (with_reducible repeat (first | apply Kd.R_alloc | apply Kd.R_drewN | apply Kd.R_drew)); exact HO_196002.out) hb)
                have n3_ := Aside0.mk (Kd.R_below (by (with_reducible repeat (first | apply Kd.R_alloc | apply Kd.R_drewN | apply Kd.R_drew)); exact HO_206002.out) hb)
                have n4_ := Aside0.mk (Kd.R_below (by (with_reducible repeat (first | apply Kd.R_alloc | apply Kd.R_drewN | apply Kd.R_drew)); exact HO211.out) hb)
                have n5_ := Aside0.mk (blk_below (g := gb173) (o := .cells #[.int .i64 a0_0, .int .i64 a0_1, .slice A0_2 l0_2.length c0_2] 24 (0, 0)) (by (with_reducible repeat (first | refine blk_drewN ?_ _ | refine blk_drew ?_ | refine blk_alloc ?_ _)); exact BK173.out) hb)
                have n6_ := Aside0.mk (blk_below (g := gb189) (o := .cells #[.int .i64 t183, .int .i64 t184, .slice Ao29 t185.length co29] 26 (0, 0)) (by (with_reducible repeat (first | refine blk_drewN ?_ _ | refine blk_drew ?_ | refine blk_alloc ?_ _)); exact BK189.out) hb)
                have n7_ := Aside0.mk (blk_below (g := gb195) (o := .cells #[.int .i64 t190, .int .i64 t191, .slice Ao36 t192.length co36] 26 (0, 0)) (by (with_reducible repeat (first | refine blk_drewN ?_ _ | refine blk_drew ?_ | refine blk_alloc ?_ _)); exact BK195.out) hb)
                have n8_ := Aside0.mk (blk_below (g := gb205) (o := .cells #[.int .i64 t199, .int .i64 t200, .slice Ao46 t201.length co46] 26 (0, 0)) (by (with_reducible repeat (first | refine blk_drewN ?_ _ | refine blk_drew ?_ | refine blk_alloc ?_ _)); exact BK205.out) hb)
                have n9_ := Aside0.mk (below_step (by repeat (first | (with_reducible first | exact HB.out | apply below_alloc | apply pw_below_drewN | apply below_drew1 | refine below_set ?_ GE173.out | refine below_set ?_ GE189.out | refine below_set ?_ GE195.out | refine below_set ?_ GE205.out) | exact HB.out)) hb)
                clear HO_9
                clear HO_190002
                clear HO_196002
                clear HO_206002
                clear HO211
                clear BK173
                clear BK189
                clear BK195
                clear BK205
                clear HB
                have HO_9 := n0_
                have HO_190002 := n1_
                have HO_196002 := n2_
                have HO_206002 := n3_
                have HO211 := n4_
                have BK173 := n5_
                have BK189 := n6_
                have BK195 := n7_
                have BK205 := n8_
                have HB := n9_
                clear n0_ n1_ n2_ n3_ n4_ n5_ n6_ n7_ n8_ n9_
                (try clear hb)
                (try clear hb2)
                (try clear hk)
                (try clear hi)
                refine hK.out _ _ ⟨(blk_cell BK195.out 0).trans rfl, (blk_cell BK195.out 1).trans rfl, (blk_cell BK195.out 2).trans rfl, (blk_cell BK173.out 0).trans rfl, (blk_cell BK173.out 1).trans rfl, (blk_cell BK173.out 2).trans rfl⟩ (fun hHeld => ?_)
                clear hK K
                refine norm_ (a' := ?_) ?_ ?_
                rotate_left
                · show Act.put _ (some 55) _ = _
                  simp only [Act.put, List.setIfInBounds_toArray, List.set_cons_zero, List.set_cons_succ, i64_w, i32_w]
                  rfl
                refine pure_ (i := 4) (N := some 56) (v := ?_) (a' := ?_) #[true, true, true, true, true] rfl rfl (by kernel_rfl) (fun _ _ _ h => h) (Or.inl ⟨by rfl, ?_⟩) ?_ ?_
                rotate_left
                · intro w'
                  go_simp
                  with_reducible rfl
                rotate_left
                · simp only [Act.put, List.setIfInBounds_toArray, List.set_cons_zero, List.set_cons_succ, i64_w, i32_w]
                  rfl
                refine done_ (by kernel_rfl) ?_
                go_upto_region 20 with (first | ((with_reducible refine gate_callee (f := 22) rfl ?_); refine goesL_ (some 59) rfl rfl Try.func22 (by kernel_rfl) rfl #[.slice A1 l1.length c1] rfl (by (try simp only [List.map_toArray, List.map_cons, List.map_nil]); first | done | rfl | (simp only [List.length_drop, List.length_take]; rfl)) ?_; (with_reducible refine (laws_toIntS.calls kj15 _ _ l1 t213 _ ?side1 ?side2 A61.out).mono ?_); (case side1 => repeat (first | exact (Kd.C_below HR1.out HB.out) | (with_reducible refine Kd.C_alloc ?_ _) | (with_reducible refine Kd.C_drewN ?_ _) | (with_reducible refine Kd.C_drew ?_))); (case side2 => exact HC1.out); rintro e w71 ⟨v214, rfl, ho0, hb⟩; refine ⟨_, rfl, ?_⟩; have n0_ := Aside0.mk (Kd.R_elder' (by (with_reducible repeat (first | apply Kd.R_alloc | apply Kd.R_drewN | apply Kd.R_drew)); exact HO_9.out) (Kd.R_base ho0) hb); have n1_ := Aside0.mk (Kd.R_elder' (by (with_reducible repeat (first | apply Kd.R_alloc | apply Kd.R_drewN | apply Kd.R_drew)); exact HO_190002.out) (Kd.R_base ho0) hb); have n2_ := Aside0.mk (Kd.R_elder' (by (with_reducible repeat (first | apply Kd.R_alloc | apply Kd.R_drewN | apply Kd.R_drew)); exact HO_196002.out) (Kd.R_base ho0) hb); have n3_ := Aside0.mk (Kd.R_elder' (by (with_reducible repeat (first | apply Kd.R_alloc | apply Kd.R_drewN | apply Kd.R_drew)); exact HO_206002.out) (Kd.R_base ho0) hb); have n4_ := Aside0.mk (Kd.R_elder' (by (with_reducible repeat (first | apply Kd.R_alloc | apply Kd.R_drewN | apply Kd.R_drew)); exact HO211.out) (Kd.R_base ho0) hb); have n5_ := Aside0.mk (Kd.R_lower (Kd.R_new' (Kd.R_new' (Kd.R_new' (Kd.R_new' (Kd.R_new' ho0 (Kd.R_lt (by (with_reducible repeat (first | apply Kd.R_alloc | apply Kd.R_drewN | apply Kd.R_drew)); exact HO_9.out))) (Kd.R_lt (by (with_reducible repeat (first | apply Kd.R_alloc | apply Kd.R_drewN | apply Kd.R_drew)); exact HO_190002.out))) (Kd.R_lt (by (with_reducible repeat (first | apply Kd.R_alloc | apply Kd.R_drewN | apply Kd.R_drew)); exact HO_196002.out))) (Kd.R_lt (by (with_reducible repeat (first | apply Kd.R_alloc | apply Kd.R_drewN | apply Kd.R_drew)); exact HO_206002.out))) (Kd.R_lt (by (with_reducible repeat (first | apply Kd.R_alloc | apply Kd.R_drewN | apply Kd.R_drew)); exact HO211.out))) (below_size (by repeat (first | (with_reducible first | exact HB.out | apply below_alloc | apply pw_below_drewN | apply below_drew1 | refine below_set ?_ GE173.out | refine below_set ?_ GE189.out | refine below_set ?_ GE195.out | refine below_set ?_ GE205.out) | exact HB.out)))); have n6_ := Aside0.mk (blk_below (g := gb173) (o := .cells #[.int .i64 a0_0, .int .i64 a0_1, .slice A0_2 l0_2.length c0_2] 24 (0, 0)) (by (with_reducible repeat (first | refine blk_drewN ?_ _ | refine blk_drew ?_ | refine blk_alloc ?_ _)); exact BK173.out) hb); have n7_ := Aside0.mk (blk_below (g := gb189) (o := .cells #[.int .i64 t183, .int .i64 t184, .slice Ao29 t185.length co29] 26 (0, 0)) (by (with_reducible repeat (first | refine blk_drewN ?_ _ | refine blk_drew ?_ | refine blk_alloc ?_ _)); exact BK189.out) hb); have n8_ := Aside0.mk (blk_below (g := gb195) (o := .cells #[.int .i64 t190, .int .i64 t191, .slice Ao36 t192.length co36] 26 (0, 0)) (by (with_reducible repeat (first | refine blk_drewN ?_ _ | refine blk_drew ?_ | refine blk_alloc ?_ _)); exact BK195.out) hb); have n9_ := Aside0.mk (blk_below (g := gb205) (o := .cells #[.int .i64 t199, .int .i64 t200, .slice Ao46 t201.length co46] 26 (0, 0)) (by (with_reducible repeat (first | refine blk_drewN ?_ _ | refine blk_drew ?_ | refine blk_alloc ?_ _)); exact BK205.out) hb); have n10_ := Aside0.mk (below_step (by repeat (first | (with_reducible first | exact HB.out | apply below_alloc | apply pw_below_drewN | apply below_drew1 | refine below_set ?_ GE173.out | refine below_set ?_ GE189.out | refine below_set ?_ GE195.out | refine below_set ?_ GE205.out) | exact HB.out)) hb); clear HO_9; clear HO_190002; clear HO_196002; clear HO_206002; clear HO211; clear BK173; clear BK189; clear BK195; clear BK205; clear HB; have HO_9 := n0_; have HO_190002 := n1_; have HO_196002 := n2_; have HO_206002 := n3_; have HO211 := n4_; have HO215 := n5_; have BK173 := n6_; have BK189 := n7_; have BK195 := n8_; have BK205 := n9_; have HB := n10_; clear n0_ n1_ n2_ n3_ n4_ n5_ n6_ n7_ n8_ n9_ n10_; (try clear hb); (try clear hb2); (try clear hk); (try clear hi); (try clear ho0); obtain ⟨Ao72, co72, eo72⟩ := Kd.R_slice HO215.out; subst eo72) | ((with_reducible refine gate_callee (f := 24) rfl ?_); refine goesL_ (some 60) rfl rfl Try.func24 (by kernel_rfl) rfl #[.slice Ao39 t196.length co39, .slice Ao72 t213.length co72] rfl (by (try simp only [List.map_toArray, List.map_cons, List.map_nil]); first | done | rfl | (simp only [List.length_drop, List.length_take]; rfl)) ?_; (with_reducible refine (laws_eqIntS.calls kj15 _ _ t196 _ _ t213 true _ ?side1 ?side2 ?side3 ?side4 A62.out).mono ?_); (case side1 => repeat (first | exact (Kd.R_reads' HO_9.out).2.2 | (with_reducible refine Kd.C_alloc ?_ _) | (with_reducible refine Kd.C_drewN ?_ _) | (with_reducible refine Kd.C_drew ?_))); (case side2 => exact (Kd.R_reads' HO_9.out).2.1); (case side3 => repeat (first | exact (Kd.R_reads' HO215.out).2.2 | (with_reducible refine Kd.C_alloc ?_ _) | (with_reducible refine Kd.C_drewN ?_ _) | (with_reducible refine Kd.C_drew ?_))); (case side4 => exact (Kd.R_reads' HO215.out).2.1); rintro e w' ⟨rfl, ⟨nd, rfl⟩⟩; refine ⟨_, rfl, ?_⟩; have hnb73 := NB195_173.out; have hnc73 := NB173_195.out; have hnb74 := NB195_189.out; have hnc74 := NB189_195.out; have hnb75 := NB195_205.out; have hnc75 := NB205_195.out; have hcz76_0 : w71.cell? ⟨gb195, 0, none⟩ = some (.int .i64 t190) := (blk_cell BK195.out 0).trans rfl; have hcz76_1 : w71.cell? ⟨gb195, 1, none⟩ = some (.int .i64 t191) := (blk_cell BK195.out 1).trans rfl; have hcz76_2 : w71.cell? ⟨gb195, 2, none⟩ = some (.slice Ao36 t192.length co36) := (blk_cell BK195.out 2).trans rfl; have hfz76_0 := blk_frozen BK195.out 0; have hfz76_1 := blk_frozen BK195.out 1; have hfz76_2 := blk_frozen BK195.out 2) | ((with_reducible refine gate_callee (f := 17) rfl ?_); refine goesL_ (some 64) rfl rfl Try.func17 (by kernel_rfl) rfl #[.agg #[.int .i64 t190, .int .i64 t191, .slice Ao36 t192.length co36], .int .i64 1] rfl (by (try simp only [List.map_toArray, List.map_cons, List.map_nil]); first | done | rfl | (simp only [List.length_drop, List.length_take]; rfl)) ?_; (with_reducible refine (laws_markBoard.calls kj15 t190 t191 (fun k_ => some k_ = (.slice Ao36 t192.length co36 : Value).ownBlock) (.slice Ao36 t192.length co36) t192 1 t217 t218 w _ ?side1 ?side2 A64.out).mono ?_); (case side1 => repeat (first | (with_reducible first | exact HB.out | apply below_alloc | apply pw_below_drewN | apply below_drew1 | refine below_set ?_ GE173.out | refine below_set ?_ GE189.out | refine below_set ?_ GE195.out | refine below_set ?_ GE205.out) | exact HB.out)); (case side2 => exact Kd.R_tight rfl HO_196002.out); rintro e w77 ⟨rfl, hy0, hb, hkp⟩; refine ⟨_, rfl, ?_⟩; have n0_ := Aside0.mk (Kd.R_mono (ok' := fun k_ => some k_ ≠ (.slice Ao29 t185.length co29 : Value).ownBlock ∧ some k_ ≠ (.slice Ao36 t192.length co36 : Value).ownBlock ∧ some k_ ≠ (.slice Ao46 t201.length co46 : Value).ownBlock ∧ some k_ ≠ (.slice Ao69 t209.length co69 : Value).ownBlock ∧ some k_ ≠ (.slice Ao72 t213.length co72 : Value).ownBlock) (Kd.R_keptB (HO_9.out) hkp (fun k_ hk_ hs_ => (hk_.1.1.2.1) hs_)) (fun k_ hk_ => ⟨hk_.1.1.1.1, hk_.1.1.1.2.1, hk_.1.1.1.2.2, hk_.1.1.2, hk_.1.2⟩)); have n1_ := Aside0.mk (Kd.R_mono (ok' := fun k_ => some k_ ≠ (.slice Ao39 t196.length co39 : Value).ownBlock ∧ some k_ ≠ (.slice Ao36 t192.length co36 : Value).ownBlock ∧ some k_ ≠ (.slice Ao46 t201.length co46 : Value).ownBlock ∧ some k_ ≠ (.slice Ao69 t209.length co69 : Value).ownBlock ∧ some k_ ≠ (.slice Ao72 t213.length co72 : Value).ownBlock) (Kd.R_keptB (HO_190002.out) hkp (fun k_ hk_ hs_ => (hk_.1.1.2.1) hs_)) (fun k_ hk_ => ⟨hk_.1.1.1.1, hk_.1.1.1.2.1, hk_.1.1.1.2.2, hk_.1.1.2, hk_.1.2⟩)); have n2_ := Aside0.mk (Kd.R_reok rfl hy0 (fun k_ e_ => HO_196002.out.1 k_ e_)); have n3_ := Aside0.mk (Kd.R_mono (ok' := fun k_ => some k_ ≠ (.slice Ao39 t196.length co39 : Value).ownBlock ∧ some k_ ≠ (.slice Ao29 t185.length co29 : Value).ownBlock ∧ some k_ ≠ (.slice Ao36 t192.length co36 : Value).ownBlock ∧ some k_ ≠ (.slice Ao69 t209.length co69 : Value).ownBlock ∧ some k_ ≠ (.slice Ao72 t213.length co72 : Value).ownBlock) (Kd.R_keptB (HO_206002.out) hkp (fun k_ hk_ hs_ => (hk_.1.1.2.2) hs_)) (fun k_ hk_ => ⟨hk_.1.1.1.1, hk_.1.1.1.2.1, hk_.1.1.1.2.2, hk_.1.1.2, hk_.1.2⟩)); have n4_ := Aside0.mk (blk_kept (by first | with_reducible exact BK173.out | exact blk_drewN BK173.out _ | (with_reducible repeat (first | refine blk_drewN ?_ _ | refine blk_drew ?_ | refine blk_alloc ?_ _)); exact BK173.out) hkp (fun hs_ => (fun e_ => (Kd.R_ne HO_196002.out BK173.out (by decide)) e_) hs_)); have n5_ := Aside0.mk (blk_kept (by first | with_reducible exact BK189.out | exact blk_drewN BK189.out _ | (with_reducible repeat (first | refine blk_drewN ?_ _ | refine blk_drew ?_ | refine blk_alloc ?_ _)); exact BK189.out) hkp (fun hs_ => (fun e_ => (Kd.R_ne HO_196002.out BK189.out (by decide)) e_) hs_)); have n6_ := Aside0.mk (blk_kept (by first | with_reducible exact BK195.out | exact blk_drewN BK195.out _ | (with_reducible repeat (first | refine blk_drewN ?_ _ | refine blk_drew ?_ | refine blk_alloc ?_ _)); exact BK195.out) hkp (fun hs_ => (fun e_ => (Kd.R_ne HO_196002.out BK195.out (by decide)) e_) hs_)); have n7_ := Aside0.mk (blk_kept (by first | with_reducible exact BK205.out | exact blk_drewN BK205.out _ | (with_reducible repeat (first | refine blk_drewN ?_ _ | refine blk_drew ?_ | refine blk_alloc ?_ _)); exact BK205.out) hkp (fun hs_ => (fun e_ => (Kd.R_ne HO_196002.out BK205.out (by decide)) e_) hs_)); have n8_ := Aside0.mk (Kd.R_mono (ok' := fun k_ => some k_ ≠ (.slice Ao39 t196.length co39 : Value).ownBlock ∧ some k_ ≠ (.slice Ao29 t185.length co29 : Value).ownBlock ∧ some k_ ≠ (.slice Ao36 t192.length co36 : Value).ownBlock ∧ some k_ ≠ (.slice Ao46 t201.length co46 : Value).ownBlock ∧ some k_ ≠ (.slice Ao72 t213.length co72 : Value).ownBlock) (Kd.R_keptB (HO211.out) hkp (fun k_ hk_ hs_ => (hk_.1.1.2) hs_)) (fun k_ hk_ => ⟨hk_.1.1.1.1.1.2, hk_.1.1.1.1.2, hk_.1.1.1.2, hk_.1.1.2, hk_.1.2⟩)); have n9_ := Aside0.mk (Kd.R_mono (ok' := fun k_ => some k_ ≠ (.slice Ao39 t196.length co39 : Value).ownBlock ∧ some k_ ≠ (.slice Ao29 t185.length co29 : Value).ownBlock ∧ some k_ ≠ (.slice Ao36 t192.length co36 : Value).ownBlock ∧ some k_ ≠ (.slice Ao46 t201.length co46 : Value).ownBlock ∧ some k_ ≠ (.slice Ao69 t209.length co69 : Value).ownBlock) (Kd.R_keptB (HO215.out) hkp (fun k_ hk_ hs_ => (hk_.1.1.2) hs_)) (fun k_ hk_ => ⟨hk_.1.1.1.1.1.2, hk_.1.1.1.1.2, hk_.1.1.1.2, hk_.1.1.2, hk_.1.2⟩)); have n10_ := Aside0.mk (hb); clear HO_9; clear HO_190002; clear HO_196002; clear HO_206002; clear BK173; clear BK189; clear BK195; clear BK205; clear HO211; clear HO215; clear HB; have HO_9 := n0_; have HO_190002 := n1_; have HO_196002 := n2_; have HO_206002 := n3_; have BK173 := n4_; have BK189 := n5_; have BK195 := n6_; have BK205 := n7_; have HO211 := n8_; have HO215 := n9_; have HB := n10_; clear n0_ n1_ n2_ n3_ n4_ n5_ n6_ n7_ n8_ n9_ n10_; (try clear hb); (try clear hkp); (try clear hy0)) | ((with_reducible refine gate_callee (f := 25) rfl ?_); refine goesL_ (some 67) rfl rfl Try.func25 (by kernel_rfl) rfl #[.slice Ao39 t196.length co39, .int .i64 t217] rfl (by (try simp only [List.map_toArray, List.map_cons, List.map_nil]); first | done | rfl | (simp only [List.length_drop, List.length_take]; rfl)) ?_; (with_reducible refine (laws_markIntS.calls kj15 (fun k_ => some k_ = (.slice Ao39 t196.length co39 : Value).ownBlock) (.slice Ao39 t196.length co39) t196 t217 t219 t220 w _ ?side1 ?side2 A65.out).mono ?_); (case side1 => repeat (first | (with_reducible first | exact HB.out | apply below_alloc | apply pw_below_drewN | apply below_drew1 | refine below_set ?_ GE173.out | refine below_set ?_ GE189.out | refine below_set ?_ GE195.out | refine below_set ?_ GE205.out) | exact HB.out)); (case side2 => exact Kd.R_tight rfl HO_9.out); rintro e w78 ⟨rfl, hy0, hb, hkp⟩; refine ⟨_, rfl, ?_⟩; have n0_ := Aside0.mk (Kd.R_reok rfl hy0 (fun k_ e_ => HO_9.out.1 k_ e_)); have n1_ := Aside0.mk (Kd.R_mono (ok' := fun k_ => some k_ ≠ (.slice Ao39 t196.length co39 : Value).ownBlock ∧ some k_ ≠ (.slice Ao36 t192.length co36 : Value).ownBlock ∧ some k_ ≠ (.slice Ao46 t201.length co46 : Value).ownBlock ∧ some k_ ≠ (.slice Ao69 t209.length co69 : Value).ownBlock ∧ some k_ ≠ (.slice Ao72 t213.length co72 : Value).ownBlock) (Kd.R_keptB (HO_190002.out) hkp (fun k_ hk_ hs_ => (hk_.1) hs_)) (fun k_ hk_ => ⟨hk_.1.1, hk_.1.2.1, hk_.1.2.2.1, hk_.1.2.2.2.1, hk_.1.2.2.2.2⟩)); have n2_ := Aside0.mk (Kd.R_mono (ok' := fun k_ => some k_ ≠ (.slice Ao39 t196.length co39 : Value).ownBlock ∧ some k_ ≠ (.slice Ao29 t185.length co29 : Value).ownBlock ∧ some k_ ≠ (.slice Ao46 t201.length co46 : Value).ownBlock ∧ some k_ ≠ (.slice Ao69 t209.length co69 : Value).ownBlock ∧ some k_ ≠ (.slice Ao72 t213.length co72 : Value).ownBlock) (Kd.R_keptB (HO_196002.out) hkp (fun k_ hk_ hs_ => (hk_.1.1.1) hs_)) (fun k_ hk_ => ⟨hk_.1.1.1.1, hk_.1.1.1.2.1, hk_.1.1.1.2.2, hk_.1.1.2, hk_.1.2⟩)); have n3_ := Aside0.mk (Kd.R_mono (ok' := fun k_ => some k_ ≠ (.slice Ao39 t196.length co39 : Value).ownBlock ∧ some k_ ≠ (.slice Ao29 t185.length co29 : Value).ownBlock ∧ some k_ ≠ (.slice Ao36 t192.length co36 : Value).ownBlock ∧ some k_ ≠ (.slice Ao69 t209.length co69 : Value).ownBlock ∧ some k_ ≠ (.slice Ao72 t213.length co72 : Value).ownBlock) (Kd.R_keptB (HO_206002.out) hkp (fun k_ hk_ hs_ => (hk_.1) hs_)) (fun k_ hk_ => ⟨hk_.1.1, hk_.1.2.1, hk_.1.2.2.1, hk_.1.2.2.2.1, hk_.1.2.2.2.2⟩)); have n4_ := Aside0.mk (blk_kept (by first | with_reducible exact BK173.out | exact blk_drewN BK173.out _ | (with_reducible repeat (first | refine blk_drewN ?_ _ | refine blk_drew ?_ | refine blk_alloc ?_ _)); exact BK173.out) hkp (fun hs_ => (fun e_ => (Kd.R_ne HO_9.out BK173.out (by decide)) e_) hs_)); have n5_ := Aside0.mk (blk_kept (by first | with_reducible exact BK189.out | exact blk_drewN BK189.out _ | (with_reducible repeat (first | refine blk_drewN ?_ _ | refine blk_drew ?_ | refine blk_alloc ?_ _)); exact BK189.out) hkp (fun hs_ => (fun e_ => (Kd.R_ne HO_9.out BK189.out (by decide)) e_) hs_)); have n6_ := Aside0.mk (blk_kept (by first | with_reducible exact BK195.out | exact blk_drewN BK195.out _ | (with_reducible repeat (first | refine blk_drewN ?_ _ | refine blk_drew ?_ | refine blk_alloc ?_ _)); exact BK195.out) hkp (fun hs_ => (fun e_ => (Kd.R_ne HO_9.out BK195.out (by decide)) e_) hs_)); have n7_ := Aside0.mk (blk_kept (by first | with_reducible exact BK205.out | exact blk_drewN BK205.out _ | (with_reducible repeat (first | refine blk_drewN ?_ _ | refine blk_drew ?_ | refine blk_alloc ?_ _)); exact BK205.out) hkp (fun hs_ => (fun e_ => (Kd.R_ne HO_9.out BK205.out (by decide)) e_) hs_)); have n8_ := Aside0.mk (Kd.R_mono (ok' := fun k_ => some k_ ≠ (.slice Ao39 t196.length co39 : Value).ownBlock ∧ some k_ ≠ (.slice Ao29 t185.length co29 : Value).ownBlock ∧ some k_ ≠ (.slice Ao36 t192.length co36 : Value).ownBlock ∧ some k_ ≠ (.slice Ao46 t201.length co46 : Value).ownBlock ∧ some k_ ≠ (.slice Ao72 t213.length co72 : Value).ownBlock) (Kd.R_keptB (HO211.out) hkp (fun k_ hk_ hs_ => (hk_.1) hs_)) (fun k_ hk_ => ⟨hk_.1.1, hk_.1.2.1, hk_.1.2.2.1, hk_.1.2.2.2.1, hk_.1.2.2.2.2⟩)); have n9_ := Aside0.mk (Kd.R_mono (ok' := fun k_ => some k_ ≠ (.slice Ao39 t196.length co39 : Value).ownBlock ∧ some k_ ≠ (.slice Ao29 t185.length co29 : Value).ownBlock ∧ some k_ ≠ (.slice Ao36 t192.length co36 : Value).ownBlock ∧ some k_ ≠ (.slice Ao46 t201.length co46 : Value).ownBlock ∧ some k_ ≠ (.slice Ao69 t209.length co69 : Value).ownBlock) (Kd.R_keptB (HO215.out) hkp (fun k_ hk_ hs_ => (hk_.1) hs_)) (fun k_ hk_ => ⟨hk_.1.1, hk_.1.2.1, hk_.1.2.2.1, hk_.1.2.2.2.1, hk_.1.2.2.2.2⟩)); have n10_ := Aside0.mk (hb); clear HO_9; clear HO_190002; clear HO_196002; clear HO_206002; clear BK173; clear BK189; clear BK195; clear BK205; clear HO211; clear HO215; clear HB; have HO_9 := n0_; have HO_190002 := n1_; have HO_196002 := n2_; have HO_206002 := n3_; have BK173 := n4_; have BK189 := n5_; have BK195 := n6_; have BK205 := n7_; have HO211 := n8_; have HO215 := n9_; have HB := n10_; clear n0_ n1_ n2_ n3_ n4_ n5_ n6_ n7_ n8_ n9_ n10_; (try clear hb); (try clear hkp); (try clear hy0)))
                (try simp only [Act.put, List.setIfInBounds_toArray, List.set_cons_zero, List.set_cons_succ])
                go_cut [80] (fun v80 wc => ∃ (kq : Nat) (x80_65 : Bool), v80 = .bool x80_65 ∧ Aside0 (laws_FnExactOrderRows.j1 kq l1 t188 x80_65 a0_0 a0_1 l0_2 t183 t184 t185 t199 t200 t201 = some true) ∧ Aside0 (kq ≤ kj15) ∧ Aside0 (Kd.R (Kd.int .i64) 3 wc w.heap.size (fun k_ => some k_ ≠ ((.slice Ao36 t192.length co36) : Value).ownBlock ∧ some k_ ≠ ((.slice Ao46 t201.length co46) : Value).ownBlock) (.slice Ao29 t185.length co29) t185) ∧ Aside0 (Kd.R (Kd.int .i64) 3 wc w.heap.size (fun k_ => some k_ ≠ ((.slice Ao29 t185.length co29) : Value).ownBlock ∧ some k_ ≠ ((.slice Ao46 t201.length co46) : Value).ownBlock) (.slice Ao36 t192.length co36) t218) ∧ Aside0 (Kd.R (Kd.int .i64) 3 wc w.heap.size (fun k_ => some k_ ≠ ((.slice Ao29 t185.length co29) : Value).ownBlock ∧ some k_ ≠ ((.slice Ao36 t192.length co36) : Value).ownBlock) (.slice Ao46 t201.length co46) t201) ∧ Aside0 (wc.heap[gb173]? = some (.cells #[.int .i64 a0_0, .int .i64 a0_1, (.slice A0_2 l0_2.length c0_2)] 24 (0, 0))) ∧ Aside0 (wc.heap[gb189]? = some (.cells #[.int .i64 t183, .int .i64 t184, (.slice Ao29 t185.length co29)] 26 (0, 0))) ∧ Aside0 (wc.heap[gb195]? = some (.cells #[.int .i64 t190, .int .i64 t191, (.slice Ao36 t192.length co36)] 26 (0, 0))) ∧ Aside0 (wc.heap[gb205]? = some (.cells #[.int .i64 t199, .int .i64 t200, (.slice Ao46 t201.length co46)] 26 (0, 0))) ∧ Aside0 (Below w.heap.size w wc))
                case first =>
                  have H := HC66.out
                  clear HC66
                  by_cases c79 : t219 < 0
                  · rw [if_pos c79] at H
                    have c79b0 : decide (t219 < 0) = true := decide_eq_true c79
                    clear c79
                    (first | rw [c79b0] | (simp only [i64_w, i32_w]; rw [c79b0]) | skip)
                    exact absurd H (laws_FnExactOrderRows.j1_no _ _ _ _ _ _ _ _ _ _ _ _)
                  · rw [if_neg c79] at H
                    have c79b0 : decide (t219 < 0) = false := decide_eq_false c79
                    clear c79
                    (first | rw [c79b0] | (simp only [i64_w, i32_w]; rw [c79b0]) | skip)
                    replace H := Option.bind_eq_some_iff.mp H
                    obtain ⟨t221, A800, H⟩ := H
                    replace H : (if t221 = true then (laws_FnExactOrderRows.j1 kj15 l1 t188 (t204 != t188) a0_0 a0_1 l0_2 t183 t184 t185 t199 t200 t201) else (laws_FnExactOrderRows.j1 kj15 l1 t188 true a0_0 a0_1 l0_2 t183 t184 t185 t199 t200 t201)) = some true := H
                    have A80 := Aside0.mk A800
                    clear A800
                    by_cases c81 : t221 = true
                    · subst c81
                      have H1 : (laws_FnExactOrderRows.j1 kj15 l1 t188 (t204 != t188) a0_0 a0_1 l0_2 t183 t184 t185 t199 t200 t201) = some true := by first | (rw [if_pos rfl] at H; exact H) | rfl
                      clear H
                      have H := H1
                      clear H1
                      have H' := Aside0.mk H
                      clear H
                      have hnb82 := NB205_173.out
                      have hnc82 := NB173_205.out
                      have hnb83 := NB205_189.out
                      have hnc83 := NB189_205.out
                      have hnb84 := NB205_195.out
                      have hnc84 := NB195_205.out
                      have hcz85_0 : w78.cell? ⟨gb205, 0, none⟩ = some (.int .i64 t199) := (blk_cell BK205.out 0).trans rfl
                      have hcz85_1 : w78.cell? ⟨gb205, 1, none⟩ = some (.int .i64 t200) := (blk_cell BK205.out 1).trans rfl
                      have hcz85_2 : w78.cell? ⟨gb205, 2, none⟩ = some (.slice Ao46 t201.length co46) := (blk_cell BK205.out 2).trans rfl
                      have hfz85_0 := blk_frozen BK205.out 0
                      have hfz85_1 := blk_frozen BK205.out 1
                      have hfz85_2 := blk_frozen BK205.out 2
                      have hnb86 := NB189_173.out
                      have hnc86 := NB173_189.out
                      have hnb87 := NB189_195.out
                      have hnc87 := NB195_189.out
                      have hcz88_0 : w78.cell? ⟨gb189, 0, none⟩ = some (.int .i64 t183) := (blk_cell BK189.out 0).trans rfl
                      have hcz88_1 : w78.cell? ⟨gb189, 1, none⟩ = some (.int .i64 t184) := (blk_cell BK189.out 1).trans rfl
                      have hcz88_2 : w78.cell? ⟨gb189, 2, none⟩ = some (.slice Ao29 t185.length co29) := (blk_cell BK189.out 2).trans rfl
                      have hfz88_0 := blk_frozen BK189.out 0
                      have hfz88_1 := blk_frozen BK189.out 1
                      have hfz88_2 := blk_frozen BK189.out 2
                      go_wp2_with (first | (go_at_call 16; (with_reducible refine (laws_eqBoard.calls kj15 t199 t200 _ _ t201 t183 t184 _ _ t185 true _ ?side1 ?side2 ?side3 ?side4 A80.out).mono ?_); (case side1 => repeat (first | exact (Kd.R_reads' HO_206002.out).2.2 | (with_reducible refine Kd.C_alloc ?_ _) | (with_reducible refine Kd.C_drewN ?_ _) | (with_reducible refine Kd.C_drew ?_))); (case side2 => exact (Kd.R_reads' HO_206002.out).2.1); (case side3 => repeat (first | exact (Kd.R_reads' HO_190002.out).2.2 | (with_reducible refine Kd.C_alloc ?_ _) | (with_reducible refine Kd.C_drewN ?_ _) | (with_reducible refine Kd.C_drew ?_))); (case side4 => exact (Kd.R_reads' HO_190002.out).2.1); rintro e w89 ⟨rfl, hb⟩; have n0_ := Aside0.mk (Kd.R_below (by (with_reducible repeat (first | apply Kd.R_alloc | apply Kd.R_drewN | apply Kd.R_drew)); exact HO_9.out) hb); have n1_ := Aside0.mk (Kd.R_below (by (with_reducible repeat (first | apply Kd.R_alloc | apply Kd.R_drewN | apply Kd.R_drew)); exact HO_190002.out) hb); have n2_ := Aside0.mk (Kd.R_below (by (with_reducible repeat (first | apply Kd.R_alloc | apply Kd.R_drewN | apply Kd.R_drew)); exact HO_196002.out) hb); have n3_ := Aside0.mk (Kd.R_below (by (with_reducible repeat (first | apply Kd.R_alloc | apply Kd.R_drewN | apply Kd.R_drew)); exact HO_206002.out) hb); have n4_ := Aside0.mk (Kd.R_below (by (with_reducible repeat (first | apply Kd.R_alloc | apply Kd.R_drewN | apply Kd.R_drew)); exact HO211.out) hb); have n5_ := Aside0.mk (Kd.R_below (by (with_reducible repeat (first | apply Kd.R_alloc | apply Kd.R_drewN | apply Kd.R_drew)); exact HO215.out) hb); have n6_ := Aside0.mk (blk_below (g := gb173) (o := .cells #[.int .i64 a0_0, .int .i64 a0_1, .slice A0_2 l0_2.length c0_2] 24 (0, 0)) (by (with_reducible repeat (first | refine blk_drewN ?_ _ | refine blk_drew ?_ | refine blk_alloc ?_ _)); exact BK173.out) hb); have n7_ := Aside0.mk (blk_below (g := gb189) (o := .cells #[.int .i64 t183, .int .i64 t184, .slice Ao29 t185.length co29] 26 (0, 0)) (by (with_reducible repeat (first | refine blk_drewN ?_ _ | refine blk_drew ?_ | refine blk_alloc ?_ _)); exact BK189.out) hb); have n8_ := Aside0.mk (blk_below (g := gb195) (o := .cells #[.int .i64 t190, .int .i64 t191, .slice Ao36 t192.length co36] 26 (0, 0)) (by (with_reducible repeat (first | refine blk_drewN ?_ _ | refine blk_drew ?_ | refine blk_alloc ?_ _)); exact BK195.out) hb); have n9_ := Aside0.mk (blk_below (g := gb205) (o := .cells #[.int .i64 t199, .int .i64 t200, .slice Ao46 t201.length co46] 26 (0, 0)) (by (with_reducible repeat (first | refine blk_drewN ?_ _ | refine blk_drew ?_ | refine blk_alloc ?_ _)); exact BK205.out) hb); have n10_ := Aside0.mk (below_step (by repeat (first | (with_reducible first | exact HB.out | apply below_alloc | apply pw_below_drewN | apply below_drew1 | refine below_set ?_ GE173.out | refine below_set ?_ GE189.out | refine below_set ?_ GE195.out | refine below_set ?_ GE205.out) | exact HB.out)) hb); clear HO_9; clear HO_190002; clear HO_196002; clear HO_206002; clear HO211; clear HO215; clear BK173; clear BK189; clear BK195; clear BK205; clear HB; have HO_9 := n0_; have HO_190002 := n1_; have HO_196002 := n2_; have HO_206002 := n3_; have HO211 := n4_; have HO215 := n5_; have BK173 := n6_; have BK189 := n7_; have BK195 := n8_; have BK205 := n9_; have HB := n10_; clear n0_ n1_ n2_ n3_ n4_ n5_ n6_ n7_ n8_ n9_ n10_; (try clear hb); (try clear hb2); (try clear hk); (try clear hi)))
                      go_meet
                      case rel => exact ⟨_, ((t204 != t188)), (by first | rfl | (simp; done) | (simp [*]; done)), H', ⟨by have := HJ15.out; first | omega | exact Nat.le_refl _⟩, ⟨by (with_reducible repeat (first | apply Kd.R_alloc | apply Kd.R_drewN | apply Kd.R_drew)); exact Kd.R_mono HO_190002.out (fun _ hk => ⟨hk.2.1, hk.2.2.1⟩)⟩, ⟨by (with_reducible repeat (first | apply Kd.R_alloc | apply Kd.R_drewN | apply Kd.R_drew)); exact Kd.R_mono HO_196002.out (fun _ hk => ⟨hk.2.1, hk.2.2.1⟩)⟩, ⟨by (with_reducible repeat (first | apply Kd.R_alloc | apply Kd.R_drewN | apply Kd.R_drew)); exact Kd.R_mono HO_206002.out (fun _ hk => ⟨hk.2.1, hk.2.2.1⟩)⟩, ⟨by (with_reducible repeat (first | refine blk_drewN ?_ _ | refine blk_drew ?_ | refine blk_alloc ?_ _)); exact BK173.out⟩, ⟨by (with_reducible repeat (first | refine blk_drewN ?_ _ | refine blk_drew ?_ | refine blk_alloc ?_ _)); exact BK189.out⟩, ⟨by (with_reducible repeat (first | refine blk_drewN ?_ _ | refine blk_drew ?_ | refine blk_alloc ?_ _)); exact BK195.out⟩, ⟨by (with_reducible repeat (first | refine blk_drewN ?_ _ | refine blk_drew ?_ | refine blk_alloc ?_ _)); exact BK205.out⟩, ⟨by repeat (first | (with_reducible first | exact HB.out | apply below_alloc | apply pw_below_drewN | apply below_drew1 | refine below_set ?_ GE173.out | refine below_set ?_ GE189.out | refine below_set ?_ GE195.out | refine below_set ?_ GE205.out) | exact HB.out)⟩⟩
                    · replace c81 := Bool.eq_false_iff.mpr c81
                      subst c81
                      have H1 : (laws_FnExactOrderRows.j1 kj15 l1 t188 true a0_0 a0_1 l0_2 t183 t184 t185 t199 t200 t201) = some true := by first | (rw [if_neg (show ¬ (false = true) by decide)] at H; exact H) | rfl
                      clear H
                      have H := H1
                      clear H1
                      exact absurd H (laws_FnExactOrderRows.j1_no _ _ _ _ _ _ _ _ _ _ _ _)
                case rest =>
                  clear HC66
                  try clear c1
                  try clear c2
                  try clear p2
                  try clear c3
                  try clear c3b0
                  try clear c3b1
                  try clear c4
                  try clear c5
                  try clear c6
                  try clear c6b0
                  try clear c7
                  try clear c8
                  try clear c12
                  try clear c14
                  try clear c16
                  try clear c17
                  try clear c21
                  try clear c22
                  try clear c23
                  try clear c24
                  try clear c25
                  try clear c27
                  try clear c33
                  try clear c34
                  try clear c42
                  try clear c43
                  try clear c44
                  try clear c48
                  try clear c49
                  try clear c50
                  try clear c51
                  try clear c53
                  try clear c54
                  try clear c57
                  try clear c60
                  try clear c63
                  try clear c73
                  try clear c74
                  try clear c75
                  try clear c79
                  try clear c79b0
                  try clear c81
                  try clear c82
                  try clear c83
                  try clear c84
                  try clear c86
                  try clear c87
                  try clear hcz18_0
                  try clear hcz18_1
                  try clear hcz18_2
                  try clear hcz20_0
                  try clear hcz20_1
                  try clear hcz20_2
                  try clear hcz28_0
                  try clear hcz28_1
                  try clear hcz28_2
                  try clear hcz30_0
                  try clear hcz30_1
                  try clear hcz30_2
                  try clear hcz35_0
                  try clear hcz35_1
                  try clear hcz35_2
                  try clear hcz38_0
                  try clear hcz38_1
                  try clear hcz38_2
                  try clear hcz45_0
                  try clear hcz45_1
                  try clear hcz45_2
                  try clear hcz52_0
                  try clear hcz52_1
                  try clear hcz52_2
                  try clear hcz55_0
                  try clear hcz55_1
                  try clear hcz55_2
                  try clear hcz76_0
                  try clear hcz76_1
                  try clear hcz76_2
                  try clear hcz85_0
                  try clear hcz85_1
                  try clear hcz85_2
                  try clear hcz88_0
                  try clear hcz88_1
                  try clear hcz88_2
                  try clear hcz8_0
                  try clear hcz8_1
                  try clear hcz8_2
                  try clear hfz18_0
                  try clear hfz18_1
                  try clear hfz18_2
                  try clear hfz20_0
                  try clear hfz20_1
                  try clear hfz20_2
                  try clear hfz28_0
                  try clear hfz28_1
                  try clear hfz28_2
                  try clear hfz30_0
                  try clear hfz30_1
                  try clear hfz30_2
                  try clear hfz35_0
                  try clear hfz35_1
                  try clear hfz35_2
                  try clear hfz38_0
                  try clear hfz38_1
                  try clear hfz38_2
                  try clear hfz45_0
                  try clear hfz45_1
                  try clear hfz45_2
                  try clear hfz52_0
                  try clear hfz52_1
                  try clear hfz52_2
                  try clear hfz55_0
                  try clear hfz55_1
                  try clear hfz55_2
                  try clear hfz76_0
                  try clear hfz76_1
                  try clear hfz76_2
                  try clear hfz85_0
                  try clear hfz85_1
                  try clear hfz85_2
                  try clear hfz88_0
                  try clear hfz88_1
                  try clear hfz88_2
                  try clear hfz8_0
                  try clear hfz8_1
                  try clear hfz8_2
                  try clear p2
                  obtain ⟨kq, x80_65, rfl, HA, HJ65, HO_190002, HO_196002, HO_206002, BK173, BK189, BK195, BK205, HB⟩ := hcut
                  have hl196002_65 := (Kd.R_reads' HO_196002.out).1
                  rw [hl196002_65] at HO_196002
                  (try simp only [hl196002_65])
                  (try simp only [hl196002_65] at BK173)
                  (try simp only [hl196002_65] at BK189)
                  (try simp only [hl196002_65] at BK195)
                  (try simp only [hl196002_65] at BK205)
                  (try simp only [hl196002_65] at HO_190002)
                  (try simp only [hl196002_65] at HO_206002)
                  cases kq with
                  | zero => exact absurd HA.out (by simp [laws_FnExactOrderRows.j1])
                  | succ kj65 =>
                    have H := HA.out
                    clear HA
                    simp only [laws_FnExactOrderRows.j1] at H
                    by_cases c90 : x80_65 = true
                    · subst c90
                      have H1 : (some false) = some true := by first | (rw [if_pos rfl] at H; exact H) | rfl
                      clear H
                      have H := H1
                      clear H1
                      exact absurd (Option.some.inj H) (by decide)
                    · replace c90 := Bool.eq_false_iff.mpr c90
                      subst c90
                      have H1 : ((laws_markBoard.f kj65 t199 t200 t201 1).bind fun bt222 => ((laws_heldBoard.f kj65 t199 t200 bt222.2 1).bind fun t224 => (if t224 < 0 then (some false) else (if t224 = bt222.1 then ((laws_toBoard.f kj65 a0_0 a0_1 l0_2).bind fun bt225 => ((laws_toIntS.f kj65 l1).bind fun t230 => ((impl_OrderRows.f kj65 bt225.1 bt225.2.1 bt225.2.2 t230).bind fun bt233 => ((laws_eqBoard.f kj65 bt233.1 bt233.2.1 bt233.2.2.1 t183 t184 t185).bind fun t240 => (if t240 = true then (laws_FnExactOrderRows.j2 kj65 bt222.1 (bt233.2.2.2 != t188) t199 t200 bt222.2) else (laws_FnExactOrderRows.j2 kj65 bt222.1 true t199 t200 bt222.2)))))) else (some false))))) = some true := by first | (rw [if_neg (show ¬ (false = true) by decide)] at H; exact H) | rfl
                      clear H
                      have H := H1
                      clear H1
                      replace H := Option.bind_eq_some_iff.mp H
                      obtain ⟨⟨t222, t223⟩, A910, H⟩ := H
                      replace H : ((laws_heldBoard.f kj65 t199 t200 t223 1).bind fun t224 => (if t224 < 0 then (some false) else (if t224 = t222 then ((laws_toBoard.f kj65 a0_0 a0_1 l0_2).bind fun bt225 => ((laws_toIntS.f kj65 l1).bind fun t230 => ((impl_OrderRows.f kj65 bt225.1 bt225.2.1 bt225.2.2 t230).bind fun bt233 => ((laws_eqBoard.f kj65 bt233.1 bt233.2.1 bt233.2.2.1 t183 t184 t185).bind fun t240 => (if t240 = true then (laws_FnExactOrderRows.j2 kj65 t222 (bt233.2.2.2 != t188) t199 t200 t223) else (laws_FnExactOrderRows.j2 kj65 t222 true t199 t200 t223)))))) else (some false)))) = some true := H
                      have A91 := Aside0.mk A910
                      clear A910
                      replace H := Option.bind_eq_some_iff.mp H
                      obtain ⟨t224, A920, H⟩ := H
                      replace H : (if t224 < 0 then (some false) else (if t224 = t222 then ((laws_toBoard.f kj65 a0_0 a0_1 l0_2).bind fun bt225 => ((laws_toIntS.f kj65 l1).bind fun t230 => ((impl_OrderRows.f kj65 bt225.1 bt225.2.1 bt225.2.2 t230).bind fun bt233 => ((laws_eqBoard.f kj65 bt233.1 bt233.2.1 bt233.2.2.1 t183 t184 t185).bind fun t240 => (if t240 = true then (laws_FnExactOrderRows.j2 kj65 t222 (bt233.2.2.2 != t188) t199 t200 t223) else (laws_FnExactOrderRows.j2 kj65 t222 true t199 t200 t223)))))) else (some false))) = some true := H
                      have A92 := Aside0.mk A920
                      clear A920
                      by_cases c93 : t224 < 0
                      · rw [if_pos c93] at H
                        have c93b0 : decide (t224 < 0) = true := decide_eq_true c93
                        clear c93
                        exact absurd (Option.some.inj H) (by decide)
                      · rw [if_neg c93] at H
                        have c93b0 : decide (t224 < 0) = false := decide_eq_false c93
                        clear c93
                        by_cases c94 : t224 = t222
                        · rw [if_pos c94] at H
                          have c94b0 : (t224 == t222) = true := beq_iff_eq.mpr c94
                          have c94b1 : (t224 != t222) = false := bne_eq_false_iff_eq.mpr c94
                          clear c94
                          replace H := Option.bind_eq_some_iff.mp H
                          obtain ⟨⟨t225, t226, t227⟩, A950, H⟩ := H
                          replace H : ((laws_toIntS.f kj65 l1).bind fun t230 => ((impl_OrderRows.f kj65 t225 t226 t227 t230).bind fun bt233 => ((laws_eqBoard.f kj65 bt233.1 bt233.2.1 bt233.2.2.1 t183 t184 t185).bind fun t240 => (if t240 = true then (laws_FnExactOrderRows.j2 kj65 t222 (bt233.2.2.2 != t188) t199 t200 t223) else (laws_FnExactOrderRows.j2 kj65 t222 true t199 t200 t223))))) = some true := H
                          have A95 := Aside0.mk A950
                          clear A950
                          replace H := Option.bind_eq_some_iff.mp H
                          obtain ⟨t230, A960, H⟩ := H
                          replace H : ((impl_OrderRows.f kj65 t225 t226 t227 t230).bind fun bt233 => ((laws_eqBoard.f kj65 bt233.1 bt233.2.1 bt233.2.2.1 t183 t184 t185).bind fun t240 => (if t240 = true then (laws_FnExactOrderRows.j2 kj65 t222 (bt233.2.2.2 != t188) t199 t200 t223) else (laws_FnExactOrderRows.j2 kj65 t222 true t199 t200 t223)))) = some true := H
                          have A96 := Aside0.mk A960
                          clear A960
                          replace H := Option.bind_eq_some_iff.mp H
                          obtain ⟨⟨t233, t234, t235, t238⟩, A970, H⟩ := H
                          replace H : ((laws_eqBoard.f kj65 t233 t234 t235 t183 t184 t185).bind fun t240 => (if t240 = true then (laws_FnExactOrderRows.j2 kj65 t222 (t238 != t188) t199 t200 t223) else (laws_FnExactOrderRows.j2 kj65 t222 true t199 t200 t223))) = some true := H
                          have A97 := Aside0.mk A970
                          clear A970
                          have HC98 := Aside0.mk H
                          clear H
                          have hnb99 := NB205_173.out
                          have hnc99 := NB173_205.out
                          have hnb100 := NB205_189.out
                          have hnc100 := NB189_205.out
                          have hnb101 := NB205_195.out
                          have hnc101 := NB195_205.out
                          have hcz102_0 : wc.cell? ⟨gb205, 0, none⟩ = some (.int .i64 t199) := (blk_cell BK205.out 0).trans rfl
                          have hcz102_1 : wc.cell? ⟨gb205, 1, none⟩ = some (.int .i64 t200) := (blk_cell BK205.out 1).trans rfl
                          have hcz102_2 : wc.cell? ⟨gb205, 2, none⟩ = some (.slice Ao46 t201.length co46) := (blk_cell BK205.out 2).trans rfl
                          have hfz102_0 := blk_frozen BK205.out 0
                          have hfz102_1 := blk_frozen BK205.out 1
                          have hfz102_2 := blk_frozen BK205.out 2
                          go_upto_region 31 with (first | ((with_reducible refine gate_callee (f := 17) rfl ?_); refine goesL_ (some 83) rfl rfl Try.func17 (by kernel_rfl) rfl #[.agg #[.int .i64 t199, .int .i64 t200, .slice Ao46 t201.length co46], .int .i64 1] rfl (by (try simp only [List.map_toArray, List.map_cons, List.map_nil]); first | done | rfl | (simp only [List.length_drop, List.length_take]; rfl)) ?_; (with_reducible refine (laws_markBoard.calls kj65 t199 t200 (fun k_ => some k_ = (.slice Ao46 t201.length co46 : Value).ownBlock) (.slice Ao46 t201.length co46) t201 1 t222 t223 w _ ?side1 ?side2 A91.out).mono ?_); (case side1 => repeat (first | (with_reducible first | exact HB.out | apply below_alloc | apply pw_below_drewN | apply below_drew1 | refine below_set ?_ GE173.out | refine below_set ?_ GE189.out | refine below_set ?_ GE195.out | refine below_set ?_ GE205.out) | exact HB.out)); (case side2 => exact Kd.R_tight rfl HO_206002.out); rintro e w103 ⟨rfl, hy0, hb, hkp⟩; refine ⟨_, rfl, ?_⟩; have n0_ := Aside0.mk (Kd.R_mono (ok' := fun k_ => some k_ ≠ (.slice Ao36 t218.length co36 : Value).ownBlock ∧ some k_ ≠ (.slice Ao46 t201.length co46 : Value).ownBlock) (Kd.R_keptB (HO_190002.out) hkp (fun k_ hk_ hs_ => (hk_.2) hs_)) (fun k_ hk_ => ⟨hk_.1.1, hk_.1.2⟩)); have n1_ := Aside0.mk (Kd.R_mono (ok' := fun k_ => some k_ ≠ (.slice Ao29 t185.length co29 : Value).ownBlock ∧ some k_ ≠ (.slice Ao46 t201.length co46 : Value).ownBlock) (Kd.R_keptB (HO_196002.out) hkp (fun k_ hk_ hs_ => (hk_.2) hs_)) (fun k_ hk_ => ⟨hk_.1.1, hk_.1.2⟩)); have n2_ := Aside0.mk (Kd.R_reok rfl hy0 (fun k_ e_ => HO_206002.out.1 k_ e_)); have n3_ := Aside0.mk (blk_kept (by first | with_reducible exact BK173.out | exact blk_drewN BK173.out _ | (with_reducible repeat (first | refine blk_drewN ?_ _ | refine blk_drew ?_ | refine blk_alloc ?_ _)); exact BK173.out) hkp (fun hs_ => (fun e_ => (Kd.R_ne HO_206002.out BK173.out (by decide)) e_) hs_)); have n4_ := Aside0.mk (blk_kept (by first | with_reducible exact BK189.out | exact blk_drewN BK189.out _ | (with_reducible repeat (first | refine blk_drewN ?_ _ | refine blk_drew ?_ | refine blk_alloc ?_ _)); exact BK189.out) hkp (fun hs_ => (fun e_ => (Kd.R_ne HO_206002.out BK189.out (by decide)) e_) hs_)); have n5_ := Aside0.mk (blk_kept (by first | with_reducible exact BK195.out | exact blk_drewN BK195.out _ | (with_reducible repeat (first | refine blk_drewN ?_ _ | refine blk_drew ?_ | refine blk_alloc ?_ _)); exact BK195.out) hkp (fun hs_ => (fun e_ => (Kd.R_ne HO_206002.out BK195.out (by decide)) e_) hs_)); have n6_ := Aside0.mk (blk_kept (by first | with_reducible exact BK205.out | exact blk_drewN BK205.out _ | (with_reducible repeat (first | refine blk_drewN ?_ _ | refine blk_drew ?_ | refine blk_alloc ?_ _)); exact BK205.out) hkp (fun hs_ => (fun e_ => (Kd.R_ne HO_206002.out BK205.out (by decide)) e_) hs_)); have n7_ := Aside0.mk (hb); clear HO_190002; clear HO_196002; clear HO_206002; clear BK173; clear BK189; clear BK195; clear BK205; clear HB; have HO_190002 := n0_; have HO_196002 := n1_; have HO_206002 := n2_; have BK173 := n3_; have BK189 := n4_; have BK195 := n5_; have BK205 := n6_; have HB := n7_; clear n0_ n1_ n2_ n3_ n4_ n5_ n6_ n7_; (try clear hb); (try clear hkp); (try clear hy0); have hcz104_0 : w103.cell? ⟨gb205, 0, none⟩ = some (.int .i64 t199) := (blk_cell BK205.out 0).trans rfl; have hcz104_1 : w103.cell? ⟨gb205, 1, none⟩ = some (.int .i64 t200) := (blk_cell BK205.out 1).trans rfl; have hcz104_2 : w103.cell? ⟨gb205, 2, none⟩ = some (.slice Ao46 t201.length co46) := (blk_cell BK205.out 2).trans rfl; have hfz104_0 := blk_frozen BK205.out 0; have hfz104_1 := blk_frozen BK205.out 1; have hfz104_2 := blk_frozen BK205.out 2) | ((with_reducible refine gate_callee (f := 18) rfl ?_); refine goesL_ (some 86) rfl rfl Try.func18 (by kernel_rfl) rfl #[.agg #[.int .i64 t199, .int .i64 t200, .slice Ao46 t223.length co46], .int .i64 1] rfl (by (try simp only [List.map_toArray, List.map_cons, List.map_nil]); first | done | (rw [show t223.length = t201.length from (Kd.R_reads' HO_206002.out).1.symm] <;> rfl) | rfl | (simp only [List.length_drop, List.length_take]; rfl)) ?_; (with_reducible refine (laws_heldBoard.calls kj65 t199 t200 _ _ t223 1 t224 _ ?side1 ?side2 A92.out).mono ?_); (case side1 => repeat (first | exact (Kd.R_reads' HO_206002.out).2.2 | (with_reducible refine Kd.C_alloc ?_ _) | (with_reducible refine Kd.C_drewN ?_ _) | (with_reducible refine Kd.C_drew ?_))); (case side2 => rw [show t223.length = t201.length from (Kd.R_reads' HO_206002.out).1.symm]; exact (Kd.R_reads' HO_206002.out).2.1); rintro e w105 ⟨rfl, hb⟩; refine ⟨_, rfl, ?_⟩; have n0_ := Aside0.mk (Kd.R_below (by (with_reducible repeat (first | apply Kd.R_alloc | apply Kd.R_drewN | apply Kd.R_drew)); exact HO_190002.out) hb); have n1_ := Aside0.mk (Kd.R_below (by (with_reducible repeat (first | apply Kd.R_alloc | apply Kd.R_drewN | apply Kd.R_drew)); exact HO_196002.out) hb); have n2_ := Aside0.mk (Kd.R_below (by (with_reducible repeat (first | apply Kd.R_alloc | apply Kd.R_drewN | apply Kd.R_drew)); exact HO_206002.out) hb); have n3_ := Aside0.mk (blk_below (g := gb173) (o := .cells #[.int .i64 a0_0, .int .i64 a0_1, .slice A0_2 l0_2.length c0_2] 24 (0, 0)) (by (with_reducible repeat (first | refine blk_drewN ?_ _ | refine blk_drew ?_ | refine blk_alloc ?_ _)); exact BK173.out) hb); have n4_ := Aside0.mk (blk_below (g := gb189) (o := .cells #[.int .i64 t183, .int .i64 t184, .slice Ao29 t185.length co29] 26 (0, 0)) (by (with_reducible repeat (first | refine blk_drewN ?_ _ | refine blk_drew ?_ | refine blk_alloc ?_ _)); exact BK189.out) hb); have n5_ := Aside0.mk (blk_below (g := gb195) (o := .cells #[.int .i64 t190, .int .i64 t191, .slice Ao36 t218.length co36] 26 (0, 0)) (by (with_reducible repeat (first | refine blk_drewN ?_ _ | refine blk_drew ?_ | refine blk_alloc ?_ _)); exact BK195.out) hb); have n6_ := Aside0.mk (blk_below (g := gb205) (o := .cells #[.int .i64 t199, .int .i64 t200, .slice Ao46 t201.length co46] 26 (0, 0)) (by (with_reducible repeat (first | refine blk_drewN ?_ _ | refine blk_drew ?_ | refine blk_alloc ?_ _)); exact BK205.out) hb); have n7_ := Aside0.mk (below_step (by repeat (first | (with_reducible first | exact HB.out | apply below_alloc | apply pw_below_drewN | apply below_drew1 | refine below_set ?_ GE173.out | refine below_set ?_ GE189.out | refine below_set ?_ GE195.out | refine below_set ?_ GE205.out) | exact HB.out)) hb); clear HO_190002; clear HO_196002; clear HO_206002; clear BK173; clear BK189; clear BK195; clear BK205; clear HB; have HO_190002 := n0_; have HO_196002 := n1_; have HO_206002 := n2_; have BK173 := n3_; have BK189 := n4_; have BK195 := n5_; have BK205 := n6_; have HB := n7_; clear n0_ n1_ n2_ n3_ n4_ n5_ n6_ n7_; (try clear hb); (try clear hb2); (try clear hk); (try clear hi); have hnb106 := NB173_189.out; have hnc106 := NB189_173.out; have hnb107 := NB173_195.out; have hnc107 := NB195_173.out; have hcz108_0 : w105.cell? ⟨gb173, 0, none⟩ = some (.int .i64 a0_0) := (blk_cell BK173.out 0).trans rfl; have hcz108_1 : w105.cell? ⟨gb173, 1, none⟩ = some (.int .i64 a0_1) := (blk_cell BK173.out 1).trans rfl; have hcz108_2 : w105.cell? ⟨gb173, 2, none⟩ = some (.slice A0_2 l0_2.length c0_2) := (blk_cell BK173.out 2).trans rfl; have hfz108_0 := blk_frozen BK173.out 0; have hfz108_1 := blk_frozen BK173.out 1; have hfz108_2 := blk_frozen BK173.out 2) | ((with_reducible refine gate_callee (f := 14) rfl ?_); refine goesL_ (some 94) rfl rfl Try.func14 (by kernel_rfl) rfl #[.agg #[.int .i64 a0_0, .int .i64 a0_1, .slice A0_2 l0_2.length c0_2]] rfl (by (try simp only [List.map_toArray, List.map_cons, List.map_nil]); first | done | rfl | (simp only [List.length_drop, List.length_take]; rfl)) ?_; (with_reducible refine (laws_toBoard.calls kj65 a0_0 a0_1 _ _ l0_2 t225 t226 t227 _ ?side1 ?side2 A95.out).mono ?_); (case side1 => repeat (first | exact (Kd.C_below HR0_2.out HB.out) | (with_reducible refine Kd.C_alloc ?_ _) | (with_reducible refine Kd.C_drewN ?_ _) | (with_reducible refine Kd.C_drew ?_))); (case side2 => exact HC0_2.out); rintro e w109 ⟨v228, rfl, ho0, hb⟩; refine ⟨_, rfl, ?_⟩; have n0_ := Aside0.mk (Kd.R_elder' (by (with_reducible repeat (first | apply Kd.R_alloc | apply Kd.R_drewN | apply Kd.R_drew)); exact HO_190002.out) (Kd.R_base ho0) hb); have n1_ := Aside0.mk (Kd.R_elder' (by (with_reducible repeat (first | apply Kd.R_alloc | apply Kd.R_drewN | apply Kd.R_drew)); exact HO_196002.out) (Kd.R_base ho0) hb); have n2_ := Aside0.mk (Kd.R_elder' (by (with_reducible repeat (first | apply Kd.R_alloc | apply Kd.R_drewN | apply Kd.R_drew)); exact HO_206002.out) (Kd.R_base ho0) hb); have n3_ := Aside0.mk (Kd.R_lower (Kd.R_new' (Kd.R_new' (Kd.R_new' ho0 (Kd.R_lt (by (with_reducible repeat (first | apply Kd.R_alloc | apply Kd.R_drewN | apply Kd.R_drew)); exact HO_190002.out))) (Kd.R_lt (by (with_reducible repeat (first | apply Kd.R_alloc | apply Kd.R_drewN | apply Kd.R_drew)); exact HO_196002.out))) (Kd.R_lt (by (with_reducible repeat (first | apply Kd.R_alloc | apply Kd.R_drewN | apply Kd.R_drew)); exact HO_206002.out))) (below_size (by repeat (first | (with_reducible first | exact HB.out | apply below_alloc | apply pw_below_drewN | apply below_drew1 | refine below_set ?_ GE173.out | refine below_set ?_ GE189.out | refine below_set ?_ GE195.out | refine below_set ?_ GE205.out) | exact HB.out)))); have n4_ := Aside0.mk (blk_below (g := gb173) (o := .cells #[.int .i64 a0_0, .int .i64 a0_1, .slice A0_2 l0_2.length c0_2] 24 (0, 0)) (by (with_reducible repeat (first | refine blk_drewN ?_ _ | refine blk_drew ?_ | refine blk_alloc ?_ _)); exact BK173.out) hb); have n5_ := Aside0.mk (blk_below (g := gb189) (o := .cells #[.int .i64 t183, .int .i64 t184, .slice Ao29 t185.length co29] 26 (0, 0)) (by (with_reducible repeat (first | refine blk_drewN ?_ _ | refine blk_drew ?_ | refine blk_alloc ?_ _)); exact BK189.out) hb); have n6_ := Aside0.mk (blk_below (g := gb195) (o := .cells #[.int .i64 t190, .int .i64 t191, .slice Ao36 t218.length co36] 26 (0, 0)) (by (with_reducible repeat (first | refine blk_drewN ?_ _ | refine blk_drew ?_ | refine blk_alloc ?_ _)); exact BK195.out) hb); have n7_ := Aside0.mk (blk_below (g := gb205) (o := .cells #[.int .i64 t199, .int .i64 t200, .slice Ao46 t201.length co46] 26 (0, 0)) (by (with_reducible repeat (first | refine blk_drewN ?_ _ | refine blk_drew ?_ | refine blk_alloc ?_ _)); exact BK205.out) hb); have n8_ := Aside0.mk (below_step (by repeat (first | (with_reducible first | exact HB.out | apply below_alloc | apply pw_below_drewN | apply below_drew1 | refine below_set ?_ GE173.out | refine below_set ?_ GE189.out | refine below_set ?_ GE195.out | refine below_set ?_ GE205.out) | exact HB.out)) hb); clear HO_190002; clear HO_196002; clear HO_206002; clear BK173; clear BK189; clear BK195; clear BK205; clear HB; have HO_190002 := n0_; have HO_196002 := n1_; have HO_206002 := n2_; have HO229 := n3_; have BK173 := n4_; have BK189 := n5_; have BK195 := n6_; have BK205 := n7_; have HB := n8_; clear n0_ n1_ n2_ n3_ n4_ n5_ n6_ n7_ n8_; (try clear hb); (try clear hb2); (try clear hk); (try clear hi); (try clear ho0)) | ((with_reducible refine gate_callee (f := 22) rfl ?_); refine goesL_ (some 96) rfl rfl Try.func22 (by kernel_rfl) rfl #[.slice A1 l1.length c1] rfl (by (try simp only [List.map_toArray, List.map_cons, List.map_nil]); first | done | rfl | (simp only [List.length_drop, List.length_take]; rfl)) ?_; (with_reducible refine (laws_toIntS.calls kj65 _ _ l1 t230 _ ?side1 ?side2 A96.out).mono ?_); (case side1 => repeat (first | exact (Kd.C_below HR1.out HB.out) | (with_reducible refine Kd.C_alloc ?_ _) | (with_reducible refine Kd.C_drewN ?_ _) | (with_reducible refine Kd.C_drew ?_))); (case side2 => exact HC1.out); rintro e w110 ⟨v231, rfl, ho0, hb⟩; refine ⟨_, rfl, ?_⟩; have n0_ := Aside0.mk (Kd.R_elder' (by (with_reducible repeat (first | apply Kd.R_alloc | apply Kd.R_drewN | apply Kd.R_drew)); exact HO_190002.out) (Kd.R_base ho0) hb); have n1_ := Aside0.mk (Kd.R_elder' (by (with_reducible repeat (first | apply Kd.R_alloc | apply Kd.R_drewN | apply Kd.R_drew)); exact HO_196002.out) (Kd.R_base ho0) hb); have n2_ := Aside0.mk (Kd.R_elder' (by (with_reducible repeat (first | apply Kd.R_alloc | apply Kd.R_drewN | apply Kd.R_drew)); exact HO_206002.out) (Kd.R_base ho0) hb); have n3_ := Aside0.mk (Kd.R_elder' (by (with_reducible repeat (first | apply Kd.R_alloc | apply Kd.R_drewN | apply Kd.R_drew)); exact HO229.out) (Kd.R_base ho0) hb); have n4_ := Aside0.mk (Kd.R_lower (Kd.R_new' (Kd.R_new' (Kd.R_new' (Kd.R_new' ho0 (Kd.R_lt (by (with_reducible repeat (first | apply Kd.R_alloc | apply Kd.R_drewN | apply Kd.R_drew)); exact HO_190002.out))) (Kd.R_lt (by (with_reducible repeat (first | apply Kd.R_alloc | apply Kd.R_drewN | apply Kd.R_drew)); exact HO_196002.out))) (Kd.R_lt (by (with_reducible repeat (first | apply Kd.R_alloc | apply Kd.R_drewN | apply Kd.R_drew)); exact HO_206002.out))) (Kd.R_lt (by (with_reducible repeat (first | apply Kd.R_alloc | apply Kd.R_drewN | apply Kd.R_drew)); exact HO229.out))) (below_size (by repeat (first | (with_reducible first | exact HB.out | apply below_alloc | apply pw_below_drewN | apply below_drew1 | refine below_set ?_ GE173.out | refine below_set ?_ GE189.out | refine below_set ?_ GE195.out | refine below_set ?_ GE205.out) | exact HB.out)))); have n5_ := Aside0.mk (blk_below (g := gb173) (o := .cells #[.int .i64 a0_0, .int .i64 a0_1, .slice A0_2 l0_2.length c0_2] 24 (0, 0)) (by (with_reducible repeat (first | refine blk_drewN ?_ _ | refine blk_drew ?_ | refine blk_alloc ?_ _)); exact BK173.out) hb); have n6_ := Aside0.mk (blk_below (g := gb189) (o := .cells #[.int .i64 t183, .int .i64 t184, .slice Ao29 t185.length co29] 26 (0, 0)) (by (with_reducible repeat (first | refine blk_drewN ?_ _ | refine blk_drew ?_ | refine blk_alloc ?_ _)); exact BK189.out) hb); have n7_ := Aside0.mk (blk_below (g := gb195) (o := .cells #[.int .i64 t190, .int .i64 t191, .slice Ao36 t218.length co36] 26 (0, 0)) (by (with_reducible repeat (first | refine blk_drewN ?_ _ | refine blk_drew ?_ | refine blk_alloc ?_ _)); exact BK195.out) hb); have n8_ := Aside0.mk (blk_below (g := gb205) (o := .cells #[.int .i64 t199, .int .i64 t200, .slice Ao46 t201.length co46] 26 (0, 0)) (by (with_reducible repeat (first | refine blk_drewN ?_ _ | refine blk_drew ?_ | refine blk_alloc ?_ _)); exact BK205.out) hb); have n9_ := Aside0.mk (below_step (by repeat (first | (with_reducible first | exact HB.out | apply below_alloc | apply pw_below_drewN | apply below_drew1 | refine below_set ?_ GE173.out | refine below_set ?_ GE189.out | refine below_set ?_ GE195.out | refine below_set ?_ GE205.out) | exact HB.out)) hb); clear HO_190002; clear HO_196002; clear HO_206002; clear HO229; clear BK173; clear BK189; clear BK195; clear BK205; clear HB; have HO_190002 := n0_; have HO_196002 := n1_; have HO_206002 := n2_; have HO229 := n3_; have HO232 := n4_; have BK173 := n5_; have BK189 := n6_; have BK195 := n7_; have BK205 := n8_; have HB := n9_; clear n0_ n1_ n2_ n3_ n4_ n5_ n6_ n7_ n8_ n9_; (try clear hb); (try clear hb2); (try clear hk); (try clear hi); (try clear ho0); obtain ⟨Ao111, co111, eo111⟩ := Kd.R_slice HO229.out; subst eo111; obtain ⟨Ao112, co112, eo112⟩ := Kd.R_slice HO232.out; subst eo112) | ((with_reducible refine gate_callee (f := 23) rfl ?_); refine goesL_ (some 97) rfl rfl Try.func23 (by kernel_rfl) rfl #[.agg #[.int .i64 t225, .int .i64 t226, .slice Ao111 t227.length co111], .slice Ao112 t230.length co112] rfl (by (try simp only [List.map_toArray, List.map_cons, List.map_nil]); first | done | rfl | (simp only [List.length_drop, List.length_take]; rfl)) ?_; (with_reducible refine (impl_OrderRows.calls kj65 t225 t226 _ _ t227 _ _ t230 t233 t234 t235 t238 _ ?side1 ?side2 ?side3 ?side4 A97.out).mono ?_); (case side1 => repeat (first | exact (Kd.R_reads' HO229.out).2.2 | (with_reducible refine Kd.C_alloc ?_ _) | (with_reducible refine Kd.C_drewN ?_ _) | (with_reducible refine Kd.C_drew ?_))); (case side2 => exact (Kd.R_reads' HO229.out).2.1); (case side3 => repeat (first | exact (Kd.R_reads' HO232.out).2.2 | (with_reducible refine Kd.C_alloc ?_ _) | (with_reducible refine Kd.C_drewN ?_ _) | (with_reducible refine Kd.C_drew ?_))); (case side4 => exact (Kd.R_reads' HO232.out).2.1); rintro e w113 ⟨v236, rfl, ho0, hb⟩; refine ⟨_, rfl, ?_⟩; have n0_ := Aside0.mk (Kd.R_elder' (by (with_reducible repeat (first | apply Kd.R_alloc | apply Kd.R_drewN | apply Kd.R_drew)); exact HO_190002.out) (Kd.R_base ho0) hb); have n1_ := Aside0.mk (Kd.R_elder' (by (with_reducible repeat (first | apply Kd.R_alloc | apply Kd.R_drewN | apply Kd.R_drew)); exact HO_196002.out) (Kd.R_base ho0) hb); have n2_ := Aside0.mk (Kd.R_elder' (by (with_reducible repeat (first | apply Kd.R_alloc | apply Kd.R_drewN | apply Kd.R_drew)); exact HO_206002.out) (Kd.R_base ho0) hb); have n3_ := Aside0.mk (Kd.R_elder' (by (with_reducible repeat (first | apply Kd.R_alloc | apply Kd.R_drewN | apply Kd.R_drew)); exact HO229.out) (Kd.R_base ho0) hb); have n4_ := Aside0.mk (Kd.R_elder' (by (with_reducible repeat (first | apply Kd.R_alloc | apply Kd.R_drewN | apply Kd.R_drew)); exact HO232.out) (Kd.R_base ho0) hb); have n5_ := Aside0.mk (Kd.R_lower (Kd.R_new' (Kd.R_new' (Kd.R_new' (Kd.R_new' (Kd.R_new' ho0 (Kd.R_lt (by (with_reducible repeat (first | apply Kd.R_alloc | apply Kd.R_drewN | apply Kd.R_drew)); exact HO_190002.out))) (Kd.R_lt (by (with_reducible repeat (first | apply Kd.R_alloc | apply Kd.R_drewN | apply Kd.R_drew)); exact HO_196002.out))) (Kd.R_lt (by (with_reducible repeat (first | apply Kd.R_alloc | apply Kd.R_drewN | apply Kd.R_drew)); exact HO_206002.out))) (Kd.R_lt (by (with_reducible repeat (first | apply Kd.R_alloc | apply Kd.R_drewN | apply Kd.R_drew)); exact HO229.out))) (Kd.R_lt (by (with_reducible repeat (first | apply Kd.R_alloc | apply Kd.R_drewN | apply Kd.R_drew)); exact HO232.out))) (below_size (by repeat (first | (with_reducible first | exact HB.out | apply below_alloc | apply pw_below_drewN | apply below_drew1 | refine below_set ?_ GE173.out | refine below_set ?_ GE189.out | refine below_set ?_ GE195.out | refine below_set ?_ GE205.out) | exact HB.out)))); have n6_ := Aside0.mk (blk_below (g := gb173) (o := .cells #[.int .i64 a0_0, .int .i64 a0_1, .slice A0_2 l0_2.length c0_2] 24 (0, 0)) (by (with_reducible repeat (first | refine blk_drewN ?_ _ | refine blk_drew ?_ | refine blk_alloc ?_ _)); exact BK173.out) hb); have n7_ := Aside0.mk (blk_below (g := gb189) (o := .cells #[.int .i64 t183, .int .i64 t184, .slice Ao29 t185.length co29] 26 (0, 0)) (by (with_reducible repeat (first | refine blk_drewN ?_ _ | refine blk_drew ?_ | refine blk_alloc ?_ _)); exact BK189.out) hb); have n8_ := Aside0.mk (blk_below (g := gb195) (o := .cells #[.int .i64 t190, .int .i64 t191, .slice Ao36 t218.length co36] 26 (0, 0)) (by (with_reducible repeat (first | refine blk_drewN ?_ _ | refine blk_drew ?_ | refine blk_alloc ?_ _)); exact BK195.out) hb); have n9_ := Aside0.mk (blk_below (g := gb205) (o := .cells #[.int .i64 t199, .int .i64 t200, .slice Ao46 t201.length co46] 26 (0, 0)) (by (with_reducible repeat (first | refine blk_drewN ?_ _ | refine blk_drew ?_ | refine blk_alloc ?_ _)); exact BK205.out) hb); have n10_ := Aside0.mk (below_step (by repeat (first | (with_reducible first | exact HB.out | apply below_alloc | apply pw_below_drewN | apply below_drew1 | refine below_set ?_ GE173.out | refine below_set ?_ GE189.out | refine below_set ?_ GE195.out | refine below_set ?_ GE205.out) | exact HB.out)) hb); clear HO_190002; clear HO_196002; clear HO_206002; clear HO229; clear HO232; clear BK173; clear BK189; clear BK195; clear BK205; clear HB; have HO_190002 := n0_; have HO_196002 := n1_; have HO_206002 := n2_; have HO229 := n3_; have HO232 := n4_; have HO237 := n5_; have BK173 := n6_; have BK189 := n7_; have BK195 := n8_; have BK205 := n9_; have HB := n10_; clear n0_ n1_ n2_ n3_ n4_ n5_ n6_ n7_ n8_ n9_ n10_; (try clear hb); (try clear hb2); (try clear hk); (try clear hi); (try clear ho0)) | ((with_reducible refine gate_dst (N := 15) rfl ?_); refine box_event ?hg (N := 15) ?hd (cs := #[.int .i64 0, .int .i64 0, .slice none 0 0]) (t := 26) ?hr ?_; (case hd => rfl); (case hg => rfl); (case hr => first | (go_simp; done) | (go_simp; rfl)); intro gb239 hg w114 hbox hb; have n0_ := Aside0.mk (Kd.R_below (by (with_reducible repeat (first | apply Kd.R_alloc | apply Kd.R_drewN | apply Kd.R_drew)); exact HO_190002.out) hb); have n1_ := Aside0.mk (Kd.R_below (by (with_reducible repeat (first | apply Kd.R_alloc | apply Kd.R_drewN | apply Kd.R_drew)); exact HO_196002.out) hb); have n2_ := Aside0.mk (Kd.R_below (by (with_reducible repeat (first | apply Kd.R_alloc | apply Kd.R_drewN | apply Kd.R_drew)); exact HO_206002.out) hb); have n3_ := Aside0.mk (Kd.R_below (by (with_reducible repeat (first | apply Kd.R_alloc | apply Kd.R_drewN | apply Kd.R_drew)); exact HO229.out) hb); have n4_ := Aside0.mk (Kd.R_below (by (with_reducible repeat (first | apply Kd.R_alloc | apply Kd.R_drewN | apply Kd.R_drew)); exact HO232.out) hb); have n5_ := Aside0.mk (Kd.R_below (by (with_reducible repeat (first | apply Kd.R_alloc | apply Kd.R_drewN | apply Kd.R_drew)); exact HO237.out) hb); have n6_ := Aside0.mk (blk_below (g := gb173) (o := .cells #[.int .i64 a0_0, .int .i64 a0_1, .slice A0_2 l0_2.length c0_2] 24 (0, 0)) (by (with_reducible repeat (first | refine blk_drewN ?_ _ | refine blk_drew ?_ | refine blk_alloc ?_ _)); exact BK173.out) hb); have n7_ := Aside0.mk (blk_below (g := gb189) (o := .cells #[.int .i64 t183, .int .i64 t184, .slice Ao29 t185.length co29] 26 (0, 0)) (by (with_reducible repeat (first | refine blk_drewN ?_ _ | refine blk_drew ?_ | refine blk_alloc ?_ _)); exact BK189.out) hb); have n8_ := Aside0.mk (blk_below (g := gb195) (o := .cells #[.int .i64 t190, .int .i64 t191, .slice Ao36 t218.length co36] 26 (0, 0)) (by (with_reducible repeat (first | refine blk_drewN ?_ _ | refine blk_drew ?_ | refine blk_alloc ?_ _)); exact BK195.out) hb); have n9_ := Aside0.mk (blk_below (g := gb205) (o := .cells #[.int .i64 t199, .int .i64 t200, .slice Ao46 t201.length co46] 26 (0, 0)) (by (with_reducible repeat (first | refine blk_drewN ?_ _ | refine blk_drew ?_ | refine blk_alloc ?_ _)); exact BK205.out) hb); have n10_ := Aside0.mk (below_step (by repeat (first | (with_reducible first | exact HB.out | apply below_alloc | apply pw_below_drewN | apply below_drew1 | refine below_set ?_ GE173.out | refine below_set ?_ GE189.out | refine below_set ?_ GE195.out | refine below_set ?_ GE205.out) | exact HB.out)) hb); have n11_ := Aside0.mk (hbox); have n12_ := Aside0.mk ((by rw [hg]; exact (below_size (by repeat (first | (with_reducible first | exact HB.out | apply below_alloc | apply pw_below_drewN | apply below_drew1 | refine below_set ?_ GE173.out | refine below_set ?_ GE189.out | refine below_set ?_ GE195.out | refine below_set ?_ GE205.out) | exact HB.out))) : w.heap.size ≤ gb239)); have n13_ := Aside0.mk ((by rw [hg]; exact (below_size (by repeat (first | (with_reducible first | exact HB.out | apply below_alloc | apply pw_below_drewN | apply below_drew1 | refine below_set ?_ GE173.out | refine below_set ?_ GE189.out | refine below_set ?_ GE195.out | refine below_set ?_ GE205.out) | exact HB.out))) : w.heap.size ≤ gb239)); have n14_ := Aside0.mk ((by rw [hg]; exact Nat.ne_of_lt (blk_lt (g := gb173) (o := .cells #[.int .i64 a0_0, .int .i64 a0_1, .slice A0_2 l0_2.length c0_2] 24 (0, 0)) (by (with_reducible repeat (first | refine blk_drewN ?_ _ | refine blk_drew ?_ | refine blk_alloc ?_ _)); exact BK173.out)) : gb173 ≠ gb239)); have n15_ := Aside0.mk ((by rw [hg]; exact Nat.ne_of_gt (blk_lt (g := gb173) (o := .cells #[.int .i64 a0_0, .int .i64 a0_1, .slice A0_2 l0_2.length c0_2] 24 (0, 0)) (by (with_reducible repeat (first | refine blk_drewN ?_ _ | refine blk_drew ?_ | refine blk_alloc ?_ _)); exact BK173.out)) : gb239 ≠ gb173)); have n16_ := Aside0.mk ((by rw [hg]; exact Nat.ne_of_lt (blk_lt (g := gb189) (o := .cells #[.int .i64 t183, .int .i64 t184, .slice Ao29 t185.length co29] 26 (0, 0)) (by (with_reducible repeat (first | refine blk_drewN ?_ _ | refine blk_drew ?_ | refine blk_alloc ?_ _)); exact BK189.out)) : gb189 ≠ gb239)); have n17_ := Aside0.mk ((by rw [hg]; exact Nat.ne_of_gt (blk_lt (g := gb189) (o := .cells #[.int .i64 t183, .int .i64 t184, .slice Ao29 t185.length co29] 26 (0, 0)) (by (with_reducible repeat (first | refine blk_drewN ?_ _ | refine blk_drew ?_ | refine blk_alloc ?_ _)); exact BK189.out)) : gb239 ≠ gb189)); have n18_ := Aside0.mk ((by rw [hg]; exact Nat.ne_of_lt (blk_lt (g := gb195) (o := .cells #[.int .i64 t190, .int .i64 t191, .slice Ao36 t218.length co36] 26 (0, 0)) (by (with_reducible repeat (first | refine blk_drewN ?_ _ | refine blk_drew ?_ | refine blk_alloc ?_ _)); exact BK195.out)) : gb195 ≠ gb239)); have n19_ := Aside0.mk ((by rw [hg]; exact Nat.ne_of_gt (blk_lt (g := gb195) (o := .cells #[.int .i64 t190, .int .i64 t191, .slice Ao36 t218.length co36] 26 (0, 0)) (by (with_reducible repeat (first | refine blk_drewN ?_ _ | refine blk_drew ?_ | refine blk_alloc ?_ _)); exact BK195.out)) : gb239 ≠ gb195)); have n20_ := Aside0.mk ((by rw [hg]; exact Nat.ne_of_lt (blk_lt (g := gb205) (o := .cells #[.int .i64 t199, .int .i64 t200, .slice Ao46 t201.length co46] 26 (0, 0)) (by (with_reducible repeat (first | refine blk_drewN ?_ _ | refine blk_drew ?_ | refine blk_alloc ?_ _)); exact BK205.out)) : gb205 ≠ gb239)); have n21_ := Aside0.mk ((by rw [hg]; exact Nat.ne_of_gt (blk_lt (g := gb205) (o := .cells #[.int .i64 t199, .int .i64 t200, .slice Ao46 t201.length co46] 26 (0, 0)) (by (with_reducible repeat (first | refine blk_drewN ?_ _ | refine blk_drew ?_ | refine blk_alloc ?_ _)); exact BK205.out)) : gb239 ≠ gb205)); clear HO_190002; clear HO_196002; clear HO_206002; clear HO229; clear HO232; clear HO237; clear BK173; clear BK189; clear BK195; clear BK205; clear HB; have HO_190002 := n0_; have HO_196002 := n1_; have HO_206002 := n2_; have HO229 := n3_; have HO232 := n4_; have HO237 := n5_; have BK173 := n6_; have BK189 := n7_; have BK195 := n8_; have BK205 := n9_; have HB := n10_; have BK239 := n11_; have GW239 := n12_; have GE239 := n13_; have NB173_239 := n14_; have NB239_173 := n15_; have NB189_239 := n16_; have NB239_189 := n17_; have NB195_239 := n18_; have NB239_195 := n19_; have NB205_239 := n20_; have NB239_205 := n21_; clear n0_ n1_ n2_ n3_ n4_ n5_ n6_ n7_ n8_ n9_ n10_ n11_ n12_ n13_ n14_ n15_ n16_ n17_ n18_ n19_ n20_ n21_; clear hb hbox hg; have hnb115 := NB239_173.out; have hnc115 := NB173_239.out; have hnb116 := NB239_189.out; have hnc116 := NB189_239.out; have hnb117 := NB239_195.out; have hnc117 := NB195_239.out; have hnb118 := NB239_205.out; have hnc118 := NB205_239.out; have hcz119_0 : w114.cell? ⟨gb239, 0, none⟩ = some (.int .i64 0) := (blk_cell BK239.out 0).trans rfl; have hcz119_1 : w114.cell? ⟨gb239, 1, none⟩ = some (.int .i64 0) := (blk_cell BK239.out 1).trans rfl; have hcz119_2 : w114.cell? ⟨gb239, 2, none⟩ = some (.slice none 0 0) := (blk_cell BK239.out 2).trans rfl; have hfz119_0 := blk_frozen BK239.out 0; have hfz119_1 := blk_frozen BK239.out 1; have hfz119_2 := blk_frozen BK239.out 2; obtain ⟨Ao120, co120, eo120⟩ := Kd.R_slice HO237.out; subst eo120))
                          (try simp only [Act.put, List.setIfInBounds_toArray, List.set_cons_zero, List.set_cons_succ])
                          go_cut [108] (fun v108 wc => ∃ (kq : Nat) (x108_97 : Bool), v108 = .bool x108_97 ∧ Aside0 (laws_FnExactOrderRows.j2 kq t222 x108_97 t199 t200 t223 = some true) ∧ Aside0 (kq ≤ kj65) ∧ Aside0 (Kd.R (Kd.int .i64) 3 wc w.heap.size (fun k_ => some k_ ≠ ((.slice Ao36 t218.length co36) : Value).ownBlock ∧ some k_ ≠ ((.slice Ao46 t201.length co46) : Value).ownBlock ∧ some k_ ≠ ((.slice Ao120 t235.length co120) : Value).ownBlock) (.slice Ao29 t185.length co29) t185) ∧ Aside0 (Kd.R (Kd.int .i64) 3 wc w.heap.size (fun k_ => some k_ ≠ ((.slice Ao29 t185.length co29) : Value).ownBlock ∧ some k_ ≠ ((.slice Ao46 t201.length co46) : Value).ownBlock ∧ some k_ ≠ ((.slice Ao120 t235.length co120) : Value).ownBlock) (.slice Ao36 t218.length co36) t218) ∧ Aside0 (Kd.R (Kd.int .i64) 3 wc w.heap.size (fun k_ => some k_ ≠ ((.slice Ao29 t185.length co29) : Value).ownBlock ∧ some k_ ≠ ((.slice Ao36 t218.length co36) : Value).ownBlock ∧ some k_ ≠ ((.slice Ao120 t235.length co120) : Value).ownBlock) (.slice Ao46 t201.length co46) t223) ∧ Aside0 (Kd.R (Kd.int .i64) 3 wc w.heap.size (fun k_ => some k_ ≠ ((.slice Ao29 t185.length co29) : Value).ownBlock ∧ some k_ ≠ ((.slice Ao36 t218.length co36) : Value).ownBlock ∧ some k_ ≠ ((.slice Ao46 t201.length co46) : Value).ownBlock) (.slice Ao120 t235.length co120) t235) ∧ Aside0 (wc.heap[gb173]? = some (.cells #[.int .i64 a0_0, .int .i64 a0_1, (.slice A0_2 l0_2.length c0_2)] 24 (0, 0))) ∧ Aside0 (wc.heap[gb189]? = some (.cells #[.int .i64 t183, .int .i64 t184, (.slice Ao29 t185.length co29)] 26 (0, 0))) ∧ Aside0 (wc.heap[gb195]? = some (.cells #[.int .i64 t190, .int .i64 t191, (.slice Ao36 t218.length co36)] 26 (0, 0))) ∧ Aside0 (wc.heap[gb205]? = some (.cells #[.int .i64 t199, .int .i64 t200, (.slice Ao46 t201.length co46)] 26 (0, 0))) ∧ Aside0 (wc.heap[gb239]? = some (.cells #[.int .i64 t233, .int .i64 t234, (.slice Ao120 t235.length co120)] 26 (0, 0))) ∧ Aside0 (Below w.heap.size w wc))
                          case first =>
                            have H := HC98.out
                            clear HC98
                            replace H := Option.bind_eq_some_iff.mp H
                            obtain ⟨t240, A1210, H⟩ := H
                            replace H : (if t240 = true then (laws_FnExactOrderRows.j2 kj65 t222 (t238 != t188) t199 t200 t223) else (laws_FnExactOrderRows.j2 kj65 t222 true t199 t200 t223)) = some true := H
                            have A121 := Aside0.mk A1210
                            clear A1210
                            by_cases c122 : t240 = true
                            · subst c122
                              have H1 : (laws_FnExactOrderRows.j2 kj65 t222 (t238 != t188) t199 t200 t223) = some true := by first | (rw [if_pos rfl] at H; exact H) | rfl
                              clear H
                              have H := H1
                              clear H1
                              have H' := Aside0.mk H
                              clear H
                              have hnb123 := NB239_173.out
                              have hnc123 := NB173_239.out
                              have hnb124 := NB239_189.out
                              have hnc124 := NB189_239.out
                              have hnb125 := NB239_195.out
                              have hnc125 := NB195_239.out
                              have hnb126 := NB239_205.out
                              have hnc126 := NB205_239.out
                              have hcz127_0 : w114.cell? ⟨gb239, 0, none⟩ = some (.int .i64 0) := (blk_cell BK239.out 0).trans rfl
                              have hcz127_1 : w114.cell? ⟨gb239, 1, none⟩ = some (.int .i64 0) := (blk_cell BK239.out 1).trans rfl
                              have hcz127_2 : w114.cell? ⟨gb239, 2, none⟩ = some (.slice none 0 0) := (blk_cell BK239.out 2).trans rfl
                              have hfz127_0 := blk_frozen BK239.out 0
                              have hfz127_1 := blk_frozen BK239.out 1
                              have hfz127_2 := blk_frozen BK239.out 2
                              have hnb128 := NB189_173.out
                              have hnc128 := NB173_189.out
                              have hnb129 := NB189_195.out
                              have hnc129 := NB195_189.out
                              have hnb130 := NB189_205.out
                              have hnc130 := NB205_189.out
                              have hcz131_0 : w114.cell? ⟨gb189, 0, none⟩ = some (.int .i64 t183) := (blk_cell BK189.out 0).trans rfl
                              have hcz131_1 : w114.cell? ⟨gb189, 1, none⟩ = some (.int .i64 t184) := (blk_cell BK189.out 1).trans rfl
                              have hcz131_2 : w114.cell? ⟨gb189, 2, none⟩ = some (.slice Ao29 t185.length co29) := (blk_cell BK189.out 2).trans rfl
                              have hfz131_0 := blk_frozen BK189.out 0
                              have hfz131_1 := blk_frozen BK189.out 1
                              have hfz131_2 := blk_frozen BK189.out 2
                              go_wp2_with (first | ((with_reducible refine gate_callee (f := 16) rfl ?_); refine goesL_ (some 102) rfl rfl Try.func16 (by kernel_rfl) rfl #[.agg #[.int .i64 t233, .int .i64 t234, .slice Ao120 t235.length co120], .agg #[.int .i64 t183, .int .i64 t184, .slice Ao29 t185.length co29]] rfl (by (try simp only [List.map_toArray, List.map_cons, List.map_nil]); first | done | rfl | (simp only [List.length_drop, List.length_take]; rfl)) ?_; (with_reducible refine (laws_eqBoard.calls kj65 t233 t234 _ _ t235 t183 t184 _ _ t185 true _ ?side1 ?side2 ?side3 ?side4 A121.out).mono ?_); (case side1 => refine (Kd.R_reads' (e := 3) (base := w.heap.size) (ok := fun k_ => (((((True ∧ some k_ ≠ (.slice Ao29 t185.length co29 : Value).ownBlock) ∧ some k_ ≠ (.slice Ao36 t218.length co36 : Value).ownBlock) ∧ some k_ ≠ (.slice Ao46 t201.length co46 : Value).ownBlock) ∧ some k_ ≠ (.slice Ao111 t227.length co111 : Value).ownBlock) ∧ some k_ ≠ (.slice Ao112 t230.length co112 : Value).ownBlock)) (n := t235.length) (c := co120) ?_).2.2; exact (by (with_reducible repeat (first | apply Kd.R_alloc | apply Kd.R_drewN | apply Kd.R_drew)); exact (Kd.R_mono (Kd.R_far (p := ⟨gb239, 2, none⟩) (Kd.R_far (p := ⟨gb239, 1, none⟩) (Kd.R_far (p := ⟨gb239, 0, none⟩) (Kd.R_types HO237.out BK239.out (by decide)) (fun _ hk => hk.2) (.int .i64 t233)) (fun _ hk => hk.2) (.int .i64 t234)) (fun _ hk => hk.2) (.slice Ao120 t235.length co120)) (fun _ h_ => h_.1)))); (case side2 => exact (Kd.R_reads' HO237.out).2.1); (case side3 => refine (Kd.R_reads' (e := 3) (base := w.heap.size) (ok := fun k_ => ((((some k_ ≠ (.slice Ao36 t218.length co36 : Value).ownBlock ∧ some k_ ≠ (.slice Ao46 t201.length co46 : Value).ownBlock) ∧ some k_ ≠ (.slice Ao111 t227.length co111 : Value).ownBlock) ∧ some k_ ≠ (.slice Ao112 t230.length co112 : Value).ownBlock) ∧ some k_ ≠ (.slice Ao120 t235.length co120 : Value).ownBlock)) (n := t185.length) (c := co29) ?_).2.2; exact (by (with_reducible repeat (first | apply Kd.R_alloc | apply Kd.R_drewN | apply Kd.R_drew)); exact (Kd.R_mono (Kd.R_far (p := ⟨gb239, 2, none⟩) (Kd.R_far (p := ⟨gb239, 1, none⟩) (Kd.R_far (p := ⟨gb239, 0, none⟩) (Kd.R_types HO_190002.out BK239.out (by decide)) (fun _ hk => hk.2) (.int .i64 t233)) (fun _ hk => hk.2) (.int .i64 t234)) (fun _ hk => hk.2) (.slice Ao120 t235.length co120)) (fun _ h_ => h_.1)))); (case side4 => exact (Kd.R_reads' HO_190002.out).2.1); rintro e w132 ⟨rfl, hb⟩; refine ⟨_, rfl, ?_⟩; have n0_ := Aside0.mk (Kd.R_below (by (with_reducible repeat (first | apply Kd.R_alloc | apply Kd.R_drewN | apply Kd.R_drew)); exact (Kd.R_mono (Kd.R_far (p := ⟨gb239, 2, none⟩) (Kd.R_far (p := ⟨gb239, 1, none⟩) (Kd.R_far (p := ⟨gb239, 0, none⟩) (Kd.R_types HO_190002.out BK239.out (by decide)) (fun _ hk => hk.2) (.int .i64 t233)) (fun _ hk => hk.2) (.int .i64 t234)) (fun _ hk => hk.2) (.slice Ao120 t235.length co120)) (fun _ h_ => h_.1))) hb); have n1_ := Aside0.mk (Kd.R_below (by (with_reducible repeat (first | apply Kd.R_alloc | apply Kd.R_drewN | apply Kd.R_drew)); exact (Kd.R_mono (Kd.R_far (p := ⟨gb239, 2, none⟩) (Kd.R_far (p := ⟨gb239, 1, none⟩) (Kd.R_far (p := ⟨gb239, 0, none⟩) (Kd.R_types HO_196002.out BK239.out (by decide)) (fun _ hk => hk.2) (.int .i64 t233)) (fun _ hk => hk.2) (.int .i64 t234)) (fun _ hk => hk.2) (.slice Ao120 t235.length co120)) (fun _ h_ => h_.1))) hb); have n2_ := Aside0.mk (Kd.R_below (by (with_reducible repeat (first | apply Kd.R_alloc | apply Kd.R_drewN | apply Kd.R_drew)); exact (Kd.R_mono (Kd.R_far (p := ⟨gb239, 2, none⟩) (Kd.R_far (p := ⟨gb239, 1, none⟩) (Kd.R_far (p := ⟨gb239, 0, none⟩) (Kd.R_types HO_206002.out BK239.out (by decide)) (fun _ hk => hk.2) (.int .i64 t233)) (fun _ hk => hk.2) (.int .i64 t234)) (fun _ hk => hk.2) (.slice Ao120 t235.length co120)) (fun _ h_ => h_.1))) hb); have n3_ := Aside0.mk (Kd.R_below (by (with_reducible repeat (first | apply Kd.R_alloc | apply Kd.R_drewN | apply Kd.R_drew)); exact (Kd.R_mono (Kd.R_far (p := ⟨gb239, 2, none⟩) (Kd.R_far (p := ⟨gb239, 1, none⟩) (Kd.R_far (p := ⟨gb239, 0, none⟩) (Kd.R_types HO229.out BK239.out (by decide)) (fun _ hk => hk.2) (.int .i64 t233)) (fun _ hk => hk.2) (.int .i64 t234)) (fun _ hk => hk.2) (.slice Ao120 t235.length co120)) (fun _ h_ => h_.1))) hb); have n4_ := Aside0.mk (Kd.R_below (by (with_reducible repeat (first | apply Kd.R_alloc | apply Kd.R_drewN | apply Kd.R_drew)); exact (Kd.R_mono (Kd.R_far (p := ⟨gb239, 2, none⟩) (Kd.R_far (p := ⟨gb239, 1, none⟩) (Kd.R_far (p := ⟨gb239, 0, none⟩) (Kd.R_types HO232.out BK239.out (by decide)) (fun _ hk => hk.2) (.int .i64 t233)) (fun _ hk => hk.2) (.int .i64 t234)) (fun _ hk => hk.2) (.slice Ao120 t235.length co120)) (fun _ h_ => h_.1))) hb); have n5_ := Aside0.mk (Kd.R_below (by (with_reducible repeat (first | apply Kd.R_alloc | apply Kd.R_drewN | apply Kd.R_drew)); exact (Kd.R_mono (Kd.R_far (p := ⟨gb239, 2, none⟩) (Kd.R_far (p := ⟨gb239, 1, none⟩) (Kd.R_far (p := ⟨gb239, 0, none⟩) (Kd.R_types HO237.out BK239.out (by decide)) (fun _ hk => hk.2) (.int .i64 t233)) (fun _ hk => hk.2) (.int .i64 t234)) (fun _ hk => hk.2) (.slice Ao120 t235.length co120)) (fun _ h_ => h_.1))) hb); have n6_ := Aside0.mk (blk_below (g := gb173) (o := .cells #[.int .i64 a0_0, .int .i64 a0_1, .slice A0_2 l0_2.length c0_2] 24 (0, 0)) (by (with_reducible repeat (first | refine blk_drewN ?_ _ | refine blk_drew ?_ | refine blk_alloc ?_ _)); refine blk_far ?_ NB173_239.out _; (with_reducible repeat (first | refine blk_drewN ?_ _ | refine blk_drew ?_ | refine blk_alloc ?_ _)); refine blk_far ?_ NB173_239.out _; (with_reducible repeat (first | refine blk_drewN ?_ _ | refine blk_drew ?_ | refine blk_alloc ?_ _)); refine blk_far ?_ NB173_239.out _; (with_reducible repeat (first | refine blk_drewN ?_ _ | refine blk_drew ?_ | refine blk_alloc ?_ _)); exact BK173.out) hb); have n7_ := Aside0.mk (blk_below (g := gb189) (o := .cells #[.int .i64 t183, .int .i64 t184, .slice Ao29 t185.length co29] 26 (0, 0)) (by (with_reducible repeat (first | refine blk_drewN ?_ _ | refine blk_drew ?_ | refine blk_alloc ?_ _)); refine blk_far ?_ NB189_239.out _; (with_reducible repeat (first | refine blk_drewN ?_ _ | refine blk_drew ?_ | refine blk_alloc ?_ _)); refine blk_far ?_ NB189_239.out _; (with_reducible repeat (first | refine blk_drewN ?_ _ | refine blk_drew ?_ | refine blk_alloc ?_ _)); refine blk_far ?_ NB189_239.out _; (with_reducible repeat (first | refine blk_drewN ?_ _ | refine blk_drew ?_ | refine blk_alloc ?_ _)); exact BK189.out) hb); have n8_ := Aside0.mk (blk_below (g := gb195) (o := .cells #[.int .i64 t190, .int .i64 t191, .slice Ao36 t218.length co36] 26 (0, 0)) (by (with_reducible repeat (first | refine blk_drewN ?_ _ | refine blk_drew ?_ | refine blk_alloc ?_ _)); refine blk_far ?_ NB195_239.out _; (with_reducible repeat (first | refine blk_drewN ?_ _ | refine blk_drew ?_ | refine blk_alloc ?_ _)); refine blk_far ?_ NB195_239.out _; (with_reducible repeat (first | refine blk_drewN ?_ _ | refine blk_drew ?_ | refine blk_alloc ?_ _)); refine blk_far ?_ NB195_239.out _; (with_reducible repeat (first | refine blk_drewN ?_ _ | refine blk_drew ?_ | refine blk_alloc ?_ _)); exact BK195.out) hb); have n9_ := Aside0.mk (blk_below (g := gb205) (o := .cells #[.int .i64 t199, .int .i64 t200, .slice Ao46 t201.length co46] 26 (0, 0)) (by (with_reducible repeat (first | refine blk_drewN ?_ _ | refine blk_drew ?_ | refine blk_alloc ?_ _)); refine blk_far ?_ NB205_239.out _; (with_reducible repeat (first | refine blk_drewN ?_ _ | refine blk_drew ?_ | refine blk_alloc ?_ _)); refine blk_far ?_ NB205_239.out _; (with_reducible repeat (first | refine blk_drewN ?_ _ | refine blk_drew ?_ | refine blk_alloc ?_ _)); refine blk_far ?_ NB205_239.out _; (with_reducible repeat (first | refine blk_drewN ?_ _ | refine blk_drew ?_ | refine blk_alloc ?_ _)); exact BK205.out) hb); have n10_ := Aside0.mk (blk_below (g := gb239) (o := .cells #[.int .i64 t233, .int .i64 t234, .slice Ao120 t235.length co120] 26 (0, 0)) (by (with_reducible repeat (first | refine blk_drewN ?_ _ | refine blk_drew ?_ | refine blk_alloc ?_ _)); refine blk_put (cs := #[.int .i64 t233, .int .i64 t234, .slice none 0 0]) ?_ 2 _ rfl; (with_reducible repeat (first | refine blk_drewN ?_ _ | refine blk_drew ?_ | refine blk_alloc ?_ _)); refine blk_put (cs := #[.int .i64 t233, .int .i64 0, .slice none 0 0]) ?_ 1 _ rfl; (with_reducible repeat (first | refine blk_drewN ?_ _ | refine blk_drew ?_ | refine blk_alloc ?_ _)); refine blk_put (cs := #[.int .i64 0, .int .i64 0, .slice none 0 0]) ?_ 0 _ rfl; (with_reducible repeat (first | refine blk_drewN ?_ _ | refine blk_drew ?_ | refine blk_alloc ?_ _)); exact BK239.out) hb); have n11_ := Aside0.mk (below_step (by repeat (first | (with_reducible first | exact HB.out | apply below_alloc | apply pw_below_drewN | apply below_drew1 | refine below_set ?_ GE173.out | refine below_set ?_ GE189.out | refine below_set ?_ GE195.out | refine below_set ?_ GE205.out | refine below_set ?_ GE239.out) | exact HB.out)) hb); clear HO_190002; clear HO_196002; clear HO_206002; clear HO229; clear HO232; clear HO237; clear BK173; clear BK189; clear BK195; clear BK205; clear BK239; clear HB; have HO_190002 := n0_; have HO_196002 := n1_; have HO_206002 := n2_; have HO229 := n3_; have HO232 := n4_; have HO237 := n5_; have BK173 := n6_; have BK189 := n7_; have BK195 := n8_; have BK205 := n9_; have BK239 := n10_; have HB := n11_; clear n0_ n1_ n2_ n3_ n4_ n5_ n6_ n7_ n8_ n9_ n10_ n11_; (try clear hb); (try clear hb2); (try clear hk); (try clear hi)))
                              go_meet
                              case rel => exact ⟨_, ((t238 != t188)), (by first | rfl | (simp; done) | (simp [*]; done)), H', ⟨by have := HJ15.out; have := HJ65.out; first | omega | exact Nat.le_refl _⟩, ⟨by (try simp only [hl196002_65]); (with_reducible repeat (first | apply Kd.R_alloc | apply Kd.R_drewN | apply Kd.R_drew)); exact Kd.R_mono HO_190002.out (fun _ hk => ⟨hk.1.1.1.1, ⟨hk.1.1.1.2, hk.2⟩⟩)⟩, ⟨by (try simp only [hl196002_65]); (with_reducible repeat (first | apply Kd.R_alloc | apply Kd.R_drewN | apply Kd.R_drew)); exact Kd.R_mono HO_196002.out (fun _ hk => ⟨hk.1.1.1.1, ⟨hk.1.1.1.2, hk.2⟩⟩)⟩, ⟨by (try simp only [hl196002_65]); (with_reducible repeat (first | apply Kd.R_alloc | apply Kd.R_drewN | apply Kd.R_drew)); exact Kd.R_mono HO_206002.out (fun _ hk => ⟨hk.1.1.1.1, ⟨hk.1.1.1.2, hk.2⟩⟩)⟩, ⟨by (try simp only [hl196002_65]); (with_reducible repeat (first | apply Kd.R_alloc | apply Kd.R_drewN | apply Kd.R_drew)); exact Kd.R_mono HO237.out (fun _ hk => ⟨hk.1.1.1.1.2, ⟨hk.1.1.1.2, hk.1.1.2⟩⟩)⟩, ⟨by (try simp only [hl196002_65]); (with_reducible repeat (first | refine blk_drewN ?_ _ | refine blk_drew ?_ | refine blk_alloc ?_ _)); exact BK173.out⟩, ⟨by (try simp only [hl196002_65]); (with_reducible repeat (first | refine blk_drewN ?_ _ | refine blk_drew ?_ | refine blk_alloc ?_ _)); exact BK189.out⟩, ⟨by (try simp only [hl196002_65]); (with_reducible repeat (first | refine blk_drewN ?_ _ | refine blk_drew ?_ | refine blk_alloc ?_ _)); exact BK195.out⟩, ⟨by (try simp only [hl196002_65]); (with_reducible repeat (first | refine blk_drewN ?_ _ | refine blk_drew ?_ | refine blk_alloc ?_ _)); exact BK205.out⟩, ⟨by (try simp only [hl196002_65]); (with_reducible repeat (first | refine blk_drewN ?_ _ | refine blk_drew ?_ | refine blk_alloc ?_ _)); exact BK239.out⟩, ⟨by repeat (first | (with_reducible first | exact HB.out | apply below_alloc | apply pw_below_drewN | apply below_drew1 | refine below_set ?_ GE173.out | refine below_set ?_ GE189.out | refine below_set ?_ GE195.out | refine below_set ?_ GE205.out | refine below_set ?_ GE239.out) | exact HB.out)⟩⟩
                            · replace c122 := Bool.eq_false_iff.mpr c122
                              subst c122
                              have H1 : (laws_FnExactOrderRows.j2 kj65 t222 true t199 t200 t223) = some true := by first | (rw [if_neg (show ¬ (false = true) by decide)] at H; exact H) | rfl
                              clear H
                              have H := H1
                              clear H1
                              exact absurd H (laws_FnExactOrderRows.j2_no _ _ _ _ _)
                          case rest =>
                            clear HC98
                            try clear c1
                            try clear c2
                            try clear p2
                            try clear c3
                            try clear c3b0
                            try clear c3b1
                            try clear c4
                            try clear c5
                            try clear c6
                            try clear c6b0
                            try clear c7
                            try clear c8
                            try clear c9
                            try clear c10
                            try clear c11
                            try clear c12
                            try clear c13
                            try clear c14
                            try clear c16
                            try clear c17
                            try clear c18
                            try clear c21
                            try clear c22
                            try clear c23
                            try clear c24
                            try clear c25
                            try clear c27
                            try clear c33
                            try clear c34
                            try clear c42
                            try clear c43
                            try clear c44
                            try clear c48
                            try clear c49
                            try clear c50
                            try clear c51
                            try clear c53
                            try clear c54
                            try clear c57
                            try clear c60
                            try clear c63
                            try clear c73
                            try clear c74
                            try clear c75
                            try clear c79
                            try clear c79b0
                            try clear c81
                            try clear c82
                            try clear c83
                            try clear c84
                            try clear c86
                            try clear c87
                            try clear c90
                            try clear c93
                            try clear c93b0
                            try clear c94
                            try clear c94b0
                            try clear c94b1
                            try clear c99
                            try clear c100
                            try clear c101
                            try clear c106
                            try clear c107
                            try clear c115
                            try clear c116
                            try clear c117
                            try clear c118
                            try clear c122
                            try clear c123
                            try clear c124
                            try clear c125
                            try clear c126
                            try clear c128
                            try clear c129
                            try clear c130
                            try clear hcz102_0
                            try clear hcz102_1
                            try clear hcz102_2
                            try clear hcz104_0
                            try clear hcz104_1
                            try clear hcz104_2
                            try clear hcz108_0
                            try clear hcz108_1
                            try clear hcz108_2
                            try clear hcz119_0
                            try clear hcz119_1
                            try clear hcz119_2
                            try clear hcz127_0
                            try clear hcz127_1
                            try clear hcz127_2
                            try clear hcz131_0
                            try clear hcz131_1
                            try clear hcz131_2
                            try clear hcz18_0
                            try clear hcz18_1
                            try clear hcz18_2
                            try clear hcz20_0
                            try clear hcz20_1
                            try clear hcz20_2
                            try clear hcz28_0
                            try clear hcz28_1
                            try clear hcz28_2
                            try clear hcz30_0
                            try clear hcz30_1
                            try clear hcz30_2
                            try clear hcz35_0
                            try clear hcz35_1
                            try clear hcz35_2
                            try clear hcz38_0
                            try clear hcz38_1
                            try clear hcz38_2
                            try clear hcz45_0
                            try clear hcz45_1
                            try clear hcz45_2
                            try clear hcz52_0
                            try clear hcz52_1
                            try clear hcz52_2
                            try clear hcz55_0
                            try clear hcz55_1
                            try clear hcz55_2
                            try clear hcz76_0
                            try clear hcz76_1
                            try clear hcz76_2
                            try clear hcz85_0
                            try clear hcz85_1
                            try clear hcz85_2
                            try clear hcz88_0
                            try clear hcz88_1
                            try clear hcz88_2
                            try clear hcz8_0
                            try clear hcz8_1
                            try clear hcz8_2
                            try clear hfz102_0
                            try clear hfz102_1
                            try clear hfz102_2
                            try clear hfz104_0
                            try clear hfz104_1
                            try clear hfz104_2
                            try clear hfz108_0
                            try clear hfz108_1
                            try clear hfz108_2
                            try clear hfz119_0
                            try clear hfz119_1
                            try clear hfz119_2
                            try clear hfz127_0
                            try clear hfz127_1
                            try clear hfz127_2
                            try clear hfz131_0
                            try clear hfz131_1
                            try clear hfz131_2
                            try clear hfz18_0
                            try clear hfz18_1
                            try clear hfz18_2
                            try clear hfz20_0
                            try clear hfz20_1
                            try clear hfz20_2
                            try clear hfz28_0
                            try clear hfz28_1
                            try clear hfz28_2
                            try clear hfz30_0
                            try clear hfz30_1
                            try clear hfz30_2
                            try clear hfz35_0
                            try clear hfz35_1
                            try clear hfz35_2
                            try clear hfz38_0
                            try clear hfz38_1
                            try clear hfz38_2
                            try clear hfz45_0
                            try clear hfz45_1
                            try clear hfz45_2
                            try clear hfz52_0
                            try clear hfz52_1
                            try clear hfz52_2
                            try clear hfz55_0
                            try clear hfz55_1
                            try clear hfz55_2
                            try clear hfz76_0
                            try clear hfz76_1
                            try clear hfz76_2
                            try clear hfz85_0
                            try clear hfz85_1
                            try clear hfz85_2
                            try clear hfz88_0
                            try clear hfz88_1
                            try clear hfz88_2
                            try clear hfz8_0
                            try clear hfz8_1
                            try clear hfz8_2
                            try clear p2
                            obtain ⟨kq, x108_97, rfl, HA, HJ97, HO_190002, HO_196002, HO_206002, HO_240002, BK173, BK189, BK195, BK205, BK239, HB⟩ := hcut
                            have hl206002_97 := (Kd.R_reads' HO_206002.out).1
                            rw [hl206002_97] at HO_206002
                            (try simp only [hl206002_97])
                            (try simp only [hl206002_97] at BK173)
                            (try simp only [hl206002_97] at BK189)
                            (try simp only [hl206002_97] at BK195)
                            (try simp only [hl206002_97] at BK205)
                            (try simp only [hl206002_97] at BK239)
                            (try simp only [hl206002_97] at HO_190002)
                            (try simp only [hl206002_97] at HO_196002)
                            (try simp only [hl206002_97] at HO_240002)
                            cases kq with
                            | zero => exact absurd HA.out (by simp [laws_FnExactOrderRows.j2])
                            | succ kj97 =>
                              have H := HA.out
                              clear HA
                              simp only [laws_FnExactOrderRows.j2] at H
                              by_cases c133 : x108_97 = true
                              · subst c133
                                have H1 : (some false) = some true := by first | (rw [if_pos rfl] at H; exact H) | rfl
                                clear H
                                have H := H1
                                clear H1
                                exact absurd (Option.some.inj H) (by decide)
                              · replace c133 := Bool.eq_false_iff.mpr c133
                                subst c133
                                have H1 : ((laws_heldBoard.f kj97 t199 t200 t223 1).bind fun t241 => (if t241 < 0 then (some false) else (if t241 = t222 then (some true) else (some false)))) = some true := by first | (rw [if_neg (show ¬ (false = true) by decide)] at H; exact H) | rfl
                                clear H
                                have H := H1
                                clear H1
                                replace H := Option.bind_eq_some_iff.mp H
                                obtain ⟨t241, A1340, H⟩ := H
                                replace H : (if t241 < 0 then (some false) else (if t241 = t222 then (some true) else (some false))) = some true := H
                                have A134 := Aside0.mk A1340
                                clear A1340
                                by_cases c135 : t241 < 0
                                · rw [if_pos c135] at H
                                  have c135b0 : decide (t241 < 0) = true := decide_eq_true c135
                                  clear c135
                                  exact absurd (Option.some.inj H) (by decide)
                                · rw [if_neg c135] at H
                                  have c135b0 : decide (t241 < 0) = false := decide_eq_false c135
                                  clear c135
                                  by_cases c136 : t241 = t222
                                  · rw [if_pos c136] at H
                                    have c136b0 : (t241 == t222) = true := beq_iff_eq.mpr c136
                                    have c136b1 : (t241 != t222) = false := bne_eq_false_iff_eq.mpr c136
                                    clear c136
                                    clear H
                                    have hnb137 := NB205_173.out
                                    have hnc137 := NB173_205.out
                                    have hnb138 := NB205_189.out
                                    have hnc138 := NB189_205.out
                                    have hnb139 := NB205_195.out
                                    have hnc139 := NB195_205.out
                                    have hnb140 := NB205_239.out
                                    have hnc140 := NB239_205.out
                                    have hcz141_0 : wc.cell? ⟨gb205, 0, none⟩ = some (.int .i64 t199) := (blk_cell BK205.out 0).trans rfl
                                    have hcz141_1 : wc.cell? ⟨gb205, 1, none⟩ = some (.int .i64 t200) := (blk_cell BK205.out 1).trans rfl
                                    have hcz141_2 : wc.cell? ⟨gb205, 2, none⟩ = some (.slice Ao46 t223.length co46) := (blk_cell BK205.out 2).trans rfl
                                    have hfz141_0 := blk_frozen BK205.out 0
                                    have hfz141_1 := blk_frozen BK205.out 1
                                    have hfz141_2 := blk_frozen BK205.out 2
                                    go_wp2_with (first | ((with_reducible refine gate_callee (f := 18) rfl ?_); refine goesL_ (some 111) rfl rfl Try.func18 (by kernel_rfl) rfl #[.agg #[.int .i64 t199, .int .i64 t200, .slice Ao46 t223.length co46], .int .i64 1] rfl (by (try simp only [List.map_toArray, List.map_cons, List.map_nil]); first | done | rfl | (simp only [List.length_drop, List.length_take]; rfl)) ?_; (with_reducible refine (laws_heldBoard.calls kj97 t199 t200 _ _ t223 1 t241 _ ?side1 ?side2 A134.out).mono ?_); (case side1 => repeat (first | exact (Kd.R_reads' HO_206002.out).2.2 | (with_reducible refine Kd.C_alloc ?_ _) | (with_reducible refine Kd.C_drewN ?_ _) | (with_reducible refine Kd.C_drew ?_))); (case side2 => exact (Kd.R_reads' HO_206002.out).2.1); rintro e w142 ⟨rfl, hb⟩; refine ⟨_, rfl, ?_⟩; have n0_ := Aside0.mk (Kd.R_below (by (with_reducible repeat (first | apply Kd.R_alloc | apply Kd.R_drewN | apply Kd.R_drew)); exact HO_190002.out) hb); have n1_ := Aside0.mk (Kd.R_below (by (with_reducible repeat (first | apply Kd.R_alloc | apply Kd.R_drewN | apply Kd.R_drew)); exact HO_196002.out) hb); have n2_ := Aside0.mk (Kd.R_below (by (with_reducible repeat (first | apply Kd.R_alloc | apply Kd.R_drewN | apply Kd.R_drew)); exact HO_206002.out) hb); have n3_ := Aside0.mk (Kd.R_below (by (with_reducible repeat (first | apply Kd.R_alloc | apply Kd.R_drewN | apply Kd.R_drew)); exact HO_240002.out) hb); have n4_ := Aside0.mk (blk_below (g := gb173) (o := .cells #[.int .i64 a0_0, .int .i64 a0_1, .slice A0_2 l0_2.length c0_2] 24 (0, 0)) (by (with_reducible repeat (first | refine blk_drewN ?_ _ | refine blk_drew ?_ | refine blk_alloc ?_ _)); exact BK173.out) hb); have n5_ := Aside0.mk (blk_below (g := gb189) (o := .cells #[.int .i64 t183, .int .i64 t184, .slice Ao29 t185.length co29] 26 (0, 0)) (by (with_reducible repeat (first | refine blk_drewN ?_ _ | refine blk_drew ?_ | refine blk_alloc ?_ _)); exact BK189.out) hb); have n6_ := Aside0.mk (blk_below (g := gb195) (o := .cells #[.int .i64 t190, .int .i64 t191, .slice Ao36 t218.length co36] 26 (0, 0)) (by (with_reducible repeat (first | refine blk_drewN ?_ _ | refine blk_drew ?_ | refine blk_alloc ?_ _)); exact BK195.out) hb); have n7_ := Aside0.mk (blk_below (g := gb205) (o := .cells #[.int .i64 t199, .int .i64 t200, .slice Ao46 t223.length co46] 26 (0, 0)) (by (with_reducible repeat (first | refine blk_drewN ?_ _ | refine blk_drew ?_ | refine blk_alloc ?_ _)); exact BK205.out) hb); have n8_ := Aside0.mk (blk_below (g := gb239) (o := .cells #[.int .i64 t233, .int .i64 t234, .slice Ao120 t235.length co120] 26 (0, 0)) (by (with_reducible repeat (first | refine blk_drewN ?_ _ | refine blk_drew ?_ | refine blk_alloc ?_ _)); exact BK239.out) hb); have n9_ := Aside0.mk (below_step (by repeat (first | (with_reducible first | exact HB.out | apply below_alloc | apply pw_below_drewN | apply below_drew1 | refine below_set ?_ GE173.out | refine below_set ?_ GE189.out | refine below_set ?_ GE195.out | refine below_set ?_ GE205.out | refine below_set ?_ GE239.out) | exact HB.out)) hb); clear HO_190002; clear HO_196002; clear HO_206002; clear HO_240002; clear BK173; clear BK189; clear BK195; clear BK205; clear BK239; clear HB; have HO_190002 := n0_; have HO_196002 := n1_; have HO_206002 := n2_; have HO_240002 := n3_; have BK173 := n4_; have BK189 := n5_; have BK195 := n6_; have BK205 := n7_; have BK239 := n8_; have HB := n9_; clear n0_ n1_ n2_ n3_ n4_ n5_ n6_ n7_ n8_ n9_; (try clear hb); (try clear hb2); (try clear hk); (try clear hi)))
                                    go_ret
                                    exact ⟨by first | rfl | (simp [errW_none, errW_some] <;> rfl) | (simp [*, errW_none, errW_some] <;> rfl), by repeat (first | (with_reducible first | exact HB.out | apply below_alloc | apply pw_below_drewN | apply below_drew1 | refine below_set ?_ GE173.out | refine below_set ?_ GE189.out | refine below_set ?_ GE195.out | refine below_set ?_ GE205.out | refine below_set ?_ GE239.out) | exact HB.out)⟩
                                  · rw [if_neg c136] at H
                                    have c136b0 : (t241 == t222) = false := beq_eq_false_iff_ne.mpr c136
                                    have c136b1 : (t241 != t222) = true := bne_iff_ne.mpr c136
                                    exact absurd (Option.some.inj H) (by decide)
                        · rw [if_neg c94] at H
                          have c94b0 : (t224 == t222) = false := beq_eq_false_iff_ne.mpr c94
                          have c94b1 : (t224 != t222) = true := bne_iff_ne.mpr c94
                          exact absurd (Option.some.inj H) (by decide)
              · replace c63 := Bool.eq_false_iff.mpr c63
                subst c63
                have H1 : (some false) = some true := by first | (rw [if_neg (show ¬ (false = true) by decide)] at H; exact H) | rfl
                clear H
                have H := H1
                clear H1
                exact absurd (Option.some.inj H) (by decide)
            · replace c60 := Bool.eq_false_iff.mpr c60
              subst c60
              have H1 : (some false) = some true := by first | (rw [if_neg (show ¬ (false = true) by decide)] at H; exact H) | rfl
              clear H
              have H := H1
              clear H1
              exact absurd (Option.some.inj H) (by decide)

/-- The pure statement of laws_FnExactOrderRows. -/
def laws_FnExactOrderRows.Pure : Prop := ∀ (a0_0 : Int) (a0_1 : Int) (l0_2 : List Int) (l1 : List Int), (Lit.int .i64 a0_0).wf = true → (Lit.int .i64 a0_1).wf = true → l0_2.length ≤ maxLen → (∀ x ∈ l0_2, (Lit.int .i64 x).wf = true) → l1.length ≤ maxLen → (∀ x ∈ l1, (Lit.int .i64 x).wf = true) → ∃ k, laws_FnExactOrderRows.f k a0_0 a0_1 l0_2 l1 = some true

end Go.Proofs.Ytlbffjkckpdclaa.PFnExactOrderRows
