-- Printed for this claim by wip/pp.py over the kit's printer; Lean checks it.
import Derived.Test.YtlbffjkckpdclaaPFnExactMeetOfx0
import Derived.Test.YtlbffjkckpdclaaPFnExactMeetOfx1
import Derived.Test.YtlbffjkckpdclaaPFnExactMeetOfx2
import Derived.Test.YtlbffjkckpdclaaPFnExactMeetOfx5
namespace Go.Proofs.Ytlbffjkckpdclaa.PFnExactMeetOf
open Go.RowKit Go.Proofs.YtlbffjkckpdclaaW.PrintWords Go.Proofs.YtlbffjkckpdclaaW.PrintLast Go.Proofs.YtlbffjkckpdclaaW.PrintMore
attribute [local go_sem] max2_int min2_int max_two min_two max_three min_three max_four min_four   -- for this text's walks alone
set_option linter.unusedVariables false
set_option linter.unusedSimpArgs false

/-! ### laws_FnExactMeetOf: function 8 -/
mutual
def laws_FnExactMeetOf.j0 : Nat → Bool → Bool → Bool → Int → Int → List Int → Int → Int → List Int → Int → Int → List Int → Int → Int → List Int → Int → Int → List Int → Int → Int → List Int → Option (Bool)
 | 0, _, _, _, _, _, _, _, _, _, _, _, _, _, _, _, _, _, _, _, _, _ => none
 | k + 1, x7, x11, x53, x173000, x173001, x173002, x174000, x174001, x174002, x193000, x193001, x193002, x199000, x199001, x199002, x205000, x205001, x205002, x212000, x212001, x212002 => if x53 = true then (some false) else ((laws_toBoard.f k x173000 x173001 x173002).bind fun bt213 => ((laws_eqBoard.f k x199000 x199001 x199002 bt213.1 bt213.2.1 bt213.2.2).bind fun t218 => (if t218 = true then ((laws_toBoard.f k x174000 x174001 x174002).bind fun bt219 => ((laws_eqBoard.f k x205000 x205001 x205002 bt219.1 bt219.2.1 bt219.2.2).bind fun t224 => (if t224 = true then ((laws_markBoard.f k x199000 x199001 x199002 1).bind fun bt225 => ((laws_markBoard.f k x205000 x205001 x205002 bt225.1).bind fun bt227 => (if bt227.1 < 0 then (laws_FnExactMeetOf.j1 k x7 true x173000 x173001 x173002 x174000 x174001 x174002 x193000 x193001 x193002 x212000 x212001 x212002) else ((laws_eqBoard.f k x212000 x212001 x212002 x193000 x193001 x193002).bind fun t229 => (if t229 = true then (laws_FnExactMeetOf.j1 k x7 (x11 != x7) x173000 x173001 x173002 x174000 x174001 x174002 x193000 x193001 x193002 x212000 x212001 x212002) else (laws_FnExactMeetOf.j1 k x7 true x173000 x173001 x173002 x174000 x174001 x174002 x193000 x193001 x193002 x212000 x212001 x212002)))))) else (some false)))) else (some false))))
def laws_FnExactMeetOf.j1 : Nat → Bool → Bool → Int → Int → List Int → Int → Int → List Int → Int → Int → List Int → Int → Int → List Int → Option (Bool)
 | 0, _, _, _, _, _, _, _, _, _, _, _, _, _, _ => none
 | k + 1, x7, x82, x173000, x173001, x173002, x174000, x174001, x174002, x193000, x193001, x193002, x212000, x212001, x212002 => if x82 = true then (some false) else ((laws_markBoard.f k x212000 x212001 x212002 1).bind fun bt230 => ((laws_heldBoard.f k x212000 x212001 bt230.2 1).bind fun t232 => (if t232 < 0 then (some false) else (if t232 = bt230.1 then ((laws_toBoard.f k x173000 x173001 x173002).bind fun bt233 => ((laws_toBoard.f k x174000 x174001 x174002).bind fun bt238 => ((impl_MeetOf.f bt233.1 bt233.2.1 bt233.2.2 bt238.1 bt238.2.1 bt238.2.2).bind fun bt243 => ((laws_eqBoard.f k bt243.1 bt243.2.1 bt243.2.2.1 x193000 x193001 x193002).bind fun t250 => (if t250 = true then (laws_FnExactMeetOf.j2 k bt230.1 (bt243.2.2.2 != x7) x212000 x212001 bt230.2) else (laws_FnExactMeetOf.j2 k bt230.1 true x212000 x212001 bt230.2)))))) else (some false)))))
def laws_FnExactMeetOf.j2 : Nat → Int → Bool → Int → Int → List Int → Option (Bool)
 | 0, _, _, _, _, _ => none
 | k + 1, x13, x110, x212000, x212001, x212002 => if x110 = true then (some false) else ((laws_heldBoard.f k x212000 x212001 x212002 1).bind fun t251 => (if t251 < 0 then (some false) else (if t251 = x13 then (some true) else (some false))))
end
def laws_FnExactMeetOf.f (k : Nat) (a0_0 : Int) (a0_1 : Int) (l0_2 : List Int) (a1_0 : Int) (a1_1 : Int) (l1_2 : List Int) : Option (Bool) := (laws_szBoard.f a0_0 a0_1 l0_2 1048576).bind fun t174 => (if t174 < 0 then (some true) else ((laws_szBoard.f a1_0 a1_1 l1_2 t174).bind fun t175 => (if t175 < 0 then (some true) else ((laws_toBoard.f k a0_0 a0_1 l0_2).bind fun bt176 => ((laws_toBoard.f k a1_0 a1_1 l1_2).bind fun bt181 => ((spec_MeetOf.f k bt176.1 bt176.2.1 bt176.2.2 bt181.1 bt181.2.1 bt181.2.2).bind fun bt186 => ((laws_toBoard.f k a0_0 a0_1 l0_2).bind fun bt193 => ((laws_toBoard.f k a1_0 a1_1 l1_2).bind fun bt199 => ((impl_MeetOf.f bt193.1 bt193.2.1 bt193.2.2 bt199.1 bt199.2.1 bt199.2.2).bind fun bt205 => ((laws_eqBoard.f k bt205.1 bt205.2.1 bt205.2.2.1 bt186.1 bt186.2.1 bt186.2.2.1).bind fun t212 => (if t212 = true then (laws_FnExactMeetOf.j0 k bt186.2.2.2 bt205.2.2.2 (bt205.2.2.2 != bt186.2.2.2) a0_0 a0_1 l0_2 a1_0 a1_1 l1_2 bt186.1 bt186.2.1 bt186.2.2.1 bt193.1 bt193.2.1 bt193.2.2 bt199.1 bt199.2.1 bt199.2.2 bt205.1 bt205.2.1 bt205.2.2.1) else (laws_FnExactMeetOf.j0 k bt186.2.2.2 bt205.2.2.2 true a0_0 a0_1 l0_2 a1_0 a1_1 l1_2 bt186.1 bt186.2.1 bt186.2.2.1 bt193.1 bt193.2.1 bt193.2.2 bt199.1 bt199.2.1 bt199.2.2 bt205.1 bt205.2.1 bt205.2.2.1))))))))))))
theorem laws_FnExactMeetOf.mono_l : ∀ k, (∀ y0 y1 y2 y3 y4 y5 y6 y7 y8 y9 y10 y11 y12 y13 y14 y15 y16 y17 y18 y19 y20, LeO (laws_FnExactMeetOf.j0 k y0 y1 y2 y3 y4 y5 y6 y7 y8 y9 y10 y11 y12 y13 y14 y15 y16 y17 y18 y19 y20) (laws_FnExactMeetOf.j0 (k + 1) y0 y1 y2 y3 y4 y5 y6 y7 y8 y9 y10 y11 y12 y13 y14 y15 y16 y17 y18 y19 y20)) ∧ (∀ y0 y1 y2 y3 y4 y5 y6 y7 y8 y9 y10 y11 y12 y13, LeO (laws_FnExactMeetOf.j1 k y0 y1 y2 y3 y4 y5 y6 y7 y8 y9 y10 y11 y12 y13) (laws_FnExactMeetOf.j1 (k + 1) y0 y1 y2 y3 y4 y5 y6 y7 y8 y9 y10 y11 y12 y13)) ∧ (∀ y0 y1 y2 y3 y4, LeO (laws_FnExactMeetOf.j2 k y0 y1 y2 y3 y4) (laws_FnExactMeetOf.j2 (k + 1) y0 y1 y2 y3 y4))
 | 0 => ⟨fun _ _ _ _ _ _ _ _ _ _ _ _ _ _ _ _ _ _ _ _ _ r h => by simp [laws_FnExactMeetOf.j0] at h, fun _ _ _ _ _ _ _ _ _ _ _ _ _ _ r h => by simp [laws_FnExactMeetOf.j1] at h, fun _ _ _ _ _ r h => by simp [laws_FnExactMeetOf.j2] at h⟩
 | k + 1 => by
  obtain ⟨ih0, ih1, ih2⟩ := laws_FnExactMeetOf.mono_l k
  refine ⟨?_, ?_, ?_⟩
  ·
   intro y0 y1 y2 y3 y4 y5 y6 y7 y8 y9 y10 y11 y12 y13 y14 y15 y16 y17 y18 y19 y20
   unfold laws_FnExactMeetOf.j0
   repeat' first
   | (with_reducible exact ih0 _ _ _ _ _ _ _ _ _ _ _ _ _ _ _ _ _ _ _ _ _)
   | (with_reducible exact ih1 _ _ _ _ _ _ _ _ _ _ _ _ _ _)
   | (with_reducible exact ih2 _ _ _ _ _)
   | (with_reducible exact laws_eqBoard.mono _ _ _ _ _ _ _)
   | (with_reducible exact laws_heldBoard.mono _ _ _ _ _)
   | (with_reducible exact laws_markBoard.mono _ _ _ _ _)
   | (with_reducible exact laws_toBoard.mono _ _ _ _)
   | (with_reducible exact spec_MeetOf.mono _ _ _ _ _ _ _)
   | (with_reducible exact LeO.refl _)
   | (with_reducible exact LeO.none _)
   | (with_reducible refine LeO.ite ?_ ?_)
   | (with_reducible refine LeO.bind ?_ (fun _ => ?_))
   | exact ih0 _ _ _ _ _ _ _ _ _ _ _ _ _ _ _ _ _ _ _ _ _
   | exact ih1 _ _ _ _ _ _ _ _ _ _ _ _ _ _
   | exact ih2 _ _ _ _ _
   | exact laws_eqBoard.mono _ _ _ _ _ _ _
   | exact laws_heldBoard.mono _ _ _ _ _
   | exact laws_markBoard.mono _ _ _ _ _
   | exact laws_toBoard.mono _ _ _ _
   | exact spec_MeetOf.mono _ _ _ _ _ _ _
   | exact LeO.none _
   | refine LeO.ite ?_ ?_
   | refine LeO.bind ?_ (fun _ => ?_)
  ·
   intro y0 y1 y2 y3 y4 y5 y6 y7 y8 y9 y10 y11 y12 y13
   unfold laws_FnExactMeetOf.j1
   repeat' first
   | (with_reducible exact ih0 _ _ _ _ _ _ _ _ _ _ _ _ _ _ _ _ _ _ _ _ _)
   | (with_reducible exact ih1 _ _ _ _ _ _ _ _ _ _ _ _ _ _)
   | (with_reducible exact ih2 _ _ _ _ _)
   | (with_reducible exact laws_eqBoard.mono _ _ _ _ _ _ _)
   | (with_reducible exact laws_heldBoard.mono _ _ _ _ _)
   | (with_reducible exact laws_markBoard.mono _ _ _ _ _)
   | (with_reducible exact laws_toBoard.mono _ _ _ _)
   | (with_reducible exact spec_MeetOf.mono _ _ _ _ _ _ _)
   | (with_reducible exact LeO.refl _)
   | (with_reducible exact LeO.none _)
   | (with_reducible refine LeO.ite ?_ ?_)
   | (with_reducible refine LeO.bind ?_ (fun _ => ?_))
   | exact ih0 _ _ _ _ _ _ _ _ _ _ _ _ _ _ _ _ _ _ _ _ _
   | exact ih1 _ _ _ _ _ _ _ _ _ _ _ _ _ _
   | exact ih2 _ _ _ _ _
   | exact laws_eqBoard.mono _ _ _ _ _ _ _
   | exact laws_heldBoard.mono _ _ _ _ _
   | exact laws_markBoard.mono _ _ _ _ _
   | exact laws_toBoard.mono _ _ _ _
   | exact spec_MeetOf.mono _ _ _ _ _ _ _
   | exact LeO.none _
   | refine LeO.ite ?_ ?_
   | refine LeO.bind ?_ (fun _ => ?_)
  ·
   intro y0 y1 y2 y3 y4
   unfold laws_FnExactMeetOf.j2
   repeat' first
   | (with_reducible exact ih0 _ _ _ _ _ _ _ _ _ _ _ _ _ _ _ _ _ _ _ _ _)
   | (with_reducible exact ih1 _ _ _ _ _ _ _ _ _ _ _ _ _ _)
   | (with_reducible exact ih2 _ _ _ _ _)
   | (with_reducible exact laws_eqBoard.mono _ _ _ _ _ _ _)
   | (with_reducible exact laws_heldBoard.mono _ _ _ _ _)
   | (with_reducible exact laws_markBoard.mono _ _ _ _ _)
   | (with_reducible exact laws_toBoard.mono _ _ _ _)
   | (with_reducible exact spec_MeetOf.mono _ _ _ _ _ _ _)
   | (with_reducible exact LeO.refl _)
   | (with_reducible exact LeO.none _)
   | (with_reducible refine LeO.ite ?_ ?_)
   | (with_reducible refine LeO.bind ?_ (fun _ => ?_))
   | exact ih0 _ _ _ _ _ _ _ _ _ _ _ _ _ _ _ _ _ _ _ _ _
   | exact ih1 _ _ _ _ _ _ _ _ _ _ _ _ _ _
   | exact ih2 _ _ _ _ _
   | exact laws_eqBoard.mono _ _ _ _ _ _ _
   | exact laws_heldBoard.mono _ _ _ _ _
   | exact laws_markBoard.mono _ _ _ _ _
   | exact laws_toBoard.mono _ _ _ _
   | exact spec_MeetOf.mono _ _ _ _ _ _ _
   | exact LeO.none _
   | refine LeO.ite ?_ ?_
   | refine LeO.bind ?_ (fun _ => ?_)
theorem laws_FnExactMeetOf.mono : ∀ a0 a1 a2 a3 a4 a5 k, LeO (laws_FnExactMeetOf.f k a0 a1 a2 a3 a4 a5) (laws_FnExactMeetOf.f (k + 1) a0 a1 a2 a3 a4 a5) := by
 intro a0 a1 a2 a3 a4 a5 k
 obtain ⟨ih0, ih1, ih2⟩ := laws_FnExactMeetOf.mono_l k
 unfold laws_FnExactMeetOf.f
 repeat' first
   | (with_reducible exact ih0 _ _ _ _ _ _ _ _ _ _ _ _ _ _ _ _ _ _ _ _ _)
   | (with_reducible exact ih1 _ _ _ _ _ _ _ _ _ _ _ _ _ _)
   | (with_reducible exact ih2 _ _ _ _ _)
   | (with_reducible exact laws_eqBoard.mono _ _ _ _ _ _ _)
   | (with_reducible exact laws_heldBoard.mono _ _ _ _ _)
   | (with_reducible exact laws_markBoard.mono _ _ _ _ _)
   | (with_reducible exact laws_toBoard.mono _ _ _ _)
   | (with_reducible exact spec_MeetOf.mono _ _ _ _ _ _ _)
   | (with_reducible exact LeO.refl _)
   | (with_reducible exact LeO.none _)
   | (with_reducible refine LeO.ite ?_ ?_)
   | (with_reducible refine LeO.bind ?_ (fun _ => ?_))
   | exact ih0 _ _ _ _ _ _ _ _ _ _ _ _ _ _ _ _ _ _ _ _ _
   | exact ih1 _ _ _ _ _ _ _ _ _ _ _ _ _ _
   | exact ih2 _ _ _ _ _
   | exact laws_eqBoard.mono _ _ _ _ _ _ _
   | exact laws_heldBoard.mono _ _ _ _ _
   | exact laws_markBoard.mono _ _ _ _ _
   | exact laws_toBoard.mono _ _ _ _
   | exact spec_MeetOf.mono _ _ _ _ _ _ _
   | exact LeO.none _
   | refine LeO.ite ?_ ?_
   | refine LeO.bind ?_ (fun _ => ?_)
theorem laws_FnExactMeetOf.j0_no (k : Nat) (x7 : Bool) (x11 : Bool) (x173000 : Int) (x173001 : Int) (x173002 : List Int) (x174000 : Int) (x174001 : Int) (x174002 : List Int) (x193000 : Int) (x193001 : Int) (x193002 : List Int) (x199000 : Int) (x199001 : Int) (x199002 : List Int) (x205000 : Int) (x205001 : Int) (x205002 : List Int) (x212000 : Int) (x212001 : Int) (x212002 : List Int) : ¬ (laws_FnExactMeetOf.j0 k x7 x11 true x173000 x173001 x173002 x174000 x174001 x174002 x193000 x193001 x193002 x199000 x199001 x199002 x205000 x205001 x205002 x212000 x212001 x212002 = some true) := by
 cases k <;> simp [laws_FnExactMeetOf.j0]
theorem laws_FnExactMeetOf.j1_no (k : Nat) (x7 : Bool) (x173000 : Int) (x173001 : Int) (x173002 : List Int) (x174000 : Int) (x174001 : Int) (x174002 : List Int) (x193000 : Int) (x193001 : Int) (x193002 : List Int) (x212000 : Int) (x212001 : Int) (x212002 : List Int) : ¬ (laws_FnExactMeetOf.j1 k x7 true x173000 x173001 x173002 x174000 x174001 x174002 x193000 x193001 x193002 x212000 x212001 x212002 = some true) := by
 cases k <;> simp [laws_FnExactMeetOf.j1]
theorem laws_FnExactMeetOf.j2_no (k : Nat) (x13 : Int) (x212000 : Int) (x212001 : Int) (x212002 : List Int) : ¬ (laws_FnExactMeetOf.j2 k x13 true x212000 x212001 x212002 = some true) := by
 cases k <;> simp [laws_FnExactMeetOf.j2]
def laws_FnExactMeetOf.T8 : Bool × List (List Nat × List Nat) := (true, [([], []), ([0], [0]), ([], []), ([2, 1], [2]), ([1, 3, 3], [1, 3]), ([4], [4]), ([5], [5]), ([5], [5]), ([], []), ([8, 6, 4, 0, 1, 2, 3, 4, 5, 6, 8], [6, 8]), ([7, 9, 0, 1, 2, 3, 4, 5, 6, 7, 8, 9], [7])])
def laws_FnExactMeetOf.B8 : List Nat := [0, 1, 0, 7, 15, 31, 63, 63, 0, 383, 1023]
theorem laws_FnExactMeetOf.tab8 : rtab .any (opsOf Try.f8 8) = laws_FnExactMeetOf.T8 := by kernel_rfl
theorem laws_FnExactMeetOf.bits8 : waitsOk laws_FnExactMeetOf.T8.2 laws_FnExactMeetOf.B8 = true := by kernel_rfl
def laws_FnExactMeetOf.T31 : Bool × List (List Nat × List Nat) := (true, [([], []), ([0], [0]), ([], []), ([2, 1], [2]), ([1, 3, 3], [1, 3]), ([4], [4]), ([5], [5]), ([5], [5]), ([], []), ([8, 6, 4, 0, 1, 2, 3, 4, 5, 6, 8], [6, 8]), ([7, 9, 0, 1, 2, 3, 4, 5, 6, 7, 8, 9], [7])])
def laws_FnExactMeetOf.B31 : List Nat := [0, 1, 0, 7, 15, 31, 63, 63, 0, 383, 1023]
theorem laws_FnExactMeetOf.tab31 : rtab .any (opsOf Try.f8 31) = laws_FnExactMeetOf.T31 := by kernel_rfl
theorem laws_FnExactMeetOf.bits31 : waitsOk laws_FnExactMeetOf.T31.2 laws_FnExactMeetOf.B31 = true := by kernel_rfl
set_option maxHeartbeats 8000000 in
set_option maxRecDepth 100000 in
theorem laws_FnExactMeetOf.calls (k : Nat) (a0_0 : Int) (a0_1 : Int) (A0_2 : Option Addr) (c0_2 : Nat) (l0_2 : List Int) (a1_0 : Int) (a1_1 : Int) (A1_2 : Option Addr) (c1_2 : Nat) (l1_2 : List Int) (w : World) (hr0_2 : Kd.C (Kd.int .i64) w A0_2 l0_2.length l0_2) (hc0_2 : l0_2.length ≤ c0_2) (hr1_2 : Kd.C (Kd.int .i64) w A1_2 l1_2.length l1_2) (hc1_2 : l1_2.length ≤ c1_2) (h : laws_FnExactMeetOf.f k a0_0 a0_1 l0_2 a1_0 a1_1 l1_2 = some true) :
  Calls Try.prog 8 #[.agg #[.int .i64 a0_0, .int .i64 a0_1, .slice A0_2 l0_2.length c0_2], .agg #[.int .i64 a1_0, .int .i64 a1_1, .slice A1_2 l1_2.length c1_2]] w fun e w' => e = .returned (.bool true) ∧ Below w.heap.size w w' := by
 have hu24 := Try.underlying24
 have hu26 := Try.underlying26
 have HR0_2 := Aside0.mk hr0_2
 have HC0_2 := Aside0.mk hc0_2
 clear hr0_2 hc0_2
 have HR1_2 := Aside0.mk hr1_2
 have HC1_2 := Aside0.mk hc1_2
 clear hr1_2 hc1_2
 have HB := am (Below.refl w.heap.size w)
 have H : ((laws_szBoard.f a0_0 a0_1 l0_2 1048576).bind fun t174 => (if t174 < 0 then (some true) else ((laws_szBoard.f a1_0 a1_1 l1_2 t174).bind fun t175 => (if t175 < 0 then (some true) else ((laws_toBoard.f k a0_0 a0_1 l0_2).bind fun bt176 => ((laws_toBoard.f k a1_0 a1_1 l1_2).bind fun bt181 => ((spec_MeetOf.f k bt176.1 bt176.2.1 bt176.2.2 bt181.1 bt181.2.1 bt181.2.2).bind fun bt186 => ((laws_toBoard.f k a0_0 a0_1 l0_2).bind fun bt193 => ((laws_toBoard.f k a1_0 a1_1 l1_2).bind fun bt199 => ((impl_MeetOf.f bt193.1 bt193.2.1 bt193.2.2 bt199.1 bt199.2.1 bt199.2.2).bind fun bt205 => ((laws_eqBoard.f k bt205.1 bt205.2.1 bt205.2.2.1 bt186.1 bt186.2.1 bt186.2.2.1).bind fun t212 => (if t212 = true then (laws_FnExactMeetOf.j0 k bt186.2.2.2 bt205.2.2.2 (bt205.2.2.2 != bt186.2.2.2) a0_0 a0_1 l0_2 a1_0 a1_1 l1_2 bt186.1 bt186.2.1 bt186.2.2.1 bt193.1 bt193.2.1 bt193.2.2 bt199.1 bt199.2.1 bt199.2.2 bt205.1 bt205.2.1 bt205.2.2.1) else (laws_FnExactMeetOf.j0 k bt186.2.2.2 bt205.2.2.2 true a0_0 a0_1 l0_2 a1_0 a1_1 l1_2 bt186.1 bt186.2.1 bt186.2.2.1 bt193.1 bt193.2.1 bt193.2.2 bt199.1 bt199.2.1 bt199.2.2 bt205.1 bt205.2.1 bt205.2.2.1))))))))))))) = some true := h
 clear h
 replace H := Option.bind_eq_some_iff.mp H
 obtain ⟨t174, A30, H⟩ := H
 replace H : (if t174 < 0 then (some true) else ((laws_szBoard.f a1_0 a1_1 l1_2 t174).bind fun t175 => (if t175 < 0 then (some true) else ((laws_toBoard.f k a0_0 a0_1 l0_2).bind fun bt176 => ((laws_toBoard.f k a1_0 a1_1 l1_2).bind fun bt181 => ((spec_MeetOf.f k bt176.1 bt176.2.1 bt176.2.2 bt181.1 bt181.2.1 bt181.2.2).bind fun bt186 => ((laws_toBoard.f k a0_0 a0_1 l0_2).bind fun bt193 => ((laws_toBoard.f k a1_0 a1_1 l1_2).bind fun bt199 => ((impl_MeetOf.f bt193.1 bt193.2.1 bt193.2.2 bt199.1 bt199.2.1 bt199.2.2).bind fun bt205 => ((laws_eqBoard.f k bt205.1 bt205.2.1 bt205.2.2.1 bt186.1 bt186.2.1 bt186.2.2.1).bind fun t212 => (if t212 = true then (laws_FnExactMeetOf.j0 k bt186.2.2.2 bt205.2.2.2 (bt205.2.2.2 != bt186.2.2.2) a0_0 a0_1 l0_2 a1_0 a1_1 l1_2 bt186.1 bt186.2.1 bt186.2.2.1 bt193.1 bt193.2.1 bt193.2.2 bt199.1 bt199.2.1 bt199.2.2 bt205.1 bt205.2.1 bt205.2.2.1) else (laws_FnExactMeetOf.j0 k bt186.2.2.2 bt205.2.2.2 true a0_0 a0_1 l0_2 a1_0 a1_1 l1_2 bt186.1 bt186.2.1 bt186.2.2.1 bt193.1 bt193.2.1 bt193.2.2 bt199.1 bt199.2.1 bt199.2.2 bt205.1 bt205.2.1 bt205.2.2.1)))))))))))) = some true := H
 have A3 := Aside0.mk A30
 clear A30
 by_cases c4 : t174 < 0
 ·
  rw [if_pos c4] at H
  have c4b0 : decide (t174 < 0) = true := decide_eq_true c4
  clear c4 H
  go_enter Try.func8, Try.ntmps8
  go_wp2_with (first | ((with_reducible refine gate_dst (N := 2) rfl ?_); refine box_event ?hg (N := 2) ?hd (cs := #[.int .i64 a0_0, .int .i64 a0_1, .slice A0_2 l0_2.length c0_2]) (t := 24) ?hr ?_; (case hd => rfl); (case hg => rfl); (case hr => first | (go_simp; done) | (go_simp; rfl)); intro gb172 hg w5 hbox hb; have n0_ := am (below_step (by repeat with_reducible first | exact HB.out | apply pw_below_drewN | apply below_drew1) hb); have n1_ := am (hbox); have n2_ := am ((by rw [hg]; exact (below_size (by repeat with_reducible first | exact HB.out | apply pw_below_drewN | apply below_drew1)) : w.heap.size ≤ gb172)); have n3_ := am ((by rw [hg]; exact (below_size (by repeat with_reducible first | exact HB.out | apply pw_below_drewN | apply below_drew1)) : w.heap.size ≤ gb172)); clear HB; have HB := n0_; have BK172 := n1_; have GW172 := n2_; have GE172 := n3_; clear n0_ n1_ n2_ n3_; clear hb hbox hg) | ((with_reducible refine gate_dst (N := 3) rfl ?_); refine box_event ?hg (N := 3) ?hd (cs := #[.int .i64 a1_0, .int .i64 a1_1, .slice A1_2 l1_2.length c1_2]) (t := 24) ?hr ?_; (case hd => rfl); (case hg => rfl); (case hr => first | (go_simp; done) | (go_simp; rfl)); intro gb173 hg w6 hbox hb; have n1_ := am (below_step (by repeat with_reducible first | exact HB.out | apply pw_below_drewN | apply below_drew1 | refine below_set ?_ GE172.out) hb); have n2_ := am (hbox); have n3_ := am ((by rw [hg]; exact (below_size (by repeat with_reducible first | exact HB.out | apply pw_below_drewN | apply below_drew1 | refine below_set ?_ GE172.out)) : w.heap.size ≤ gb173)); have n4_ := am ((by rw [hg]; exact (below_size (by repeat with_reducible first | exact HB.out | apply pw_below_drewN | apply below_drew1 | refine below_set ?_ GE172.out)) : w.heap.size ≤ gb173)); have n5_ := am ((by rw [hg]; exact Nat.ne_of_lt (sqT BK172) : gb172 ≠ gb173)); have n6_ := am ((by rw [hg]; exact Nat.ne_of_gt (sqT BK172) : gb173 ≠ gb172)); clear HB; replace BK172 := sqB BK172 hb; have HB := n1_; have BK173 := n2_; have GW173 := n3_; have GE173 := n4_; have Nq0 := n5_; have Nq6 := n6_; clear n1_ n2_ n3_ n4_ n5_ n6_; clear hb hbox hg; have bq54 := Nq0.out; have cq54 := Nq6.out; have zq63 : w6.cell? ⟨gb172, 0, none⟩ = some (.int .i64 a0_0) := sqc BK172 0; have zq64 : w6.cell? ⟨gb172, 1, none⟩ = some (.int .i64 a0_1) := sqc BK172 1; have zq65 : w6.cell? ⟨gb172, 2, none⟩ = some (.slice A0_2 l0_2.length c0_2) := sqc BK172 2; have fq63 := blk_frozen BK172.out 0; have fq64 := blk_frozen BK172.out 1; have fq65 := blk_frozen BK172.out 2) | ((with_reducible refine gate_callee (f := 12) rfl ?_); refine goesL_ (some 19) rfl rfl Try.func12 (by kernel_rfl) rfl #[.agg #[.int .i64 a0_0, .int .i64 a0_1, .slice A0_2 l0_2.length c0_2], .int .i64 1048576] rfl (by (try simp only [List.map_toArray, List.map_cons, List.map_nil]); try rfl) ?_; (with_reducible refine (laws_szBoard.calls a0_0 a0_1 _ _ l0_2 1048576 t174 _ ?side1 ?side2 A3.out).mono ?_); (case side1 => repeat (first | exact (Kd.C_below HR0_2.out HB.out) | (with_reducible first | refine Kd.C_alloc ?_ _ | refine Kd.C_drewN ?_ _ | refine Kd.C_drew ?_))); (case side2 => exact HC0_2.out); rintro e w9 ⟨rfl, hb⟩; refine ⟨_, rfl, ?_⟩; have n2_ := am (below_step (by repeat with_reducible first | exact HB.out | apply pw_below_drewN | apply below_drew1 | refine below_set ?_ (Aside0.out (by assumption))) hb); clear HB; replace BK172 := sqB BK172 hb; replace BK173 := sqB BK173 hb; have HB := n2_; clear n2_; (try clear hb); (try clear hb2); (try clear hk); (try clear hi)))
  go_ret
  exact ⟨by first | rfl | (simp [errW_none, errW_some] <;> rfl) | (simp [*, errW_none, errW_some] <;> rfl), by repeat with_reducible first | exact HB.out | apply pw_below_drewN | apply below_drew1 | refine below_set ?_ (Aside0.out (by assumption))⟩
 ·
  rw [if_neg c4] at H
  have c4b0 : decide (t174 < 0) = false := decide_eq_false c4
  clear c4
  replace H := Option.bind_eq_some_iff.mp H
  obtain ⟨t175, A100, H⟩ := H
  replace H : (if t175 < 0 then (some true) else ((laws_toBoard.f k a0_0 a0_1 l0_2).bind fun bt176 => ((laws_toBoard.f k a1_0 a1_1 l1_2).bind fun bt181 => ((spec_MeetOf.f k bt176.1 bt176.2.1 bt176.2.2 bt181.1 bt181.2.1 bt181.2.2).bind fun bt186 => ((laws_toBoard.f k a0_0 a0_1 l0_2).bind fun bt193 => ((laws_toBoard.f k a1_0 a1_1 l1_2).bind fun bt199 => ((impl_MeetOf.f bt193.1 bt193.2.1 bt193.2.2 bt199.1 bt199.2.1 bt199.2.2).bind fun bt205 => ((laws_eqBoard.f k bt205.1 bt205.2.1 bt205.2.2.1 bt186.1 bt186.2.1 bt186.2.2.1).bind fun t212 => (if t212 = true then (laws_FnExactMeetOf.j0 k bt186.2.2.2 bt205.2.2.2 (bt205.2.2.2 != bt186.2.2.2) a0_0 a0_1 l0_2 a1_0 a1_1 l1_2 bt186.1 bt186.2.1 bt186.2.2.1 bt193.1 bt193.2.1 bt193.2.2 bt199.1 bt199.2.1 bt199.2.2 bt205.1 bt205.2.1 bt205.2.2.1) else (laws_FnExactMeetOf.j0 k bt186.2.2.2 bt205.2.2.2 true a0_0 a0_1 l0_2 a1_0 a1_1 l1_2 bt186.1 bt186.2.1 bt186.2.2.1 bt193.1 bt193.2.1 bt193.2.2 bt199.1 bt199.2.1 bt199.2.2 bt205.1 bt205.2.1 bt205.2.2.1)))))))))) = some true := H
  have A10 := Aside0.mk A100
  clear A100
  by_cases c11 : t175 < 0
  ·
   rw [if_pos c11] at H
   have c11b0 : decide (t175 < 0) = true := decide_eq_true c11
   clear c11 H
   go_enter Try.func8, Try.ntmps8
   go_wp2_with (first | ((with_reducible refine gate_dst (N := 2) rfl ?_); refine box_event ?hg (N := 2) ?hd (cs := #[.int .i64 a0_0, .int .i64 a0_1, .slice A0_2 l0_2.length c0_2]) (t := 24) ?hr ?_; (case hd => rfl); (case hg => rfl); (case hr => first | (go_simp; done) | (go_simp; rfl)); intro gb172 hg w12 hbox hb; have n0_ := am (below_step (by repeat with_reducible first | exact HB.out | apply pw_below_drewN | apply below_drew1) hb); have n1_ := am (hbox); have n2_ := am ((by rw [hg]; exact (below_size (by repeat with_reducible first | exact HB.out | apply pw_below_drewN | apply below_drew1)) : w.heap.size ≤ gb172)); have n3_ := am ((by rw [hg]; exact (below_size (by repeat with_reducible first | exact HB.out | apply pw_below_drewN | apply below_drew1)) : w.heap.size ≤ gb172)); clear HB; have HB := n0_; have BK172 := n1_; have GW172 := n2_; have GE172 := n3_; clear n0_ n1_ n2_ n3_; clear hb hbox hg) | ((with_reducible refine gate_dst (N := 3) rfl ?_); refine box_event ?hg (N := 3) ?hd (cs := #[.int .i64 a1_0, .int .i64 a1_1, .slice A1_2 l1_2.length c1_2]) (t := 24) ?hr ?_; (case hd => rfl); (case hg => rfl); (case hr => first | (go_simp; done) | (go_simp; rfl)); intro gb173 hg w13 hbox hb; have n1_ := am (below_step (by repeat with_reducible first | exact HB.out | apply pw_below_drewN | apply below_drew1 | refine below_set ?_ GE172.out) hb); have n2_ := am (hbox); have n3_ := am ((by rw [hg]; exact (below_size (by repeat with_reducible first | exact HB.out | apply pw_below_drewN | apply below_drew1 | refine below_set ?_ GE172.out)) : w.heap.size ≤ gb173)); have n4_ := am ((by rw [hg]; exact (below_size (by repeat with_reducible first | exact HB.out | apply pw_below_drewN | apply below_drew1 | refine below_set ?_ GE172.out)) : w.heap.size ≤ gb173)); have n5_ := am ((by rw [hg]; exact Nat.ne_of_lt (sqT BK172) : gb172 ≠ gb173)); have n6_ := am ((by rw [hg]; exact Nat.ne_of_gt (sqT BK172) : gb173 ≠ gb172)); clear HB; replace BK172 := sqB BK172 hb; have HB := n1_; have BK173 := n2_; have GW173 := n3_; have GE173 := n4_; have Nq0 := n5_; have Nq6 := n6_; clear n1_ n2_ n3_ n4_ n5_ n6_; clear hb hbox hg; have bq18 := Nq0.out; have cq18 := Nq6.out; have zq18 : w13.cell? ⟨gb172, 0, none⟩ = some (.int .i64 a0_0) := sqc BK172 0; have zq19 : w13.cell? ⟨gb172, 1, none⟩ = some (.int .i64 a0_1) := sqc BK172 1; have zq20 : w13.cell? ⟨gb172, 2, none⟩ = some (.slice A0_2 l0_2.length c0_2) := sqc BK172 2; have fq18 := blk_frozen BK172.out 0; have fq19 := blk_frozen BK172.out 1; have fq20 := blk_frozen BK172.out 2) | ((with_reducible refine gate_callee (f := 12) rfl ?_); refine goesL_ (some 19) rfl rfl Try.func12 (by kernel_rfl) rfl #[.agg #[.int .i64 a0_0, .int .i64 a0_1, .slice A0_2 l0_2.length c0_2], .int .i64 1048576] rfl (by (try simp only [List.map_toArray, List.map_cons, List.map_nil]); try rfl) ?_; (with_reducible refine (laws_szBoard.calls a0_0 a0_1 _ _ l0_2 1048576 t174 _ ?side1 ?side2 A3.out).mono ?_); (case side1 => repeat (first | exact (Kd.C_below HR0_2.out HB.out) | (with_reducible first | refine Kd.C_alloc ?_ _ | refine Kd.C_drewN ?_ _ | refine Kd.C_drew ?_))); (case side2 => exact HC0_2.out); rintro e w16 ⟨rfl, hb⟩; refine ⟨_, rfl, ?_⟩; have n2_ := am (below_step (by repeat with_reducible first | exact HB.out | apply pw_below_drewN | apply below_drew1 | refine below_set ?_ (Aside0.out (by assumption))) hb); clear HB; replace BK172 := sqB BK172 hb; replace BK173 := sqB BK173 hb; have HB := n2_; clear n2_; (try clear hb); (try clear hb2); (try clear hk); (try clear hi); have zq27 : w16.cell? ⟨gb173, 0, none⟩ = some (.int .i64 a1_0) := sqc BK173 0; have zq28 : w16.cell? ⟨gb173, 1, none⟩ = some (.int .i64 a1_1) := sqc BK173 1; have zq29 : w16.cell? ⟨gb173, 2, none⟩ = some (.slice A1_2 l1_2.length c1_2) := sqc BK173 2; have fq27 := blk_frozen BK173.out 0; have fq28 := blk_frozen BK173.out 1; have fq29 := blk_frozen BK173.out 2) | ((with_reducible refine gate_callee (f := 12) rfl ?_); refine goesL_ (some 24) rfl rfl Try.func12 (by kernel_rfl) rfl #[.agg #[.int .i64 a1_0, .int .i64 a1_1, .slice A1_2 l1_2.length c1_2], .int .i64 t174] rfl (by (try simp only [List.map_toArray, List.map_cons, List.map_nil]); try rfl) ?_; (with_reducible refine (laws_szBoard.calls a1_0 a1_1 _ _ l1_2 t174 t175 _ ?side1 ?side2 A10.out).mono ?_); (case side1 => repeat (first | exact (Kd.C_below HR1_2.out HB.out) | (with_reducible first | refine Kd.C_alloc ?_ _ | refine Kd.C_drewN ?_ _ | refine Kd.C_drew ?_))); (case side2 => exact HC1_2.out); rintro e w18 ⟨rfl, hb⟩; refine ⟨_, rfl, ?_⟩; have n2_ := am (below_step (by repeat with_reducible first | exact HB.out | apply pw_below_drewN | apply below_drew1 | refine below_set ?_ (Aside0.out (by assumption))) hb); clear HB; replace BK172 := sqB BK172 hb; replace BK173 := sqB BK173 hb; have HB := n2_; clear n2_; (try clear hb); (try clear hb2); (try clear hk); (try clear hi)))
   go_ret
   exact ⟨by first | rfl | (simp [errW_none, errW_some] <;> rfl) | (simp [*, errW_none, errW_some] <;> rfl), by repeat with_reducible first | exact HB.out | apply pw_below_drewN | apply below_drew1 | refine below_set ?_ (Aside0.out (by assumption))⟩
  ·
   rw [if_neg c11] at H
   have c11b0 : decide (t175 < 0) = false := decide_eq_false c11
   clear c11
   replace H := Option.bind_eq_some_iff.mp H
   obtain ⟨⟨t176, t177, t178⟩, A190, H⟩ := H
   replace H : ((laws_toBoard.f k a1_0 a1_1 l1_2).bind fun bt181 => ((spec_MeetOf.f k t176 t177 t178 bt181.1 bt181.2.1 bt181.2.2).bind fun bt186 => ((laws_toBoard.f k a0_0 a0_1 l0_2).bind fun bt193 => ((laws_toBoard.f k a1_0 a1_1 l1_2).bind fun bt199 => ((impl_MeetOf.f bt193.1 bt193.2.1 bt193.2.2 bt199.1 bt199.2.1 bt199.2.2).bind fun bt205 => ((laws_eqBoard.f k bt205.1 bt205.2.1 bt205.2.2.1 bt186.1 bt186.2.1 bt186.2.2.1).bind fun t212 => (if t212 = true then (laws_FnExactMeetOf.j0 k bt186.2.2.2 bt205.2.2.2 (bt205.2.2.2 != bt186.2.2.2) a0_0 a0_1 l0_2 a1_0 a1_1 l1_2 bt186.1 bt186.2.1 bt186.2.2.1 bt193.1 bt193.2.1 bt193.2.2 bt199.1 bt199.2.1 bt199.2.2 bt205.1 bt205.2.1 bt205.2.2.1) else (laws_FnExactMeetOf.j0 k bt186.2.2.2 bt205.2.2.2 true a0_0 a0_1 l0_2 a1_0 a1_1 l1_2 bt186.1 bt186.2.1 bt186.2.2.1 bt193.1 bt193.2.1 bt193.2.2 bt199.1 bt199.2.1 bt199.2.2 bt205.1 bt205.2.1 bt205.2.2.1)))))))) = some true := H
   have A19 := Aside0.mk A190
   clear A190
   replace H := Option.bind_eq_some_iff.mp H
   obtain ⟨⟨t181, t182, t183⟩, A200, H⟩ := H
   replace H : ((spec_MeetOf.f k t176 t177 t178 t181 t182 t183).bind fun bt186 => ((laws_toBoard.f k a0_0 a0_1 l0_2).bind fun bt193 => ((laws_toBoard.f k a1_0 a1_1 l1_2).bind fun bt199 => ((impl_MeetOf.f bt193.1 bt193.2.1 bt193.2.2 bt199.1 bt199.2.1 bt199.2.2).bind fun bt205 => ((laws_eqBoard.f k bt205.1 bt205.2.1 bt205.2.2.1 bt186.1 bt186.2.1 bt186.2.2.1).bind fun t212 => (if t212 = true then (laws_FnExactMeetOf.j0 k bt186.2.2.2 bt205.2.2.2 (bt205.2.2.2 != bt186.2.2.2) a0_0 a0_1 l0_2 a1_0 a1_1 l1_2 bt186.1 bt186.2.1 bt186.2.2.1 bt193.1 bt193.2.1 bt193.2.2 bt199.1 bt199.2.1 bt199.2.2 bt205.1 bt205.2.1 bt205.2.2.1) else (laws_FnExactMeetOf.j0 k bt186.2.2.2 bt205.2.2.2 true a0_0 a0_1 l0_2 a1_0 a1_1 l1_2 bt186.1 bt186.2.1 bt186.2.2.1 bt193.1 bt193.2.1 bt193.2.2 bt199.1 bt199.2.1 bt199.2.2 bt205.1 bt205.2.1 bt205.2.2.1))))))) = some true := H
   have A20 := Aside0.mk A200
   clear A200
   replace H := Option.bind_eq_some_iff.mp H
   obtain ⟨⟨t186, t187, t188, t191⟩, A210, H⟩ := H
   replace H : ((laws_toBoard.f k a0_0 a0_1 l0_2).bind fun bt193 => ((laws_toBoard.f k a1_0 a1_1 l1_2).bind fun bt199 => ((impl_MeetOf.f bt193.1 bt193.2.1 bt193.2.2 bt199.1 bt199.2.1 bt199.2.2).bind fun bt205 => ((laws_eqBoard.f k bt205.1 bt205.2.1 bt205.2.2.1 t186 t187 t188).bind fun t212 => (if t212 = true then (laws_FnExactMeetOf.j0 k t191 bt205.2.2.2 (bt205.2.2.2 != t191) a0_0 a0_1 l0_2 a1_0 a1_1 l1_2 t186 t187 t188 bt193.1 bt193.2.1 bt193.2.2 bt199.1 bt199.2.1 bt199.2.2 bt205.1 bt205.2.1 bt205.2.2.1) else (laws_FnExactMeetOf.j0 k t191 bt205.2.2.2 true a0_0 a0_1 l0_2 a1_0 a1_1 l1_2 t186 t187 t188 bt193.1 bt193.2.1 bt193.2.2 bt199.1 bt199.2.1 bt199.2.2 bt205.1 bt205.2.1 bt205.2.2.1)))))) = some true := H
   have A21 := Aside0.mk A210
   clear A210
   replace H := Option.bind_eq_some_iff.mp H
   obtain ⟨⟨t193, t194, t195⟩, A220, H⟩ := H
   replace H : ((laws_toBoard.f k a1_0 a1_1 l1_2).bind fun bt199 => ((impl_MeetOf.f t193 t194 t195 bt199.1 bt199.2.1 bt199.2.2).bind fun bt205 => ((laws_eqBoard.f k bt205.1 bt205.2.1 bt205.2.2.1 t186 t187 t188).bind fun t212 => (if t212 = true then (laws_FnExactMeetOf.j0 k t191 bt205.2.2.2 (bt205.2.2.2 != t191) a0_0 a0_1 l0_2 a1_0 a1_1 l1_2 t186 t187 t188 t193 t194 t195 bt199.1 bt199.2.1 bt199.2.2 bt205.1 bt205.2.1 bt205.2.2.1) else (laws_FnExactMeetOf.j0 k t191 bt205.2.2.2 true a0_0 a0_1 l0_2 a1_0 a1_1 l1_2 t186 t187 t188 t193 t194 t195 bt199.1 bt199.2.1 bt199.2.2 bt205.1 bt205.2.1 bt205.2.2.1))))) = some true := H
   have A22 := Aside0.mk A220
   clear A220
   replace H := Option.bind_eq_some_iff.mp H
   obtain ⟨⟨t199, t200, t201⟩, A230, H⟩ := H
   replace H : ((impl_MeetOf.f t193 t194 t195 t199 t200 t201).bind fun bt205 => ((laws_eqBoard.f k bt205.1 bt205.2.1 bt205.2.2.1 t186 t187 t188).bind fun t212 => (if t212 = true then (laws_FnExactMeetOf.j0 k t191 bt205.2.2.2 (bt205.2.2.2 != t191) a0_0 a0_1 l0_2 a1_0 a1_1 l1_2 t186 t187 t188 t193 t194 t195 t199 t200 t201 bt205.1 bt205.2.1 bt205.2.2.1) else (laws_FnExactMeetOf.j0 k t191 bt205.2.2.2 true a0_0 a0_1 l0_2 a1_0 a1_1 l1_2 t186 t187 t188 t193 t194 t195 t199 t200 t201 bt205.1 bt205.2.1 bt205.2.2.1)))) = some true := H
   have A23 := Aside0.mk A230
   clear A230
   replace H := Option.bind_eq_some_iff.mp H
   obtain ⟨⟨t205, t206, t207, t210⟩, A240, H⟩ := H
   replace H : ((laws_eqBoard.f k t205 t206 t207 t186 t187 t188).bind fun t212 => (if t212 = true then (laws_FnExactMeetOf.j0 k t191 t210 (t210 != t191) a0_0 a0_1 l0_2 a1_0 a1_1 l1_2 t186 t187 t188 t193 t194 t195 t199 t200 t201 t205 t206 t207) else (laws_FnExactMeetOf.j0 k t191 t210 true a0_0 a0_1 l0_2 a1_0 a1_1 l1_2 t186 t187 t188 t193 t194 t195 t199 t200 t201 t205 t206 t207))) = some true := H
   have A24 := Aside0.mk A240
   clear A240
   have HC25 := Aside0.mk H
   clear H
   go_enter Try.func8, Try.ntmps8
   try go_wp2_with (first | ((with_reducible refine gate_dst (N := 2) rfl ?_); refine box_event ?hg (N := 2) ?hd (cs := #[.int .i64 a0_0, .int .i64 a0_1, .slice A0_2 l0_2.length c0_2]) (t := 24) ?hr ?_; (case hd => rfl); (case hg => rfl); (case hr => first | (go_simp; done) | (go_simp; rfl)); intro gb172 hg w26 hbox hb; have n0_ := am (below_step (by repeat with_reducible first | exact HB.out | apply pw_below_drewN | apply below_drew1) hb); have n1_ := am (hbox); have n2_ := am ((by rw [hg]; exact (below_size (by repeat with_reducible first | exact HB.out | apply pw_below_drewN | apply below_drew1)) : w.heap.size ≤ gb172)); have n3_ := am ((by rw [hg]; exact (below_size (by repeat with_reducible first | exact HB.out | apply pw_below_drewN | apply below_drew1)) : w.heap.size ≤ gb172)); clear HB; have HB := n0_; have BK172 := n1_; have GW172 := n2_; have GE172 := n3_; clear n0_ n1_ n2_ n3_; clear hb hbox hg) | ((with_reducible refine gate_dst (N := 3) rfl ?_); refine box_event ?hg (N := 3) ?hd (cs := #[.int .i64 a1_0, .int .i64 a1_1, .slice A1_2 l1_2.length c1_2]) (t := 24) ?hr ?_; (case hd => rfl); (case hg => rfl); (case hr => first | (go_simp; done) | (go_simp; rfl)); intro gb173 hg w27 hbox hb; have n1_ := am (below_step (by repeat with_reducible first | exact HB.out | apply pw_below_drewN | apply below_drew1 | refine below_set ?_ GE172.out) hb); have n2_ := am (hbox); have n3_ := am ((by rw [hg]; exact (below_size (by repeat with_reducible first | exact HB.out | apply pw_below_drewN | apply below_drew1 | refine below_set ?_ GE172.out)) : w.heap.size ≤ gb173)); have n4_ := am ((by rw [hg]; exact (below_size (by repeat with_reducible first | exact HB.out | apply pw_below_drewN | apply below_drew1 | refine below_set ?_ GE172.out)) : w.heap.size ≤ gb173)); have n5_ := am ((by rw [hg]; exact Nat.ne_of_lt (sqT BK172) : gb172 ≠ gb173)); have n6_ := am ((by rw [hg]; exact Nat.ne_of_gt (sqT BK172) : gb173 ≠ gb172)); clear HB; replace BK172 := sqB BK172 hb; have HB := n1_; have BK173 := n2_; have GW173 := n3_; have GE173 := n4_; have Nq0 := n5_; have Nq6 := n6_; clear n1_ n2_ n3_ n4_ n5_ n6_; clear hb hbox hg; have bq41 := Nq0.out; have cq41 := Nq6.out; have zq33 : w27.cell? ⟨gb172, 0, none⟩ = some (.int .i64 a0_0) := sqc BK172 0; have zq34 : w27.cell? ⟨gb172, 1, none⟩ = some (.int .i64 a0_1) := sqc BK172 1; have zq35 : w27.cell? ⟨gb172, 2, none⟩ = some (.slice A0_2 l0_2.length c0_2) := sqc BK172 2; have fq33 := blk_frozen BK172.out 0; have fq34 := blk_frozen BK172.out 1; have fq35 := blk_frozen BK172.out 2) | ((with_reducible refine gate_callee (f := 12) rfl ?_); refine goesL_ (some 19) rfl rfl Try.func12 (by kernel_rfl) rfl #[.agg #[.int .i64 a0_0, .int .i64 a0_1, .slice A0_2 l0_2.length c0_2], .int .i64 1048576] rfl (by (try simp only [List.map_toArray, List.map_cons, List.map_nil]); try rfl) ?_; (with_reducible refine (laws_szBoard.calls a0_0 a0_1 _ _ l0_2 1048576 t174 _ ?side1 ?side2 A3.out).mono ?_); (case side1 => repeat (first | exact (Kd.C_below HR0_2.out HB.out) | (with_reducible first | refine Kd.C_alloc ?_ _ | refine Kd.C_drewN ?_ _ | refine Kd.C_drew ?_))); (case side2 => exact HC0_2.out); rintro e w30 ⟨rfl, hb⟩; refine ⟨_, rfl, ?_⟩; have n2_ := am (below_step (by repeat with_reducible first | exact HB.out | apply pw_below_drewN | apply below_drew1 | refine below_set ?_ (Aside0.out (by assumption))) hb); clear HB; replace BK172 := sqB BK172 hb; replace BK173 := sqB BK173 hb; have HB := n2_; clear n2_; (try clear hb); (try clear hb2); (try clear hk); (try clear hi); have zq36 : w30.cell? ⟨gb173, 0, none⟩ = some (.int .i64 a1_0) := sqc BK173 0; have zq37 : w30.cell? ⟨gb173, 1, none⟩ = some (.int .i64 a1_1) := sqc BK173 1; have zq38 : w30.cell? ⟨gb173, 2, none⟩ = some (.slice A1_2 l1_2.length c1_2) := sqc BK173 2; have fq36 := blk_frozen BK173.out 0; have fq37 := blk_frozen BK173.out 1; have fq38 := blk_frozen BK173.out 2) | ((with_reducible refine gate_callee (f := 12) rfl ?_); refine goesL_ (some 24) rfl rfl Try.func12 (by kernel_rfl) rfl #[.agg #[.int .i64 a1_0, .int .i64 a1_1, .slice A1_2 l1_2.length c1_2], .int .i64 t174] rfl (by (try simp only [List.map_toArray, List.map_cons, List.map_nil]); try rfl) ?_; (with_reducible refine (laws_szBoard.calls a1_0 a1_1 _ _ l1_2 t174 t175 _ ?side1 ?side2 A10.out).mono ?_); (case side1 => repeat (first | exact (Kd.C_below HR1_2.out HB.out) | (with_reducible first | refine Kd.C_alloc ?_ _ | refine Kd.C_drewN ?_ _ | refine Kd.C_drew ?_))); (case side2 => exact HC1_2.out); rintro e w32 ⟨rfl, hb⟩; refine ⟨_, rfl, ?_⟩; have n2_ := am (below_step (by repeat with_reducible first | exact HB.out | apply pw_below_drewN | apply below_drew1 | refine below_set ?_ (Aside0.out (by assumption))) hb); clear HB; replace BK172 := sqB BK172 hb; replace BK173 := sqB BK173 hb; have HB := n2_; clear n2_; (try clear hb); (try clear hb2); (try clear hk); (try clear hi)))
   have n0_ := am (blk_drew BK172.out)
   have n1_ := am (blk_drew BK173.out)
   have n2_ := am (below_drew1 HB.out)
   clear BK172 BK173 HB
   have BK172 := n0_
   have BK173 := n1_
   have HB := n2_
   clear n0_ n1_ n2_
   refine start_ (n := 11) (S := fun w' => w'.cell? ⟨gb172, 0, none⟩ = some (.int .i64 a0_0) ∧ w'.cell? ⟨gb172, 1, none⟩ = some (.int .i64 a0_1) ∧ w'.cell? ⟨gb172, 2, none⟩ = some (.slice A0_2 l0_2.length c0_2) ∧ w'.cell? ⟨gb173, 0, none⟩ = some (.int .i64 a1_0) ∧ w'.cell? ⟨gb173, 1, none⟩ = some (.int .i64 a1_1) ∧ w'.cell? ⟨gb173, 2, none⟩ = some (.slice A1_2 l1_2.length c1_2)) (ds := []) #[false, false, false, false, false, false, false, false, false, false, false] (by kernel_rfl) rfl rfl ⟨sqc BK172 0, sqc BK172 1, sqc BK172 2, sqc BK173 0, sqc BK173 1, sqc BK173 2⟩ (fun hHeld => ?_); refine with_tabW laws_FnExactMeetOf.tab8 laws_FnExactMeetOf.bits8 (fun HT_ HW_ => ?_)
   generalize w32.drew = w33 at BK172 BK173 HB hHeld ⊢
   refine take_ (i := 0) (N := some 28) (v := ?_) (a' := ?_) #[true, false, false, false, false, false, false, false, false, false, false] rfl rfl (take_ofW HT_.out HW_.out (by kernel_rfl)) (fun _ _ _ h => h) (Or.inl ⟨by rfl, ?_⟩) hHeld ?_ ?_
   rotate_left
   ·
    rintro w' ⟨s0, s1, s2, s3, s4, s5⟩
    go_simp
    with_reducible rfl
   rotate_left
   ·
    simp only [Act.put, List.setIfInBounds_toArray, List.set_cons_zero, List.set_cons_succ, i64_w, i32_w]
    rfl
   refine take_ (i := 2) (N := some 30) (v := ?_) (a' := ?_) #[true, false, true, false, false, false, false, false, false, false, false] rfl rfl (take_ofW HT_.out HW_.out (by kernel_rfl)) (fun _ _ _ h => h) (Or.inl ⟨by rfl, ?_⟩) hHeld ?_ ?_
   rotate_left
   ·
    rintro w' ⟨s0, s1, s2, s3, s4, s5⟩
    go_simp
    with_reducible rfl
   rotate_left
   ·
    simp only [Act.put, List.setIfInBounds_toArray, List.set_cons_zero, List.set_cons_succ, i64_w, i32_w]
    rfl
   refine join_ (σ := Value × Value × Value × Nat) 2 #[true, true, true, true, true, true, true, true, true, false, false] (fun s_ => [(29, .agg #[.int .i64 t176, .int .i64 t177, s_.1]), (31, .agg #[.int .i64 t181, .int .i64 t182, s_.2.1]), (32, .tuple #[.agg #[.int .i64 t186, .int .i64 t187, s_.2.2.1], .bool t191]), (6, .pointer (some ⟨s_.2.2.2, 0, none⟩)), (27, .tuple #[.agg #[.int .i64 t186, .int .i64 t187, s_.2.2.1], .bool t191]), (33, .agg #[.int .i64 t186, .int .i64 t187, s_.2.2.1]), (34, .bool t191)]) (fun s_ w' => (w'.cell? ⟨gb172, 0, none⟩ = some (.int .i64 a0_0) ∧ w'.cell? ⟨gb172, 1, none⟩ = some (.int .i64 a0_1) ∧ w'.cell? ⟨gb172, 2, none⟩ = some (.slice A0_2 l0_2.length c0_2) ∧ w'.cell? ⟨gb173, 0, none⟩ = some (.int .i64 a1_0) ∧ w'.cell? ⟨gb173, 1, none⟩ = some (.int .i64 a1_1) ∧ w'.cell? ⟨gb173, 2, none⟩ = some (.slice A1_2 l1_2.length c1_2)) ∧ (Kd.R (Kd.int .i64) 3 w' w.heap.size (fun k_ => some k_ ≠ (s_.2.1 : Value).ownBlock ∧ some k_ ≠ (s_.2.2.1 : Value).ownBlock) s_.1 t178) ∧ (Kd.R (Kd.int .i64) 3 w' w.heap.size (fun k_ => some k_ ≠ (s_.1 : Value).ownBlock ∧ some k_ ≠ (s_.2.2.1 : Value).ownBlock) s_.2.1 t183) ∧ (Kd.R (Kd.int .i64) 3 w' w.heap.size (fun k_ => some k_ ≠ (s_.1 : Value).ownBlock ∧ some k_ ≠ (s_.2.1 : Value).ownBlock) s_.2.2.1 t188) ∧ (w'.heap[gb172]? = some (.cells #[.int .i64 a0_0, .int .i64 a0_1, .slice A0_2 l0_2.length c0_2] 24 (0, 0))) ∧ (w'.heap[gb173]? = some (.cells #[.int .i64 a1_0, .int .i64 a1_1, .slice A1_2 l1_2.length c1_2] 24 (0, 0))) ∧ (w'.heap[s_.2.2.2]? = some (.cells #[.int .i64 0, .int .i64 0, .slice none 0 0] 26 (0, 0))) ∧ (w.heap.size ≤ s_.2.2.2) ∧ (w.heap.size ≤ s_.2.2.2) ∧ (gb172 ≠ s_.2.2.2) ∧ (s_.2.2.2 ≠ gb172) ∧ (gb173 ≠ s_.2.2.2) ∧ (s_.2.2.2 ≠ gb173) ∧ (Below w.heap.size w w')) ?_ ?_
   rotate_left
   ·
    intro hCont
    refine two_ (i := 1) (j := 8) (Ni := some 29) (Nj := some 6) #[true, true, true, false, false, false, false, false, false, false, false] #[true, false, true, false, false, false, false, false, true, false, false] rfl rfl rfl rfl (two_of HT_.out (by kernel_rfl)) (by decide) (by decide) (fun K hK => ?_) (fun K hK => ?_)
    ·
     skip
     refine goes_ Try.func14 (by kernel_rfl) rfl #[.agg #[.int .i64 a0_0, .int .i64 a0_1, .slice A0_2 l0_2.length c0_2]] (by rfl) rfl rfl (by (try simp only [List.map_toArray, List.map_cons, List.map_nil]); try rfl) ?_
     with_reducible refine (laws_toBoard.calls k a0_0 a0_1 _ _ l0_2 t176 t177 t178 _ ?side1 ?side2 A19.out).mono ?_
     (case side1 => repeat (first | exact (Kd.C_below HR0_2.out HB.out) | (with_reducible first | refine Kd.C_alloc ?_ _ | refine Kd.C_drewN ?_ _ | refine Kd.C_drew ?_)))
     (case side2 => exact HC0_2.out)
     rintro e w34 ⟨v179, rfl, ho0, hb⟩
     refine ⟨_, rfl, ?_⟩
     have n0_ := am (Kd.R_lower ho0 (below_size (by repeat with_reducible first | exact HB.out | apply pw_below_drewN | apply below_drew1 | refine below_set ?_ (Aside0.out (by assumption)))))
     have n3_ := am (below_step (by repeat with_reducible first | exact HB.out | apply pw_below_drewN | apply below_drew1 | refine below_set ?_ (Aside0.out (by assumption))) hb)
     clear HB
     have Oq0 := n0_
     replace BK172 := sqB BK172 hb
     replace BK173 := sqB BK173 hb
     have HB := n3_
     clear n0_ n3_
     (try clear hb)
     (try clear hb2)
     (try clear hk)
     (try clear hi)
     (try clear ho0)
     refine hK.out _ _ ⟨sqc BK172 0, sqc BK172 1, sqc BK172 2, sqc BK173 0, sqc BK173 1, sqc BK173 2⟩ (fun hHeld => ?_)
     clear hK K
     refine norm_ (a' := ?_) ?_ ?_
     rotate_left
     ·
      show Act.put _ (some 29) _ = _
      simp only [Act.put, List.setIfInBounds_toArray, List.set_cons_zero, List.set_cons_succ, i64_w, i32_w]
      rfl
     refine two_ (i := 3) (j := 8) (Ni := some 31) (Nj := some 6) #[true, true, true, true, false, false, false, false, false, false, false] #[true, true, true, false, false, false, false, false, true, false, false] rfl rfl rfl rfl (two_of HT_.out (by kernel_rfl)) (by decide) (by decide) (fun K hK => ?_) (fun K hK => ?_)
     ·
      skip
      refine goes_ Try.func14 (by kernel_rfl) rfl #[.agg #[.int .i64 a1_0, .int .i64 a1_1, .slice A1_2 l1_2.length c1_2]] (by rfl) rfl rfl (by (try simp only [List.map_toArray, List.map_cons, List.map_nil]); try rfl) ?_
      with_reducible refine (laws_toBoard.calls k a1_0 a1_1 _ _ l1_2 t181 t182 t183 _ ?side1 ?side2 A20.out).mono ?_
      (case side1 => repeat (first | exact (Kd.C_below HR1_2.out HB.out) | (with_reducible first | refine Kd.C_alloc ?_ _ | refine Kd.C_drewN ?_ _ | refine Kd.C_drew ?_)))
      (case side2 => exact HC1_2.out)
      rintro e w35 ⟨v184, rfl, ho0, hb⟩
      refine ⟨_, rfl, ?_⟩
      have n1_ := am (Kd.R_lower (Kd.R_new' ho0 (sqL Oq0)) (below_size (by repeat with_reducible first | exact HB.out | apply pw_below_drewN | apply below_drew1 | refine below_set ?_ (Aside0.out (by assumption)))))
      have n4_ := am (below_step (by repeat with_reducible first | exact HB.out | apply pw_below_drewN | apply below_drew1 | refine below_set ?_ (Aside0.out (by assumption))) hb)
      clear HB
      replace Oq0 := sqE Oq0 ho0 hb
      have Oq1 := n1_
      replace BK172 := sqB BK172 hb
      replace BK173 := sqB BK173 hb
      have HB := n4_
      clear n1_ n4_
      (try clear hb)
      (try clear hb2)
      (try clear hk)
      (try clear hi)
      (try clear ho0)
      obtain ⟨Ao36, co36, eo36⟩ := Kd.R_slice Oq0.out
      (first | subst eo36 | (injection eo36 with f1_ f2_ f3_; have f4_ := f1_.symm; have f5_ := f3_.symm; clear f1_ f2_ f3_; subst f4_; subst f5_))
      obtain ⟨Ao37, co37, eo37⟩ := Kd.R_slice Oq1.out
      (first | subst eo37 | (injection eo37 with f1_ f2_ f3_; have f4_ := f1_.symm; have f5_ := f3_.symm; clear f1_ f2_ f3_; subst f4_; subst f5_))
      refine hK.out _ _ ⟨sqc BK172 0, sqc BK172 1, sqc BK172 2, sqc BK173 0, sqc BK173 1, sqc BK173 2⟩ (fun hHeld => ?_)
      clear hK K
      refine norm_ (a' := ?_) ?_ ?_
      rotate_left
      ·
       show Act.put _ (some 31) _ = _
       simp only [Act.put, List.setIfInBounds_toArray, List.set_cons_zero, List.set_cons_succ, i64_w, i32_w]
       rfl
      refine two_ (i := 4) (j := 8) (Ni := some 32) (Nj := some 6) #[true, true, true, true, true, false, false, false, false, false, false] #[true, true, true, true, false, false, false, false, true, false, false] rfl rfl rfl rfl (two_of HT_.out (by kernel_rfl)) (by decide) (by decide) (fun K hK => ?_) (fun K hK => ?_)
      ·
       skip
       refine goes_ Try.func30 (by kernel_rfl) rfl #[.agg #[.int .i64 t176, .int .i64 t177, .slice Ao36 t178.length co36], .agg #[.int .i64 t181, .int .i64 t182, .slice Ao37 t183.length co37]] (by rfl) rfl rfl (by (try simp only [List.map_toArray, List.map_cons, List.map_nil]); try rfl) ?_
       with_reducible refine (spec_MeetOf.calls k t176 t177 _ _ t178 t181 t182 _ _ t183 t186 t187 t188 t191 _ ?side1 ?side2 ?side3 ?side4 A21.out).mono ?_
       (case side1 => repeat (first | exact (Kd.R_reads' Oq0.out).2.2 | (with_reducible first | refine Kd.C_alloc ?_ _ | refine Kd.C_drewN ?_ _ | refine Kd.C_drew ?_)))
       (case side2 => exact (Kd.R_reads' Oq0.out).2.1)
       (case side3 => repeat (first | exact (Kd.R_reads' Oq1.out).2.2 | (with_reducible first | refine Kd.C_alloc ?_ _ | refine Kd.C_drewN ?_ _ | refine Kd.C_drew ?_)))
       (case side4 => exact (Kd.R_reads' Oq1.out).2.1)
       rintro e w38 ⟨v189, rfl, ho0, hb⟩
       refine ⟨_, rfl, ?_⟩
       have n2_ := am (Kd.R_lower (Kd.R_new' (Kd.R_new' ho0 (sqL Oq0)) (sqL Oq1)) (below_size (by repeat with_reducible first | exact HB.out | apply pw_below_drewN | apply below_drew1 | refine below_set ?_ (Aside0.out (by assumption)))))
       have n5_ := am (below_step (by repeat with_reducible first | exact HB.out | apply pw_below_drewN | apply below_drew1 | refine below_set ?_ (Aside0.out (by assumption))) hb)
       clear HB
       replace Oq0 := sqE Oq0 ho0 hb
       replace Oq1 := sqE Oq1 ho0 hb
       have Oq2 := n2_
       replace BK172 := sqB BK172 hb
       replace BK173 := sqB BK173 hb
       have HB := n5_
       clear n2_ n5_
       (try clear hb)
       (try clear hb2)
       (try clear hk)
       (try clear hi)
       (try clear ho0)
       refine hK.out _ _ ⟨sqc BK172 0, sqc BK172 1, sqc BK172 2, sqc BK173 0, sqc BK173 1, sqc BK173 2⟩ (fun hHeld => ?_)
       clear hK K
       refine norm_ (a' := ?_) ?_ ?_
       rotate_left
       ·
        show Act.put _ (some 32) _ = _
        simp only [Act.put, List.setIfInBounds_toArray, List.set_cons_zero, List.set_cons_succ, i64_w, i32_w]
        rfl
       refine pure_ (i := 5) (N := some 27) (v := ?_) (a' := ?_) #[true, true, true, true, true, true, false, false, false, false, false] rfl rfl (any_of HT_.out (by kernel_rfl)) (fun _ _ _ h => h) (Or.inl ⟨by rfl, ?_⟩) ?_ ?_
       rotate_left
       ·
        intro w'
        go_simp
        with_reducible rfl
       rotate_left
       ·
        simp only [Act.put, List.setIfInBounds_toArray, List.set_cons_zero, List.set_cons_succ, i64_w, i32_w]
        rfl
       refine pure_ (i := 6) (N := some 33) (v := ?_) (a' := ?_) #[true, true, true, true, true, true, true, false, false, false, false] rfl rfl (any_of HT_.out (by kernel_rfl)) (fun _ _ _ h => h) (Or.inl ⟨by rfl, ?_⟩) ?_ ?_
       rotate_left
       ·
        intro w'
        go_simp
        with_reducible rfl
       rotate_left
       ·
        simp only [Act.put, List.setIfInBounds_toArray, List.set_cons_zero, List.set_cons_succ, i64_w, i32_w]
        rfl
       refine pure_ (i := 7) (N := some 34) (v := ?_) (a' := ?_) #[true, true, true, true, true, true, true, true, false, false, false] rfl rfl (any_of HT_.out (by kernel_rfl)) (fun _ _ _ h => h) (Or.inl ⟨by rfl, ?_⟩) ?_ ?_
       rotate_left
       ·
        intro w'
        go_simp
        with_reducible rfl
       rotate_left
       ·
        simp only [Act.put, List.setIfInBounds_toArray, List.set_cons_zero, List.set_cons_succ, i64_w, i32_w]
        rfl
       refine one_ (i := 8) (N := some 6) #[true, true, true, true, true, true, true, true, true, false, false] rfl rfl (one_of HT_.out (by kernel_rfl)) (by decide) (fun K hK => ?_)
       refine box_step ?hg (N := 6) ?hd (cs := #[.int .i64 0, .int .i64 0, .slice none 0 0]) (t := 26) ?hr ?_; (case hd => rfl); (case hg => rfl); (case hr => first | (go_simp; done) | (go_simp; rfl))
       intro gb192 hg w39 hbox hb
       have n5_ := am (below_step (by repeat with_reducible first | exact HB.out | apply pw_below_drewN | apply below_drew1 | refine below_set ?_ (Aside0.out (by assumption))) hb)
       have n6_ := am (hbox)
       have n7_ := am ((by rw [hg]; exact (below_size (by repeat with_reducible first | exact HB.out | apply pw_below_drewN | apply below_drew1 | refine below_set ?_ (Aside0.out (by assumption)))) : w.heap.size ≤ gb192))
       have n8_ := am ((by rw [hg]; exact (below_size (by repeat with_reducible first | exact HB.out | apply pw_below_drewN | apply below_drew1 | refine below_set ?_ (Aside0.out (by assumption)))) : w.heap.size ≤ gb192))
       have n9_ := am ((by rw [hg]; exact Nat.ne_of_lt (sqT BK172) : gb172 ≠ gb192))
       have n10_ := am ((by rw [hg]; exact Nat.ne_of_gt (sqT BK172) : gb192 ≠ gb172))
       have n11_ := am ((by rw [hg]; exact Nat.ne_of_lt (sqT BK173) : gb173 ≠ gb192))
       have n12_ := am ((by rw [hg]; exact Nat.ne_of_gt (sqT BK173) : gb192 ≠ gb173))
       clear HB
       replace Oq0 := sqR Oq0 hb
       replace Oq1 := sqR Oq1 hb
       replace Oq2 := sqR Oq2 hb
       replace BK172 := sqB BK172 hb
       replace BK173 := sqB BK173 hb
       have HB := n5_
       have BK192 := n6_
       have GW192 := n7_
       have GE192 := n8_
       have Nq1 := n9_
       have Nq12 := n10_
       have Nq7 := n11_
       have Nq13 := n12_
       clear n5_ n6_ n7_ n8_ n9_ n10_ n11_ n12_ hb hbox hg
       refine hK.out _ _ ⟨sqc BK172 0, sqc BK172 1, sqc BK172 2, sqc BK173 0, sqc BK173 1, sqc BK173 2⟩ (fun hHeld => ?_)
       clear hK K
       refine norm_ (a' := ?_) ?_ ?_
       rotate_left
       ·
        show Act.put _ (some 6) _ = _
        simp only [Act.put, List.setIfInBounds_toArray, List.set_cons_zero, List.set_cons_succ, i64_w, i32_w]
        rfl
       exact norm_ (by simp only [putAll, Act.put, List.setIfInBounds_toArray, List.set_cons_zero, List.set_cons_succ]) (hCont (.slice Ao36 t178.length co36, .slice Ao37 t183.length co37, v189, gb192) _ ⟨hHeld, (by exact sqm Oq0 (fun _ hk => ⟨hk.1.2, hk.2⟩)), (by exact sqm Oq1 (fun _ hk => ⟨hk.1.2, hk.2⟩)), (by exact sqm Oq2 (fun _ hk => ⟨hk.1.2, hk.2⟩)), (sqb BK172), (sqb BK173), (sqb BK192), GW192.out, GE192.out, Nq1.out, Nq12.out, Nq7.out, Nq13.out, (by repeat with_reducible first | exact HB.out | apply pw_below_drewN | apply below_drew1 | refine below_set ?_ (Aside0.out (by assumption)))⟩)
      ·
       skip
       refine box_step ?hg (N := 6) ?hd (cs := #[.int .i64 0, .int .i64 0, .slice none 0 0]) (t := 26) ?hr ?_; (case hd => rfl); (case hg => rfl); (case hr => first | (go_simp; done) | (go_simp; rfl))
       intro gb192 hg w36 hbox hb
       have n4_ := am (below_step (by repeat with_reducible first | exact HB.out | apply pw_below_drewN | apply below_drew1 | refine below_set ?_ (Aside0.out (by assumption))) hb)
       have n5_ := am (hbox)
       have n6_ := am ((by rw [hg]; exact (below_size (by repeat with_reducible first | exact HB.out | apply pw_below_drewN | apply below_drew1 | refine below_set ?_ (Aside0.out (by assumption)))) : w.heap.size ≤ gb192))
       have n7_ := am ((by rw [hg]; exact (below_size (by repeat with_reducible first | exact HB.out | apply pw_below_drewN | apply below_drew1 | refine below_set ?_ (Aside0.out (by assumption)))) : w.heap.size ≤ gb192))
       have n8_ := am ((by rw [hg]; exact Nat.ne_of_lt (sqT BK172) : gb172 ≠ gb192))
       have n9_ := am ((by rw [hg]; exact Nat.ne_of_gt (sqT BK172) : gb192 ≠ gb172))
       have n10_ := am ((by rw [hg]; exact Nat.ne_of_lt (sqT BK173) : gb173 ≠ gb192))
       have n11_ := am ((by rw [hg]; exact Nat.ne_of_gt (sqT BK173) : gb192 ≠ gb173))
       clear HB
       replace Oq0 := sqR Oq0 hb
       replace Oq1 := sqR Oq1 hb
       replace BK172 := sqB BK172 hb
       replace BK173 := sqB BK173 hb
       have HB := n4_
       have BK192 := n5_
       have GW192 := n6_
       have GE192 := n7_
       have Nq1 := n8_
       have Nq12 := n9_
       have Nq7 := n10_
       have Nq13 := n11_
       clear n4_ n5_ n6_ n7_ n8_ n9_ n10_ n11_ hb hbox hg
       obtain ⟨Ao37, co37, eo37⟩ := Kd.R_slice Oq0.out
       (first | subst eo37 | (injection eo37 with f1_ f2_ f3_; have f4_ := f1_.symm; have f5_ := f3_.symm; clear f1_ f2_ f3_; subst f4_; subst f5_))
       obtain ⟨Ao38, co38, eo38⟩ := Kd.R_slice Oq1.out
       (first | subst eo38 | (injection eo38 with f1_ f2_ f3_; have f4_ := f1_.symm; have f5_ := f3_.symm; clear f1_ f2_ f3_; subst f4_; subst f5_))
       refine hK.out _ _ ⟨sqc BK172 0, sqc BK172 1, sqc BK172 2, sqc BK173 0, sqc BK173 1, sqc BK173 2⟩ (fun hHeld => ?_)
       clear hK K
       refine norm_ (a' := ?_) ?_ ?_
       rotate_left
       ·
        show Act.put _ (some 6) _ = _
        simp only [Act.put, List.setIfInBounds_toArray, List.set_cons_zero, List.set_cons_succ, i64_w, i32_w]
        rfl
       refine one_ (i := 4) (N := some 32) #[true, true, true, true, true, false, false, false, true, false, false] rfl rfl (one_of HT_.out (by kernel_rfl)) (by decide) (fun K hK => ?_)
       refine goes_ Try.func30 (by kernel_rfl) rfl #[.agg #[.int .i64 t176, .int .i64 t177, .slice Ao37 t178.length co37], .agg #[.int .i64 t181, .int .i64 t182, .slice Ao38 t183.length co38]] (by rfl) rfl rfl (by (try simp only [List.map_toArray, List.map_cons, List.map_nil]); try rfl) ?_
       with_reducible refine (spec_MeetOf.calls k t176 t177 _ _ t178 t181 t182 _ _ t183 t186 t187 t188 t191 _ ?side1 ?side2 ?side3 ?side4 A21.out).mono ?_
       (case side1 => repeat (first | exact (Kd.R_reads' Oq0.out).2.2 | (with_reducible first | refine Kd.C_alloc ?_ _ | refine Kd.C_drewN ?_ _ | refine Kd.C_drew ?_)))
       (case side2 => exact (Kd.R_reads' Oq0.out).2.1)
       (case side3 => repeat (first | exact (Kd.R_reads' Oq1.out).2.2 | (with_reducible first | refine Kd.C_alloc ?_ _ | refine Kd.C_drewN ?_ _ | refine Kd.C_drew ?_)))
       (case side4 => exact (Kd.R_reads' Oq1.out).2.1)
       rintro e w39 ⟨v189, rfl, ho0, hb⟩
       refine ⟨_, rfl, ?_⟩
       have n2_ := am (Kd.R_lower (Kd.R_new' (Kd.R_new' ho0 (sqL Oq0)) (sqL Oq1)) (below_size (by repeat with_reducible first | exact HB.out | apply pw_below_drewN | apply below_drew1 | refine below_set ?_ (Aside0.out (by assumption)))))
       have n6_ := am (below_step (by repeat with_reducible first | exact HB.out | apply pw_below_drewN | apply below_drew1 | refine below_set ?_ (Aside0.out (by assumption))) hb)
       clear HB
       replace Oq0 := sqE Oq0 ho0 hb
       replace Oq1 := sqE Oq1 ho0 hb
       have Oq2 := n2_
       replace BK172 := sqB BK172 hb
       replace BK173 := sqB BK173 hb
       replace BK192 := sqB BK192 hb
       have HB := n6_
       clear n2_ n6_
       (try clear hb)
       (try clear hb2)
       (try clear hk)
       (try clear hi)
       (try clear ho0)
       refine hK.out _ _ ⟨sqc BK172 0, sqc BK172 1, sqc BK172 2, sqc BK173 0, sqc BK173 1, sqc BK173 2⟩ (fun hHeld => ?_)
       clear hK K
       refine norm_ (a' := ?_) ?_ ?_
       rotate_left
       ·
        show Act.put _ (some 32) _ = _
        simp only [Act.put, List.setIfInBounds_toArray, List.set_cons_zero, List.set_cons_succ, i64_w, i32_w]
        rfl
       refine pure_ (i := 5) (N := some 27) (v := ?_) (a' := ?_) #[true, true, true, true, true, true, false, false, true, false, false] rfl rfl (any_of HT_.out (by kernel_rfl)) (fun _ _ _ h => h) (Or.inl ⟨by rfl, ?_⟩) ?_ ?_
       rotate_left
       ·
        intro w'
        go_simp
        with_reducible rfl
       rotate_left
       ·
        simp only [Act.put, List.setIfInBounds_toArray, List.set_cons_zero, List.set_cons_succ, i64_w, i32_w]
        rfl
       refine pure_ (i := 6) (N := some 33) (v := ?_) (a' := ?_) #[true, true, true, true, true, true, true, false, true, false, false] rfl rfl (any_of HT_.out (by kernel_rfl)) (fun _ _ _ h => h) (Or.inl ⟨by rfl, ?_⟩) ?_ ?_
       rotate_left
       ·
        intro w'
        go_simp
        with_reducible rfl
       rotate_left
       ·
        simp only [Act.put, List.setIfInBounds_toArray, List.set_cons_zero, List.set_cons_succ, i64_w, i32_w]
        rfl
       refine pure_ (i := 7) (N := some 34) (v := ?_) (a' := ?_) #[true, true, true, true, true, true, true, true, true, false, false] rfl rfl (any_of HT_.out (by kernel_rfl)) (fun _ _ _ h => h) (Or.inl ⟨by rfl, ?_⟩) ?_ ?_
       rotate_left
       ·
        intro w'
        go_simp
        with_reducible rfl
       rotate_left
       ·
        simp only [Act.put, List.setIfInBounds_toArray, List.set_cons_zero, List.set_cons_succ, i64_w, i32_w]
        rfl
       exact norm_ (by simp only [putAll, Act.put, List.setIfInBounds_toArray, List.set_cons_zero, List.set_cons_succ]) (hCont (.slice Ao37 t178.length co37, .slice Ao38 t183.length co38, v189, gb192) _ ⟨hHeld, (by exact sqm Oq0 (fun _ hk => ⟨hk.1.2, hk.2⟩)), (by exact sqm Oq1 (fun _ hk => ⟨hk.1.2, hk.2⟩)), (by exact sqm Oq2 (fun _ hk => ⟨hk.1.2, hk.2⟩)), (sqb BK172), (sqb BK173), (sqb BK192), GW192.out, GE192.out, Nq1.out, Nq12.out, Nq7.out, Nq13.out, (by repeat with_reducible first | exact HB.out | apply pw_below_drewN | apply below_drew1 | refine below_set ?_ (Aside0.out (by assumption)))⟩)
     ·
      skip
      refine box_step ?hg (N := 6) ?hd (cs := #[.int .i64 0, .int .i64 0, .slice none 0 0]) (t := 26) ?hr ?_; (case hd => rfl); (case hg => rfl); (case hr => first | (go_simp; done) | (go_simp; rfl))
      intro gb192 hg w35 hbox hb
      have n3_ := am (below_step (by repeat with_reducible first | exact HB.out | apply pw_below_drewN | apply below_drew1 | refine below_set ?_ (Aside0.out (by assumption))) hb)
      have n4_ := am (hbox)
      have n5_ := am ((by rw [hg]; exact (below_size (by repeat with_reducible first | exact HB.out | apply pw_below_drewN | apply below_drew1 | refine below_set ?_ (Aside0.out (by assumption)))) : w.heap.size ≤ gb192))
      have n6_ := am ((by rw [hg]; exact (below_size (by repeat with_reducible first | exact HB.out | apply pw_below_drewN | apply below_drew1 | refine below_set ?_ (Aside0.out (by assumption)))) : w.heap.size ≤ gb192))
      have n7_ := am ((by rw [hg]; exact Nat.ne_of_lt (sqT BK172) : gb172 ≠ gb192))
      have n8_ := am ((by rw [hg]; exact Nat.ne_of_gt (sqT BK172) : gb192 ≠ gb172))
      have n9_ := am ((by rw [hg]; exact Nat.ne_of_lt (sqT BK173) : gb173 ≠ gb192))
      have n10_ := am ((by rw [hg]; exact Nat.ne_of_gt (sqT BK173) : gb192 ≠ gb173))
      clear HB
      replace Oq0 := sqR Oq0 hb
      replace BK172 := sqB BK172 hb
      replace BK173 := sqB BK173 hb
      have HB := n3_
      have BK192 := n4_
      have GW192 := n5_
      have GE192 := n6_
      have Nq1 := n7_
      have Nq12 := n8_
      have Nq7 := n9_
      have Nq13 := n10_
      clear n3_ n4_ n5_ n6_ n7_ n8_ n9_ n10_ hb hbox hg
      refine hK.out _ _ ⟨sqc BK172 0, sqc BK172 1, sqc BK172 2, sqc BK173 0, sqc BK173 1, sqc BK173 2⟩ (fun hHeld => ?_)
      clear hK K
      refine norm_ (a' := ?_) ?_ ?_
      rotate_left
      ·
       show Act.put _ (some 6) _ = _
       simp only [Act.put, List.setIfInBounds_toArray, List.set_cons_zero, List.set_cons_succ, i64_w, i32_w]
       rfl
      refine one_ (i := 3) (N := some 31) #[true, true, true, true, false, false, false, false, true, false, false] rfl rfl (one_of HT_.out (by kernel_rfl)) (by decide) (fun K hK => ?_)
      refine goes_ Try.func14 (by kernel_rfl) rfl #[.agg #[.int .i64 a1_0, .int .i64 a1_1, .slice A1_2 l1_2.length c1_2]] (by rfl) rfl rfl (by (try simp only [List.map_toArray, List.map_cons, List.map_nil]); try rfl) ?_
      with_reducible refine (laws_toBoard.calls k a1_0 a1_1 _ _ l1_2 t181 t182 t183 _ ?side1 ?side2 A20.out).mono ?_
      (case side1 => repeat (first | exact (Kd.C_below HR1_2.out HB.out) | (with_reducible first | refine Kd.C_alloc ?_ _ | refine Kd.C_drewN ?_ _ | refine Kd.C_drew ?_)))
      (case side2 => exact HC1_2.out)
      rintro e w36 ⟨v184, rfl, ho0, hb⟩
      refine ⟨_, rfl, ?_⟩
      have n1_ := am (Kd.R_lower (Kd.R_new' ho0 (sqL Oq0)) (below_size (by repeat with_reducible first | exact HB.out | apply pw_below_drewN | apply below_drew1 | refine below_set ?_ (Aside0.out (by assumption)))))
      have n5_ := am (below_step (by repeat with_reducible first | exact HB.out | apply pw_below_drewN | apply below_drew1 | refine below_set ?_ (Aside0.out (by assumption))) hb)
      clear HB
      replace Oq0 := sqE Oq0 ho0 hb
      have Oq1 := n1_
      replace BK172 := sqB BK172 hb
      replace BK173 := sqB BK173 hb
      replace BK192 := sqB BK192 hb
      have HB := n5_
      clear n1_ n5_
      (try clear hb)
      (try clear hb2)
      (try clear hk)
      (try clear hi)
      (try clear ho0)
      obtain ⟨Ao37, co37, eo37⟩ := Kd.R_slice Oq0.out
      (first | subst eo37 | (injection eo37 with f1_ f2_ f3_; have f4_ := f1_.symm; have f5_ := f3_.symm; clear f1_ f2_ f3_; subst f4_; subst f5_))
      obtain ⟨Ao38, co38, eo38⟩ := Kd.R_slice Oq1.out
      (first | subst eo38 | (injection eo38 with f1_ f2_ f3_; have f4_ := f1_.symm; have f5_ := f3_.symm; clear f1_ f2_ f3_; subst f4_; subst f5_))
      refine hK.out _ _ ⟨sqc BK172 0, sqc BK172 1, sqc BK172 2, sqc BK173 0, sqc BK173 1, sqc BK173 2⟩ (fun hHeld => ?_)
      clear hK K
      refine norm_ (a' := ?_) ?_ ?_
      rotate_left
      ·
       show Act.put _ (some 31) _ = _
       simp only [Act.put, List.setIfInBounds_toArray, List.set_cons_zero, List.set_cons_succ, i64_w, i32_w]
       rfl
      refine one_ (i := 4) (N := some 32) #[true, true, true, true, true, false, false, false, true, false, false] rfl rfl (one_of HT_.out (by kernel_rfl)) (by decide) (fun K hK => ?_)
      refine goes_ Try.func30 (by kernel_rfl) rfl #[.agg #[.int .i64 t176, .int .i64 t177, .slice Ao37 t178.length co37], .agg #[.int .i64 t181, .int .i64 t182, .slice Ao38 t183.length co38]] (by rfl) rfl rfl (by (try simp only [List.map_toArray, List.map_cons, List.map_nil]); try rfl) ?_
      with_reducible refine (spec_MeetOf.calls k t176 t177 _ _ t178 t181 t182 _ _ t183 t186 t187 t188 t191 _ ?side1 ?side2 ?side3 ?side4 A21.out).mono ?_
      (case side1 => repeat (first | exact (Kd.R_reads' Oq0.out).2.2 | (with_reducible first | refine Kd.C_alloc ?_ _ | refine Kd.C_drewN ?_ _ | refine Kd.C_drew ?_)))
      (case side2 => exact (Kd.R_reads' Oq0.out).2.1)
      (case side3 => repeat (first | exact (Kd.R_reads' Oq1.out).2.2 | (with_reducible first | refine Kd.C_alloc ?_ _ | refine Kd.C_drewN ?_ _ | refine Kd.C_drew ?_)))
      (case side4 => exact (Kd.R_reads' Oq1.out).2.1)
      rintro e w39 ⟨v189, rfl, ho0, hb⟩
      refine ⟨_, rfl, ?_⟩
      have n2_ := am (Kd.R_lower (Kd.R_new' (Kd.R_new' ho0 (sqL Oq0)) (sqL Oq1)) (below_size (by repeat with_reducible first | exact HB.out | apply pw_below_drewN | apply below_drew1 | refine below_set ?_ (Aside0.out (by assumption)))))
      have n6_ := am (below_step (by repeat with_reducible first | exact HB.out | apply pw_below_drewN | apply below_drew1 | refine below_set ?_ (Aside0.out (by assumption))) hb)
      clear HB
      replace Oq0 := sqE Oq0 ho0 hb
      replace Oq1 := sqE Oq1 ho0 hb
      have Oq2 := n2_
      replace BK172 := sqB BK172 hb
      replace BK173 := sqB BK173 hb
      replace BK192 := sqB BK192 hb
      have HB := n6_
      clear n2_ n6_
      (try clear hb)
      (try clear hb2)
      (try clear hk)
      (try clear hi)
      (try clear ho0)
      refine hK.out _ _ ⟨sqc BK172 0, sqc BK172 1, sqc BK172 2, sqc BK173 0, sqc BK173 1, sqc BK173 2⟩ (fun hHeld => ?_)
      clear hK K
      refine norm_ (a' := ?_) ?_ ?_
      rotate_left
      ·
       show Act.put _ (some 32) _ = _
       simp only [Act.put, List.setIfInBounds_toArray, List.set_cons_zero, List.set_cons_succ, i64_w, i32_w]
       rfl
      refine pure_ (i := 5) (N := some 27) (v := ?_) (a' := ?_) #[true, true, true, true, true, true, false, false, true, false, false] rfl rfl (any_of HT_.out (by kernel_rfl)) (fun _ _ _ h => h) (Or.inl ⟨by rfl, ?_⟩) ?_ ?_
      rotate_left
      ·
       intro w'
       go_simp
       with_reducible rfl
      rotate_left
      ·
       simp only [Act.put, List.setIfInBounds_toArray, List.set_cons_zero, List.set_cons_succ, i64_w, i32_w]
       rfl
      refine pure_ (i := 6) (N := some 33) (v := ?_) (a' := ?_) #[true, true, true, true, true, true, true, false, true, false, false] rfl rfl (any_of HT_.out (by kernel_rfl)) (fun _ _ _ h => h) (Or.inl ⟨by rfl, ?_⟩) ?_ ?_
      rotate_left
      ·
       intro w'
       go_simp
       with_reducible rfl
      rotate_left
      ·
       simp only [Act.put, List.setIfInBounds_toArray, List.set_cons_zero, List.set_cons_succ, i64_w, i32_w]
       rfl
      refine pure_ (i := 7) (N := some 34) (v := ?_) (a' := ?_) #[true, true, true, true, true, true, true, true, true, false, false] rfl rfl (any_of HT_.out (by kernel_rfl)) (fun _ _ _ h => h) (Or.inl ⟨by rfl, ?_⟩) ?_ ?_
      rotate_left
      ·
       intro w'
       go_simp
       with_reducible rfl
      rotate_left
      ·
       simp only [Act.put, List.setIfInBounds_toArray, List.set_cons_zero, List.set_cons_succ, i64_w, i32_w]
       rfl
      exact norm_ (by simp only [putAll, Act.put, List.setIfInBounds_toArray, List.set_cons_zero, List.set_cons_succ]) (hCont (.slice Ao37 t178.length co37, .slice Ao38 t183.length co38, v189, gb192) _ ⟨hHeld, (by exact sqm Oq0 (fun _ hk => ⟨hk.1.2, hk.2⟩)), (by exact sqm Oq1 (fun _ hk => ⟨hk.1.2, hk.2⟩)), (by exact sqm Oq2 (fun _ hk => ⟨hk.1.2, hk.2⟩)), (sqb BK172), (sqb BK173), (sqb BK192), GW192.out, GE192.out, Nq1.out, Nq12.out, Nq7.out, Nq13.out, (by repeat with_reducible first | exact HB.out | apply pw_below_drewN | apply below_drew1 | refine below_set ?_ (Aside0.out (by assumption)))⟩)
    ·
     skip
     refine box_step ?hg (N := 6) ?hd (cs := #[.int .i64 0, .int .i64 0, .slice none 0 0]) (t := 26) ?hr ?_; (case hd => rfl); (case hg => rfl); (case hr => first | (go_simp; done) | (go_simp; rfl))
     intro gb192 hg w34 hbox hb
     have n2_ := am (below_step (by repeat with_reducible first | exact HB.out | apply pw_below_drewN | apply below_drew1 | refine below_set ?_ (Aside0.out (by assumption))) hb)
     have n3_ := am (hbox)
     have n4_ := am ((by rw [hg]; exact (below_size (by repeat with_reducible first | exact HB.out | apply pw_below_drewN | apply below_drew1 | refine below_set ?_ (Aside0.out (by assumption)))) : w.heap.size ≤ gb192))
     have n5_ := am ((by rw [hg]; exact (below_size (by repeat with_reducible first | exact HB.out | apply pw_below_drewN | apply below_drew1 | refine below_set ?_ (Aside0.out (by assumption)))) : w.heap.size ≤ gb192))
     have n6_ := am ((by rw [hg]; exact Nat.ne_of_lt (sqT BK172) : gb172 ≠ gb192))
     have n7_ := am ((by rw [hg]; exact Nat.ne_of_gt (sqT BK172) : gb192 ≠ gb172))
     have n8_ := am ((by rw [hg]; exact Nat.ne_of_lt (sqT BK173) : gb173 ≠ gb192))
     have n9_ := am ((by rw [hg]; exact Nat.ne_of_gt (sqT BK173) : gb192 ≠ gb173))
     clear HB
     replace BK172 := sqB BK172 hb
     replace BK173 := sqB BK173 hb
     have HB := n2_
     have BK192 := n3_
     have GW192 := n4_
     have GE192 := n5_
     have Nq1 := n6_
     have Nq12 := n7_
     have Nq7 := n8_
     have Nq13 := n9_
     clear n2_ n3_ n4_ n5_ n6_ n7_ n8_ n9_ hb hbox hg
     refine hK.out _ _ ⟨sqc BK172 0, sqc BK172 1, sqc BK172 2, sqc BK173 0, sqc BK173 1, sqc BK173 2⟩ (fun hHeld => ?_)
     clear hK K
     refine norm_ (a' := ?_) ?_ ?_
     rotate_left
     ·
      show Act.put _ (some 6) _ = _
      simp only [Act.put, List.setIfInBounds_toArray, List.set_cons_zero, List.set_cons_succ, i64_w, i32_w]
      rfl
     refine one_ (i := 1) (N := some 29) #[true, true, true, false, false, false, false, false, true, false, false] rfl rfl (one_of HT_.out (by kernel_rfl)) (by decide) (fun K hK => ?_)
     refine goes_ Try.func14 (by kernel_rfl) rfl #[.agg #[.int .i64 a0_0, .int .i64 a0_1, .slice A0_2 l0_2.length c0_2]] (by rfl) rfl rfl (by (try simp only [List.map_toArray, List.map_cons, List.map_nil]); try rfl) ?_
     with_reducible refine (laws_toBoard.calls k a0_0 a0_1 _ _ l0_2 t176 t177 t178 _ ?side1 ?side2 A19.out).mono ?_
     (case side1 => repeat (first | exact (Kd.C_below HR0_2.out HB.out) | (with_reducible first | refine Kd.C_alloc ?_ _ | refine Kd.C_drewN ?_ _ | refine Kd.C_drew ?_)))
     (case side2 => exact HC0_2.out)
     rintro e w35 ⟨v179, rfl, ho0, hb⟩
     refine ⟨_, rfl, ?_⟩
     have n0_ := am (Kd.R_lower ho0 (below_size (by repeat with_reducible first | exact HB.out | apply pw_below_drewN | apply below_drew1 | refine below_set ?_ (Aside0.out (by assumption)))))
     have n4_ := am (below_step (by repeat with_reducible first | exact HB.out | apply pw_below_drewN | apply below_drew1 | refine below_set ?_ (Aside0.out (by assumption))) hb)
     clear HB
     have Oq0 := n0_
     replace BK172 := sqB BK172 hb
     replace BK173 := sqB BK173 hb
     replace BK192 := sqB BK192 hb
     have HB := n4_
     clear n0_ n4_
     (try clear hb)
     (try clear hb2)
     (try clear hk)
     (try clear hi)
     (try clear ho0)
     refine hK.out _ _ ⟨sqc BK172 0, sqc BK172 1, sqc BK172 2, sqc BK173 0, sqc BK173 1, sqc BK173 2⟩ (fun hHeld => ?_)
     clear hK K
     refine norm_ (a' := ?_) ?_ ?_
     rotate_left
     ·
      show Act.put _ (some 29) _ = _
      simp only [Act.put, List.setIfInBounds_toArray, List.set_cons_zero, List.set_cons_succ, i64_w, i32_w]
      rfl
     refine one_ (i := 3) (N := some 31) #[true, true, true, true, false, false, false, false, true, false, false] rfl rfl (one_of HT_.out (by kernel_rfl)) (by decide) (fun K hK => ?_)
     refine goes_ Try.func14 (by kernel_rfl) rfl #[.agg #[.int .i64 a1_0, .int .i64 a1_1, .slice A1_2 l1_2.length c1_2]] (by rfl) rfl rfl (by (try simp only [List.map_toArray, List.map_cons, List.map_nil]); try rfl) ?_
     with_reducible refine (laws_toBoard.calls k a1_0 a1_1 _ _ l1_2 t181 t182 t183 _ ?side1 ?side2 A20.out).mono ?_
     (case side1 => repeat (first | exact (Kd.C_below HR1_2.out HB.out) | (with_reducible first | refine Kd.C_alloc ?_ _ | refine Kd.C_drewN ?_ _ | refine Kd.C_drew ?_)))
     (case side2 => exact HC1_2.out)
     rintro e w36 ⟨v184, rfl, ho0, hb⟩
     refine ⟨_, rfl, ?_⟩
     have n1_ := am (Kd.R_lower (Kd.R_new' ho0 (sqL Oq0)) (below_size (by repeat with_reducible first | exact HB.out | apply pw_below_drewN | apply below_drew1 | refine below_set ?_ (Aside0.out (by assumption)))))
     have n5_ := am (below_step (by repeat with_reducible first | exact HB.out | apply pw_below_drewN | apply below_drew1 | refine below_set ?_ (Aside0.out (by assumption))) hb)
     clear HB
     replace Oq0 := sqE Oq0 ho0 hb
     have Oq1 := n1_
     replace BK172 := sqB BK172 hb
     replace BK173 := sqB BK173 hb
     replace BK192 := sqB BK192 hb
     have HB := n5_
     clear n1_ n5_
     (try clear hb)
     (try clear hb2)
     (try clear hk)
     (try clear hi)
     (try clear ho0)
     obtain ⟨Ao37, co37, eo37⟩ := Kd.R_slice Oq0.out
     (first | subst eo37 | (injection eo37 with f1_ f2_ f3_; have f4_ := f1_.symm; have f5_ := f3_.symm; clear f1_ f2_ f3_; subst f4_; subst f5_))
     obtain ⟨Ao38, co38, eo38⟩ := Kd.R_slice Oq1.out
     (first | subst eo38 | (injection eo38 with f1_ f2_ f3_; have f4_ := f1_.symm; have f5_ := f3_.symm; clear f1_ f2_ f3_; subst f4_; subst f5_))
     refine hK.out _ _ ⟨sqc BK172 0, sqc BK172 1, sqc BK172 2, sqc BK173 0, sqc BK173 1, sqc BK173 2⟩ (fun hHeld => ?_)
     clear hK K
     refine norm_ (a' := ?_) ?_ ?_
     rotate_left
     ·
      show Act.put _ (some 31) _ = _
      simp only [Act.put, List.setIfInBounds_toArray, List.set_cons_zero, List.set_cons_succ, i64_w, i32_w]
      rfl
     refine one_ (i := 4) (N := some 32) #[true, true, true, true, true, false, false, false, true, false, false] rfl rfl (one_of HT_.out (by kernel_rfl)) (by decide) (fun K hK => ?_)
     refine goes_ Try.func30 (by kernel_rfl) rfl #[.agg #[.int .i64 t176, .int .i64 t177, .slice Ao37 t178.length co37], .agg #[.int .i64 t181, .int .i64 t182, .slice Ao38 t183.length co38]] (by rfl) rfl rfl (by (try simp only [List.map_toArray, List.map_cons, List.map_nil]); try rfl) ?_
     with_reducible refine (spec_MeetOf.calls k t176 t177 _ _ t178 t181 t182 _ _ t183 t186 t187 t188 t191 _ ?side1 ?side2 ?side3 ?side4 A21.out).mono ?_
     (case side1 => repeat (first | exact (Kd.R_reads' Oq0.out).2.2 | (with_reducible first | refine Kd.C_alloc ?_ _ | refine Kd.C_drewN ?_ _ | refine Kd.C_drew ?_)))
     (case side2 => exact (Kd.R_reads' Oq0.out).2.1)
     (case side3 => repeat (first | exact (Kd.R_reads' Oq1.out).2.2 | (with_reducible first | refine Kd.C_alloc ?_ _ | refine Kd.C_drewN ?_ _ | refine Kd.C_drew ?_)))
     (case side4 => exact (Kd.R_reads' Oq1.out).2.1)
     rintro e w39 ⟨v189, rfl, ho0, hb⟩
     refine ⟨_, rfl, ?_⟩
     have n2_ := am (Kd.R_lower (Kd.R_new' (Kd.R_new' ho0 (sqL Oq0)) (sqL Oq1)) (below_size (by repeat with_reducible first | exact HB.out | apply pw_below_drewN | apply below_drew1 | refine below_set ?_ (Aside0.out (by assumption)))))
     have n6_ := am (below_step (by repeat with_reducible first | exact HB.out | apply pw_below_drewN | apply below_drew1 | refine below_set ?_ (Aside0.out (by assumption))) hb)
     clear HB
     replace Oq0 := sqE Oq0 ho0 hb
     replace Oq1 := sqE Oq1 ho0 hb
     have Oq2 := n2_
     replace BK172 := sqB BK172 hb
     replace BK173 := sqB BK173 hb
     replace BK192 := sqB BK192 hb
     have HB := n6_
     clear n2_ n6_
     (try clear hb)
     (try clear hb2)
     (try clear hk)
     (try clear hi)
     (try clear ho0)
     refine hK.out _ _ ⟨sqc BK172 0, sqc BK172 1, sqc BK172 2, sqc BK173 0, sqc BK173 1, sqc BK173 2⟩ (fun hHeld => ?_)
     clear hK K
     refine norm_ (a' := ?_) ?_ ?_
     rotate_left
     ·
      show Act.put _ (some 32) _ = _
      simp only [Act.put, List.setIfInBounds_toArray, List.set_cons_zero, List.set_cons_succ, i64_w, i32_w]
      rfl
     refine pure_ (i := 5) (N := some 27) (v := ?_) (a' := ?_) #[true, true, true, true, true, true, false, false, true, false, false] rfl rfl (any_of HT_.out (by kernel_rfl)) (fun _ _ _ h => h) (Or.inl ⟨by rfl, ?_⟩) ?_ ?_
     rotate_left
     ·
      intro w'
      go_simp
      with_reducible rfl
     rotate_left
     ·
      simp only [Act.put, List.setIfInBounds_toArray, List.set_cons_zero, List.set_cons_succ, i64_w, i32_w]
      rfl
     refine pure_ (i := 6) (N := some 33) (v := ?_) (a' := ?_) #[true, true, true, true, true, true, true, false, true, false, false] rfl rfl (any_of HT_.out (by kernel_rfl)) (fun _ _ _ h => h) (Or.inl ⟨by rfl, ?_⟩) ?_ ?_
     rotate_left
     ·
      intro w'
      go_simp
      with_reducible rfl
     rotate_left
     ·
      simp only [Act.put, List.setIfInBounds_toArray, List.set_cons_zero, List.set_cons_succ, i64_w, i32_w]
      rfl
     refine pure_ (i := 7) (N := some 34) (v := ?_) (a' := ?_) #[true, true, true, true, true, true, true, true, true, false, false] rfl rfl (any_of HT_.out (by kernel_rfl)) (fun _ _ _ h => h) (Or.inl ⟨by rfl, ?_⟩) ?_ ?_
     rotate_left
     ·
      intro w'
      go_simp
      with_reducible rfl
     rotate_left
     ·
      simp only [Act.put, List.setIfInBounds_toArray, List.set_cons_zero, List.set_cons_succ, i64_w, i32_w]
      rfl
     exact norm_ (by simp only [putAll, Act.put, List.setIfInBounds_toArray, List.set_cons_zero, List.set_cons_succ]) (hCont (.slice Ao37 t178.length co37, .slice Ao38 t183.length co38, v189, gb192) _ ⟨hHeld, (by exact sqm Oq0 (fun _ hk => ⟨hk.1.2, hk.2⟩)), (by exact sqm Oq1 (fun _ hk => ⟨hk.1.2, hk.2⟩)), (by exact sqm Oq2 (fun _ hk => ⟨hk.1.2, hk.2⟩)), (sqb BK172), (sqb BK173), (sqb BK192), GW192.out, GE192.out, Nq1.out, Nq12.out, Nq7.out, Nq13.out, (by repeat with_reducible first | exact HB.out | apply pw_below_drewN | apply below_drew1 | refine below_set ?_ (Aside0.out (by assumption)))⟩)
   rintro ⟨v179, v184, v189, gb192⟩ w40 ⟨hS_, h0_, h1_, h2_, h3_, h4_, h5_, h6_, h7_, h8_, h9_, h10_, h11_, h12_⟩
   have n0_ : Aside0 (Kd.R (Kd.int .i64) 3 w40 w.heap.size (fun k_ => some k_ ≠ (v184 : Value).ownBlock ∧ some k_ ≠ (v189 : Value).ownBlock) v179 t178) := ⟨h0_⟩
   have n1_ : Aside0 (Kd.R (Kd.int .i64) 3 w40 w.heap.size (fun k_ => some k_ ≠ (v179 : Value).ownBlock ∧ some k_ ≠ (v189 : Value).ownBlock) v184 t183) := ⟨h1_⟩
   have n2_ : Aside0 (Kd.R (Kd.int .i64) 3 w40 w.heap.size (fun k_ => some k_ ≠ (v179 : Value).ownBlock ∧ some k_ ≠ (v184 : Value).ownBlock) v189 t188) := ⟨h2_⟩
   have n3_ : Aside0 (w40.heap[gb172]? = some (.cells #[.int .i64 a0_0, .int .i64 a0_1, .slice A0_2 l0_2.length c0_2] 24 (0, 0))) := ⟨h3_⟩
   have n4_ : Aside0 (w40.heap[gb173]? = some (.cells #[.int .i64 a1_0, .int .i64 a1_1, .slice A1_2 l1_2.length c1_2] 24 (0, 0))) := ⟨h4_⟩
   have n5_ : Aside0 (w40.heap[gb192]? = some (.cells #[.int .i64 0, .int .i64 0, .slice none 0 0] 26 (0, 0))) := ⟨h5_⟩
   have n6_ : Aside0 (w.heap.size ≤ gb192) := ⟨h6_⟩
   have n7_ : Aside0 (w.heap.size ≤ gb192) := ⟨h7_⟩
   have n8_ : Aside0 (gb172 ≠ gb192) := ⟨h8_⟩
   have n9_ : Aside0 (gb192 ≠ gb172) := ⟨h9_⟩
   have n10_ : Aside0 (gb173 ≠ gb192) := ⟨h10_⟩
   have n11_ : Aside0 (gb192 ≠ gb173) := ⟨h11_⟩
   have n12_ : Aside0 (Below w.heap.size w w40) := ⟨h12_⟩
   clear BK172 BK173 HB h0_ h1_ h2_ h3_ h4_ h5_ h6_ h7_ h8_ h9_ h10_ h11_ h12_
   have Oq0 := n0_
   have Oq1 := n1_
   have Oq2 := n2_
   have BK172 := n3_
   have BK173 := n4_
   have BK192 := n5_
   have GW192 := n6_
   have GE192 := n7_
   have Nq1 := n8_
   have Nq12 := n9_
   have Nq7 := n10_
   have Nq13 := n11_
   have HB := n12_
   clear n0_ n1_ n2_ n3_ n4_ n5_ n6_ n7_ n8_ n9_ n10_ n11_ n12_
   have hHeld : w40.cell? ⟨gb172, 0, none⟩ = some (.int .i64 a0_0) ∧ w40.cell? ⟨gb172, 1, none⟩ = some (.int .i64 a0_1) ∧ w40.cell? ⟨gb172, 2, none⟩ = some (.slice A0_2 l0_2.length c0_2) ∧ w40.cell? ⟨gb173, 0, none⟩ = some (.int .i64 a1_0) ∧ w40.cell? ⟨gb173, 1, none⟩ = some (.int .i64 a1_1) ∧ w40.cell? ⟨gb173, 2, none⟩ = some (.slice A1_2 l1_2.length c1_2) := hS_
   obtain ⟨Ao43, co43, eo43⟩ := Kd.R_slice Oq2.out
   (first | subst eo43 | (injection eo43 with f1_ f2_ f3_; have f4_ := f1_.symm; have f5_ := f3_.symm; clear f1_ f2_ f3_; subst f4_; subst f5_))
   refine norm_ (a' := ?_) ?_ ?_
   rotate_left
   ·
    simp only [putAll, Act.put, List.setIfInBounds_toArray, List.set_cons_zero, List.set_cons_succ]
    rfl
   refine one_ (i := 9) (N := none) #[true, true, true, true, true, true, true, true, true, true, false] rfl rfl (one_of HT_.out (by kernel_rfl)) (by decide) (fun K hK => ?_)
   have hs41 : w40.cell? ⟨gb192, 0, none⟩ = some (.int .i64 0) := sqc BK192 0
   have hfs41 := blk_frozen BK192.out 0
   have hq18 := Nq1.out
   have hq19 := Nq7.out
   have hms41_0 := Nq12.out
   have hms41_1 := Nq13.out
   have hs42 : w40.cell? ⟨gb192, 1, none⟩ = some (.int .i64 0) := sqc BK192 1
   have hfs42 := blk_frozen BK192.out 1
   have hq20 := Nq1.out
   have hq21 := Nq7.out
   have hms42_0 := Nq12.out
   have hms42_1 := Nq13.out
   have hs44 : w40.cell? ⟨gb192, 2, none⟩ = some (.slice none 0 0) := sqc BK192 2
   have hfs44 := blk_frozen BK192.out 2
   have hq22 := Nq1.out
   have hq23 := Nq7.out
   have hms44_0 := Nq12.out
   have hms44_1 := Nq13.out
   refine skip_ (w1 := ?_) (by rfl) rfl ?_ ?_
   rotate_left
   ·
    go_simp
    rfl
   refine hK.out _ _ ⟨((cell_far (p := ⟨gb192, _, none⟩) Nq1.out _).trans (((cell_far (p := ⟨gb192, _, none⟩) Nq1.out _).trans (((cell_far (p := ⟨gb192, _, none⟩) Nq1.out _).trans (hHeld.1)))))), ((cell_far (p := ⟨gb192, _, none⟩) Nq1.out _).trans (((cell_far (p := ⟨gb192, _, none⟩) Nq1.out _).trans (((cell_far (p := ⟨gb192, _, none⟩) Nq1.out _).trans (hHeld.2.1)))))), ((cell_far (p := ⟨gb192, _, none⟩) Nq1.out _).trans (((cell_far (p := ⟨gb192, _, none⟩) Nq1.out _).trans (((cell_far (p := ⟨gb192, _, none⟩) Nq1.out _).trans (hHeld.2.2.1)))))), ((cell_far (p := ⟨gb192, _, none⟩) Nq7.out _).trans (((cell_far (p := ⟨gb192, _, none⟩) Nq7.out _).trans (((cell_far (p := ⟨gb192, _, none⟩) Nq7.out _).trans (hHeld.2.2.2.1)))))), ((cell_far (p := ⟨gb192, _, none⟩) Nq7.out _).trans (((cell_far (p := ⟨gb192, _, none⟩) Nq7.out _).trans (((cell_far (p := ⟨gb192, _, none⟩) Nq7.out _).trans (hHeld.2.2.2.2.1)))))), ((cell_far (p := ⟨gb192, _, none⟩) Nq7.out _).trans (((cell_far (p := ⟨gb192, _, none⟩) Nq7.out _).trans (((cell_far (p := ⟨gb192, _, none⟩) Nq7.out _).trans (hHeld.2.2.2.2.2))))))⟩ (fun hHeld => ?_)
   clear hK K
   refine pure_ (i := 10) (N := some 7) (v := ?_) (a' := ?_) #[true, true, true, true, true, true, true, true, true, true, true] rfl rfl (any_of HT_.out (by kernel_rfl)) (fun _ _ _ h => h) (Or.inl ⟨by rfl, ?_⟩) ?_ ?_
   rotate_left
   ·
    intro w'
    go_simp
    with_reducible rfl
   rotate_left
   ·
    simp only [Act.put, List.setIfInBounds_toArray, List.set_cons_zero, List.set_cons_succ, i64_w, i32_w]
    rfl
   refine done_ (done_of HT_.out (by kernel_rfl)) ?_
   have bq42 := Nq1.out
   have cq42 := Nq12.out
   have zq39 : w40.cell? ⟨gb172, 0, none⟩ = some (.int .i64 a0_0) := sqc BK172 0
   have zq40 : w40.cell? ⟨gb172, 1, none⟩ = some (.int .i64 a0_1) := sqc BK172 1
   have zq41 : w40.cell? ⟨gb172, 2, none⟩ = some (.slice A0_2 l0_2.length c0_2) := sqc BK172 2
   have fq39 := blk_frozen BK172.out 0
   have fq40 := blk_frozen BK172.out 1
   have fq41 := blk_frozen BK172.out 2
   go_upto_region 12 with (first | ((with_reducible refine gate_callee (f := 14) rfl ?_); refine goesL_ (some 36) rfl rfl Try.func14 (by kernel_rfl) rfl #[.agg #[.int .i64 a0_0, .int .i64 a0_1, .slice A0_2 l0_2.length c0_2]] rfl (by (try simp only [List.map_toArray, List.map_cons, List.map_nil]); try rfl) ?_; (with_reducible refine (laws_toBoard.calls k a0_0 a0_1 _ _ l0_2 t193 t194 t195 _ ?side1 ?side2 A22.out).mono ?_); (case side1 => exact Kd.C_below HR0_2.out (by repeat with_reducible first | exact HB.out | apply pw_below_drewN | apply below_drew1 | refine below_set ?_ (Aside0.out (by assumption)))); (case side2 => exact HC0_2.out); rintro e w47 ⟨v196, rfl, ho0, hb⟩; refine ⟨_, rfl, ?_⟩; have n0_ := am (Kd.R_elder' (by (with_reducible repeat (first | apply Kd.R_alloc | apply Kd.R_drewN | apply Kd.R_drew)); exact (Kd.R_mono (Kd.R_far (p := ⟨gb192, 2, none⟩) (Kd.R_far (p := ⟨gb192, 1, none⟩) (Kd.R_far (p := ⟨gb192, 0, none⟩) (Kd.R_types Oq0.out BK192.out (by decide)) (fun _ hk => hk.2) (.int .i64 t186)) (fun _ hk => hk.2) (.int .i64 t187)) (fun _ hk => hk.2) (.slice Ao43 t188.length co43)) (fun _ h_ => h_.1))) (Kd.R_base ho0) hb); have n1_ := am (Kd.R_elder' (by (with_reducible repeat (first | apply Kd.R_alloc | apply Kd.R_drewN | apply Kd.R_drew)); exact (Kd.R_mono (Kd.R_far (p := ⟨gb192, 2, none⟩) (Kd.R_far (p := ⟨gb192, 1, none⟩) (Kd.R_far (p := ⟨gb192, 0, none⟩) (Kd.R_types Oq1.out BK192.out (by decide)) (fun _ hk => hk.2) (.int .i64 t186)) (fun _ hk => hk.2) (.int .i64 t187)) (fun _ hk => hk.2) (.slice Ao43 t188.length co43)) (fun _ h_ => h_.1))) (Kd.R_base ho0) hb); have n2_ := am (Kd.R_elder' (by (with_reducible repeat (first | apply Kd.R_alloc | apply Kd.R_drewN | apply Kd.R_drew)); exact (Kd.R_mono (Kd.R_far (p := ⟨gb192, 2, none⟩) (Kd.R_far (p := ⟨gb192, 1, none⟩) (Kd.R_far (p := ⟨gb192, 0, none⟩) (Kd.R_types Oq2.out BK192.out (by decide)) (fun _ hk => hk.2) (.int .i64 t186)) (fun _ hk => hk.2) (.int .i64 t187)) (fun _ hk => hk.2) (.slice Ao43 t188.length co43)) (fun _ h_ => h_.1))) (Kd.R_base ho0) hb); have n3_ := am (Kd.R_lower (Kd.R_new' (Kd.R_new' (Kd.R_new' ho0 (Kd.R_lt (by (with_reducible repeat (first | apply Kd.R_alloc | apply Kd.R_drewN | apply Kd.R_drew)); exact (Kd.R_mono (Kd.R_far (p := ⟨gb192, 2, none⟩) (Kd.R_far (p := ⟨gb192, 1, none⟩) (Kd.R_far (p := ⟨gb192, 0, none⟩) (Kd.R_types Oq0.out BK192.out (by decide)) (fun _ hk => hk.2) (.int .i64 t186)) (fun _ hk => hk.2) (.int .i64 t187)) (fun _ hk => hk.2) (.slice Ao43 t188.length co43)) (fun _ h_ => h_.1))))) (Kd.R_lt (by (with_reducible repeat (first | apply Kd.R_alloc | apply Kd.R_drewN | apply Kd.R_drew)); exact (Kd.R_mono (Kd.R_far (p := ⟨gb192, 2, none⟩) (Kd.R_far (p := ⟨gb192, 1, none⟩) (Kd.R_far (p := ⟨gb192, 0, none⟩) (Kd.R_types Oq1.out BK192.out (by decide)) (fun _ hk => hk.2) (.int .i64 t186)) (fun _ hk => hk.2) (.int .i64 t187)) (fun _ hk => hk.2) (.slice Ao43 t188.length co43)) (fun _ h_ => h_.1))))) (Kd.R_lt (by (with_reducible repeat (first | apply Kd.R_alloc | apply Kd.R_drewN | apply Kd.R_drew)); exact (Kd.R_mono (Kd.R_far (p := ⟨gb192, 2, none⟩) (Kd.R_far (p := ⟨gb192, 1, none⟩) (Kd.R_far (p := ⟨gb192, 0, none⟩) (Kd.R_types Oq2.out BK192.out (by decide)) (fun _ hk => hk.2) (.int .i64 t186)) (fun _ hk => hk.2) (.int .i64 t187)) (fun _ hk => hk.2) (.slice Ao43 t188.length co43)) (fun _ h_ => h_.1))))) (below_size (by repeat with_reducible first | exact HB.out | apply pw_below_drewN | apply below_drew1 | refine below_set ?_ (Aside0.out (by assumption))))); have n4_ := am (blk_below (g := gb172) (o := .cells #[.int .i64 a0_0, .int .i64 a0_1, .slice A0_2 l0_2.length c0_2] 24 (0, 0)) (by (with_reducible repeat (first | refine blk_drewN ?_ _ | refine blk_drew ?_ | refine blk_alloc ?_ _)); refine blk_far ?_ Nq1.out _; (with_reducible repeat (first | refine blk_drewN ?_ _ | refine blk_drew ?_ | refine blk_alloc ?_ _)); refine blk_far ?_ Nq1.out _; (with_reducible repeat (first | refine blk_drewN ?_ _ | refine blk_drew ?_ | refine blk_alloc ?_ _)); refine blk_far ?_ Nq1.out _; (with_reducible repeat (first | refine blk_drewN ?_ _ | refine blk_drew ?_ | refine blk_alloc ?_ _)); exact BK172.out) hb); have n5_ := am (blk_below (g := gb173) (o := .cells #[.int .i64 a1_0, .int .i64 a1_1, .slice A1_2 l1_2.length c1_2] 24 (0, 0)) (by (with_reducible repeat (first | refine blk_drewN ?_ _ | refine blk_drew ?_ | refine blk_alloc ?_ _)); refine blk_far ?_ Nq7.out _; (with_reducible repeat (first | refine blk_drewN ?_ _ | refine blk_drew ?_ | refine blk_alloc ?_ _)); refine blk_far ?_ Nq7.out _; (with_reducible repeat (first | refine blk_drewN ?_ _ | refine blk_drew ?_ | refine blk_alloc ?_ _)); refine blk_far ?_ Nq7.out _; (with_reducible repeat (first | refine blk_drewN ?_ _ | refine blk_drew ?_ | refine blk_alloc ?_ _)); exact BK173.out) hb); have n6_ := am (blk_below (g := gb192) (o := .cells #[.int .i64 t186, .int .i64 t187, .slice Ao43 t188.length co43] 26 (0, 0)) (by (with_reducible repeat (first | refine blk_drewN ?_ _ | refine blk_drew ?_ | refine blk_alloc ?_ _)); refine blk_put (cs := #[.int .i64 t186, .int .i64 t187, .slice none 0 0]) ?_ 2 _ rfl; (with_reducible repeat (first | refine blk_drewN ?_ _ | refine blk_drew ?_ | refine blk_alloc ?_ _)); refine blk_put (cs := #[.int .i64 t186, .int .i64 0, .slice none 0 0]) ?_ 1 _ rfl; (with_reducible repeat (first | refine blk_drewN ?_ _ | refine blk_drew ?_ | refine blk_alloc ?_ _)); refine blk_put (cs := #[.int .i64 0, .int .i64 0, .slice none 0 0]) ?_ 0 _ rfl; (with_reducible repeat (first | refine blk_drewN ?_ _ | refine blk_drew ?_ | refine blk_alloc ?_ _)); exact BK192.out) hb); have n7_ := am (below_step (by repeat with_reducible first | exact HB.out | apply pw_below_drewN | apply below_drew1 | refine below_set ?_ (Aside0.out (by assumption))) hb); clear Oq0; clear Oq1; clear Oq2; clear BK172; clear BK173; clear BK192; clear HB; have Oq0 := n0_; have Oq1 := n1_; have Oq2 := n2_; have Oq3 := n3_; have BK172 := n4_; have BK173 := n5_; have BK192 := n6_; have HB := n7_; clear n0_ n1_ n2_ n3_ n4_ n5_ n6_ n7_; (try clear hb); (try clear hb2); (try clear hk); (try clear hi); (try clear ho0)) | ((with_reducible refine gate_dst (N := 8) rfl ?_); refine box_event ?hg (N := 8) ?hd (cs := #[.int .i64 0, .int .i64 0, .slice none 0 0]) (t := 26) ?hr ?_; (case hd => rfl); (case hg => rfl); (case hr => first | (go_simp; done) | (go_simp; rfl)); intro gb198 hg w48 hbox hb; have n7_ := am (below_step (by repeat with_reducible first | exact HB.out | apply pw_below_drewN | apply below_drew1 | refine below_set ?_ (Aside0.out (by assumption))) hb); have n8_ := am (hbox); have n9_ := am ((by rw [hg]; exact (below_size (by repeat with_reducible first | exact HB.out | apply pw_below_drewN | apply below_drew1 | refine below_set ?_ (Aside0.out (by assumption)))) : w.heap.size ≤ gb198)); have n10_ := am ((by rw [hg]; exact (below_size (by repeat with_reducible first | exact HB.out | apply pw_below_drewN | apply below_drew1 | refine below_set ?_ (Aside0.out (by assumption)))) : w.heap.size ≤ gb198)); have n11_ := am ((by rw [hg]; exact Nat.ne_of_lt (sqT BK172) : gb172 ≠ gb198)); have n12_ := am ((by rw [hg]; exact Nat.ne_of_gt (sqT BK172) : gb198 ≠ gb172)); have n13_ := am ((by rw [hg]; exact Nat.ne_of_lt (sqT BK173) : gb173 ≠ gb198)); have n14_ := am ((by rw [hg]; exact Nat.ne_of_gt (sqT BK173) : gb198 ≠ gb173)); have n15_ := am ((by rw [hg]; exact Nat.ne_of_lt (sqT BK192) : gb192 ≠ gb198)); have n16_ := am ((by rw [hg]; exact Nat.ne_of_gt (sqT BK192) : gb198 ≠ gb192)); clear HB; replace Oq0 := sqR Oq0 hb; replace Oq1 := sqR Oq1 hb; replace Oq2 := sqR Oq2 hb; replace Oq3 := sqR Oq3 hb; replace BK172 := sqB BK172 hb; replace BK173 := sqB BK173 hb; replace BK192 := sqB BK192 hb; have HB := n7_; have BK198 := n8_; have GW198 := n9_; have GE198 := n10_; have Nq2 := n11_; have Nq18 := n12_; have Nq8 := n13_; have Nq19 := n14_; have Nq14 := n15_; have Nq20 := n16_; clear n7_ n8_ n9_ n10_ n11_ n12_ n13_ n14_ n15_ n16_; clear hb hbox hg; have bq43 := Nq18.out; have cq43 := Nq2.out; have bq44 := Nq19.out; have cq44 := Nq8.out; have bq45 := Nq20.out; have cq45 := Nq14.out; have zq42 : w48.cell? ⟨gb198, 0, none⟩ = some (.int .i64 0) := sqc BK198 0; have zq43 : w48.cell? ⟨gb198, 1, none⟩ = some (.int .i64 0) := sqc BK198 1; have zq44 : w48.cell? ⟨gb198, 2, none⟩ = some (.slice none 0 0) := sqc BK198 2; have fq42 := blk_frozen BK198.out 0; have fq43 := blk_frozen BK198.out 1; have fq44 := blk_frozen BK198.out 2; obtain ⟨Ao53, co53, eo53⟩ := Kd.R_slice Oq3.out; subst eo53; have bq46 := Nq7.out; have cq46 := Nq13.out; have zq45 : w48.cell? ⟨gb173, 0, none⟩ = some (.int .i64 a1_0) := sqc BK173 0; have zq46 : w48.cell? ⟨gb173, 1, none⟩ = some (.int .i64 a1_1) := sqc BK173 1; have zq47 : w48.cell? ⟨gb173, 2, none⟩ = some (.slice A1_2 l1_2.length c1_2) := sqc BK173 2; have fq45 := blk_frozen BK173.out 0; have fq46 := blk_frozen BK173.out 1; have fq47 := blk_frozen BK173.out 2) | ((with_reducible refine gate_callee (f := 14) rfl ?_); refine goesL_ (some 38) rfl rfl Try.func14 (by kernel_rfl) rfl #[.agg #[.int .i64 a1_0, .int .i64 a1_1, .slice A1_2 l1_2.length c1_2]] rfl (by (try simp only [List.map_toArray, List.map_cons, List.map_nil]); try rfl) ?_; (with_reducible refine (laws_toBoard.calls k a1_0 a1_1 _ _ l1_2 t199 t200 t201 _ ?side1 ?side2 A23.out).mono ?_); (case side1 => exact Kd.C_below HR1_2.out (by repeat with_reducible first | exact HB.out | apply pw_below_drewN | apply below_drew1 | refine below_set ?_ (Aside0.out (by assumption)))); (case side2 => exact HC1_2.out); rintro e w56 ⟨v202, rfl, ho0, hb⟩; refine ⟨_, rfl, ?_⟩; have n0_ := am (Kd.R_elder' (by (with_reducible repeat (first | apply Kd.R_alloc | apply Kd.R_drewN | apply Kd.R_drew)); exact (Kd.R_mono (Kd.R_far (p := ⟨gb198, 2, none⟩) (Kd.R_far (p := ⟨gb198, 1, none⟩) (Kd.R_far (p := ⟨gb198, 0, none⟩) (Kd.R_types Oq0.out BK198.out (by decide)) (fun _ hk => hk.2) (.int .i64 t193)) (fun _ hk => hk.2) (.int .i64 t194)) (fun _ hk => hk.2) (.slice Ao53 t195.length co53)) (fun _ h_ => h_.1))) (Kd.R_base ho0) hb); have n1_ := am (Kd.R_elder' (by (with_reducible repeat (first | apply Kd.R_alloc | apply Kd.R_drewN | apply Kd.R_drew)); exact (Kd.R_mono (Kd.R_far (p := ⟨gb198, 2, none⟩) (Kd.R_far (p := ⟨gb198, 1, none⟩) (Kd.R_far (p := ⟨gb198, 0, none⟩) (Kd.R_types Oq1.out BK198.out (by decide)) (fun _ hk => hk.2) (.int .i64 t193)) (fun _ hk => hk.2) (.int .i64 t194)) (fun _ hk => hk.2) (.slice Ao53 t195.length co53)) (fun _ h_ => h_.1))) (Kd.R_base ho0) hb); have n2_ := am (Kd.R_elder' (by (with_reducible repeat (first | apply Kd.R_alloc | apply Kd.R_drewN | apply Kd.R_drew)); exact (Kd.R_mono (Kd.R_far (p := ⟨gb198, 2, none⟩) (Kd.R_far (p := ⟨gb198, 1, none⟩) (Kd.R_far (p := ⟨gb198, 0, none⟩) (Kd.R_types Oq2.out BK198.out (by decide)) (fun _ hk => hk.2) (.int .i64 t193)) (fun _ hk => hk.2) (.int .i64 t194)) (fun _ hk => hk.2) (.slice Ao53 t195.length co53)) (fun _ h_ => h_.1))) (Kd.R_base ho0) hb); have n3_ := am (Kd.R_elder' (by (with_reducible repeat (first | apply Kd.R_alloc | apply Kd.R_drewN | apply Kd.R_drew)); exact (Kd.R_mono (Kd.R_far (p := ⟨gb198, 2, none⟩) (Kd.R_far (p := ⟨gb198, 1, none⟩) (Kd.R_far (p := ⟨gb198, 0, none⟩) (Kd.R_types Oq3.out BK198.out (by decide)) (fun _ hk => hk.2) (.int .i64 t193)) (fun _ hk => hk.2) (.int .i64 t194)) (fun _ hk => hk.2) (.slice Ao53 t195.length co53)) (fun _ h_ => h_.1))) (Kd.R_base ho0) hb); have n4_ := am (Kd.R_lower (Kd.R_new' (Kd.R_new' (Kd.R_new' (Kd.R_new' ho0 (Kd.R_lt (by (with_reducible repeat (first | apply Kd.R_alloc | apply Kd.R_drewN | apply Kd.R_drew)); exact (Kd.R_mono (Kd.R_far (p := ⟨gb198, 2, none⟩) (Kd.R_far (p := ⟨gb198, 1, none⟩) (Kd.R_far (p := ⟨gb198, 0, none⟩) (Kd.R_types Oq0.out BK198.out (by decide)) (fun _ hk => hk.2) (.int .i64 t193)) (fun _ hk => hk.2) (.int .i64 t194)) (fun _ hk => hk.2) (.slice Ao53 t195.length co53)) (fun _ h_ => h_.1))))) (Kd.R_lt (by (with_reducible repeat (first | apply Kd.R_alloc | apply Kd.R_drewN | apply Kd.R_drew)); exact (Kd.R_mono (Kd.R_far (p := ⟨gb198, 2, none⟩) (Kd.R_far (p := ⟨gb198, 1, none⟩) (Kd.R_far (p := ⟨gb198, 0, none⟩) (Kd.R_types Oq1.out BK198.out (by decide)) (fun _ hk => hk.2) (.int .i64 t193)) (fun _ hk => hk.2) (.int .i64 t194)) (fun _ hk => hk.2) (.slice Ao53 t195.length co53)) (fun _ h_ => h_.1))))) (Kd.R_lt (by (with_reducible repeat (first | apply Kd.R_alloc | apply Kd.R_drewN | apply Kd.R_drew)); exact (Kd.R_mono (Kd.R_far (p := ⟨gb198, 2, none⟩) (Kd.R_far (p := ⟨gb198, 1, none⟩) (Kd.R_far (p := ⟨gb198, 0, none⟩) (Kd.R_types Oq2.out BK198.out (by decide)) (fun _ hk => hk.2) (.int .i64 t193)) (fun _ hk => hk.2) (.int .i64 t194)) (fun _ hk => hk.2) (.slice Ao53 t195.length co53)) (fun _ h_ => h_.1))))) (Kd.R_lt (by (with_reducible repeat (first | apply Kd.R_alloc | apply Kd.R_drewN | apply Kd.R_drew)); exact (Kd.R_mono (Kd.R_far (p := ⟨gb198, 2, none⟩) (Kd.R_far (p := ⟨gb198, 1, none⟩) (Kd.R_far (p := ⟨gb198, 0, none⟩) (Kd.R_types Oq3.out BK198.out (by decide)) (fun _ hk => hk.2) (.int .i64 t193)) (fun _ hk => hk.2) (.int .i64 t194)) (fun _ hk => hk.2) (.slice Ao53 t195.length co53)) (fun _ h_ => h_.1))))) (below_size (by repeat with_reducible first | exact HB.out | apply pw_below_drewN | apply below_drew1 | refine below_set ?_ (Aside0.out (by assumption))))); have n5_ := am (blk_below (g := gb172) (o := .cells #[.int .i64 a0_0, .int .i64 a0_1, .slice A0_2 l0_2.length c0_2] 24 (0, 0)) (by (with_reducible repeat (first | refine blk_drewN ?_ _ | refine blk_drew ?_ | refine blk_alloc ?_ _)); refine blk_far ?_ Nq2.out _; (with_reducible repeat (first | refine blk_drewN ?_ _ | refine blk_drew ?_ | refine blk_alloc ?_ _)); refine blk_far ?_ Nq2.out _; (with_reducible repeat (first | refine blk_drewN ?_ _ | refine blk_drew ?_ | refine blk_alloc ?_ _)); refine blk_far ?_ Nq2.out _; (with_reducible repeat (first | refine blk_drewN ?_ _ | refine blk_drew ?_ | refine blk_alloc ?_ _)); exact BK172.out) hb); have n6_ := am (blk_below (g := gb173) (o := .cells #[.int .i64 a1_0, .int .i64 a1_1, .slice A1_2 l1_2.length c1_2] 24 (0, 0)) (by (with_reducible repeat (first | refine blk_drewN ?_ _ | refine blk_drew ?_ | refine blk_alloc ?_ _)); refine blk_far ?_ Nq8.out _; (with_reducible repeat (first | refine blk_drewN ?_ _ | refine blk_drew ?_ | refine blk_alloc ?_ _)); refine blk_far ?_ Nq8.out _; (with_reducible repeat (first | refine blk_drewN ?_ _ | refine blk_drew ?_ | refine blk_alloc ?_ _)); refine blk_far ?_ Nq8.out _; (with_reducible repeat (first | refine blk_drewN ?_ _ | refine blk_drew ?_ | refine blk_alloc ?_ _)); exact BK173.out) hb); have n7_ := am (blk_below (g := gb192) (o := .cells #[.int .i64 t186, .int .i64 t187, .slice Ao43 t188.length co43] 26 (0, 0)) (by (with_reducible repeat (first | refine blk_drewN ?_ _ | refine blk_drew ?_ | refine blk_alloc ?_ _)); refine blk_far ?_ Nq14.out _; (with_reducible repeat (first | refine blk_drewN ?_ _ | refine blk_drew ?_ | refine blk_alloc ?_ _)); refine blk_far ?_ Nq14.out _; (with_reducible repeat (first | refine blk_drewN ?_ _ | refine blk_drew ?_ | refine blk_alloc ?_ _)); refine blk_far ?_ Nq14.out _; (with_reducible repeat (first | refine blk_drewN ?_ _ | refine blk_drew ?_ | refine blk_alloc ?_ _)); exact BK192.out) hb); have n8_ := am (blk_below (g := gb198) (o := .cells #[.int .i64 t193, .int .i64 t194, .slice Ao53 t195.length co53] 26 (0, 0)) (by (with_reducible repeat (first | refine blk_drewN ?_ _ | refine blk_drew ?_ | refine blk_alloc ?_ _)); refine blk_put (cs := #[.int .i64 t193, .int .i64 t194, .slice none 0 0]) ?_ 2 _ rfl; (with_reducible repeat (first | refine blk_drewN ?_ _ | refine blk_drew ?_ | refine blk_alloc ?_ _)); refine blk_put (cs := #[.int .i64 t193, .int .i64 0, .slice none 0 0]) ?_ 1 _ rfl; (with_reducible repeat (first | refine blk_drewN ?_ _ | refine blk_drew ?_ | refine blk_alloc ?_ _)); refine blk_put (cs := #[.int .i64 0, .int .i64 0, .slice none 0 0]) ?_ 0 _ rfl; (with_reducible repeat (first | refine blk_drewN ?_ _ | refine blk_drew ?_ | refine blk_alloc ?_ _)); exact BK198.out) hb); have n9_ := am (below_step (by repeat with_reducible first | exact HB.out | apply pw_below_drewN | apply below_drew1 | refine below_set ?_ (Aside0.out (by assumption))) hb); clear Oq0; clear Oq1; clear Oq2; clear Oq3; clear BK172; clear BK173; clear BK192; clear BK198; clear HB; have Oq0 := n0_; have Oq1 := n1_; have Oq2 := n2_; have Oq3 := n3_; have Oq4 := n4_; have BK172 := n5_; have BK173 := n6_; have BK192 := n7_; have BK198 := n8_; have HB := n9_; clear n0_ n1_ n2_ n3_ n4_ n5_ n6_ n7_ n8_ n9_; (try clear hb); (try clear hb2); (try clear hk); (try clear hi); (try clear ho0)) | ((with_reducible refine gate_dst (N := 9) rfl ?_); refine box_event ?hg (N := 9) ?hd (cs := #[.int .i64 0, .int .i64 0, .slice none 0 0]) (t := 26) ?hr ?_; (case hd => rfl); (case hg => rfl); (case hr => first | (go_simp; done) | (go_simp; rfl)); intro gb204 hg w57 hbox hb; have n9_ := am (below_step (by repeat with_reducible first | exact HB.out | apply pw_below_drewN | apply below_drew1 | refine below_set ?_ (Aside0.out (by assumption))) hb); have n10_ := am (hbox); have n11_ := am ((by rw [hg]; exact (below_size (by repeat with_reducible first | exact HB.out | apply pw_below_drewN | apply below_drew1 | refine below_set ?_ (Aside0.out (by assumption)))) : w.heap.size ≤ gb204)); have n12_ := am ((by rw [hg]; exact (below_size (by repeat with_reducible first | exact HB.out | apply pw_below_drewN | apply below_drew1 | refine below_set ?_ (Aside0.out (by assumption)))) : w.heap.size ≤ gb204)); have n13_ := am ((by rw [hg]; exact Nat.ne_of_lt (sqT BK172) : gb172 ≠ gb204)); have n14_ := am ((by rw [hg]; exact Nat.ne_of_gt (sqT BK172) : gb204 ≠ gb172)); have n15_ := am ((by rw [hg]; exact Nat.ne_of_lt (sqT BK173) : gb173 ≠ gb204)); have n16_ := am ((by rw [hg]; exact Nat.ne_of_gt (sqT BK173) : gb204 ≠ gb173)); have n17_ := am ((by rw [hg]; exact Nat.ne_of_lt (sqT BK192) : gb192 ≠ gb204)); have n18_ := am ((by rw [hg]; exact Nat.ne_of_gt (sqT BK192) : gb204 ≠ gb192)); have n19_ := am ((by rw [hg]; exact Nat.ne_of_lt (sqT BK198) : gb198 ≠ gb204)); have n20_ := am ((by rw [hg]; exact Nat.ne_of_gt (sqT BK198) : gb204 ≠ gb198)); clear HB; replace Oq0 := sqR Oq0 hb; replace Oq1 := sqR Oq1 hb; replace Oq2 := sqR Oq2 hb; replace Oq3 := sqR Oq3 hb; replace Oq4 := sqR Oq4 hb; replace BK172 := sqB BK172 hb; replace BK173 := sqB BK173 hb; replace BK192 := sqB BK192 hb; replace BK198 := sqB BK198 hb; have HB := n9_; have BK204 := n10_; have GW204 := n11_; have GE204 := n12_; have Nq3 := n13_; have Nq24 := n14_; have Nq9 := n15_; have Nq25 := n16_; have Nq15 := n17_; have Nq26 := n18_; have Nq21 := n19_; have Nq27 := n20_; clear n9_ n10_ n11_ n12_ n13_ n14_ n15_ n16_ n17_ n18_ n19_ n20_; clear hb hbox hg; have bq47 := Nq24.out; have cq47 := Nq3.out; have bq48 := Nq25.out; have cq48 := Nq9.out; have bq49 := Nq26.out; have cq49 := Nq15.out; have bq50 := Nq27.out; have cq50 := Nq21.out; have zq48 : w57.cell? ⟨gb204, 0, none⟩ = some (.int .i64 0) := sqc BK204 0; have zq49 : w57.cell? ⟨gb204, 1, none⟩ = some (.int .i64 0) := sqc BK204 1; have zq50 : w57.cell? ⟨gb204, 2, none⟩ = some (.slice none 0 0) := sqc BK204 2; have fq48 := blk_frozen BK204.out 0; have fq49 := blk_frozen BK204.out 1; have fq50 := blk_frozen BK204.out 2; obtain ⟨Ao63, co63, eo63⟩ := Kd.R_slice Oq4.out; subst eo63; have zq51 : w57.cell? ⟨gb198, 0, none⟩ = some (.int .i64 t193) := sqc BK198 0; have zq52 : w57.cell? ⟨gb198, 1, none⟩ = some (.int .i64 t194) := sqc BK198 1; have zq53 : w57.cell? ⟨gb198, 2, none⟩ = some (.slice Ao53 t195.length co53) := sqc BK198 2; have fq51 := blk_frozen BK198.out 0; have fq52 := blk_frozen BK198.out 1; have fq53 := blk_frozen BK198.out 2) | ((with_reducible refine gate_callee (f := 31) rfl ?_); refine goesL_ (some 42) rfl rfl Try.func31 (by kernel_rfl) rfl #[.agg #[.int .i64 t193, .int .i64 t194, .slice Ao53 t195.length co53], .agg #[.int .i64 t199, .int .i64 t200, .slice Ao63 t201.length co63]] rfl (by (try simp only [List.map_toArray, List.map_cons, List.map_nil]); try rfl) ?_; (with_reducible refine (impl_MeetOf.calls t193 t194 _ _ t195 t199 t200 _ _ t201 t205 t206 t207 t210 _ ?side1 ?side2 ?side3 ?side4 A24.out).mono ?_); (case side1 => refine (Kd.R_reads' (e := 3) (base := w.heap.size) (ok := fun k_ => ((((True ∧ some k_ ≠ (v179 : Value).ownBlock) ∧ some k_ ≠ (v184 : Value).ownBlock) ∧ some k_ ≠ (.slice Ao43 t188.length co43 : Value).ownBlock) ∧ some k_ ≠ (.slice Ao63 t201.length co63 : Value).ownBlock)) (n := t195.length) (c := co53) ?_).2.2; exact (by (with_reducible repeat (first | apply Kd.R_alloc | apply Kd.R_drewN | apply Kd.R_drew)); exact (Kd.R_mono (Kd.R_far (p := ⟨gb204, 2, none⟩) (Kd.R_far (p := ⟨gb204, 1, none⟩) (Kd.R_far (p := ⟨gb204, 0, none⟩) (Kd.R_types Oq3.out BK204.out (by decide)) (fun _ hk => hk.2) (.int .i64 t199)) (fun _ hk => hk.2) (.int .i64 t200)) (fun _ hk => hk.2) (.slice Ao63 t201.length co63)) (fun _ h_ => h_.1)))); (case side2 => exact (Kd.R_reads' Oq3.out).2.1); (case side3 => refine (Kd.R_reads' (e := 3) (base := w.heap.size) (ok := fun k_ => ((((True ∧ some k_ ≠ (v179 : Value).ownBlock) ∧ some k_ ≠ (v184 : Value).ownBlock) ∧ some k_ ≠ (.slice Ao43 t188.length co43 : Value).ownBlock) ∧ some k_ ≠ (.slice Ao53 t195.length co53 : Value).ownBlock)) (n := t201.length) (c := co63) ?_).2.2; exact (by (with_reducible repeat (first | apply Kd.R_alloc | apply Kd.R_drewN | apply Kd.R_drew)); exact (Kd.R_mono (Kd.R_far (p := ⟨gb204, 2, none⟩) (Kd.R_far (p := ⟨gb204, 1, none⟩) (Kd.R_far (p := ⟨gb204, 0, none⟩) (Kd.R_types Oq4.out BK204.out (by decide)) (fun _ hk => hk.2) (.int .i64 t199)) (fun _ hk => hk.2) (.int .i64 t200)) (fun _ hk => hk.2) (.slice Ao63 t201.length co63)) (fun _ h_ => h_.1)))); (case side4 => exact (Kd.R_reads' Oq4.out).2.1); rintro e w65 ⟨v208, rfl, ho0, hb⟩; refine ⟨_, rfl, ?_⟩; have n0_ := am (Kd.R_elder' (by (with_reducible repeat (first | apply Kd.R_alloc | apply Kd.R_drewN | apply Kd.R_drew)); exact (Kd.R_mono (Kd.R_far (p := ⟨gb204, 2, none⟩) (Kd.R_far (p := ⟨gb204, 1, none⟩) (Kd.R_far (p := ⟨gb204, 0, none⟩) (Kd.R_types Oq0.out BK204.out (by decide)) (fun _ hk => hk.2) (.int .i64 t199)) (fun _ hk => hk.2) (.int .i64 t200)) (fun _ hk => hk.2) (.slice Ao63 t201.length co63)) (fun _ h_ => h_.1))) (Kd.R_base ho0) hb); have n1_ := am (Kd.R_elder' (by (with_reducible repeat (first | apply Kd.R_alloc | apply Kd.R_drewN | apply Kd.R_drew)); exact (Kd.R_mono (Kd.R_far (p := ⟨gb204, 2, none⟩) (Kd.R_far (p := ⟨gb204, 1, none⟩) (Kd.R_far (p := ⟨gb204, 0, none⟩) (Kd.R_types Oq1.out BK204.out (by decide)) (fun _ hk => hk.2) (.int .i64 t199)) (fun _ hk => hk.2) (.int .i64 t200)) (fun _ hk => hk.2) (.slice Ao63 t201.length co63)) (fun _ h_ => h_.1))) (Kd.R_base ho0) hb); have n2_ := am (Kd.R_elder' (by (with_reducible repeat (first | apply Kd.R_alloc | apply Kd.R_drewN | apply Kd.R_drew)); exact (Kd.R_mono (Kd.R_far (p := ⟨gb204, 2, none⟩) (Kd.R_far (p := ⟨gb204, 1, none⟩) (Kd.R_far (p := ⟨gb204, 0, none⟩) (Kd.R_types Oq2.out BK204.out (by decide)) (fun _ hk => hk.2) (.int .i64 t199)) (fun _ hk => hk.2) (.int .i64 t200)) (fun _ hk => hk.2) (.slice Ao63 t201.length co63)) (fun _ h_ => h_.1))) (Kd.R_base ho0) hb); have n3_ := am (Kd.R_elder' (by (with_reducible repeat (first | apply Kd.R_alloc | apply Kd.R_drewN | apply Kd.R_drew)); exact (Kd.R_mono (Kd.R_far (p := ⟨gb204, 2, none⟩) (Kd.R_far (p := ⟨gb204, 1, none⟩) (Kd.R_far (p := ⟨gb204, 0, none⟩) (Kd.R_types Oq3.out BK204.out (by decide)) (fun _ hk => hk.2) (.int .i64 t199)) (fun _ hk => hk.2) (.int .i64 t200)) (fun _ hk => hk.2) (.slice Ao63 t201.length co63)) (fun _ h_ => h_.1))) (Kd.R_base ho0) hb); have n4_ := am (Kd.R_elder' (by (with_reducible repeat (first | apply Kd.R_alloc | apply Kd.R_drewN | apply Kd.R_drew)); exact (Kd.R_mono (Kd.R_far (p := ⟨gb204, 2, none⟩) (Kd.R_far (p := ⟨gb204, 1, none⟩) (Kd.R_far (p := ⟨gb204, 0, none⟩) (Kd.R_types Oq4.out BK204.out (by decide)) (fun _ hk => hk.2) (.int .i64 t199)) (fun _ hk => hk.2) (.int .i64 t200)) (fun _ hk => hk.2) (.slice Ao63 t201.length co63)) (fun _ h_ => h_.1))) (Kd.R_base ho0) hb); have n5_ := am (Kd.R_lower (Kd.R_new' (Kd.R_new' (Kd.R_new' (Kd.R_new' (Kd.R_new' ho0 (Kd.R_lt (by (with_reducible repeat (first | apply Kd.R_alloc | apply Kd.R_drewN | apply Kd.R_drew)); exact (Kd.R_mono (Kd.R_far (p := ⟨gb204, 2, none⟩) (Kd.R_far (p := ⟨gb204, 1, none⟩) (Kd.R_far (p := ⟨gb204, 0, none⟩) (Kd.R_types Oq0.out BK204.out (by decide)) (fun _ hk => hk.2) (.int .i64 t199)) (fun _ hk => hk.2) (.int .i64 t200)) (fun _ hk => hk.2) (.slice Ao63 t201.length co63)) (fun _ h_ => h_.1))))) (Kd.R_lt (by (with_reducible repeat (first | apply Kd.R_alloc | apply Kd.R_drewN | apply Kd.R_drew)); exact (Kd.R_mono (Kd.R_far (p := ⟨gb204, 2, none⟩) (Kd.R_far (p := ⟨gb204, 1, none⟩) (Kd.R_far (p := ⟨gb204, 0, none⟩) (Kd.R_types Oq1.out BK204.out (by decide)) (fun _ hk => hk.2) (.int .i64 t199)) (fun _ hk => hk.2) (.int .i64 t200)) (fun _ hk => hk.2) (.slice Ao63 t201.length co63)) (fun _ h_ => h_.1))))) (Kd.R_lt (by (with_reducible repeat (first | apply Kd.R_alloc | apply Kd.R_drewN | apply Kd.R_drew)); exact (Kd.R_mono (Kd.R_far (p := ⟨gb204, 2, none⟩) (Kd.R_far (p := ⟨gb204, 1, none⟩) (Kd.R_far (p := ⟨gb204, 0, none⟩) (Kd.R_types Oq2.out BK204.out (by decide)) (fun _ hk => hk.2) (.int .i64 t199)) (fun _ hk => hk.2) (.int .i64 t200)) (fun _ hk => hk.2) (.slice Ao63 t201.length co63)) (fun _ h_ => h_.1))))) (Kd.R_lt (by (with_reducible repeat (first | apply Kd.R_alloc | apply Kd.R_drewN | apply Kd.R_drew)); exact (Kd.R_mono (Kd.R_far (p := ⟨gb204, 2, none⟩) (Kd.R_far (p := ⟨gb204, 1, none⟩) (Kd.R_far (p := ⟨gb204, 0, none⟩) (Kd.R_types Oq3.out BK204.out (by decide)) (fun _ hk => hk.2) (.int .i64 t199)) (fun _ hk => hk.2) (.int .i64 t200)) (fun _ hk => hk.2) (.slice Ao63 t201.length co63)) (fun _ h_ => h_.1))))) (Kd.R_lt (by (with_reducible repeat (first | apply Kd.R_alloc | apply Kd.R_drewN | apply Kd.R_drew)); exact (Kd.R_mono (Kd.R_far (p := ⟨gb204, 2, none⟩) (Kd.R_far (p := ⟨gb204, 1, none⟩) (Kd.R_far (p := ⟨gb204, 0, none⟩) (Kd.R_types Oq4.out BK204.out (by decide)) (fun _ hk => hk.2) (.int .i64 t199)) (fun _ hk => hk.2) (.int .i64 t200)) (fun _ hk => hk.2) (.slice Ao63 t201.length co63)) (fun _ h_ => h_.1))))) (below_size (by repeat with_reducible first | exact HB.out | apply pw_below_drewN | apply below_drew1 | refine below_set ?_ (Aside0.out (by assumption))))); have n6_ := am (blk_below (g := gb172) (o := .cells #[.int .i64 a0_0, .int .i64 a0_1, .slice A0_2 l0_2.length c0_2] 24 (0, 0)) (by (with_reducible repeat (first | refine blk_drewN ?_ _ | refine blk_drew ?_ | refine blk_alloc ?_ _)); refine blk_far ?_ Nq3.out _; (with_reducible repeat (first | refine blk_drewN ?_ _ | refine blk_drew ?_ | refine blk_alloc ?_ _)); refine blk_far ?_ Nq3.out _; (with_reducible repeat (first | refine blk_drewN ?_ _ | refine blk_drew ?_ | refine blk_alloc ?_ _)); refine blk_far ?_ Nq3.out _; (with_reducible repeat (first | refine blk_drewN ?_ _ | refine blk_drew ?_ | refine blk_alloc ?_ _)); exact BK172.out) hb); have n7_ := am (blk_below (g := gb173) (o := .cells #[.int .i64 a1_0, .int .i64 a1_1, .slice A1_2 l1_2.length c1_2] 24 (0, 0)) (by (with_reducible repeat (first | refine blk_drewN ?_ _ | refine blk_drew ?_ | refine blk_alloc ?_ _)); refine blk_far ?_ Nq9.out _; (with_reducible repeat (first | refine blk_drewN ?_ _ | refine blk_drew ?_ | refine blk_alloc ?_ _)); refine blk_far ?_ Nq9.out _; (with_reducible repeat (first | refine blk_drewN ?_ _ | refine blk_drew ?_ | refine blk_alloc ?_ _)); refine blk_far ?_ Nq9.out _; (with_reducible repeat (first | refine blk_drewN ?_ _ | refine blk_drew ?_ | refine blk_alloc ?_ _)); exact BK173.out) hb); have n8_ := am (blk_below (g := gb192) (o := .cells #[.int .i64 t186, .int .i64 t187, .slice Ao43 t188.length co43] 26 (0, 0)) (by (with_reducible repeat (first | refine blk_drewN ?_ _ | refine blk_drew ?_ | refine blk_alloc ?_ _)); refine blk_far ?_ Nq15.out _; (with_reducible repeat (first | refine blk_drewN ?_ _ | refine blk_drew ?_ | refine blk_alloc ?_ _)); refine blk_far ?_ Nq15.out _; (with_reducible repeat (first | refine blk_drewN ?_ _ | refine blk_drew ?_ | refine blk_alloc ?_ _)); refine blk_far ?_ Nq15.out _; (with_reducible repeat (first | refine blk_drewN ?_ _ | refine blk_drew ?_ | refine blk_alloc ?_ _)); exact BK192.out) hb); have n9_ := am (blk_below (g := gb198) (o := .cells #[.int .i64 t193, .int .i64 t194, .slice Ao53 t195.length co53] 26 (0, 0)) (by (with_reducible repeat (first | refine blk_drewN ?_ _ | refine blk_drew ?_ | refine blk_alloc ?_ _)); refine blk_far ?_ Nq21.out _; (with_reducible repeat (first | refine blk_drewN ?_ _ | refine blk_drew ?_ | refine blk_alloc ?_ _)); refine blk_far ?_ Nq21.out _; (with_reducible repeat (first | refine blk_drewN ?_ _ | refine blk_drew ?_ | refine blk_alloc ?_ _)); refine blk_far ?_ Nq21.out _; (with_reducible repeat (first | refine blk_drewN ?_ _ | refine blk_drew ?_ | refine blk_alloc ?_ _)); exact BK198.out) hb); have n10_ := am (blk_below (g := gb204) (o := .cells #[.int .i64 t199, .int .i64 t200, .slice Ao63 t201.length co63] 26 (0, 0)) (by (with_reducible repeat (first | refine blk_drewN ?_ _ | refine blk_drew ?_ | refine blk_alloc ?_ _)); refine blk_put (cs := #[.int .i64 t199, .int .i64 t200, .slice none 0 0]) ?_ 2 _ rfl; (with_reducible repeat (first | refine blk_drewN ?_ _ | refine blk_drew ?_ | refine blk_alloc ?_ _)); refine blk_put (cs := #[.int .i64 t199, .int .i64 0, .slice none 0 0]) ?_ 1 _ rfl; (with_reducible repeat (first | refine blk_drewN ?_ _ | refine blk_drew ?_ | refine blk_alloc ?_ _)); refine blk_put (cs := #[.int .i64 0, .int .i64 0, .slice none 0 0]) ?_ 0 _ rfl; (with_reducible repeat (first | refine blk_drewN ?_ _ | refine blk_drew ?_ | refine blk_alloc ?_ _)); exact BK204.out) hb); have n11_ := am (below_step (by repeat with_reducible first | exact HB.out | apply pw_below_drewN | apply below_drew1 | refine below_set ?_ (Aside0.out (by assumption))) hb); clear Oq0; clear Oq1; clear Oq2; clear Oq3; clear Oq4; clear BK172; clear BK173; clear BK192; clear BK198; clear BK204; clear HB; have Oq0 := n0_; have Oq1 := n1_; have Oq2 := n2_; have Oq3 := n3_; have Oq4 := n4_; have Oq5 := n5_; have BK172 := n6_; have BK173 := n7_; have BK192 := n8_; have BK198 := n9_; have BK204 := n10_; have HB := n11_; clear n0_ n1_ n2_ n3_ n4_ n5_ n6_ n7_ n8_ n9_ n10_ n11_; (try clear hb); (try clear hb2); (try clear hk); (try clear hi); (try clear ho0)) | ((with_reducible refine gate_dst (N := 10) rfl ?_); refine box_event ?hg (N := 10) ?hd (cs := #[.int .i64 0, .int .i64 0, .slice none 0 0]) (t := 26) ?hr ?_; (case hd => rfl); (case hg => rfl); (case hr => first | (go_simp; done) | (go_simp; rfl)); intro gb211 hg w66 hbox hb; have n11_ := am (below_step (by repeat with_reducible first | exact HB.out | apply pw_below_drewN | apply below_drew1 | refine below_set ?_ (Aside0.out (by assumption))) hb); have n12_ := am (hbox); have n13_ := am ((by rw [hg]; exact (below_size (by repeat with_reducible first | exact HB.out | apply pw_below_drewN | apply below_drew1 | refine below_set ?_ (Aside0.out (by assumption)))) : w.heap.size ≤ gb211)); have n14_ := am ((by rw [hg]; exact (below_size (by repeat with_reducible first | exact HB.out | apply pw_below_drewN | apply below_drew1 | refine below_set ?_ (Aside0.out (by assumption)))) : w.heap.size ≤ gb211)); have n15_ := am ((by rw [hg]; exact Nat.ne_of_lt (sqT BK172) : gb172 ≠ gb211)); have n16_ := am ((by rw [hg]; exact Nat.ne_of_gt (sqT BK172) : gb211 ≠ gb172)); have n17_ := am ((by rw [hg]; exact Nat.ne_of_lt (sqT BK173) : gb173 ≠ gb211)); have n18_ := am ((by rw [hg]; exact Nat.ne_of_gt (sqT BK173) : gb211 ≠ gb173)); have n19_ := am ((by rw [hg]; exact Nat.ne_of_lt (sqT BK192) : gb192 ≠ gb211)); have n20_ := am ((by rw [hg]; exact Nat.ne_of_gt (sqT BK192) : gb211 ≠ gb192)); have n21_ := am ((by rw [hg]; exact Nat.ne_of_lt (sqT BK198) : gb198 ≠ gb211)); have n22_ := am ((by rw [hg]; exact Nat.ne_of_gt (sqT BK198) : gb211 ≠ gb198)); have n23_ := am ((by rw [hg]; exact Nat.ne_of_lt (sqT BK204) : gb204 ≠ gb211)); have n24_ := am ((by rw [hg]; exact Nat.ne_of_gt (sqT BK204) : gb211 ≠ gb204)); clear HB; replace Oq0 := sqR Oq0 hb; replace Oq1 := sqR Oq1 hb; replace Oq2 := sqR Oq2 hb; replace Oq3 := sqR Oq3 hb; replace Oq4 := sqR Oq4 hb; replace Oq5 := sqR Oq5 hb; replace BK172 := sqB BK172 hb; replace BK173 := sqB BK173 hb; replace BK192 := sqB BK192 hb; replace BK198 := sqB BK198 hb; replace BK204 := sqB BK204 hb; have HB := n11_; have BK211 := n12_; have GW211 := n13_; have GE211 := n14_; have Nq4 := n15_; have Nq30 := n16_; have Nq10 := n17_; have Nq31 := n18_; have Nq16 := n19_; have Nq32 := n20_; have Nq22 := n21_; have Nq33 := n22_; have Nq28 := n23_; have Nq34 := n24_; clear n11_ n12_ n13_ n14_ n15_ n16_ n17_ n18_ n19_ n20_ n21_ n22_ n23_ n24_; clear hb hbox hg; have bq51 := Nq30.out; have cq51 := Nq4.out; have bq52 := Nq31.out; have cq52 := Nq10.out; have bq53 := Nq32.out; have cq53 := Nq16.out; have bq55 := Nq33.out; have cq55 := Nq22.out; have bq56 := Nq34.out; have cq56 := Nq28.out; have zq54 : w66.cell? ⟨gb211, 0, none⟩ = some (.int .i64 0) := sqc BK211 0; have zq55 : w66.cell? ⟨gb211, 1, none⟩ = some (.int .i64 0) := sqc BK211 1; have zq56 : w66.cell? ⟨gb211, 2, none⟩ = some (.slice none 0 0) := sqc BK211 2; have fq54 := blk_frozen BK211.out 0; have fq55 := blk_frozen BK211.out 1; have fq56 := blk_frozen BK211.out 2; obtain ⟨Ao73, co73, eo73⟩ := Kd.R_slice Oq5.out; subst eo73))
   (try simp only [Act.put, List.setIfInBounds_toArray, List.set_cons_zero, List.set_cons_succ])
   go_cut [53] (fun v53 wc => ∃ (kq : Nat) (x53_24 : Bool), v53 = .bool x53_24 ∧ Aside0 (laws_FnExactMeetOf.j0 kq t191 t210 x53_24 a0_0 a0_1 l0_2 a1_0 a1_1 l1_2 t186 t187 t188 t193 t194 t195 t199 t200 t201 t205 t206 t207 = some true) ∧ Aside0 (kq ≤ k) ∧ Aside0 (Kd.R (Kd.int .i64) 3 wc w.heap.size (fun k_ => some k_ ≠ ((.slice Ao53 t195.length co53) : Value).ownBlock ∧ some k_ ≠ ((.slice Ao63 t201.length co63) : Value).ownBlock ∧ some k_ ≠ ((.slice Ao73 t207.length co73) : Value).ownBlock) (.slice Ao43 t188.length co43) t188) ∧ Aside0 (Kd.R (Kd.int .i64) 3 wc w.heap.size (fun k_ => some k_ ≠ ((.slice Ao43 t188.length co43) : Value).ownBlock ∧ some k_ ≠ ((.slice Ao63 t201.length co63) : Value).ownBlock ∧ some k_ ≠ ((.slice Ao73 t207.length co73) : Value).ownBlock) (.slice Ao53 t195.length co53) t195) ∧ Aside0 (Kd.R (Kd.int .i64) 3 wc w.heap.size (fun k_ => some k_ ≠ ((.slice Ao43 t188.length co43) : Value).ownBlock ∧ some k_ ≠ ((.slice Ao53 t195.length co53) : Value).ownBlock ∧ some k_ ≠ ((.slice Ao73 t207.length co73) : Value).ownBlock) (.slice Ao63 t201.length co63) t201) ∧ Aside0 (Kd.R (Kd.int .i64) 3 wc w.heap.size (fun k_ => some k_ ≠ ((.slice Ao43 t188.length co43) : Value).ownBlock ∧ some k_ ≠ ((.slice Ao53 t195.length co53) : Value).ownBlock ∧ some k_ ≠ ((.slice Ao63 t201.length co63) : Value).ownBlock) (.slice Ao73 t207.length co73) t207) ∧ Aside0 (wc.heap[gb172]? = some (.cells #[.int .i64 a0_0, .int .i64 a0_1, (.slice A0_2 l0_2.length c0_2)] 24 (0, 0))) ∧ Aside0 (wc.heap[gb173]? = some (.cells #[.int .i64 a1_0, .int .i64 a1_1, (.slice A1_2 l1_2.length c1_2)] 24 (0, 0))) ∧ Aside0 (wc.heap[gb192]? = some (.cells #[.int .i64 t186, .int .i64 t187, (.slice Ao43 t188.length co43)] 26 (0, 0))) ∧ Aside0 (wc.heap[gb198]? = some (.cells #[.int .i64 t193, .int .i64 t194, (.slice Ao53 t195.length co53)] 26 (0, 0))) ∧ Aside0 (wc.heap[gb204]? = some (.cells #[.int .i64 t199, .int .i64 t200, (.slice Ao63 t201.length co63)] 26 (0, 0))) ∧ Aside0 (wc.heap[gb211]? = some (.cells #[.int .i64 t205, .int .i64 t206, (.slice Ao73 t207.length co73)] 26 (0, 0))) ∧ Aside0 (Below w.heap.size w wc))
   case first =>
    have H := HC25.out
    clear HC25
    replace H := Option.bind_eq_some_iff.mp H
    obtain ⟨t212, A740, H⟩ := H
    replace H : (if t212 = true then (laws_FnExactMeetOf.j0 k t191 t210 (t210 != t191) a0_0 a0_1 l0_2 a1_0 a1_1 l1_2 t186 t187 t188 t193 t194 t195 t199 t200 t201 t205 t206 t207) else (laws_FnExactMeetOf.j0 k t191 t210 true a0_0 a0_1 l0_2 a1_0 a1_1 l1_2 t186 t187 t188 t193 t194 t195 t199 t200 t201 t205 t206 t207)) = some true := H
    have A74 := Aside0.mk A740
    clear A740
    by_cases c75 : t212 = true
    ·
     subst c75
     have H1 : (laws_FnExactMeetOf.j0 k t191 t210 (t210 != t191) a0_0 a0_1 l0_2 a1_0 a1_1 l1_2 t186 t187 t188 t193 t194 t195 t199 t200 t201 t205 t206 t207) = some true := by first | (rw [if_pos rfl] at H; exact H) | rfl
     clear H
     have H := H1
     clear H1
     have H' := Aside0.mk H
     clear H
     have bq57 := Nq30.out
     have cq57 := Nq4.out
     have bq58 := Nq31.out
     have cq58 := Nq10.out
     have bq59 := Nq32.out
     have cq59 := Nq16.out
     have bq60 := Nq33.out
     have cq60 := Nq22.out
     have bq61 := Nq34.out
     have cq61 := Nq28.out
     have zq57 : w66.cell? ⟨gb211, 0, none⟩ = some (.int .i64 0) := sqc BK211 0
     have zq58 : w66.cell? ⟨gb211, 1, none⟩ = some (.int .i64 0) := sqc BK211 1
     have zq59 : w66.cell? ⟨gb211, 2, none⟩ = some (.slice none 0 0) := sqc BK211 2
     have fq57 := blk_frozen BK211.out 0
     have fq58 := blk_frozen BK211.out 1
     have fq59 := blk_frozen BK211.out 2
     have bq62 := Nq12.out
     have cq62 := Nq1.out
     have bq63 := Nq13.out
     have cq63 := Nq7.out
     have bq64 := Nq14.out
     have cq64 := Nq20.out
     have bq65 := Nq15.out
     have cq65 := Nq26.out
     have zq60 : w66.cell? ⟨gb192, 0, none⟩ = some (.int .i64 t186) := sqc BK192 0
     have zq61 : w66.cell? ⟨gb192, 1, none⟩ = some (.int .i64 t187) := sqc BK192 1
     have zq62 : w66.cell? ⟨gb192, 2, none⟩ = some (.slice Ao43 t188.length co43) := sqc BK192 2
     have fq60 := blk_frozen BK192.out 0
     have fq61 := blk_frozen BK192.out 1
     have fq62 := blk_frozen BK192.out 2
     go_wp2_with (first | ((with_reducible refine gate_callee (f := 16) rfl ?_); refine goesL_ (some 47) rfl rfl Try.func16 (by kernel_rfl) rfl #[.agg #[.int .i64 t205, .int .i64 t206, .slice Ao73 t207.length co73], .agg #[.int .i64 t186, .int .i64 t187, .slice Ao43 t188.length co43]] rfl (by (try simp only [List.map_toArray, List.map_cons, List.map_nil]); try rfl) ?_; (with_reducible refine (laws_eqBoard.calls k t205 t206 _ _ t207 t186 t187 _ _ t188 true _ ?side1 ?side2 ?side3 ?side4 A74.out).mono ?_); (case side1 => refine (Kd.R_reads' (e := 3) (base := w.heap.size) (ok := fun k_ => (((((True ∧ some k_ ≠ (v179 : Value).ownBlock) ∧ some k_ ≠ (v184 : Value).ownBlock) ∧ some k_ ≠ (.slice Ao43 t188.length co43 : Value).ownBlock) ∧ some k_ ≠ (.slice Ao53 t195.length co53 : Value).ownBlock) ∧ some k_ ≠ (.slice Ao63 t201.length co63 : Value).ownBlock)) (n := t207.length) (c := co73) ?_).2.2; exact (by (with_reducible repeat (first | apply Kd.R_alloc | apply Kd.R_drewN | apply Kd.R_drew)); exact (Kd.R_mono (Kd.R_far (p := ⟨gb211, 2, none⟩) (Kd.R_far (p := ⟨gb211, 1, none⟩) (Kd.R_far (p := ⟨gb211, 0, none⟩) (Kd.R_types Oq5.out BK211.out (by decide)) (fun _ hk => hk.2) (.int .i64 t205)) (fun _ hk => hk.2) (.int .i64 t206)) (fun _ hk => hk.2) (.slice Ao73 t207.length co73)) (fun _ h_ => h_.1)))); (case side2 => exact (Kd.R_reads' Oq5.out).2.1); (case side3 => refine (Kd.R_reads' (e := 3) (base := w.heap.size) (ok := fun k_ => ((((some k_ ≠ (v179 : Value).ownBlock ∧ some k_ ≠ (v184 : Value).ownBlock) ∧ some k_ ≠ (.slice Ao53 t195.length co53 : Value).ownBlock) ∧ some k_ ≠ (.slice Ao63 t201.length co63 : Value).ownBlock) ∧ some k_ ≠ (.slice Ao73 t207.length co73 : Value).ownBlock)) (n := t188.length) (c := co43) ?_).2.2; exact (by (with_reducible repeat (first | apply Kd.R_alloc | apply Kd.R_drewN | apply Kd.R_drew)); exact (Kd.R_mono (Kd.R_far (p := ⟨gb211, 2, none⟩) (Kd.R_far (p := ⟨gb211, 1, none⟩) (Kd.R_far (p := ⟨gb211, 0, none⟩) (Kd.R_types Oq2.out BK211.out (by decide)) (fun _ hk => hk.2) (.int .i64 t205)) (fun _ hk => hk.2) (.int .i64 t206)) (fun _ hk => hk.2) (.slice Ao73 t207.length co73)) (fun _ h_ => h_.1)))); (case side4 => exact (Kd.R_reads' Oq2.out).2.1); rintro e w87 ⟨rfl, hb⟩; refine ⟨_, rfl, ?_⟩; have n0_ := am (Kd.R_below (by (with_reducible repeat (first | apply Kd.R_alloc | apply Kd.R_drewN | apply Kd.R_drew)); exact (Kd.R_mono (Kd.R_far (p := ⟨gb211, 2, none⟩) (Kd.R_far (p := ⟨gb211, 1, none⟩) (Kd.R_far (p := ⟨gb211, 0, none⟩) (Kd.R_types Oq0.out BK211.out (by decide)) (fun _ hk => hk.2) (.int .i64 t205)) (fun _ hk => hk.2) (.int .i64 t206)) (fun _ hk => hk.2) (.slice Ao73 t207.length co73)) (fun _ h_ => h_.1))) hb); have n1_ := am (Kd.R_below (by (with_reducible repeat (first | apply Kd.R_alloc | apply Kd.R_drewN | apply Kd.R_drew)); exact (Kd.R_mono (Kd.R_far (p := ⟨gb211, 2, none⟩) (Kd.R_far (p := ⟨gb211, 1, none⟩) (Kd.R_far (p := ⟨gb211, 0, none⟩) (Kd.R_types Oq1.out BK211.out (by decide)) (fun _ hk => hk.2) (.int .i64 t205)) (fun _ hk => hk.2) (.int .i64 t206)) (fun _ hk => hk.2) (.slice Ao73 t207.length co73)) (fun _ h_ => h_.1))) hb); have n2_ := am (Kd.R_below (by (with_reducible repeat (first | apply Kd.R_alloc | apply Kd.R_drewN | apply Kd.R_drew)); exact (Kd.R_mono (Kd.R_far (p := ⟨gb211, 2, none⟩) (Kd.R_far (p := ⟨gb211, 1, none⟩) (Kd.R_far (p := ⟨gb211, 0, none⟩) (Kd.R_types Oq2.out BK211.out (by decide)) (fun _ hk => hk.2) (.int .i64 t205)) (fun _ hk => hk.2) (.int .i64 t206)) (fun _ hk => hk.2) (.slice Ao73 t207.length co73)) (fun _ h_ => h_.1))) hb); have n3_ := am (Kd.R_below (by (with_reducible repeat (first | apply Kd.R_alloc | apply Kd.R_drewN | apply Kd.R_drew)); exact (Kd.R_mono (Kd.R_far (p := ⟨gb211, 2, none⟩) (Kd.R_far (p := ⟨gb211, 1, none⟩) (Kd.R_far (p := ⟨gb211, 0, none⟩) (Kd.R_types Oq3.out BK211.out (by decide)) (fun _ hk => hk.2) (.int .i64 t205)) (fun _ hk => hk.2) (.int .i64 t206)) (fun _ hk => hk.2) (.slice Ao73 t207.length co73)) (fun _ h_ => h_.1))) hb); have n4_ := am (Kd.R_below (by (with_reducible repeat (first | apply Kd.R_alloc | apply Kd.R_drewN | apply Kd.R_drew)); exact (Kd.R_mono (Kd.R_far (p := ⟨gb211, 2, none⟩) (Kd.R_far (p := ⟨gb211, 1, none⟩) (Kd.R_far (p := ⟨gb211, 0, none⟩) (Kd.R_types Oq4.out BK211.out (by decide)) (fun _ hk => hk.2) (.int .i64 t205)) (fun _ hk => hk.2) (.int .i64 t206)) (fun _ hk => hk.2) (.slice Ao73 t207.length co73)) (fun _ h_ => h_.1))) hb); have n5_ := am (Kd.R_below (by (with_reducible repeat (first | apply Kd.R_alloc | apply Kd.R_drewN | apply Kd.R_drew)); exact (Kd.R_mono (Kd.R_far (p := ⟨gb211, 2, none⟩) (Kd.R_far (p := ⟨gb211, 1, none⟩) (Kd.R_far (p := ⟨gb211, 0, none⟩) (Kd.R_types Oq5.out BK211.out (by decide)) (fun _ hk => hk.2) (.int .i64 t205)) (fun _ hk => hk.2) (.int .i64 t206)) (fun _ hk => hk.2) (.slice Ao73 t207.length co73)) (fun _ h_ => h_.1))) hb); have n6_ := am (blk_below (g := gb172) (o := .cells #[.int .i64 a0_0, .int .i64 a0_1, .slice A0_2 l0_2.length c0_2] 24 (0, 0)) (by (with_reducible repeat (first | refine blk_drewN ?_ _ | refine blk_drew ?_ | refine blk_alloc ?_ _)); refine blk_far ?_ Nq4.out _; (with_reducible repeat (first | refine blk_drewN ?_ _ | refine blk_drew ?_ | refine blk_alloc ?_ _)); refine blk_far ?_ Nq4.out _; (with_reducible repeat (first | refine blk_drewN ?_ _ | refine blk_drew ?_ | refine blk_alloc ?_ _)); refine blk_far ?_ Nq4.out _; (with_reducible repeat (first | refine blk_drewN ?_ _ | refine blk_drew ?_ | refine blk_alloc ?_ _)); exact BK172.out) hb); have n7_ := am (blk_below (g := gb173) (o := .cells #[.int .i64 a1_0, .int .i64 a1_1, .slice A1_2 l1_2.length c1_2] 24 (0, 0)) (by (with_reducible repeat (first | refine blk_drewN ?_ _ | refine blk_drew ?_ | refine blk_alloc ?_ _)); refine blk_far ?_ Nq10.out _; (with_reducible repeat (first | refine blk_drewN ?_ _ | refine blk_drew ?_ | refine blk_alloc ?_ _)); refine blk_far ?_ Nq10.out _; (with_reducible repeat (first | refine blk_drewN ?_ _ | refine blk_drew ?_ | refine blk_alloc ?_ _)); refine blk_far ?_ Nq10.out _; (with_reducible repeat (first | refine blk_drewN ?_ _ | refine blk_drew ?_ | refine blk_alloc ?_ _)); exact BK173.out) hb); have n8_ := am (blk_below (g := gb192) (o := .cells #[.int .i64 t186, .int .i64 t187, .slice Ao43 t188.length co43] 26 (0, 0)) (by (with_reducible repeat (first | refine blk_drewN ?_ _ | refine blk_drew ?_ | refine blk_alloc ?_ _)); refine blk_far ?_ Nq16.out _; (with_reducible repeat (first | refine blk_drewN ?_ _ | refine blk_drew ?_ | refine blk_alloc ?_ _)); refine blk_far ?_ Nq16.out _; (with_reducible repeat (first | refine blk_drewN ?_ _ | refine blk_drew ?_ | refine blk_alloc ?_ _)); refine blk_far ?_ Nq16.out _; (with_reducible repeat (first | refine blk_drewN ?_ _ | refine blk_drew ?_ | refine blk_alloc ?_ _)); exact BK192.out) hb); have n9_ := am (blk_below (g := gb198) (o := .cells #[.int .i64 t193, .int .i64 t194, .slice Ao53 t195.length co53] 26 (0, 0)) (by (with_reducible repeat (first | refine blk_drewN ?_ _ | refine blk_drew ?_ | refine blk_alloc ?_ _)); refine blk_far ?_ Nq22.out _; (with_reducible repeat (first | refine blk_drewN ?_ _ | refine blk_drew ?_ | refine blk_alloc ?_ _)); refine blk_far ?_ Nq22.out _; (with_reducible repeat (first | refine blk_drewN ?_ _ | refine blk_drew ?_ | refine blk_alloc ?_ _)); refine blk_far ?_ Nq22.out _; (with_reducible repeat (first | refine blk_drewN ?_ _ | refine blk_drew ?_ | refine blk_alloc ?_ _)); exact BK198.out) hb); have n10_ := am (blk_below (g := gb204) (o := .cells #[.int .i64 t199, .int .i64 t200, .slice Ao63 t201.length co63] 26 (0, 0)) (by (with_reducible repeat (first | refine blk_drewN ?_ _ | refine blk_drew ?_ | refine blk_alloc ?_ _)); refine blk_far ?_ Nq28.out _; (with_reducible repeat (first | refine blk_drewN ?_ _ | refine blk_drew ?_ | refine blk_alloc ?_ _)); refine blk_far ?_ Nq28.out _; (with_reducible repeat (first | refine blk_drewN ?_ _ | refine blk_drew ?_ | refine blk_alloc ?_ _)); refine blk_far ?_ Nq28.out _; (with_reducible repeat (first | refine blk_drewN ?_ _ | refine blk_drew ?_ | refine blk_alloc ?_ _)); exact BK204.out) hb); have n11_ := am (blk_below (g := gb211) (o := .cells #[.int .i64 t205, .int .i64 t206, .slice Ao73 t207.length co73] 26 (0, 0)) (by (with_reducible repeat (first | refine blk_drewN ?_ _ | refine blk_drew ?_ | refine blk_alloc ?_ _)); refine blk_put (cs := #[.int .i64 t205, .int .i64 t206, .slice none 0 0]) ?_ 2 _ rfl; (with_reducible repeat (first | refine blk_drewN ?_ _ | refine blk_drew ?_ | refine blk_alloc ?_ _)); refine blk_put (cs := #[.int .i64 t205, .int .i64 0, .slice none 0 0]) ?_ 1 _ rfl; (with_reducible repeat (first | refine blk_drewN ?_ _ | refine blk_drew ?_ | refine blk_alloc ?_ _)); refine blk_put (cs := #[.int .i64 0, .int .i64 0, .slice none 0 0]) ?_ 0 _ rfl; (with_reducible repeat (first | refine blk_drewN ?_ _ | refine blk_drew ?_ | refine blk_alloc ?_ _)); exact BK211.out) hb); have n12_ := am (below_step (by repeat with_reducible first | exact HB.out | apply pw_below_drewN | apply below_drew1 | refine below_set ?_ (Aside0.out (by assumption))) hb); clear Oq0; clear Oq1; clear Oq2; clear Oq3; clear Oq4; clear Oq5; clear BK172; clear BK173; clear BK192; clear BK198; clear BK204; clear BK211; clear HB; have Oq0 := n0_; have Oq1 := n1_; have Oq2 := n2_; have Oq3 := n3_; have Oq4 := n4_; have Oq5 := n5_; have BK172 := n6_; have BK173 := n7_; have BK192 := n8_; have BK198 := n9_; have BK204 := n10_; have BK211 := n11_; have HB := n12_; clear n0_ n1_ n2_ n3_ n4_ n5_ n6_ n7_ n8_ n9_ n10_ n11_ n12_; (try clear hb); (try clear hb2); (try clear hk); (try clear hi)))
     go_meet
     case rel => exact ⟨_, ((t210 != t191)), (by first | rfl | (simp; done) | (simp [*]; done)), H', ⟨by first | omega | exact Nat.le_refl _⟩, ⟨by exact sqm Oq2 (fun _ hk => ⟨hk.1.1.2, ⟨hk.1.2, hk.2⟩⟩)⟩, ⟨by exact sqm Oq3 (fun _ hk => ⟨hk.1.1.2, ⟨hk.1.2, hk.2⟩⟩)⟩, ⟨by exact sqm Oq4 (fun _ hk => ⟨hk.1.1.2, ⟨hk.1.2, hk.2⟩⟩)⟩, ⟨by exact sqm Oq5 (fun _ hk => ⟨hk.1.1.2, ⟨hk.1.2, hk.2⟩⟩)⟩, ⟨by (with_reducible repeat (first | refine blk_drewN ?_ _ | refine blk_drew ?_ | refine blk_alloc ?_ _)); exact BK172.out⟩, ⟨by (with_reducible repeat (first | refine blk_drewN ?_ _ | refine blk_drew ?_ | refine blk_alloc ?_ _)); exact BK173.out⟩, ⟨by (with_reducible repeat (first | refine blk_drewN ?_ _ | refine blk_drew ?_ | refine blk_alloc ?_ _)); exact BK192.out⟩, ⟨by (with_reducible repeat (first | refine blk_drewN ?_ _ | refine blk_drew ?_ | refine blk_alloc ?_ _)); exact BK198.out⟩, ⟨by (with_reducible repeat (first | refine blk_drewN ?_ _ | refine blk_drew ?_ | refine blk_alloc ?_ _)); exact BK204.out⟩, ⟨by (with_reducible repeat (first | refine blk_drewN ?_ _ | refine blk_drew ?_ | refine blk_alloc ?_ _)); exact BK211.out⟩, ⟨by repeat with_reducible first | exact HB.out | apply pw_below_drewN | apply below_drew1 | refine below_set ?_ (Aside0.out (by assumption))⟩⟩
    ·
     replace c75 := Bool.eq_false_iff.mpr c75
     subst c75
     have H1 : (laws_FnExactMeetOf.j0 k t191 t210 true a0_0 a0_1 l0_2 a1_0 a1_1 l1_2 t186 t187 t188 t193 t194 t195 t199 t200 t201 t205 t206 t207) = some true := by first | (rw [if_neg (show ¬ (false = true) by decide)] at H; exact H) | rfl
     clear H
     have H := H1
     clear H1
     exact absurd H (laws_FnExactMeetOf.j0_no _ _ _ _ _ _ _ _ _ _ _ _ _ _ _ _ _ _ _ _ _)
   case rest =>
    clear HC25
    try clear c1; try clear p2; try clear c3; try clear c4; try clear c5; try clear c6; try clear c7; try clear c8; try clear c14; try clear c16; try clear c30; try clear c31; try clear c45; try clear c49; try clear c50; try clear c51; try clear c54; try clear c58; try clear c59; try clear c60; try clear c61; try clear c67; try clear c68; try clear c69; try clear c70; try clear c71; try clear c75; try clear c76; try clear c77; try clear c78; try clear c79; try clear c80; try clear c82; try clear c83; try clear c84; try clear c85; try clear zq39; try clear zq40; try clear zq41; try clear zq42; try clear zq43; try clear zq44; try clear zq45; try clear zq46; try clear zq47; try clear zq48; try clear zq49; try clear zq50; try clear zq51; try clear zq52; try clear zq53; try clear zq54; try clear zq55; try clear zq56; try clear zq57; try clear zq58; try clear zq59; try clear zq60; try clear zq61; try clear zq62; try clear fq39; try clear fq40; try clear fq41; try clear fq42; try clear fq43; try clear fq44; try clear fq45; try clear fq46; try clear fq47; try clear fq48; try clear fq49; try clear fq50; try clear fq51; try clear fq52; try clear fq53; try clear fq54; try clear fq55; try clear fq56; try clear fq57; try clear fq58; try clear fq59; try clear fq60; try clear fq61; try clear fq62
    obtain ⟨kq, x53_24, rfl, HA, HJ24, Oq11, Oq12, Oq13, Oq14, BK172, BK173, BK192, BK198, BK204, BK211, HB⟩ := hcut
    cases kq with
    | zero => exact absurd HA.out (by simp [laws_FnExactMeetOf.j0])
    | succ kj24 =>
     have H := HA.out
     clear HA
     simp only [laws_FnExactMeetOf.j0] at H
     by_cases c88 : x53_24 = true
     ·
      subst c88
      have H1 : (some false) = some true := by first | (rw [if_pos rfl] at H; exact H) | rfl
      clear H
      have H := H1
      clear H1
      exact absurd (Option.some.inj H) (by decide)
     ·
      replace c88 := Bool.eq_false_iff.mpr c88
      subst c88
      have H1 : ((laws_toBoard.f kj24 a0_0 a0_1 l0_2).bind fun bt213 => ((laws_eqBoard.f kj24 t193 t194 t195 bt213.1 bt213.2.1 bt213.2.2).bind fun t218 => (if t218 = true then ((laws_toBoard.f kj24 a1_0 a1_1 l1_2).bind fun bt219 => ((laws_eqBoard.f kj24 t199 t200 t201 bt219.1 bt219.2.1 bt219.2.2).bind fun t224 => (if t224 = true then ((laws_markBoard.f kj24 t193 t194 t195 1).bind fun bt225 => ((laws_markBoard.f kj24 t199 t200 t201 bt225.1).bind fun bt227 => (if bt227.1 < 0 then (laws_FnExactMeetOf.j1 kj24 t191 true a0_0 a0_1 l0_2 a1_0 a1_1 l1_2 t186 t187 t188 t205 t206 t207) else ((laws_eqBoard.f kj24 t205 t206 t207 t186 t187 t188).bind fun t229 => (if t229 = true then (laws_FnExactMeetOf.j1 kj24 t191 (t210 != t191) a0_0 a0_1 l0_2 a1_0 a1_1 l1_2 t186 t187 t188 t205 t206 t207) else (laws_FnExactMeetOf.j1 kj24 t191 true a0_0 a0_1 l0_2 a1_0 a1_1 l1_2 t186 t187 t188 t205 t206 t207)))))) else (some false)))) else (some false)))) = some true := by first | (rw [if_neg (show ¬ (false = true) by decide)] at H; exact H) | rfl
      clear H
      have H := H1
      clear H1
      replace H := Option.bind_eq_some_iff.mp H
      obtain ⟨⟨t213, t214, t215⟩, A890, H⟩ := H
      replace H : ((laws_eqBoard.f kj24 t193 t194 t195 t213 t214 t215).bind fun t218 => (if t218 = true then ((laws_toBoard.f kj24 a1_0 a1_1 l1_2).bind fun bt219 => ((laws_eqBoard.f kj24 t199 t200 t201 bt219.1 bt219.2.1 bt219.2.2).bind fun t224 => (if t224 = true then ((laws_markBoard.f kj24 t193 t194 t195 1).bind fun bt225 => ((laws_markBoard.f kj24 t199 t200 t201 bt225.1).bind fun bt227 => (if bt227.1 < 0 then (laws_FnExactMeetOf.j1 kj24 t191 true a0_0 a0_1 l0_2 a1_0 a1_1 l1_2 t186 t187 t188 t205 t206 t207) else ((laws_eqBoard.f kj24 t205 t206 t207 t186 t187 t188).bind fun t229 => (if t229 = true then (laws_FnExactMeetOf.j1 kj24 t191 (t210 != t191) a0_0 a0_1 l0_2 a1_0 a1_1 l1_2 t186 t187 t188 t205 t206 t207) else (laws_FnExactMeetOf.j1 kj24 t191 true a0_0 a0_1 l0_2 a1_0 a1_1 l1_2 t186 t187 t188 t205 t206 t207)))))) else (some false)))) else (some false))) = some true := H
      have A89 := Aside0.mk A890
      clear A890
      replace H := Option.bind_eq_some_iff.mp H
      obtain ⟨t218, A900, H⟩ := H
      replace H : (if t218 = true then ((laws_toBoard.f kj24 a1_0 a1_1 l1_2).bind fun bt219 => ((laws_eqBoard.f kj24 t199 t200 t201 bt219.1 bt219.2.1 bt219.2.2).bind fun t224 => (if t224 = true then ((laws_markBoard.f kj24 t193 t194 t195 1).bind fun bt225 => ((laws_markBoard.f kj24 t199 t200 t201 bt225.1).bind fun bt227 => (if bt227.1 < 0 then (laws_FnExactMeetOf.j1 kj24 t191 true a0_0 a0_1 l0_2 a1_0 a1_1 l1_2 t186 t187 t188 t205 t206 t207) else ((laws_eqBoard.f kj24 t205 t206 t207 t186 t187 t188).bind fun t229 => (if t229 = true then (laws_FnExactMeetOf.j1 kj24 t191 (t210 != t191) a0_0 a0_1 l0_2 a1_0 a1_1 l1_2 t186 t187 t188 t205 t206 t207) else (laws_FnExactMeetOf.j1 kj24 t191 true a0_0 a0_1 l0_2 a1_0 a1_1 l1_2 t186 t187 t188 t205 t206 t207)))))) else (some false)))) else (some false)) = some true := H
      have A90 := Aside0.mk A900
      clear A900
      by_cases c91 : t218 = true
      ·
       subst c91
       have H1 : ((laws_toBoard.f kj24 a1_0 a1_1 l1_2).bind fun bt219 => ((laws_eqBoard.f kj24 t199 t200 t201 bt219.1 bt219.2.1 bt219.2.2).bind fun t224 => (if t224 = true then ((laws_markBoard.f kj24 t193 t194 t195 1).bind fun bt225 => ((laws_markBoard.f kj24 t199 t200 t201 bt225.1).bind fun bt227 => (if bt227.1 < 0 then (laws_FnExactMeetOf.j1 kj24 t191 true a0_0 a0_1 l0_2 a1_0 a1_1 l1_2 t186 t187 t188 t205 t206 t207) else ((laws_eqBoard.f kj24 t205 t206 t207 t186 t187 t188).bind fun t229 => (if t229 = true then (laws_FnExactMeetOf.j1 kj24 t191 (t210 != t191) a0_0 a0_1 l0_2 a1_0 a1_1 l1_2 t186 t187 t188 t205 t206 t207) else (laws_FnExactMeetOf.j1 kj24 t191 true a0_0 a0_1 l0_2 a1_0 a1_1 l1_2 t186 t187 t188 t205 t206 t207)))))) else (some false)))) = some true := by first | (rw [if_pos rfl] at H; exact H) | rfl
       clear H
       have H := H1
       clear H1
       replace H := Option.bind_eq_some_iff.mp H
       obtain ⟨⟨t219, t220, t221⟩, A920, H⟩ := H
       replace H : ((laws_eqBoard.f kj24 t199 t200 t201 t219 t220 t221).bind fun t224 => (if t224 = true then ((laws_markBoard.f kj24 t193 t194 t195 1).bind fun bt225 => ((laws_markBoard.f kj24 t199 t200 t201 bt225.1).bind fun bt227 => (if bt227.1 < 0 then (laws_FnExactMeetOf.j1 kj24 t191 true a0_0 a0_1 l0_2 a1_0 a1_1 l1_2 t186 t187 t188 t205 t206 t207) else ((laws_eqBoard.f kj24 t205 t206 t207 t186 t187 t188).bind fun t229 => (if t229 = true then (laws_FnExactMeetOf.j1 kj24 t191 (t210 != t191) a0_0 a0_1 l0_2 a1_0 a1_1 l1_2 t186 t187 t188 t205 t206 t207) else (laws_FnExactMeetOf.j1 kj24 t191 true a0_0 a0_1 l0_2 a1_0 a1_1 l1_2 t186 t187 t188 t205 t206 t207)))))) else (some false))) = some true := H
       have A92 := Aside0.mk A920
       clear A920
       replace H := Option.bind_eq_some_iff.mp H
       obtain ⟨t224, A930, H⟩ := H
       replace H : (if t224 = true then ((laws_markBoard.f kj24 t193 t194 t195 1).bind fun bt225 => ((laws_markBoard.f kj24 t199 t200 t201 bt225.1).bind fun bt227 => (if bt227.1 < 0 then (laws_FnExactMeetOf.j1 kj24 t191 true a0_0 a0_1 l0_2 a1_0 a1_1 l1_2 t186 t187 t188 t205 t206 t207) else ((laws_eqBoard.f kj24 t205 t206 t207 t186 t187 t188).bind fun t229 => (if t229 = true then (laws_FnExactMeetOf.j1 kj24 t191 (t210 != t191) a0_0 a0_1 l0_2 a1_0 a1_1 l1_2 t186 t187 t188 t205 t206 t207) else (laws_FnExactMeetOf.j1 kj24 t191 true a0_0 a0_1 l0_2 a1_0 a1_1 l1_2 t186 t187 t188 t205 t206 t207)))))) else (some false)) = some true := H
       have A93 := Aside0.mk A930
       clear A930
       by_cases c94 : t224 = true
       ·
        subst c94
        have H1 : ((laws_markBoard.f kj24 t193 t194 t195 1).bind fun bt225 => ((laws_markBoard.f kj24 t199 t200 t201 bt225.1).bind fun bt227 => (if bt227.1 < 0 then (laws_FnExactMeetOf.j1 kj24 t191 true a0_0 a0_1 l0_2 a1_0 a1_1 l1_2 t186 t187 t188 t205 t206 t207) else ((laws_eqBoard.f kj24 t205 t206 t207 t186 t187 t188).bind fun t229 => (if t229 = true then (laws_FnExactMeetOf.j1 kj24 t191 (t210 != t191) a0_0 a0_1 l0_2 a1_0 a1_1 l1_2 t186 t187 t188 t205 t206 t207) else (laws_FnExactMeetOf.j1 kj24 t191 true a0_0 a0_1 l0_2 a1_0 a1_1 l1_2 t186 t187 t188 t205 t206 t207)))))) = some true := by first | (rw [if_pos rfl] at H; exact H) | rfl
        clear H
        have H := H1
        clear H1
        replace H := Option.bind_eq_some_iff.mp H
        obtain ⟨⟨t225, t226⟩, A950, H⟩ := H
        replace H : ((laws_markBoard.f kj24 t199 t200 t201 t225).bind fun bt227 => (if bt227.1 < 0 then (laws_FnExactMeetOf.j1 kj24 t191 true a0_0 a0_1 l0_2 a1_0 a1_1 l1_2 t186 t187 t188 t205 t206 t207) else ((laws_eqBoard.f kj24 t205 t206 t207 t186 t187 t188).bind fun t229 => (if t229 = true then (laws_FnExactMeetOf.j1 kj24 t191 (t210 != t191) a0_0 a0_1 l0_2 a1_0 a1_1 l1_2 t186 t187 t188 t205 t206 t207) else (laws_FnExactMeetOf.j1 kj24 t191 true a0_0 a0_1 l0_2 a1_0 a1_1 l1_2 t186 t187 t188 t205 t206 t207))))) = some true := H
        have A95 := Aside0.mk A950
        clear A950
        replace H := Option.bind_eq_some_iff.mp H
        obtain ⟨⟨t227, t228⟩, A960, H⟩ := H
        replace H : (if t227 < 0 then (laws_FnExactMeetOf.j1 kj24 t191 true a0_0 a0_1 l0_2 a1_0 a1_1 l1_2 t186 t187 t188 t205 t206 t207) else ((laws_eqBoard.f kj24 t205 t206 t207 t186 t187 t188).bind fun t229 => (if t229 = true then (laws_FnExactMeetOf.j1 kj24 t191 (t210 != t191) a0_0 a0_1 l0_2 a1_0 a1_1 l1_2 t186 t187 t188 t205 t206 t207) else (laws_FnExactMeetOf.j1 kj24 t191 true a0_0 a0_1 l0_2 a1_0 a1_1 l1_2 t186 t187 t188 t205 t206 t207)))) = some true := H
        have A96 := Aside0.mk A960
        clear A960
        have HC97 := Aside0.mk H
        clear H
        try go_wp2
        have n0_ := am (Kd.R_drew Oq11.out)
        have n1_ := am (Kd.R_drew Oq12.out)
        have n2_ := am (Kd.R_drew Oq13.out)
        have n3_ := am (Kd.R_drew Oq14.out)
        have n4_ := am (blk_drew BK172.out)
        have n5_ := am (blk_drew BK173.out)
        have n6_ := am (blk_drew BK192.out)
        have n7_ := am (blk_drew BK198.out)
        have n8_ := am (blk_drew BK204.out)
        have n9_ := am (blk_drew BK211.out)
        have n10_ := am (below_drew1 HB.out)
        clear Oq11 Oq12 Oq13 Oq14 BK172 BK173 BK192 BK198 BK204 BK211 HB
        have Oq11 := n0_
        have Oq12 := n1_
        have Oq13 := n2_
        have Oq14 := n3_
        have BK172 := n4_
        have BK173 := n5_
        have BK192 := n6_
        have BK198 := n7_
        have BK204 := n8_
        have BK211 := n9_
        have HB := n10_
        clear n0_ n1_ n2_ n3_ n4_ n5_ n6_ n7_ n8_ n9_ n10_
        refine start_ (n := 5) (S := fun w' => w'.cell? ⟨gb198, 0, none⟩ = some (.int .i64 t193) ∧ w'.cell? ⟨gb198, 1, none⟩ = some (.int .i64 t194) ∧ w'.cell? ⟨gb198, 2, none⟩ = some (.slice Ao53 t195.length co53) ∧ w'.cell? ⟨gb172, 0, none⟩ = some (.int .i64 a0_0) ∧ w'.cell? ⟨gb172, 1, none⟩ = some (.int .i64 a0_1) ∧ w'.cell? ⟨gb172, 2, none⟩ = some (.slice A0_2 l0_2.length c0_2)) (ds := []) #[false, false, false, false, false] (by kernel_rfl) rfl rfl ⟨sqc BK198 0, sqc BK198 1, sqc BK198 2, sqc BK172 0, sqc BK172 1, sqc BK172 2⟩ (fun hHeld => ?_)
        generalize wc.drew = w98 at Oq11 Oq12 Oq13 Oq14 BK172 BK173 BK192 BK198 BK204 BK211 HB hHeld ⊢
        refine take_ (i := 0) (N := some 54) (v := ?_) (a' := ?_) #[true, false, false, false, false] rfl rfl (by kernel_rfl) (fun _ _ _ h => h) (Or.inl ⟨by rfl, ?_⟩) hHeld ?_ ?_
        rotate_left
        ·
         rintro w' ⟨s0, s1, s2, s3, s4, s5⟩
         go_simp
         with_reducible rfl
        rotate_left
        ·
         simp only [Act.put, List.setIfInBounds_toArray, List.set_cons_zero, List.set_cons_succ, i64_w, i32_w]
         rfl
        refine take_ (i := 1) (N := some 55) (v := ?_) (a' := ?_) #[true, true, false, false, false] rfl rfl (by kernel_rfl) (fun _ _ _ h => h) (Or.inl ⟨by rfl, ?_⟩) hHeld ?_ ?_
        rotate_left
        ·
         rintro w' ⟨s0, s1, s2, s3, s4, s5⟩
         go_simp
         with_reducible rfl
        rotate_left
        ·
         simp only [Act.put, List.setIfInBounds_toArray, List.set_cons_zero, List.set_cons_succ, i64_w, i32_w]
         rfl
        refine one_ (i := 2) (N := some 56) #[true, true, true, false, false] rfl rfl (by kernel_rfl) (by decide) (fun K hK => ?_)
        refine goes_ Try.func14 (by kernel_rfl) rfl #[.agg #[.int .i64 a0_0, .int .i64 a0_1, .slice A0_2 l0_2.length c0_2]] (by rfl) rfl rfl (by (try simp only [List.map_toArray, List.map_cons, List.map_nil]); try rfl) ?_
        with_reducible refine (laws_toBoard.calls kj24 a0_0 a0_1 _ _ l0_2 t213 t214 t215 _ ?side1 ?side2 A89.out).mono ?_
        (case side1 => repeat (first | exact (Kd.C_below HR0_2.out HB.out) | (with_reducible first | refine Kd.C_alloc ?_ _ | refine Kd.C_drewN ?_ _ | refine Kd.C_drew ?_)))
        (case side2 => exact HC0_2.out)
        rintro e w99 ⟨v216, rfl, ho0, hb⟩
        refine ⟨_, rfl, ?_⟩
        have n4_ := am (Kd.R_lower (Kd.R_new' (Kd.R_new' (Kd.R_new' (Kd.R_new' ho0 (sqL Oq11)) (sqL Oq12)) (sqL Oq13)) (sqL Oq14)) (below_size (by repeat with_reducible first | exact HB.out | apply pw_below_drewN | apply below_drew1 | refine below_set ?_ (Aside0.out (by assumption)))))
        have n11_ := am (below_step (by repeat with_reducible first | exact HB.out | apply pw_below_drewN | apply below_drew1 | refine below_set ?_ (Aside0.out (by assumption))) hb)
        clear HB
        replace Oq11 := sqE Oq11 ho0 hb
        replace Oq12 := sqE Oq12 ho0 hb
        replace Oq13 := sqE Oq13 ho0 hb
        replace Oq14 := sqE Oq14 ho0 hb
        have Oq6 := n4_
        replace BK172 := sqB BK172 hb
        replace BK173 := sqB BK173 hb
        replace BK192 := sqB BK192 hb
        replace BK198 := sqB BK198 hb
        replace BK204 := sqB BK204 hb
        replace BK211 := sqB BK211 hb
        have HB := n11_
        clear n4_ n11_
        (try clear hb)
        (try clear hb2)
        (try clear hk)
        (try clear hi)
        (try clear ho0)
        obtain ⟨Ao100, co100, eo100⟩ := Kd.R_slice Oq6.out
        (first | subst eo100 | (injection eo100 with f1_ f2_ f3_; have f4_ := f1_.symm; have f5_ := f3_.symm; clear f1_ f2_ f3_; subst f4_; subst f5_))
        refine hK.out _ _ ⟨sqc BK198 0, sqc BK198 1, sqc BK198 2, sqc BK172 0, sqc BK172 1, sqc BK172 2⟩ (fun hHeld => ?_)
        clear hK K
        refine norm_ (a' := ?_) ?_ ?_
        rotate_left
        ·
         show Act.put _ (some 56) _ = _
         simp only [Act.put, List.setIfInBounds_toArray, List.set_cons_zero, List.set_cons_succ, i64_w, i32_w]
         rfl
        refine one_ (i := 3) (N := some 57) #[true, true, true, true, false] rfl rfl (by kernel_rfl) (by decide) (fun K hK => ?_)
        refine goes_ Try.func16 (by kernel_rfl) rfl #[.agg #[.int .i64 t193, .int .i64 t194, .slice Ao53 t195.length co53], .agg #[.int .i64 t213, .int .i64 t214, .slice Ao100 t215.length co100]] (by rfl) rfl rfl (by (try simp only [List.map_toArray, List.map_cons, List.map_nil]); try rfl) ?_
        with_reducible refine (laws_eqBoard.calls kj24 t193 t194 _ _ t195 t213 t214 _ _ t215 true _ ?side1 ?side2 ?side3 ?side4 A90.out).mono ?_
        (case side1 => repeat (first | exact (Kd.R_reads' Oq12.out).2.2 | (with_reducible first | refine Kd.C_alloc ?_ _ | refine Kd.C_drewN ?_ _ | refine Kd.C_drew ?_)))
        (case side2 => exact (Kd.R_reads' Oq12.out).2.1)
        (case side3 => repeat (first | exact (Kd.R_reads' Oq6.out).2.2 | (with_reducible first | refine Kd.C_alloc ?_ _ | refine Kd.C_drewN ?_ _ | refine Kd.C_drew ?_)))
        (case side4 => exact (Kd.R_reads' Oq6.out).2.1)
        rintro e w101 ⟨rfl, hb⟩
        refine ⟨_, rfl, ?_⟩
        have n11_ := am (below_step (by repeat with_reducible first | exact HB.out | apply pw_below_drewN | apply below_drew1 | refine below_set ?_ (Aside0.out (by assumption))) hb)
        clear HB
        replace Oq11 := sqR Oq11 hb
        replace Oq12 := sqR Oq12 hb
        replace Oq13 := sqR Oq13 hb
        replace Oq14 := sqR Oq14 hb
        replace Oq6 := sqR Oq6 hb
        replace BK172 := sqB BK172 hb
        replace BK173 := sqB BK173 hb
        replace BK192 := sqB BK192 hb
        replace BK198 := sqB BK198 hb
        replace BK204 := sqB BK204 hb
        replace BK211 := sqB BK211 hb
        have HB := n11_
        clear n11_
        (try clear hb)
        (try clear hb2)
        (try clear hk)
        (try clear hi)
        refine hK.out _ _ ⟨sqc BK198 0, sqc BK198 1, sqc BK198 2, sqc BK172 0, sqc BK172 1, sqc BK172 2⟩ (fun hHeld => ?_)
        clear hK K
        refine norm_ (a' := ?_) ?_ ?_
        rotate_left
        ·
         show Act.put _ (some 57) _ = _
         simp only [Act.put, List.setIfInBounds_toArray, List.set_cons_zero, List.set_cons_succ, i64_w, i32_w]
         rfl
        refine pure_ (i := 4) (N := some 58) (v := ?_) (a' := ?_) #[true, true, true, true, true] rfl rfl (by kernel_rfl) (fun _ _ _ h => h) (Or.inl ⟨by rfl, ?_⟩) ?_ ?_
        rotate_left
        ·
         intro w'
         go_simp
         with_reducible rfl
        rotate_left
        ·
         simp only [Act.put, List.setIfInBounds_toArray, List.set_cons_zero, List.set_cons_succ, i64_w, i32_w]
         rfl
        refine done_ (by kernel_rfl) ?_
        try go_wp2
        have n0_ := am (Kd.R_drew Oq11.out)
        have n1_ := am (Kd.R_drew Oq12.out)
        have n2_ := am (Kd.R_drew Oq13.out)
        have n3_ := am (Kd.R_drew Oq14.out)
        have n4_ := am (Kd.R_drew Oq6.out)
        have n5_ := am (blk_drew BK172.out)
        have n6_ := am (blk_drew BK173.out)
        have n7_ := am (blk_drew BK192.out)
        have n8_ := am (blk_drew BK198.out)
        have n9_ := am (blk_drew BK204.out)
        have n10_ := am (blk_drew BK211.out)
        have n11_ := am (below_drew1 HB.out)
        clear Oq11 Oq12 Oq13 Oq14 Oq6 BK172 BK173 BK192 BK198 BK204 BK211 HB
        have Oq11 := n0_
        have Oq12 := n1_
        have Oq13 := n2_
        have Oq14 := n3_
        have Oq6 := n4_
        have BK172 := n5_
        have BK173 := n6_
        have BK192 := n7_
        have BK198 := n8_
        have BK204 := n9_
        have BK211 := n10_
        have HB := n11_
        clear n0_ n1_ n2_ n3_ n4_ n5_ n6_ n7_ n8_ n9_ n10_ n11_
        refine start_ (n := 5) (S := fun w' => w'.cell? ⟨gb204, 0, none⟩ = some (.int .i64 t199) ∧ w'.cell? ⟨gb204, 1, none⟩ = some (.int .i64 t200) ∧ w'.cell? ⟨gb204, 2, none⟩ = some (.slice Ao63 t201.length co63) ∧ w'.cell? ⟨gb173, 0, none⟩ = some (.int .i64 a1_0) ∧ w'.cell? ⟨gb173, 1, none⟩ = some (.int .i64 a1_1) ∧ w'.cell? ⟨gb173, 2, none⟩ = some (.slice A1_2 l1_2.length c1_2)) (ds := []) #[false, false, false, false, false] (by kernel_rfl) rfl rfl ⟨sqc BK204 0, sqc BK204 1, sqc BK204 2, sqc BK173 0, sqc BK173 1, sqc BK173 2⟩ (fun hHeld => ?_)
        generalize w101.drew = w102 at Oq11 Oq12 Oq13 Oq14 Oq6 BK172 BK173 BK192 BK198 BK204 BK211 HB hHeld ⊢
        refine take_ (i := 0) (N := some 59) (v := ?_) (a' := ?_) #[true, false, false, false, false] rfl rfl (by kernel_rfl) (fun _ _ _ h => h) (Or.inl ⟨by rfl, ?_⟩) hHeld ?_ ?_
        rotate_left
        ·
         rintro w' ⟨s0, s1, s2, s3, s4, s5⟩
         go_simp
         with_reducible rfl
        rotate_left
        ·
         simp only [Act.put, List.setIfInBounds_toArray, List.set_cons_zero, List.set_cons_succ, i64_w, i32_w]
         rfl
        refine take_ (i := 1) (N := some 60) (v := ?_) (a' := ?_) #[true, true, false, false, false] rfl rfl (by kernel_rfl) (fun _ _ _ h => h) (Or.inl ⟨by rfl, ?_⟩) hHeld ?_ ?_
        rotate_left
        ·
         rintro w' ⟨s0, s1, s2, s3, s4, s5⟩
         go_simp
         with_reducible rfl
        rotate_left
        ·
         simp only [Act.put, List.setIfInBounds_toArray, List.set_cons_zero, List.set_cons_succ, i64_w, i32_w]
         rfl
        refine one_ (i := 2) (N := some 61) #[true, true, true, false, false] rfl rfl (by kernel_rfl) (by decide) (fun K hK => ?_)
        refine goes_ Try.func14 (by kernel_rfl) rfl #[.agg #[.int .i64 a1_0, .int .i64 a1_1, .slice A1_2 l1_2.length c1_2]] (by rfl) rfl rfl (by (try simp only [List.map_toArray, List.map_cons, List.map_nil]); try rfl) ?_
        with_reducible refine (laws_toBoard.calls kj24 a1_0 a1_1 _ _ l1_2 t219 t220 t221 _ ?side1 ?side2 A92.out).mono ?_
        (case side1 => repeat (first | exact (Kd.C_below HR1_2.out HB.out) | (with_reducible first | refine Kd.C_alloc ?_ _ | refine Kd.C_drewN ?_ _ | refine Kd.C_drew ?_)))
        (case side2 => exact HC1_2.out)
        rintro e w103 ⟨v222, rfl, ho0, hb⟩
        refine ⟨_, rfl, ?_⟩
        have n5_ := am (Kd.R_lower (Kd.R_new' (Kd.R_new' (Kd.R_new' (Kd.R_new' (Kd.R_new' ho0 (sqL Oq11)) (sqL Oq12)) (sqL Oq13)) (sqL Oq14)) (sqL Oq6)) (below_size (by repeat with_reducible first | exact HB.out | apply pw_below_drewN | apply below_drew1 | refine below_set ?_ (Aside0.out (by assumption)))))
        have n12_ := am (below_step (by repeat with_reducible first | exact HB.out | apply pw_below_drewN | apply below_drew1 | refine below_set ?_ (Aside0.out (by assumption))) hb)
        clear HB
        replace Oq11 := sqE Oq11 ho0 hb
        replace Oq12 := sqE Oq12 ho0 hb
        replace Oq13 := sqE Oq13 ho0 hb
        replace Oq14 := sqE Oq14 ho0 hb
        replace Oq6 := sqE Oq6 ho0 hb
        have Oq7 := n5_
        replace BK172 := sqB BK172 hb
        replace BK173 := sqB BK173 hb
        replace BK192 := sqB BK192 hb
        replace BK198 := sqB BK198 hb
        replace BK204 := sqB BK204 hb
        replace BK211 := sqB BK211 hb
        have HB := n12_
        clear n5_ n12_
        (try clear hb)
        (try clear hb2)
        (try clear hk)
        (try clear hi)
        (try clear ho0)
        obtain ⟨Ao104, co104, eo104⟩ := Kd.R_slice Oq7.out
        (first | subst eo104 | (injection eo104 with f1_ f2_ f3_; have f4_ := f1_.symm; have f5_ := f3_.symm; clear f1_ f2_ f3_; subst f4_; subst f5_))
        refine hK.out _ _ ⟨sqc BK204 0, sqc BK204 1, sqc BK204 2, sqc BK173 0, sqc BK173 1, sqc BK173 2⟩ (fun hHeld => ?_)
        clear hK K
        refine norm_ (a' := ?_) ?_ ?_
        rotate_left
        ·
         show Act.put _ (some 61) _ = _
         simp only [Act.put, List.setIfInBounds_toArray, List.set_cons_zero, List.set_cons_succ, i64_w, i32_w]
         rfl
        refine one_ (i := 3) (N := some 62) #[true, true, true, true, false] rfl rfl (by kernel_rfl) (by decide) (fun K hK => ?_)
        refine goes_ Try.func16 (by kernel_rfl) rfl #[.agg #[.int .i64 t199, .int .i64 t200, .slice Ao63 t201.length co63], .agg #[.int .i64 t219, .int .i64 t220, .slice Ao104 t221.length co104]] (by rfl) rfl rfl (by (try simp only [List.map_toArray, List.map_cons, List.map_nil]); try rfl) ?_
        with_reducible refine (laws_eqBoard.calls kj24 t199 t200 _ _ t201 t219 t220 _ _ t221 true _ ?side1 ?side2 ?side3 ?side4 A93.out).mono ?_
        (case side1 => repeat (first | exact (Kd.R_reads' Oq13.out).2.2 | (with_reducible first | refine Kd.C_alloc ?_ _ | refine Kd.C_drewN ?_ _ | refine Kd.C_drew ?_)))
        (case side2 => exact (Kd.R_reads' Oq13.out).2.1)
        (case side3 => repeat (first | exact (Kd.R_reads' Oq7.out).2.2 | (with_reducible first | refine Kd.C_alloc ?_ _ | refine Kd.C_drewN ?_ _ | refine Kd.C_drew ?_)))
        (case side4 => exact (Kd.R_reads' Oq7.out).2.1)
        rintro e w105 ⟨rfl, hb⟩
        refine ⟨_, rfl, ?_⟩
        have n12_ := am (below_step (by repeat with_reducible first | exact HB.out | apply pw_below_drewN | apply below_drew1 | refine below_set ?_ (Aside0.out (by assumption))) hb)
        clear HB
        replace Oq11 := sqR Oq11 hb
        replace Oq12 := sqR Oq12 hb
        replace Oq13 := sqR Oq13 hb
        replace Oq14 := sqR Oq14 hb
        replace Oq6 := sqR Oq6 hb
        replace Oq7 := sqR Oq7 hb
        replace BK172 := sqB BK172 hb
        replace BK173 := sqB BK173 hb
        replace BK192 := sqB BK192 hb
        replace BK198 := sqB BK198 hb
        replace BK204 := sqB BK204 hb
        replace BK211 := sqB BK211 hb
        have HB := n12_
        clear n12_
        (try clear hb)
        (try clear hb2)
        (try clear hk)
        (try clear hi)
        refine hK.out _ _ ⟨sqc BK204 0, sqc BK204 1, sqc BK204 2, sqc BK173 0, sqc BK173 1, sqc BK173 2⟩ (fun hHeld => ?_)
        clear hK K
        refine norm_ (a' := ?_) ?_ ?_
        rotate_left
        ·
         show Act.put _ (some 62) _ = _
         simp only [Act.put, List.setIfInBounds_toArray, List.set_cons_zero, List.set_cons_succ, i64_w, i32_w]
         rfl
        refine pure_ (i := 4) (N := some 63) (v := ?_) (a' := ?_) #[true, true, true, true, true] rfl rfl (by kernel_rfl) (fun _ _ _ h => h) (Or.inl ⟨by rfl, ?_⟩) ?_ ?_
        rotate_left
        ·
         intro w'
         go_simp
         with_reducible rfl
        rotate_left
        ·
         simp only [Act.put, List.setIfInBounds_toArray, List.set_cons_zero, List.set_cons_succ, i64_w, i32_w]
         rfl
        refine done_ (by kernel_rfl) ?_
        have bq0 := Nq18.out
        have cq0 := Nq2.out
        have bq1 := Nq19.out
        have cq1 := Nq8.out
        have bq2 := Nq20.out
        have cq2 := Nq14.out
        have bq3 := Nq21.out
        have cq3 := Nq27.out
        have bq4 := Nq22.out
        have cq4 := Nq33.out
        have zq0 : w105.cell? ⟨gb198, 0, none⟩ = some (.int .i64 t193) := sqc BK198 0
        have zq1 : w105.cell? ⟨gb198, 1, none⟩ = some (.int .i64 t194) := sqc BK198 1
        have zq2 : w105.cell? ⟨gb198, 2, none⟩ = some (.slice Ao53 t195.length co53) := sqc BK198 2
        have fq0 := blk_frozen BK198.out 0
        have fq1 := blk_frozen BK198.out 1
        have fq2 := blk_frozen BK198.out 2
        go_upto_region 21 with (first | ((with_reducible refine gate_callee (f := 17) rfl ?_); refine goesL_ (some 66) rfl rfl Try.func17 (by kernel_rfl) rfl #[.agg #[.int .i64 t193, .int .i64 t194, .slice Ao53 t195.length co53], .int .i64 1] rfl (by (try simp only [List.map_toArray, List.map_cons, List.map_nil]); try rfl) ?_; (with_reducible refine (laws_markBoard.calls kj24 t193 t194 (fun k_ => some k_ = (.slice Ao53 t195.length co53 : Value).ownBlock) (.slice Ao53 t195.length co53) t195 1 t225 t226 w _ ?side1 ?side2 A95.out).mono ?_); (case side1 => repeat (first | (with_reducible first | exact HB.out | apply below_alloc | apply pw_below_drewN | apply below_drew1 | refine below_set ?_ GE172.out | refine below_set ?_ GE173.out | refine below_set ?_ GE192.out | refine below_set ?_ GE198.out | refine below_set ?_ GE204.out | refine below_set ?_ GE211.out) | exact HB.out)); (case side2 => exact Kd.R_tight rfl Oq12.out); rintro e w112 ⟨rfl, hy0, hb, hkp⟩; refine ⟨_, rfl, ?_⟩; have n0_ := am (Kd.R_mono (ok' := fun k_ => some k_ ≠ (.slice Ao53 t195.length co53 : Value).ownBlock ∧ some k_ ≠ (.slice Ao63 t201.length co63 : Value).ownBlock ∧ some k_ ≠ (.slice Ao73 t207.length co73 : Value).ownBlock ∧ some k_ ≠ (.slice Ao100 t215.length co100 : Value).ownBlock ∧ some k_ ≠ (.slice Ao104 t221.length co104 : Value).ownBlock) (Kd.R_keptB (Oq11.out) hkp (fun k_ hk_ hs_ => (hk_.1.1.1) hs_)) (fun k_ hk_ => ⟨hk_.1.1.1.1, hk_.1.1.1.2.1, hk_.1.1.1.2.2, hk_.1.1.2, hk_.1.2⟩)); have n1_ := am (Kd.R_reok rfl hy0 (fun k_ e_ => Oq12.out.1 k_ e_)); have n2_ := am (Kd.R_mono (ok' := fun k_ => some k_ ≠ (.slice Ao43 t188.length co43 : Value).ownBlock ∧ some k_ ≠ (.slice Ao53 t195.length co53 : Value).ownBlock ∧ some k_ ≠ (.slice Ao73 t207.length co73 : Value).ownBlock ∧ some k_ ≠ (.slice Ao100 t215.length co100 : Value).ownBlock ∧ some k_ ≠ (.slice Ao104 t221.length co104 : Value).ownBlock) (Kd.R_keptB (Oq13.out) hkp (fun k_ hk_ hs_ => (hk_.1.1.2.1) hs_)) (fun k_ hk_ => ⟨hk_.1.1.1.1, hk_.1.1.1.2.1, hk_.1.1.1.2.2, hk_.1.1.2, hk_.1.2⟩)); have n3_ := am (Kd.R_mono (ok' := fun k_ => some k_ ≠ (.slice Ao43 t188.length co43 : Value).ownBlock ∧ some k_ ≠ (.slice Ao53 t195.length co53 : Value).ownBlock ∧ some k_ ≠ (.slice Ao63 t201.length co63 : Value).ownBlock ∧ some k_ ≠ (.slice Ao100 t215.length co100 : Value).ownBlock ∧ some k_ ≠ (.slice Ao104 t221.length co104 : Value).ownBlock) (Kd.R_keptB (Oq14.out) hkp (fun k_ hk_ hs_ => (hk_.1.1.2.1) hs_)) (fun k_ hk_ => ⟨hk_.1.1.1.1, hk_.1.1.1.2.1, hk_.1.1.1.2.2, hk_.1.1.2, hk_.1.2⟩)); have n4_ := am (blk_kept (sqb BK172) hkp (fun hs_ => (fun e_ => (Kd.R_ne Oq12.out BK172.out (by decide)) e_) hs_)); have n5_ := am (blk_kept (sqb BK173) hkp (fun hs_ => (fun e_ => (Kd.R_ne Oq12.out BK173.out (by decide)) e_) hs_)); have n6_ := am (blk_kept (sqb BK192) hkp (fun hs_ => (fun e_ => (Kd.R_ne Oq12.out BK192.out (by decide)) e_) hs_)); have n7_ := am (blk_kept (sqb BK198) hkp (fun hs_ => (fun e_ => (Kd.R_ne Oq12.out BK198.out (by decide)) e_) hs_)); have n8_ := am (blk_kept (sqb BK204) hkp (fun hs_ => (fun e_ => (Kd.R_ne Oq12.out BK204.out (by decide)) e_) hs_)); have n9_ := am (blk_kept (sqb BK211) hkp (fun hs_ => (fun e_ => (Kd.R_ne Oq12.out BK211.out (by decide)) e_) hs_)); have n10_ := am (Kd.R_mono (ok' := fun k_ => some k_ ≠ (.slice Ao43 t188.length co43 : Value).ownBlock ∧ some k_ ≠ (.slice Ao53 t195.length co53 : Value).ownBlock ∧ some k_ ≠ (.slice Ao63 t201.length co63 : Value).ownBlock ∧ some k_ ≠ (.slice Ao73 t207.length co73 : Value).ownBlock ∧ some k_ ≠ (.slice Ao104 t221.length co104 : Value).ownBlock) (Kd.R_keptB (Oq6.out) hkp (fun k_ hk_ hs_ => (hk_.1.1.1.2) hs_)) (fun k_ hk_ => ⟨hk_.1.1.1.1.1.2, hk_.1.1.1.1.2, hk_.1.1.1.2, hk_.1.1.2, hk_.1.2⟩)); have n11_ := am (Kd.R_mono (ok' := fun k_ => some k_ ≠ (.slice Ao43 t188.length co43 : Value).ownBlock ∧ some k_ ≠ (.slice Ao53 t195.length co53 : Value).ownBlock ∧ some k_ ≠ (.slice Ao63 t201.length co63 : Value).ownBlock ∧ some k_ ≠ (.slice Ao73 t207.length co73 : Value).ownBlock ∧ some k_ ≠ (.slice Ao100 t215.length co100 : Value).ownBlock) (Kd.R_keptB (Oq7.out) hkp (fun k_ hk_ hs_ => (hk_.1.1.1.2) hs_)) (fun k_ hk_ => ⟨hk_.1.1.1.1.1.2, hk_.1.1.1.1.2, hk_.1.1.1.2, hk_.1.1.2, hk_.1.2⟩)); have n12_ := am (hb); clear Oq11; clear Oq12; clear Oq13; clear Oq14; clear BK172; clear BK173; clear BK192; clear BK198; clear BK204; clear BK211; clear Oq6; clear Oq7; clear HB; have Oq11 := n0_; have Oq12 := n1_; have Oq13 := n2_; have Oq14 := n3_; have BK172 := n4_; have BK173 := n5_; have BK192 := n6_; have BK198 := n7_; have BK204 := n8_; have BK211 := n9_; have Oq6 := n10_; have Oq7 := n11_; have HB := n12_; clear n0_ n1_ n2_ n3_ n4_ n5_ n6_ n7_ n8_ n9_ n10_ n11_ n12_; (try clear hb); (try clear hkp); (try clear hy0); have bq5 := Nq24.out; have cq5 := Nq3.out; have bq6 := Nq25.out; have cq6 := Nq9.out; have bq7 := Nq26.out; have cq7 := Nq15.out; have bq8 := Nq28.out; have cq8 := Nq34.out; have zq3 : w112.cell? ⟨gb204, 0, none⟩ = some (.int .i64 t199) := sqc BK204 0; have zq4 : w112.cell? ⟨gb204, 1, none⟩ = some (.int .i64 t200) := sqc BK204 1; have zq5 : w112.cell? ⟨gb204, 2, none⟩ = some (.slice Ao63 t201.length co63) := sqc BK204 2; have fq3 := blk_frozen BK204.out 0; have fq4 := blk_frozen BK204.out 1; have fq5 := blk_frozen BK204.out 2) | ((with_reducible refine gate_callee (f := 17) rfl ?_); refine goesL_ (some 69) rfl rfl Try.func17 (by kernel_rfl) rfl #[.agg #[.int .i64 t199, .int .i64 t200, .slice Ao63 t201.length co63], .int .i64 t225] rfl (by (try simp only [List.map_toArray, List.map_cons, List.map_nil]); try rfl) ?_; (with_reducible refine (laws_markBoard.calls kj24 t199 t200 (fun k_ => some k_ = (.slice Ao63 t201.length co63 : Value).ownBlock) (.slice Ao63 t201.length co63) t201 t225 t227 t228 w _ ?side1 ?side2 A96.out).mono ?_); (case side1 => repeat (first | (with_reducible first | exact HB.out | apply below_alloc | apply pw_below_drewN | apply below_drew1 | refine below_set ?_ GE172.out | refine below_set ?_ GE173.out | refine below_set ?_ GE192.out | refine below_set ?_ GE198.out | refine below_set ?_ GE204.out | refine below_set ?_ GE211.out) | exact HB.out)); (case side2 => exact Kd.R_tight rfl Oq13.out); rintro e w118 ⟨rfl, hy0, hb, hkp⟩; refine ⟨_, rfl, ?_⟩; have n0_ := am (Kd.R_mono (ok' := fun k_ => some k_ ≠ (.slice Ao53 t195.length co53 : Value).ownBlock ∧ some k_ ≠ (.slice Ao63 t201.length co63 : Value).ownBlock ∧ some k_ ≠ (.slice Ao73 t207.length co73 : Value).ownBlock ∧ some k_ ≠ (.slice Ao100 t215.length co100 : Value).ownBlock ∧ some k_ ≠ (.slice Ao104 t221.length co104 : Value).ownBlock) (Kd.R_keptB (Oq11.out) hkp (fun k_ hk_ hs_ => (hk_.2.1) hs_)) (fun k_ hk_ => ⟨hk_.1.1, hk_.1.2.1, hk_.1.2.2.1, hk_.1.2.2.2.1, hk_.1.2.2.2.2⟩)); have n1_ := am (Kd.R_mono (ok' := fun k_ => some k_ ≠ (.slice Ao43 t188.length co43 : Value).ownBlock ∧ some k_ ≠ (.slice Ao63 t201.length co63 : Value).ownBlock ∧ some k_ ≠ (.slice Ao73 t207.length co73 : Value).ownBlock ∧ some k_ ≠ (.slice Ao100 t215.length co100 : Value).ownBlock ∧ some k_ ≠ (.slice Ao104 t221.length co104 : Value).ownBlock) (Kd.R_keptB (Oq12.out) hkp (fun k_ hk_ hs_ => (hk_.1.1.2.1) hs_)) (fun k_ hk_ => ⟨hk_.1.1.1.1, hk_.1.1.1.2.1, hk_.1.1.1.2.2, hk_.1.1.2, hk_.1.2⟩)); have n2_ := am (Kd.R_reok rfl hy0 (fun k_ e_ => Oq13.out.1 k_ e_)); have n3_ := am (Kd.R_mono (ok' := fun k_ => some k_ ≠ (.slice Ao43 t188.length co43 : Value).ownBlock ∧ some k_ ≠ (.slice Ao53 t195.length co53 : Value).ownBlock ∧ some k_ ≠ (.slice Ao63 t201.length co63 : Value).ownBlock ∧ some k_ ≠ (.slice Ao100 t215.length co100 : Value).ownBlock ∧ some k_ ≠ (.slice Ao104 t221.length co104 : Value).ownBlock) (Kd.R_keptB (Oq14.out) hkp (fun k_ hk_ hs_ => (hk_.2.2.1) hs_)) (fun k_ hk_ => ⟨hk_.1.1, hk_.1.2.1, hk_.1.2.2.1, hk_.1.2.2.2.1, hk_.1.2.2.2.2⟩)); have n4_ := am (blk_kept (sqb BK172) hkp (fun hs_ => (fun e_ => (Kd.R_ne Oq13.out BK172.out (by decide)) e_) hs_)); have n5_ := am (blk_kept (sqb BK173) hkp (fun hs_ => (fun e_ => (Kd.R_ne Oq13.out BK173.out (by decide)) e_) hs_)); have n6_ := am (blk_kept (sqb BK192) hkp (fun hs_ => (fun e_ => (Kd.R_ne Oq13.out BK192.out (by decide)) e_) hs_)); have n7_ := am (blk_kept (sqb BK198) hkp (fun hs_ => (fun e_ => (Kd.R_ne Oq13.out BK198.out (by decide)) e_) hs_)); have n8_ := am (blk_kept (sqb BK204) hkp (fun hs_ => (fun e_ => (Kd.R_ne Oq13.out BK204.out (by decide)) e_) hs_)); have n9_ := am (blk_kept (sqb BK211) hkp (fun hs_ => (fun e_ => (Kd.R_ne Oq13.out BK211.out (by decide)) e_) hs_)); have n10_ := am (Kd.R_mono (ok' := fun k_ => some k_ ≠ (.slice Ao43 t188.length co43 : Value).ownBlock ∧ some k_ ≠ (.slice Ao53 t195.length co53 : Value).ownBlock ∧ some k_ ≠ (.slice Ao63 t201.length co63 : Value).ownBlock ∧ some k_ ≠ (.slice Ao73 t207.length co73 : Value).ownBlock ∧ some k_ ≠ (.slice Ao104 t221.length co104 : Value).ownBlock) (Kd.R_keptB (Oq6.out) hkp (fun k_ hk_ hs_ => (hk_.2.2.1) hs_)) (fun k_ hk_ => ⟨hk_.1.1, hk_.1.2.1, hk_.1.2.2.1, hk_.1.2.2.2.1, hk_.1.2.2.2.2⟩)); have n11_ := am (Kd.R_mono (ok' := fun k_ => some k_ ≠ (.slice Ao43 t188.length co43 : Value).ownBlock ∧ some k_ ≠ (.slice Ao53 t195.length co53 : Value).ownBlock ∧ some k_ ≠ (.slice Ao63 t201.length co63 : Value).ownBlock ∧ some k_ ≠ (.slice Ao73 t207.length co73 : Value).ownBlock ∧ some k_ ≠ (.slice Ao100 t215.length co100 : Value).ownBlock) (Kd.R_keptB (Oq7.out) hkp (fun k_ hk_ hs_ => (hk_.2.2.1) hs_)) (fun k_ hk_ => ⟨hk_.1.1, hk_.1.2.1, hk_.1.2.2.1, hk_.1.2.2.2.1, hk_.1.2.2.2.2⟩)); have n12_ := am (hb); clear Oq11; clear Oq12; clear Oq13; clear Oq14; clear BK172; clear BK173; clear BK192; clear BK198; clear BK204; clear BK211; clear Oq6; clear Oq7; clear HB; have Oq11 := n0_; have Oq12 := n1_; have Oq13 := n2_; have Oq14 := n3_; have BK172 := n4_; have BK173 := n5_; have BK192 := n6_; have BK198 := n7_; have BK204 := n8_; have BK211 := n9_; have Oq6 := n10_; have Oq7 := n11_; have HB := n12_; clear n0_ n1_ n2_ n3_ n4_ n5_ n6_ n7_ n8_ n9_ n10_ n11_ n12_; (try clear hb); (try clear hkp); (try clear hy0)))
        (try simp only [Act.put, List.setIfInBounds_toArray, List.set_cons_zero, List.set_cons_succ])
        go_cut [82] (fun v82 wc => ∃ (kq : Nat) (x82_96 : Bool), v82 = .bool x82_96 ∧ Aside0 (laws_FnExactMeetOf.j1 kq t191 x82_96 a0_0 a0_1 l0_2 a1_0 a1_1 l1_2 t186 t187 t188 t205 t206 t207 = some true) ∧ Aside0 (kq ≤ kj24) ∧ Aside0 (Kd.R (Kd.int .i64) 3 wc w.heap.size (fun k_ => some k_ ≠ ((.slice Ao53 t195.length co53) : Value).ownBlock ∧ some k_ ≠ ((.slice Ao63 t201.length co63) : Value).ownBlock ∧ some k_ ≠ ((.slice Ao73 t207.length co73) : Value).ownBlock) (.slice Ao43 t188.length co43) t188) ∧ Aside0 (Kd.R (Kd.int .i64) 3 wc w.heap.size (fun k_ => some k_ ≠ ((.slice Ao43 t188.length co43) : Value).ownBlock ∧ some k_ ≠ ((.slice Ao63 t201.length co63) : Value).ownBlock ∧ some k_ ≠ ((.slice Ao73 t207.length co73) : Value).ownBlock) (.slice Ao53 t195.length co53) t226) ∧ Aside0 (Kd.R (Kd.int .i64) 3 wc w.heap.size (fun k_ => some k_ ≠ ((.slice Ao43 t188.length co43) : Value).ownBlock ∧ some k_ ≠ ((.slice Ao53 t195.length co53) : Value).ownBlock ∧ some k_ ≠ ((.slice Ao73 t207.length co73) : Value).ownBlock) (.slice Ao63 t201.length co63) t228) ∧ Aside0 (Kd.R (Kd.int .i64) 3 wc w.heap.size (fun k_ => some k_ ≠ ((.slice Ao43 t188.length co43) : Value).ownBlock ∧ some k_ ≠ ((.slice Ao53 t195.length co53) : Value).ownBlock ∧ some k_ ≠ ((.slice Ao63 t201.length co63) : Value).ownBlock) (.slice Ao73 t207.length co73) t207) ∧ Aside0 (wc.heap[gb172]? = some (.cells #[.int .i64 a0_0, .int .i64 a0_1, (.slice A0_2 l0_2.length c0_2)] 24 (0, 0))) ∧ Aside0 (wc.heap[gb173]? = some (.cells #[.int .i64 a1_0, .int .i64 a1_1, (.slice A1_2 l1_2.length c1_2)] 24 (0, 0))) ∧ Aside0 (wc.heap[gb192]? = some (.cells #[.int .i64 t186, .int .i64 t187, (.slice Ao43 t188.length co43)] 26 (0, 0))) ∧ Aside0 (wc.heap[gb198]? = some (.cells #[.int .i64 t193, .int .i64 t194, (.slice Ao53 t195.length co53)] 26 (0, 0))) ∧ Aside0 (wc.heap[gb204]? = some (.cells #[.int .i64 t199, .int .i64 t200, (.slice Ao63 t201.length co63)] 26 (0, 0))) ∧ Aside0 (wc.heap[gb211]? = some (.cells #[.int .i64 t205, .int .i64 t206, (.slice Ao73 t207.length co73)] 26 (0, 0))) ∧ Aside0 (Below w.heap.size w wc))
        case first =>
         have H := HC97.out
         clear HC97
         by_cases c119 : t227 < 0
         ·
          rw [if_pos c119] at H
          have c119b0 : decide (t227 < 0) = true := decide_eq_true c119
          clear c119
          (first | rw [c119b0] | (simp only [i64_w, i32_w]; rw [c119b0]) | skip)
          exact absurd H (laws_FnExactMeetOf.j1_no _ _ _ _ _ _ _ _ _ _ _ _ _ _)
         ·
          rw [if_neg c119] at H
          have c119b0 : decide (t227 < 0) = false := decide_eq_false c119
          clear c119
          (first | rw [c119b0] | (simp only [i64_w, i32_w]; rw [c119b0]) | skip)
          replace H := Option.bind_eq_some_iff.mp H
          obtain ⟨t229, A1200, H⟩ := H
          replace H : (if t229 = true then (laws_FnExactMeetOf.j1 kj24 t191 (t210 != t191) a0_0 a0_1 l0_2 a1_0 a1_1 l1_2 t186 t187 t188 t205 t206 t207) else (laws_FnExactMeetOf.j1 kj24 t191 true a0_0 a0_1 l0_2 a1_0 a1_1 l1_2 t186 t187 t188 t205 t206 t207)) = some true := H
          have A120 := Aside0.mk A1200
          clear A1200
          by_cases c121 : t229 = true
          ·
           subst c121
           have H1 : (laws_FnExactMeetOf.j1 kj24 t191 (t210 != t191) a0_0 a0_1 l0_2 a1_0 a1_1 l1_2 t186 t187 t188 t205 t206 t207) = some true := by first | (rw [if_pos rfl] at H; exact H) | rfl
           clear H
           have H := H1
           clear H1
           have H' := Aside0.mk H
           clear H
           have bq9 := Nq30.out
           have cq9 := Nq4.out
           have bq10 := Nq31.out
           have cq10 := Nq10.out
           have bq11 := Nq32.out
           have cq11 := Nq16.out
           have bq12 := Nq33.out
           have cq12 := Nq22.out
           have bq13 := Nq34.out
           have cq13 := Nq28.out
           have zq6 : w118.cell? ⟨gb211, 0, none⟩ = some (.int .i64 t205) := sqc BK211 0
           have zq7 : w118.cell? ⟨gb211, 1, none⟩ = some (.int .i64 t206) := sqc BK211 1
           have zq8 : w118.cell? ⟨gb211, 2, none⟩ = some (.slice Ao73 t207.length co73) := sqc BK211 2
           have fq6 := blk_frozen BK211.out 0
           have fq7 := blk_frozen BK211.out 1
           have fq8 := blk_frozen BK211.out 2
           have bq14 := Nq12.out
           have cq14 := Nq1.out
           have bq15 := Nq13.out
           have cq15 := Nq7.out
           have bq16 := Nq14.out
           have cq16 := Nq20.out
           have bq17 := Nq15.out
           have cq17 := Nq26.out
           have zq9 : w118.cell? ⟨gb192, 0, none⟩ = some (.int .i64 t186) := sqc BK192 0
           have zq10 : w118.cell? ⟨gb192, 1, none⟩ = some (.int .i64 t187) := sqc BK192 1
           have zq11 : w118.cell? ⟨gb192, 2, none⟩ = some (.slice Ao43 t188.length co43) := sqc BK192 2
           have fq9 := blk_frozen BK192.out 0
           have fq10 := blk_frozen BK192.out 1
           have fq11 := blk_frozen BK192.out 2
           go_wp2_with (first | (go_at_call 16; (with_reducible refine (laws_eqBoard.calls kj24 t205 t206 _ _ t207 t186 t187 _ _ t188 true _ ?side1 ?side2 ?side3 ?side4 A120.out).mono ?_); (case side1 => repeat (first | exact (Kd.R_reads' Oq14.out).2.2 | (with_reducible first | refine Kd.C_alloc ?_ _ | refine Kd.C_drewN ?_ _ | refine Kd.C_drew ?_))); (case side2 => exact (Kd.R_reads' Oq14.out).2.1); (case side3 => repeat (first | exact (Kd.R_reads' Oq11.out).2.2 | (with_reducible first | refine Kd.C_alloc ?_ _ | refine Kd.C_drewN ?_ _ | refine Kd.C_drew ?_))); (case side4 => exact (Kd.R_reads' Oq11.out).2.1); rintro e w133 ⟨rfl, hb⟩; have n12_ := am (below_step (by repeat with_reducible first | exact HB.out | apply pw_below_drewN | apply below_drew1 | refine below_set ?_ (Aside0.out (by assumption))) hb); clear HB; replace Oq11 := sqR Oq11 hb; replace Oq12 := sqR Oq12 hb; replace Oq13 := sqR Oq13 hb; replace Oq14 := sqR Oq14 hb; replace Oq6 := sqR Oq6 hb; replace Oq7 := sqR Oq7 hb; replace BK172 := sqB BK172 hb; replace BK173 := sqB BK173 hb; replace BK192 := sqB BK192 hb; replace BK198 := sqB BK198 hb; replace BK204 := sqB BK204 hb; replace BK211 := sqB BK211 hb; have HB := n12_; clear n12_; (try clear hb); (try clear hb2); (try clear hk); (try clear hi)))
           go_meet
           case rel => exact ⟨_, ((t210 != t191)), (by first | rfl | (simp; done) | (simp [*]; done)), H', ⟨by have := HJ24.out; first | omega | exact Nat.le_refl _⟩, ⟨by exact sqm Oq11 (fun _ hk => ⟨hk.1, ⟨hk.2.1, hk.2.2.1⟩⟩)⟩, ⟨by exact sqm Oq12 (fun _ hk => ⟨hk.1, ⟨hk.2.1, hk.2.2.1⟩⟩)⟩, ⟨by exact sqm Oq13 (fun _ hk => ⟨hk.1, ⟨hk.2.1, hk.2.2.1⟩⟩)⟩, ⟨by exact sqm Oq14 (fun _ hk => ⟨hk.1, ⟨hk.2.1, hk.2.2.1⟩⟩)⟩, ⟨by (with_reducible repeat (first | refine blk_drewN ?_ _ | refine blk_drew ?_ | refine blk_alloc ?_ _)); exact BK172.out⟩, ⟨by (with_reducible repeat (first | refine blk_drewN ?_ _ | refine blk_drew ?_ | refine blk_alloc ?_ _)); exact BK173.out⟩, ⟨by (with_reducible repeat (first | refine blk_drewN ?_ _ | refine blk_drew ?_ | refine blk_alloc ?_ _)); exact BK192.out⟩, ⟨by (with_reducible repeat (first | refine blk_drewN ?_ _ | refine blk_drew ?_ | refine blk_alloc ?_ _)); exact BK198.out⟩, ⟨by (with_reducible repeat (first | refine blk_drewN ?_ _ | refine blk_drew ?_ | refine blk_alloc ?_ _)); exact BK204.out⟩, ⟨by (with_reducible repeat (first | refine blk_drewN ?_ _ | refine blk_drew ?_ | refine blk_alloc ?_ _)); exact BK211.out⟩, ⟨by repeat with_reducible first | exact HB.out | apply pw_below_drewN | apply below_drew1 | refine below_set ?_ (Aside0.out (by assumption))⟩⟩
          ·
           replace c121 := Bool.eq_false_iff.mpr c121
           subst c121
           have H1 : (laws_FnExactMeetOf.j1 kj24 t191 true a0_0 a0_1 l0_2 a1_0 a1_1 l1_2 t186 t187 t188 t205 t206 t207) = some true := by first | (rw [if_neg (show ¬ (false = true) by decide)] at H; exact H) | rfl
           clear H
           have H := H1
           clear H1
           exact absurd H (laws_FnExactMeetOf.j1_no _ _ _ _ _ _ _ _ _ _ _ _ _ _)
        case rest =>
         clear HC97
         try clear c1; try clear p2; try clear c3; try clear c4; try clear c5; try clear c6; try clear c7; try clear c8; try clear c9; try clear c10; try clear c11; try clear c12; try clear c13; try clear c14; try clear c16; try clear c17; try clear c30; try clear c31; try clear c45; try clear c49; try clear c50; try clear c51; try clear c54; try clear c58; try clear c59; try clear c60; try clear c61; try clear c67; try clear c68; try clear c69; try clear c70; try clear c71; try clear c75; try clear c76; try clear c77; try clear c78; try clear c79; try clear c80; try clear c82; try clear c83; try clear c84; try clear c85; try clear c88; try clear c91; try clear c94; try clear c106; try clear c107; try clear c108; try clear c109; try clear c110; try clear c113; try clear c114; try clear c115; try clear c116; try clear c119; try clear c119b0; try clear c121; try clear c122; try clear c123; try clear c124; try clear c125; try clear c126; try clear c128; try clear c129; try clear c130; try clear c131; try clear zq0; try clear zq1; try clear zq2; try clear zq3; try clear zq4; try clear zq5; try clear zq6; try clear zq7; try clear zq8; try clear zq9; try clear zq10; try clear zq11; try clear zq39; try clear zq40; try clear zq41; try clear zq42; try clear zq43; try clear zq44; try clear zq45; try clear zq46; try clear zq47; try clear zq48; try clear zq49; try clear zq50; try clear zq51; try clear zq52; try clear zq53; try clear zq54; try clear zq55; try clear zq56; try clear zq57; try clear zq58; try clear zq59; try clear zq60; try clear zq61; try clear zq62; try clear fq0; try clear fq1; try clear fq2; try clear fq3; try clear fq4; try clear fq5; try clear fq6; try clear fq7; try clear fq8; try clear fq9; try clear fq10; try clear fq11; try clear fq39; try clear fq40; try clear fq41; try clear fq42; try clear fq43; try clear fq44; try clear fq45; try clear fq46; try clear fq47; try clear fq48; try clear fq49; try clear fq50; try clear fq51; try clear fq52; try clear fq53; try clear fq54; try clear fq55; try clear fq56; try clear fq57; try clear fq58; try clear fq59; try clear fq60; try clear fq61; try clear fq62; try clear p2
         obtain ⟨kq, x82_96, rfl, HA, HJ96, Oq11, Oq12, Oq13, Oq14, BK172, BK173, BK192, BK198, BK204, BK211, HB⟩ := hcut
         have hl199002_96 := (Kd.R_reads' Oq12.out).1
         rw [hl199002_96] at Oq12
         (try simp only [hl199002_96])
         (try simp only [hl199002_96] at BK172)
         (try simp only [hl199002_96] at BK173)
         (try simp only [hl199002_96] at BK192)
         (try simp only [hl199002_96] at BK198)
         (try simp only [hl199002_96] at BK204)
         (try simp only [hl199002_96] at BK211)
         (try simp only [hl199002_96] at Oq11)
         (try simp only [hl199002_96] at Oq13)
         (try simp only [hl199002_96] at Oq14)
         have hl205002_96 := (Kd.R_reads' Oq13.out).1
         rw [hl205002_96] at Oq13
         (try simp only [hl205002_96])
         (try simp only [hl205002_96] at BK172)
         (try simp only [hl205002_96] at BK173)
         (try simp only [hl205002_96] at BK192)
         (try simp only [hl205002_96] at BK198)
         (try simp only [hl205002_96] at BK204)
         (try simp only [hl205002_96] at BK211)
         (try simp only [hl205002_96] at Oq11)
         (try simp only [hl205002_96] at Oq12)
         (try simp only [hl205002_96] at Oq14)
         cases kq with
         | zero => exact absurd HA.out (by simp [laws_FnExactMeetOf.j1])
         | succ kj96 =>
          have H := HA.out
          clear HA
          simp only [laws_FnExactMeetOf.j1] at H
          by_cases c134 : x82_96 = true
          ·
           subst c134
           have H1 : (some false) = some true := by first | (rw [if_pos rfl] at H; exact H) | rfl
           clear H
           have H := H1
           clear H1
           exact absurd (Option.some.inj H) (by decide)
          ·
           replace c134 := Bool.eq_false_iff.mpr c134
           subst c134
           have H1 : ((laws_markBoard.f kj96 t205 t206 t207 1).bind fun bt230 => ((laws_heldBoard.f kj96 t205 t206 bt230.2 1).bind fun t232 => (if t232 < 0 then (some false) else (if t232 = bt230.1 then ((laws_toBoard.f kj96 a0_0 a0_1 l0_2).bind fun bt233 => ((laws_toBoard.f kj96 a1_0 a1_1 l1_2).bind fun bt238 => ((impl_MeetOf.f bt233.1 bt233.2.1 bt233.2.2 bt238.1 bt238.2.1 bt238.2.2).bind fun bt243 => ((laws_eqBoard.f kj96 bt243.1 bt243.2.1 bt243.2.2.1 t186 t187 t188).bind fun t250 => (if t250 = true then (laws_FnExactMeetOf.j2 kj96 bt230.1 (bt243.2.2.2 != t191) t205 t206 bt230.2) else (laws_FnExactMeetOf.j2 kj96 bt230.1 true t205 t206 bt230.2)))))) else (some false))))) = some true := by first | (rw [if_neg (show ¬ (false = true) by decide)] at H; exact H) | rfl
           clear H
           have H := H1
           clear H1
           replace H := Option.bind_eq_some_iff.mp H
           obtain ⟨⟨t230, t231⟩, A1350, H⟩ := H
           replace H : ((laws_heldBoard.f kj96 t205 t206 t231 1).bind fun t232 => (if t232 < 0 then (some false) else (if t232 = t230 then ((laws_toBoard.f kj96 a0_0 a0_1 l0_2).bind fun bt233 => ((laws_toBoard.f kj96 a1_0 a1_1 l1_2).bind fun bt238 => ((impl_MeetOf.f bt233.1 bt233.2.1 bt233.2.2 bt238.1 bt238.2.1 bt238.2.2).bind fun bt243 => ((laws_eqBoard.f kj96 bt243.1 bt243.2.1 bt243.2.2.1 t186 t187 t188).bind fun t250 => (if t250 = true then (laws_FnExactMeetOf.j2 kj96 t230 (bt243.2.2.2 != t191) t205 t206 t231) else (laws_FnExactMeetOf.j2 kj96 t230 true t205 t206 t231)))))) else (some false)))) = some true := H
           have A135 := Aside0.mk A1350
           clear A1350
           replace H := Option.bind_eq_some_iff.mp H
           obtain ⟨t232, A1360, H⟩ := H
           replace H : (if t232 < 0 then (some false) else (if t232 = t230 then ((laws_toBoard.f kj96 a0_0 a0_1 l0_2).bind fun bt233 => ((laws_toBoard.f kj96 a1_0 a1_1 l1_2).bind fun bt238 => ((impl_MeetOf.f bt233.1 bt233.2.1 bt233.2.2 bt238.1 bt238.2.1 bt238.2.2).bind fun bt243 => ((laws_eqBoard.f kj96 bt243.1 bt243.2.1 bt243.2.2.1 t186 t187 t188).bind fun t250 => (if t250 = true then (laws_FnExactMeetOf.j2 kj96 t230 (bt243.2.2.2 != t191) t205 t206 t231) else (laws_FnExactMeetOf.j2 kj96 t230 true t205 t206 t231)))))) else (some false))) = some true := H
           have A136 := Aside0.mk A1360
           clear A1360
           by_cases c137 : t232 < 0
           ·
            rw [if_pos c137] at H
            have c137b0 : decide (t232 < 0) = true := decide_eq_true c137
            clear c137
            exact absurd (Option.some.inj H) (by decide)
           ·
            rw [if_neg c137] at H
            have c137b0 : decide (t232 < 0) = false := decide_eq_false c137
            clear c137
            by_cases c138 : t232 = t230
            ·
             rw [if_pos c138] at H
             have c138b0 : (t232 == t230) = true := beq_iff_eq.mpr c138
             have c138b1 : (t232 != t230) = false := bne_eq_false_iff_eq.mpr c138
             clear c138
             replace H := Option.bind_eq_some_iff.mp H
             obtain ⟨⟨t233, t234, t235⟩, A1390, H⟩ := H
             replace H : ((laws_toBoard.f kj96 a1_0 a1_1 l1_2).bind fun bt238 => ((impl_MeetOf.f t233 t234 t235 bt238.1 bt238.2.1 bt238.2.2).bind fun bt243 => ((laws_eqBoard.f kj96 bt243.1 bt243.2.1 bt243.2.2.1 t186 t187 t188).bind fun t250 => (if t250 = true then (laws_FnExactMeetOf.j2 kj96 t230 (bt243.2.2.2 != t191) t205 t206 t231) else (laws_FnExactMeetOf.j2 kj96 t230 true t205 t206 t231))))) = some true := H
             have A139 := Aside0.mk A1390
             clear A1390
             replace H := Option.bind_eq_some_iff.mp H
             obtain ⟨⟨t238, t239, t240⟩, A1400, H⟩ := H
             replace H : ((impl_MeetOf.f t233 t234 t235 t238 t239 t240).bind fun bt243 => ((laws_eqBoard.f kj96 bt243.1 bt243.2.1 bt243.2.2.1 t186 t187 t188).bind fun t250 => (if t250 = true then (laws_FnExactMeetOf.j2 kj96 t230 (bt243.2.2.2 != t191) t205 t206 t231) else (laws_FnExactMeetOf.j2 kj96 t230 true t205 t206 t231)))) = some true := H
             have A140 := Aside0.mk A1400
             clear A1400
             replace H := Option.bind_eq_some_iff.mp H
             obtain ⟨⟨t243, t244, t245, t248⟩, A1410, H⟩ := H
             replace H : ((laws_eqBoard.f kj96 t243 t244 t245 t186 t187 t188).bind fun t250 => (if t250 = true then (laws_FnExactMeetOf.j2 kj96 t230 (t248 != t191) t205 t206 t231) else (laws_FnExactMeetOf.j2 kj96 t230 true t205 t206 t231))) = some true := H
             have A141 := Aside0.mk A1410
             clear A1410
             have HC142 := Aside0.mk H
             clear H
             have bq19 := Nq30.out
             have cq19 := Nq4.out
             have bq20 := Nq31.out
             have cq20 := Nq10.out
             have bq21 := Nq32.out
             have cq21 := Nq16.out
             have bq22 := Nq33.out
             have cq22 := Nq22.out
             have bq23 := Nq34.out
             have cq23 := Nq28.out
             have zq12 : wc.cell? ⟨gb211, 0, none⟩ = some (.int .i64 t205) := sqc BK211 0
             have zq13 : wc.cell? ⟨gb211, 1, none⟩ = some (.int .i64 t206) := sqc BK211 1
             have zq14 : wc.cell? ⟨gb211, 2, none⟩ = some (.slice Ao73 t207.length co73) := sqc BK211 2
             have fq12 := blk_frozen BK211.out 0
             have fq13 := blk_frozen BK211.out 1
             have fq14 := blk_frozen BK211.out 2
             try go_wp2_with (first | ((with_reducible refine gate_callee (f := 17) rfl ?_); refine goesL_ (some 85) rfl rfl Try.func17 (by kernel_rfl) rfl #[.agg #[.int .i64 t205, .int .i64 t206, .slice Ao73 t207.length co73], .int .i64 1] rfl (by (try simp only [List.map_toArray, List.map_cons, List.map_nil]); try rfl) ?_; (with_reducible refine (laws_markBoard.calls kj96 t205 t206 (fun k_ => some k_ = (.slice Ao73 t207.length co73 : Value).ownBlock) (.slice Ao73 t207.length co73) t207 1 t230 t231 w _ ?side1 ?side2 A135.out).mono ?_); (case side1 => repeat (first | (with_reducible first | exact HB.out | apply below_alloc | apply pw_below_drewN | apply below_drew1 | refine below_set ?_ GE172.out | refine below_set ?_ GE173.out | refine below_set ?_ GE192.out | refine below_set ?_ GE198.out | refine below_set ?_ GE204.out | refine below_set ?_ GE211.out) | exact HB.out)); (case side2 => exact Kd.R_tight rfl Oq14.out); rintro e w149 ⟨rfl, hy0, hb, hkp⟩; refine ⟨_, rfl, ?_⟩; have n0_ := am (Kd.R_mono (ok' := fun k_ => some k_ ≠ (.slice Ao53 t226.length co53 : Value).ownBlock ∧ some k_ ≠ (.slice Ao63 t228.length co63 : Value).ownBlock ∧ some k_ ≠ (.slice Ao73 t207.length co73 : Value).ownBlock) (Kd.R_keptB (Oq11.out) hkp (fun k_ hk_ hs_ => (hk_.2.2) hs_)) (fun k_ hk_ => ⟨hk_.1.1, hk_.1.2.1, hk_.1.2.2⟩)); have n1_ := am (Kd.R_mono (ok' := fun k_ => some k_ ≠ (.slice Ao43 t188.length co43 : Value).ownBlock ∧ some k_ ≠ (.slice Ao63 t228.length co63 : Value).ownBlock ∧ some k_ ≠ (.slice Ao73 t207.length co73 : Value).ownBlock) (Kd.R_keptB (Oq12.out) hkp (fun k_ hk_ hs_ => (hk_.2.2) hs_)) (fun k_ hk_ => ⟨hk_.1.1, hk_.1.2.1, hk_.1.2.2⟩)); have n2_ := am (Kd.R_mono (ok' := fun k_ => some k_ ≠ (.slice Ao43 t188.length co43 : Value).ownBlock ∧ some k_ ≠ (.slice Ao53 t226.length co53 : Value).ownBlock ∧ some k_ ≠ (.slice Ao73 t207.length co73 : Value).ownBlock) (Kd.R_keptB (Oq13.out) hkp (fun k_ hk_ hs_ => (hk_.2.2) hs_)) (fun k_ hk_ => ⟨hk_.1.1, hk_.1.2.1, hk_.1.2.2⟩)); have n3_ := am (Kd.R_reok rfl hy0 (fun k_ e_ => Oq14.out.1 k_ e_)); have n4_ := am (blk_kept (sqb BK172) hkp (fun hs_ => (fun e_ => (Kd.R_ne Oq14.out BK172.out (by decide)) e_) hs_)); have n5_ := am (blk_kept (sqb BK173) hkp (fun hs_ => (fun e_ => (Kd.R_ne Oq14.out BK173.out (by decide)) e_) hs_)); have n6_ := am (blk_kept (sqb BK192) hkp (fun hs_ => (fun e_ => (Kd.R_ne Oq14.out BK192.out (by decide)) e_) hs_)); have n7_ := am (blk_kept (sqb BK198) hkp (fun hs_ => (fun e_ => (Kd.R_ne Oq14.out BK198.out (by decide)) e_) hs_)); have n8_ := am (blk_kept (sqb BK204) hkp (fun hs_ => (fun e_ => (Kd.R_ne Oq14.out BK204.out (by decide)) e_) hs_)); have n9_ := am (blk_kept (sqb BK211) hkp (fun hs_ => (fun e_ => (Kd.R_ne Oq14.out BK211.out (by decide)) e_) hs_)); have n10_ := am (hb); clear Oq11; clear Oq12; clear Oq13; clear Oq14; clear BK172; clear BK173; clear BK192; clear BK198; clear BK204; clear BK211; clear HB; have Oq11 := n0_; have Oq12 := n1_; have Oq13 := n2_; have Oq14 := n3_; have BK172 := n4_; have BK173 := n5_; have BK192 := n6_; have BK198 := n7_; have BK204 := n8_; have BK211 := n9_; have HB := n10_; clear n0_ n1_ n2_ n3_ n4_ n5_ n6_ n7_ n8_ n9_ n10_; (try clear hb); (try clear hkp); (try clear hy0); have zq15 : w149.cell? ⟨gb211, 0, none⟩ = some (.int .i64 t205) := sqc BK211 0; have zq16 : w149.cell? ⟨gb211, 1, none⟩ = some (.int .i64 t206) := sqc BK211 1; have zq17 : w149.cell? ⟨gb211, 2, none⟩ = some (.slice Ao73 t207.length co73) := sqc BK211 2; have fq15 := blk_frozen BK211.out 0; have fq16 := blk_frozen BK211.out 1; have fq17 := blk_frozen BK211.out 2) | ((with_reducible refine gate_callee (f := 18) rfl ?_); refine goesL_ (some 88) rfl rfl Try.func18 (by kernel_rfl) rfl #[.agg #[.int .i64 t205, .int .i64 t206, .slice Ao73 t231.length co73], .int .i64 1] rfl (by (try simp only [List.map_toArray, List.map_cons, List.map_nil]); first | done | (rw [show t231.length = t207.length from (Kd.R_reads' Oq14.out).1.symm] <;> rfl) | rfl | (simp only [List.length_drop, List.length_take]; rfl)) ?_; (with_reducible refine (laws_heldBoard.calls kj96 t205 t206 _ _ t231 1 t232 _ ?side1 ?side2 A136.out).mono ?_); (case side1 => repeat (first | exact (Kd.R_reads' Oq14.out).2.2 | (with_reducible first | refine Kd.C_alloc ?_ _ | refine Kd.C_drewN ?_ _ | refine Kd.C_drew ?_))); (case side2 => rw [show t231.length = t207.length from (Kd.R_reads' Oq14.out).1.symm]; exact (Kd.R_reads' Oq14.out).2.1); rintro e w151 ⟨rfl, hb⟩; refine ⟨_, rfl, ?_⟩; have n10_ := am (below_step (by repeat with_reducible first | exact HB.out | apply pw_below_drewN | apply below_drew1 | refine below_set ?_ (Aside0.out (by assumption))) hb); clear HB; replace Oq11 := sqR Oq11 hb; replace Oq12 := sqR Oq12 hb; replace Oq13 := sqR Oq13 hb; replace Oq14 := sqR Oq14 hb; replace BK172 := sqB BK172 hb; replace BK173 := sqB BK173 hb; replace BK192 := sqB BK192 hb; replace BK198 := sqB BK198 hb; replace BK204 := sqB BK204 hb; replace BK211 := sqB BK211 hb; have HB := n10_; clear n10_; (try clear hb); (try clear hb2); (try clear hk); (try clear hi)))
             have n0_ := am (Kd.R_drew Oq11.out)
             have n1_ := am (Kd.R_drew Oq12.out)
             have n2_ := am (Kd.R_drew Oq13.out)
             have n3_ := am (Kd.R_drew Oq14.out)
             have n4_ := am (blk_drew BK172.out)
             have n5_ := am (blk_drew BK173.out)
             have n6_ := am (blk_drew BK192.out)
             have n7_ := am (blk_drew BK198.out)
             have n8_ := am (blk_drew BK204.out)
             have n9_ := am (blk_drew BK211.out)
             have n10_ := am (below_drew1 HB.out)
             clear Oq11 Oq12 Oq13 Oq14 BK172 BK173 BK192 BK198 BK204 BK211 HB
             have Oq11 := n0_
             have Oq12 := n1_
             have Oq13 := n2_
             have Oq14 := n3_
             have BK172 := n4_
             have BK173 := n5_
             have BK192 := n6_
             have BK198 := n7_
             have BK204 := n8_
             have BK211 := n9_
             have HB := n10_
             clear n0_ n1_ n2_ n3_ n4_ n5_ n6_ n7_ n8_ n9_ n10_
             refine start_ (n := 11) (S := fun w' => w'.cell? ⟨gb172, 0, none⟩ = some (.int .i64 a0_0) ∧ w'.cell? ⟨gb172, 1, none⟩ = some (.int .i64 a0_1) ∧ w'.cell? ⟨gb172, 2, none⟩ = some (.slice A0_2 l0_2.length c0_2) ∧ w'.cell? ⟨gb173, 0, none⟩ = some (.int .i64 a1_0) ∧ w'.cell? ⟨gb173, 1, none⟩ = some (.int .i64 a1_1) ∧ w'.cell? ⟨gb173, 2, none⟩ = some (.slice A1_2 l1_2.length c1_2)) (ds := []) #[false, false, false, false, false, false, false, false, false, false, false] (by kernel_rfl) rfl rfl ⟨sqc BK172 0, sqc BK172 1, sqc BK172 2, sqc BK173 0, sqc BK173 1, sqc BK173 2⟩ (fun hHeld => ?_); refine with_tabW laws_FnExactMeetOf.tab31 laws_FnExactMeetOf.bits31 (fun HT_ HW_ => ?_)
             generalize w151.drew = w152 at Oq11 Oq12 Oq13 Oq14 BK172 BK173 BK192 BK198 BK204 BK211 HB hHeld ⊢
             refine take_ (i := 0) (N := some 95) (v := ?_) (a' := ?_) #[true, false, false, false, false, false, false, false, false, false, false] rfl rfl (take_ofW HT_.out HW_.out (by kernel_rfl)) (fun _ _ _ h => h) (Or.inl ⟨by rfl, ?_⟩) hHeld ?_ ?_
             rotate_left
             ·
              rintro w' ⟨s0, s1, s2, s3, s4, s5⟩
              go_simp
              with_reducible rfl
             rotate_left
             ·
              simp only [Act.put, List.setIfInBounds_toArray, List.set_cons_zero, List.set_cons_succ, i64_w, i32_w]
              rfl
             refine take_ (i := 2) (N := some 97) (v := ?_) (a' := ?_) #[true, false, true, false, false, false, false, false, false, false, false] rfl rfl (take_ofW HT_.out HW_.out (by kernel_rfl)) (fun _ _ _ h => h) (Or.inl ⟨by rfl, ?_⟩) hHeld ?_ ?_
             rotate_left
             ·
              rintro w' ⟨s0, s1, s2, s3, s4, s5⟩
              go_simp
              with_reducible rfl
             rotate_left
             ·
              simp only [Act.put, List.setIfInBounds_toArray, List.set_cons_zero, List.set_cons_succ, i64_w, i32_w]
              rfl
             refine join_ (σ := Value × Value × Value × Nat) 2 #[true, true, true, true, true, true, true, true, true, false, false] (fun s_ => [(96, .agg #[.int .i64 t233, .int .i64 t234, s_.1]), (98, .agg #[.int .i64 t238, .int .i64 t239, s_.2.1]), (99, .tuple #[.agg #[.int .i64 t243, .int .i64 t244, s_.2.2.1], .bool t248]), (15, .pointer (some ⟨s_.2.2.2, 0, none⟩)), (94, .tuple #[.agg #[.int .i64 t243, .int .i64 t244, s_.2.2.1], .bool t248]), (100, .agg #[.int .i64 t243, .int .i64 t244, s_.2.2.1]), (101, .bool t248)]) (fun s_ w' => (w'.cell? ⟨gb172, 0, none⟩ = some (.int .i64 a0_0) ∧ w'.cell? ⟨gb172, 1, none⟩ = some (.int .i64 a0_1) ∧ w'.cell? ⟨gb172, 2, none⟩ = some (.slice A0_2 l0_2.length c0_2) ∧ w'.cell? ⟨gb173, 0, none⟩ = some (.int .i64 a1_0) ∧ w'.cell? ⟨gb173, 1, none⟩ = some (.int .i64 a1_1) ∧ w'.cell? ⟨gb173, 2, none⟩ = some (.slice A1_2 l1_2.length c1_2)) ∧ (Kd.R (Kd.int .i64) 3 w' w.heap.size (fun k_ => some k_ ≠ (s_.2.1 : Value).ownBlock ∧ some k_ ≠ (s_.2.2.1 : Value).ownBlock ∧ some k_ ≠ (.slice Ao43 t188.length co43 : Value).ownBlock ∧ some k_ ≠ (.slice Ao53 t226.length co53 : Value).ownBlock ∧ some k_ ≠ (.slice Ao63 t228.length co63 : Value).ownBlock ∧ some k_ ≠ (.slice Ao73 t207.length co73 : Value).ownBlock) s_.1 t235) ∧ (Kd.R (Kd.int .i64) 3 w' w.heap.size (fun k_ => some k_ ≠ (s_.1 : Value).ownBlock ∧ some k_ ≠ (s_.2.2.1 : Value).ownBlock ∧ some k_ ≠ (.slice Ao43 t188.length co43 : Value).ownBlock ∧ some k_ ≠ (.slice Ao53 t226.length co53 : Value).ownBlock ∧ some k_ ≠ (.slice Ao63 t228.length co63 : Value).ownBlock ∧ some k_ ≠ (.slice Ao73 t207.length co73 : Value).ownBlock) s_.2.1 t240) ∧ (Kd.R (Kd.int .i64) 3 w' w.heap.size (fun k_ => some k_ ≠ (s_.1 : Value).ownBlock ∧ some k_ ≠ (s_.2.1 : Value).ownBlock ∧ some k_ ≠ (.slice Ao43 t188.length co43 : Value).ownBlock ∧ some k_ ≠ (.slice Ao53 t226.length co53 : Value).ownBlock ∧ some k_ ≠ (.slice Ao63 t228.length co63 : Value).ownBlock ∧ some k_ ≠ (.slice Ao73 t207.length co73 : Value).ownBlock) s_.2.2.1 t245) ∧ (Kd.R (Kd.int .i64) 3 w' w.heap.size (fun k_ => some k_ ≠ (s_.1 : Value).ownBlock ∧ some k_ ≠ (s_.2.1 : Value).ownBlock ∧ some k_ ≠ (s_.2.2.1 : Value).ownBlock ∧ some k_ ≠ (.slice Ao53 t226.length co53 : Value).ownBlock ∧ some k_ ≠ (.slice Ao63 t228.length co63 : Value).ownBlock ∧ some k_ ≠ (.slice Ao73 t207.length co73 : Value).ownBlock) (.slice Ao43 t188.length co43) t188) ∧ (Kd.R (Kd.int .i64) 3 w' w.heap.size (fun k_ => some k_ ≠ (s_.1 : Value).ownBlock ∧ some k_ ≠ (s_.2.1 : Value).ownBlock ∧ some k_ ≠ (s_.2.2.1 : Value).ownBlock ∧ some k_ ≠ (.slice Ao43 t188.length co43 : Value).ownBlock ∧ some k_ ≠ (.slice Ao63 t228.length co63 : Value).ownBlock ∧ some k_ ≠ (.slice Ao73 t207.length co73 : Value).ownBlock) (.slice Ao53 t226.length co53) t226) ∧ (Kd.R (Kd.int .i64) 3 w' w.heap.size (fun k_ => some k_ ≠ (s_.1 : Value).ownBlock ∧ some k_ ≠ (s_.2.1 : Value).ownBlock ∧ some k_ ≠ (s_.2.2.1 : Value).ownBlock ∧ some k_ ≠ (.slice Ao43 t188.length co43 : Value).ownBlock ∧ some k_ ≠ (.slice Ao53 t226.length co53 : Value).ownBlock ∧ some k_ ≠ (.slice Ao73 t207.length co73 : Value).ownBlock) (.slice Ao63 t228.length co63) t228) ∧ (Kd.R (Kd.int .i64) 3 w' w.heap.size (fun k_ => some k_ ≠ (s_.1 : Value).ownBlock ∧ some k_ ≠ (s_.2.1 : Value).ownBlock ∧ some k_ ≠ (s_.2.2.1 : Value).ownBlock ∧ some k_ ≠ (.slice Ao43 t188.length co43 : Value).ownBlock ∧ some k_ ≠ (.slice Ao53 t226.length co53 : Value).ownBlock ∧ some k_ ≠ (.slice Ao63 t228.length co63 : Value).ownBlock) (.slice Ao73 t207.length co73) t231) ∧ (w'.heap[gb172]? = some (.cells #[.int .i64 a0_0, .int .i64 a0_1, .slice A0_2 l0_2.length c0_2] 24 (0, 0))) ∧ (w'.heap[gb173]? = some (.cells #[.int .i64 a1_0, .int .i64 a1_1, .slice A1_2 l1_2.length c1_2] 24 (0, 0))) ∧ (w'.heap[gb192]? = some (.cells #[.int .i64 t186, .int .i64 t187, .slice Ao43 t188.length co43] 26 (0, 0))) ∧ (w'.heap[gb198]? = some (.cells #[.int .i64 t193, .int .i64 t194, .slice Ao53 t226.length co53] 26 (0, 0))) ∧ (w'.heap[gb204]? = some (.cells #[.int .i64 t199, .int .i64 t200, .slice Ao63 t228.length co63] 26 (0, 0))) ∧ (w'.heap[gb211]? = some (.cells #[.int .i64 t205, .int .i64 t206, .slice Ao73 t207.length co73] 26 (0, 0))) ∧ (w'.heap[s_.2.2.2]? = some (.cells #[.int .i64 0, .int .i64 0, .slice none 0 0] 26 (0, 0))) ∧ (w.heap.size ≤ s_.2.2.2) ∧ (w.heap.size ≤ s_.2.2.2) ∧ (gb172 ≠ s_.2.2.2) ∧ (s_.2.2.2 ≠ gb172) ∧ (gb173 ≠ s_.2.2.2) ∧ (s_.2.2.2 ≠ gb173) ∧ (gb192 ≠ s_.2.2.2) ∧ (s_.2.2.2 ≠ gb192) ∧ (gb198 ≠ s_.2.2.2) ∧ (s_.2.2.2 ≠ gb198) ∧ (gb204 ≠ s_.2.2.2) ∧ (s_.2.2.2 ≠ gb204) ∧ (gb211 ≠ s_.2.2.2) ∧ (s_.2.2.2 ≠ gb211) ∧ (Below w.heap.size w w')) ?_ ?_
             rotate_left
             ·
              intro hCont
              refine two_ (i := 1) (j := 8) (Ni := some 96) (Nj := some 15) #[true, true, true, false, false, false, false, false, false, false, false] #[true, false, true, false, false, false, false, false, true, false, false] rfl rfl rfl rfl (two_of HT_.out (by kernel_rfl)) (by decide) (by decide) (fun K hK => ?_) (fun K hK => ?_)
              ·
               skip
               refine goes_ Try.func14 (by kernel_rfl) rfl #[.agg #[.int .i64 a0_0, .int .i64 a0_1, .slice A0_2 l0_2.length c0_2]] (by rfl) rfl rfl (by (try simp only [List.map_toArray, List.map_cons, List.map_nil]); try rfl) ?_
               with_reducible refine (laws_toBoard.calls kj96 a0_0 a0_1 _ _ l0_2 t233 t234 t235 _ ?side1 ?side2 A139.out).mono ?_
               (case side1 => repeat (first | exact (Kd.C_below HR0_2.out HB.out) | (with_reducible first | refine Kd.C_alloc ?_ _ | refine Kd.C_drewN ?_ _ | refine Kd.C_drew ?_)))
               (case side2 => exact HC0_2.out)
               rintro e w153 ⟨v236, rfl, ho0, hb⟩
               refine ⟨_, rfl, ?_⟩
               have n4_ := am (Kd.R_lower (Kd.R_new' (Kd.R_new' (Kd.R_new' (Kd.R_new' ho0 (sqL Oq11)) (sqL Oq12)) (sqL Oq13)) (sqL Oq14)) (below_size (by repeat with_reducible first | exact HB.out | apply pw_below_drewN | apply below_drew1 | refine below_set ?_ (Aside0.out (by assumption)))))
               have n11_ := am (below_step (by repeat with_reducible first | exact HB.out | apply pw_below_drewN | apply below_drew1 | refine below_set ?_ (Aside0.out (by assumption))) hb)
               clear HB
               replace Oq11 := sqE Oq11 ho0 hb
               replace Oq12 := sqE Oq12 ho0 hb
               replace Oq13 := sqE Oq13 ho0 hb
               replace Oq14 := sqE Oq14 ho0 hb
               have Oq8 := n4_
               replace BK172 := sqB BK172 hb
               replace BK173 := sqB BK173 hb
               replace BK192 := sqB BK192 hb
               replace BK198 := sqB BK198 hb
               replace BK204 := sqB BK204 hb
               replace BK211 := sqB BK211 hb
               have HB := n11_
               clear n4_ n11_
               (try clear hb)
               (try clear hb2)
               (try clear hk)
               (try clear hi)
               (try clear ho0)
               refine hK.out _ _ ⟨sqc BK172 0, sqc BK172 1, sqc BK172 2, sqc BK173 0, sqc BK173 1, sqc BK173 2⟩ (fun hHeld => ?_)
               clear hK K
               refine norm_ (a' := ?_) ?_ ?_
               rotate_left
               ·
                show Act.put _ (some 96) _ = _
                simp only [Act.put, List.setIfInBounds_toArray, List.set_cons_zero, List.set_cons_succ, i64_w, i32_w]
                rfl
               refine two_ (i := 3) (j := 8) (Ni := some 98) (Nj := some 15) #[true, true, true, true, false, false, false, false, false, false, false] #[true, true, true, false, false, false, false, false, true, false, false] rfl rfl rfl rfl (two_of HT_.out (by kernel_rfl)) (by decide) (by decide) (fun K hK => ?_) (fun K hK => ?_)
               ·
                skip
                refine goes_ Try.func14 (by kernel_rfl) rfl #[.agg #[.int .i64 a1_0, .int .i64 a1_1, .slice A1_2 l1_2.length c1_2]] (by rfl) rfl rfl (by (try simp only [List.map_toArray, List.map_cons, List.map_nil]); try rfl) ?_
                with_reducible refine (laws_toBoard.calls kj96 a1_0 a1_1 _ _ l1_2 t238 t239 t240 _ ?side1 ?side2 A140.out).mono ?_
                (case side1 => repeat (first | exact (Kd.C_below HR1_2.out HB.out) | (with_reducible first | refine Kd.C_alloc ?_ _ | refine Kd.C_drewN ?_ _ | refine Kd.C_drew ?_)))
                (case side2 => exact HC1_2.out)
                rintro e w154 ⟨v241, rfl, ho0, hb⟩
                refine ⟨_, rfl, ?_⟩
                have n5_ := am (Kd.R_lower (Kd.R_new' (Kd.R_new' (Kd.R_new' (Kd.R_new' (Kd.R_new' ho0 (sqL Oq11)) (sqL Oq12)) (sqL Oq13)) (sqL Oq14)) (sqL Oq8)) (below_size (by repeat with_reducible first | exact HB.out | apply pw_below_drewN | apply below_drew1 | refine below_set ?_ (Aside0.out (by assumption)))))
                have n12_ := am (below_step (by repeat with_reducible first | exact HB.out | apply pw_below_drewN | apply below_drew1 | refine below_set ?_ (Aside0.out (by assumption))) hb)
                clear HB
                replace Oq11 := sqE Oq11 ho0 hb
                replace Oq12 := sqE Oq12 ho0 hb
                replace Oq13 := sqE Oq13 ho0 hb
                replace Oq14 := sqE Oq14 ho0 hb
                replace Oq8 := sqE Oq8 ho0 hb
                have Oq9 := n5_
                replace BK172 := sqB BK172 hb
                replace BK173 := sqB BK173 hb
                replace BK192 := sqB BK192 hb
                replace BK198 := sqB BK198 hb
                replace BK204 := sqB BK204 hb
                replace BK211 := sqB BK211 hb
                have HB := n12_
                clear n5_ n12_
                (try clear hb)
                (try clear hb2)
                (try clear hk)
                (try clear hi)
                (try clear ho0)
                obtain ⟨Ao155, co155, eo155⟩ := Kd.R_slice Oq8.out
                (first | subst eo155 | (injection eo155 with f1_ f2_ f3_; have f4_ := f1_.symm; have f5_ := f3_.symm; clear f1_ f2_ f3_; subst f4_; subst f5_))
                obtain ⟨Ao156, co156, eo156⟩ := Kd.R_slice Oq9.out
                (first | subst eo156 | (injection eo156 with f1_ f2_ f3_; have f4_ := f1_.symm; have f5_ := f3_.symm; clear f1_ f2_ f3_; subst f4_; subst f5_))
                refine hK.out _ _ ⟨sqc BK172 0, sqc BK172 1, sqc BK172 2, sqc BK173 0, sqc BK173 1, sqc BK173 2⟩ (fun hHeld => ?_)
                clear hK K
                refine norm_ (a' := ?_) ?_ ?_
                rotate_left
                ·
                 show Act.put _ (some 98) _ = _
                 simp only [Act.put, List.setIfInBounds_toArray, List.set_cons_zero, List.set_cons_succ, i64_w, i32_w]
                 rfl
                refine two_ (i := 4) (j := 8) (Ni := some 99) (Nj := some 15) #[true, true, true, true, true, false, false, false, false, false, false] #[true, true, true, true, false, false, false, false, true, false, false] rfl rfl rfl rfl (two_of HT_.out (by kernel_rfl)) (by decide) (by decide) (fun K hK => ?_) (fun K hK => ?_)
                ·
                 skip
                 refine goes_ Try.func31 (by kernel_rfl) rfl #[.agg #[.int .i64 t233, .int .i64 t234, .slice Ao155 t235.length co155], .agg #[.int .i64 t238, .int .i64 t239, .slice Ao156 t240.length co156]] (by rfl) rfl rfl (by (try simp only [List.map_toArray, List.map_cons, List.map_nil]); try rfl) ?_
                 with_reducible refine (impl_MeetOf.calls t233 t234 _ _ t235 t238 t239 _ _ t240 t243 t244 t245 t248 _ ?side1 ?side2 ?side3 ?side4 A141.out).mono ?_
                 (case side1 => repeat (first | exact (Kd.R_reads' Oq8.out).2.2 | (with_reducible first | refine Kd.C_alloc ?_ _ | refine Kd.C_drewN ?_ _ | refine Kd.C_drew ?_)))
                 (case side2 => exact (Kd.R_reads' Oq8.out).2.1)
                 (case side3 => repeat (first | exact (Kd.R_reads' Oq9.out).2.2 | (with_reducible first | refine Kd.C_alloc ?_ _ | refine Kd.C_drewN ?_ _ | refine Kd.C_drew ?_)))
                 (case side4 => exact (Kd.R_reads' Oq9.out).2.1)
                 rintro e w157 ⟨v246, rfl, ho0, hb⟩
                 refine ⟨_, rfl, ?_⟩
                 have n6_ := am (Kd.R_lower (Kd.R_new' (Kd.R_new' (Kd.R_new' (Kd.R_new' (Kd.R_new' (Kd.R_new' ho0 (sqL Oq11)) (sqL Oq12)) (sqL Oq13)) (sqL Oq14)) (sqL Oq8)) (sqL Oq9)) (below_size (by repeat with_reducible first | exact HB.out | apply pw_below_drewN | apply below_drew1 | refine below_set ?_ (Aside0.out (by assumption)))))
                 have n13_ := am (below_step (by repeat with_reducible first | exact HB.out | apply pw_below_drewN | apply below_drew1 | refine below_set ?_ (Aside0.out (by assumption))) hb)
                 clear HB
                 replace Oq11 := sqE Oq11 ho0 hb
                 replace Oq12 := sqE Oq12 ho0 hb
                 replace Oq13 := sqE Oq13 ho0 hb
                 replace Oq14 := sqE Oq14 ho0 hb
                 replace Oq8 := sqE Oq8 ho0 hb
                 replace Oq9 := sqE Oq9 ho0 hb
                 have Oq10 := n6_
                 replace BK172 := sqB BK172 hb
                 replace BK173 := sqB BK173 hb
                 replace BK192 := sqB BK192 hb
                 replace BK198 := sqB BK198 hb
                 replace BK204 := sqB BK204 hb
                 replace BK211 := sqB BK211 hb
                 have HB := n13_
                 clear n6_ n13_
                 (try clear hb)
                 (try clear hb2)
                 (try clear hk)
                 (try clear hi)
                 (try clear ho0)
                 refine hK.out _ _ ⟨sqc BK172 0, sqc BK172 1, sqc BK172 2, sqc BK173 0, sqc BK173 1, sqc BK173 2⟩ (fun hHeld => ?_)
                 clear hK K
                 refine norm_ (a' := ?_) ?_ ?_
                 rotate_left
                 ·
                  show Act.put _ (some 99) _ = _
                  simp only [Act.put, List.setIfInBounds_toArray, List.set_cons_zero, List.set_cons_succ, i64_w, i32_w]
                  rfl
                 refine pure_ (i := 5) (N := some 94) (v := ?_) (a' := ?_) #[true, true, true, true, true, true, false, false, false, false, false] rfl rfl (any_of HT_.out (by kernel_rfl)) (fun _ _ _ h => h) (Or.inl ⟨by rfl, ?_⟩) ?_ ?_
                 rotate_left
                 ·
                  intro w'
                  go_simp
                  with_reducible rfl
                 rotate_left
                 ·
                  simp only [Act.put, List.setIfInBounds_toArray, List.set_cons_zero, List.set_cons_succ, i64_w, i32_w]
                  rfl
                 refine pure_ (i := 6) (N := some 100) (v := ?_) (a' := ?_) #[true, true, true, true, true, true, true, false, false, false, false] rfl rfl (any_of HT_.out (by kernel_rfl)) (fun _ _ _ h => h) (Or.inl ⟨by rfl, ?_⟩) ?_ ?_
                 rotate_left
                 ·
                  intro w'
                  go_simp
                  with_reducible rfl
                 rotate_left
                 ·
                  simp only [Act.put, List.setIfInBounds_toArray, List.set_cons_zero, List.set_cons_succ, i64_w, i32_w]
                  rfl
                 refine pure_ (i := 7) (N := some 101) (v := ?_) (a' := ?_) #[true, true, true, true, true, true, true, true, false, false, false] rfl rfl (any_of HT_.out (by kernel_rfl)) (fun _ _ _ h => h) (Or.inl ⟨by rfl, ?_⟩) ?_ ?_
                 rotate_left
                 ·
                  intro w'
                  go_simp
                  with_reducible rfl
                 rotate_left
                 ·
                  simp only [Act.put, List.setIfInBounds_toArray, List.set_cons_zero, List.set_cons_succ, i64_w, i32_w]
                  rfl
                 refine one_ (i := 8) (N := some 15) #[true, true, true, true, true, true, true, true, true, false, false] rfl rfl (one_of HT_.out (by kernel_rfl)) (by decide) (fun K hK => ?_)
                 refine box_step ?hg (N := 15) ?hd (cs := #[.int .i64 0, .int .i64 0, .slice none 0 0]) (t := 26) ?hr ?_; (case hd => rfl); (case hg => rfl); (case hr => first | (go_simp; done) | (go_simp; rfl))
                 intro gb249 hg w158 hbox hb
                 have n13_ := am (below_step (by repeat with_reducible first | exact HB.out | apply pw_below_drewN | apply below_drew1 | refine below_set ?_ (Aside0.out (by assumption))) hb)
                 have n14_ := am (hbox)
                 have n15_ := am ((by rw [hg]; exact (below_size (by repeat with_reducible first | exact HB.out | apply pw_below_drewN | apply below_drew1 | refine below_set ?_ (Aside0.out (by assumption)))) : w.heap.size ≤ gb249))
                 have n16_ := am ((by rw [hg]; exact (below_size (by repeat with_reducible first | exact HB.out | apply pw_below_drewN | apply below_drew1 | refine below_set ?_ (Aside0.out (by assumption)))) : w.heap.size ≤ gb249))
                 have n17_ := am ((by rw [hg]; exact Nat.ne_of_lt (sqT BK172) : gb172 ≠ gb249))
                 have n18_ := am ((by rw [hg]; exact Nat.ne_of_gt (sqT BK172) : gb249 ≠ gb172))
                 have n19_ := am ((by rw [hg]; exact Nat.ne_of_lt (sqT BK173) : gb173 ≠ gb249))
                 have n20_ := am ((by rw [hg]; exact Nat.ne_of_gt (sqT BK173) : gb249 ≠ gb173))
                 have n21_ := am ((by rw [hg]; exact Nat.ne_of_lt (sqT BK192) : gb192 ≠ gb249))
                 have n22_ := am ((by rw [hg]; exact Nat.ne_of_gt (sqT BK192) : gb249 ≠ gb192))
                 have n23_ := am ((by rw [hg]; exact Nat.ne_of_lt (sqT BK198) : gb198 ≠ gb249))
                 have n24_ := am ((by rw [hg]; exact Nat.ne_of_gt (sqT BK198) : gb249 ≠ gb198))
                 have n25_ := am ((by rw [hg]; exact Nat.ne_of_lt (sqT BK204) : gb204 ≠ gb249))
                 have n26_ := am ((by rw [hg]; exact Nat.ne_of_gt (sqT BK204) : gb249 ≠ gb204))
                 have n27_ := am ((by rw [hg]; exact Nat.ne_of_lt (sqT BK211) : gb211 ≠ gb249))
                 have n28_ := am ((by rw [hg]; exact Nat.ne_of_gt (sqT BK211) : gb249 ≠ gb211))
                 clear HB
                 replace Oq11 := sqR Oq11 hb
                 replace Oq12 := sqR Oq12 hb
                 replace Oq13 := sqR Oq13 hb
                 replace Oq14 := sqR Oq14 hb
                 replace Oq8 := sqR Oq8 hb
                 replace Oq9 := sqR Oq9 hb
                 replace Oq10 := sqR Oq10 hb
                 replace BK172 := sqB BK172 hb
                 replace BK173 := sqB BK173 hb
                 replace BK192 := sqB BK192 hb
                 replace BK198 := sqB BK198 hb
                 replace BK204 := sqB BK204 hb
                 replace BK211 := sqB BK211 hb
                 have HB := n13_
                 have BK249 := n14_
                 have GW249 := n15_
                 have GE249 := n16_
                 have Nq5 := n17_
                 have Nq36 := n18_
                 have Nq11 := n19_
                 have Nq37 := n20_
                 have Nq17 := n21_
                 have Nq38 := n22_
                 have Nq23 := n23_
                 have Nq39 := n24_
                 have Nq29 := n25_
                 have Nq40 := n26_
                 have Nq35 := n27_
                 have Nq41 := n28_
                 clear n13_ n14_ n15_ n16_ n17_ n18_ n19_ n20_ n21_ n22_ n23_ n24_ n25_ n26_ n27_ n28_ hb hbox hg
                 refine hK.out _ _ ⟨sqc BK172 0, sqc BK172 1, sqc BK172 2, sqc BK173 0, sqc BK173 1, sqc BK173 2⟩ (fun hHeld => ?_)
                 clear hK K
                 refine norm_ (a' := ?_) ?_ ?_
                 rotate_left
                 ·
                  show Act.put _ (some 15) _ = _
                  simp only [Act.put, List.setIfInBounds_toArray, List.set_cons_zero, List.set_cons_succ, i64_w, i32_w]
                  rfl
                 exact norm_ (by simp only [putAll, Act.put, List.setIfInBounds_toArray, List.set_cons_zero, List.set_cons_succ]) (hCont (.slice Ao155 t235.length co155, .slice Ao156 t240.length co156, v246, gb249) _ ⟨hHeld, (by exact sqm Oq8 (fun _ hk => ⟨hk.1.2, ⟨hk.2, ⟨hk.1.1.1.1.1.2, ⟨hk.1.1.1.1.2, ⟨hk.1.1.1.2, hk.1.1.2⟩⟩⟩⟩⟩)), (by exact sqm Oq9 (fun _ hk => ⟨hk.1.2, ⟨hk.2, ⟨hk.1.1.1.1.1.2, ⟨hk.1.1.1.1.2, ⟨hk.1.1.1.2, hk.1.1.2⟩⟩⟩⟩⟩)), (by exact sqm Oq10 (fun _ hk => ⟨hk.1.2, ⟨hk.2, ⟨hk.1.1.1.1.1.2, ⟨hk.1.1.1.1.2, ⟨hk.1.1.1.2, hk.1.1.2⟩⟩⟩⟩⟩)), (by exact sqm Oq11 (fun _ hk => ⟨hk.1.1.2, ⟨hk.1.2, ⟨hk.2, ⟨hk.1.1.1.1, ⟨hk.1.1.1.2.1, hk.1.1.1.2.2⟩⟩⟩⟩⟩)), (by exact sqm Oq12 (fun _ hk => ⟨hk.1.1.2, ⟨hk.1.2, ⟨hk.2, ⟨hk.1.1.1.1, ⟨hk.1.1.1.2.1, hk.1.1.1.2.2⟩⟩⟩⟩⟩)), (by exact sqm Oq13 (fun _ hk => ⟨hk.1.1.2, ⟨hk.1.2, ⟨hk.2, ⟨hk.1.1.1.1, ⟨hk.1.1.1.2.1, hk.1.1.1.2.2⟩⟩⟩⟩⟩)), (by exact sqm Oq14 (fun _ hk => ⟨hk.1.1.2, ⟨hk.1.2, ⟨hk.2, ⟨hk.1.1.1.1, ⟨hk.1.1.1.2.1, hk.1.1.1.2.2⟩⟩⟩⟩⟩)), (sqb BK172), (sqb BK173), (sqb BK192), (sqb BK198), (sqb BK204), (sqb BK211), (sqb BK249), GW249.out, GE249.out, Nq5.out, Nq36.out, Nq11.out, Nq37.out, Nq17.out, Nq38.out, Nq23.out, Nq39.out, Nq29.out, Nq40.out, Nq35.out, Nq41.out, (by repeat with_reducible first | exact HB.out | apply pw_below_drewN | apply below_drew1 | refine below_set ?_ (Aside0.out (by assumption)))⟩)
                ·
                 skip
                 refine box_step ?hg (N := 15) ?hd (cs := #[.int .i64 0, .int .i64 0, .slice none 0 0]) (t := 26) ?hr ?_; (case hd => rfl); (case hg => rfl); (case hr => first | (go_simp; done) | (go_simp; rfl))
                 intro gb249 hg w155 hbox hb
                 have n12_ := am (below_step (by repeat with_reducible first | exact HB.out | apply pw_below_drewN | apply below_drew1 | refine below_set ?_ (Aside0.out (by assumption))) hb)
                 have n13_ := am (hbox)
                 have n14_ := am ((by rw [hg]; exact (below_size (by repeat with_reducible first | exact HB.out | apply pw_below_drewN | apply below_drew1 | refine below_set ?_ (Aside0.out (by assumption)))) : w.heap.size ≤ gb249))
                 have n15_ := am ((by rw [hg]; exact (below_size (by repeat with_reducible first | exact HB.out | apply pw_below_drewN | apply below_drew1 | refine below_set ?_ (Aside0.out (by assumption)))) : w.heap.size ≤ gb249))
                 have n16_ := am ((by rw [hg]; exact Nat.ne_of_lt (sqT BK172) : gb172 ≠ gb249))
                 have n17_ := am ((by rw [hg]; exact Nat.ne_of_gt (sqT BK172) : gb249 ≠ gb172))
                 have n18_ := am ((by rw [hg]; exact Nat.ne_of_lt (sqT BK173) : gb173 ≠ gb249))
                 have n19_ := am ((by rw [hg]; exact Nat.ne_of_gt (sqT BK173) : gb249 ≠ gb173))
                 have n20_ := am ((by rw [hg]; exact Nat.ne_of_lt (sqT BK192) : gb192 ≠ gb249))
                 have n21_ := am ((by rw [hg]; exact Nat.ne_of_gt (sqT BK192) : gb249 ≠ gb192))
                 have n22_ := am ((by rw [hg]; exact Nat.ne_of_lt (sqT BK198) : gb198 ≠ gb249))
                 have n23_ := am ((by rw [hg]; exact Nat.ne_of_gt (sqT BK198) : gb249 ≠ gb198))
                 have n24_ := am ((by rw [hg]; exact Nat.ne_of_lt (sqT BK204) : gb204 ≠ gb249))
                 have n25_ := am ((by rw [hg]; exact Nat.ne_of_gt (sqT BK204) : gb249 ≠ gb204))
                 have n26_ := am ((by rw [hg]; exact Nat.ne_of_lt (sqT BK211) : gb211 ≠ gb249))
                 have n27_ := am ((by rw [hg]; exact Nat.ne_of_gt (sqT BK211) : gb249 ≠ gb211))
                 clear HB
                 replace Oq11 := sqR Oq11 hb
                 replace Oq12 := sqR Oq12 hb
                 replace Oq13 := sqR Oq13 hb
                 replace Oq14 := sqR Oq14 hb
                 replace Oq8 := sqR Oq8 hb
                 replace Oq9 := sqR Oq9 hb
                 replace BK172 := sqB BK172 hb
                 replace BK173 := sqB BK173 hb
                 replace BK192 := sqB BK192 hb
                 replace BK198 := sqB BK198 hb
                 replace BK204 := sqB BK204 hb
                 replace BK211 := sqB BK211 hb
                 have HB := n12_
                 have BK249 := n13_
                 have GW249 := n14_
                 have GE249 := n15_
                 have Nq5 := n16_
                 have Nq36 := n17_
                 have Nq11 := n18_
                 have Nq37 := n19_
                 have Nq17 := n20_
                 have Nq38 := n21_
                 have Nq23 := n22_
                 have Nq39 := n23_
                 have Nq29 := n24_
                 have Nq40 := n25_
                 have Nq35 := n26_
                 have Nq41 := n27_
                 clear n12_ n13_ n14_ n15_ n16_ n17_ n18_ n19_ n20_ n21_ n22_ n23_ n24_ n25_ n26_ n27_ hb hbox hg
                 obtain ⟨Ao156, co156, eo156⟩ := Kd.R_slice Oq8.out
                 (first | subst eo156 | (injection eo156 with f1_ f2_ f3_; have f4_ := f1_.symm; have f5_ := f3_.symm; clear f1_ f2_ f3_; subst f4_; subst f5_))
                 obtain ⟨Ao157, co157, eo157⟩ := Kd.R_slice Oq9.out
                 (first | subst eo157 | (injection eo157 with f1_ f2_ f3_; have f4_ := f1_.symm; have f5_ := f3_.symm; clear f1_ f2_ f3_; subst f4_; subst f5_))
                 refine hK.out _ _ ⟨sqc BK172 0, sqc BK172 1, sqc BK172 2, sqc BK173 0, sqc BK173 1, sqc BK173 2⟩ (fun hHeld => ?_)
                 clear hK K
                 refine norm_ (a' := ?_) ?_ ?_
                 rotate_left
                 ·
                  show Act.put _ (some 15) _ = _
                  simp only [Act.put, List.setIfInBounds_toArray, List.set_cons_zero, List.set_cons_succ, i64_w, i32_w]
                  rfl
                 refine one_ (i := 4) (N := some 99) #[true, true, true, true, true, false, false, false, true, false, false] rfl rfl (one_of HT_.out (by kernel_rfl)) (by decide) (fun K hK => ?_)
                 refine goes_ Try.func31 (by kernel_rfl) rfl #[.agg #[.int .i64 t233, .int .i64 t234, .slice Ao156 t235.length co156], .agg #[.int .i64 t238, .int .i64 t239, .slice Ao157 t240.length co157]] (by rfl) rfl rfl (by (try simp only [List.map_toArray, List.map_cons, List.map_nil]); try rfl) ?_
                 with_reducible refine (impl_MeetOf.calls t233 t234 _ _ t235 t238 t239 _ _ t240 t243 t244 t245 t248 _ ?side1 ?side2 ?side3 ?side4 A141.out).mono ?_
                 (case side1 => repeat (first | exact (Kd.R_reads' Oq8.out).2.2 | (with_reducible first | refine Kd.C_alloc ?_ _ | refine Kd.C_drewN ?_ _ | refine Kd.C_drew ?_)))
                 (case side2 => exact (Kd.R_reads' Oq8.out).2.1)
                 (case side3 => repeat (first | exact (Kd.R_reads' Oq9.out).2.2 | (with_reducible first | refine Kd.C_alloc ?_ _ | refine Kd.C_drewN ?_ _ | refine Kd.C_drew ?_)))
                 (case side4 => exact (Kd.R_reads' Oq9.out).2.1)
                 rintro e w158 ⟨v246, rfl, ho0, hb⟩
                 refine ⟨_, rfl, ?_⟩
                 have n6_ := am (Kd.R_lower (Kd.R_new' (Kd.R_new' (Kd.R_new' (Kd.R_new' (Kd.R_new' (Kd.R_new' ho0 (sqL Oq11)) (sqL Oq12)) (sqL Oq13)) (sqL Oq14)) (sqL Oq8)) (sqL Oq9)) (below_size (by repeat with_reducible first | exact HB.out | apply pw_below_drewN | apply below_drew1 | refine below_set ?_ (Aside0.out (by assumption)))))
                 have n14_ := am (below_step (by repeat with_reducible first | exact HB.out | apply pw_below_drewN | apply below_drew1 | refine below_set ?_ (Aside0.out (by assumption))) hb)
                 clear HB
                 replace Oq11 := sqE Oq11 ho0 hb
                 replace Oq12 := sqE Oq12 ho0 hb
                 replace Oq13 := sqE Oq13 ho0 hb
                 replace Oq14 := sqE Oq14 ho0 hb
                 replace Oq8 := sqE Oq8 ho0 hb
                 replace Oq9 := sqE Oq9 ho0 hb
                 have Oq10 := n6_
                 replace BK172 := sqB BK172 hb
                 replace BK173 := sqB BK173 hb
                 replace BK192 := sqB BK192 hb
                 replace BK198 := sqB BK198 hb
                 replace BK204 := sqB BK204 hb
                 replace BK211 := sqB BK211 hb
                 replace BK249 := sqB BK249 hb
                 have HB := n14_
                 clear n6_ n14_
                 (try clear hb)
                 (try clear hb2)
                 (try clear hk)
                 (try clear hi)
                 (try clear ho0)
                 refine hK.out _ _ ⟨sqc BK172 0, sqc BK172 1, sqc BK172 2, sqc BK173 0, sqc BK173 1, sqc BK173 2⟩ (fun hHeld => ?_)
                 clear hK K
                 refine norm_ (a' := ?_) ?_ ?_
                 rotate_left
                 ·
                  show Act.put _ (some 99) _ = _
                  simp only [Act.put, List.setIfInBounds_toArray, List.set_cons_zero, List.set_cons_succ, i64_w, i32_w]
                  rfl
                 refine pure_ (i := 5) (N := some 94) (v := ?_) (a' := ?_) #[true, true, true, true, true, true, false, false, true, false, false] rfl rfl (any_of HT_.out (by kernel_rfl)) (fun _ _ _ h => h) (Or.inl ⟨by rfl, ?_⟩) ?_ ?_
                 rotate_left
                 ·
                  intro w'
                  go_simp
                  with_reducible rfl
                 rotate_left
                 ·
                  simp only [Act.put, List.setIfInBounds_toArray, List.set_cons_zero, List.set_cons_succ, i64_w, i32_w]
                  rfl
                 refine pure_ (i := 6) (N := some 100) (v := ?_) (a' := ?_) #[true, true, true, true, true, true, true, false, true, false, false] rfl rfl (any_of HT_.out (by kernel_rfl)) (fun _ _ _ h => h) (Or.inl ⟨by rfl, ?_⟩) ?_ ?_
                 rotate_left
                 ·
                  intro w'
                  go_simp
                  with_reducible rfl
                 rotate_left
                 ·
                  simp only [Act.put, List.setIfInBounds_toArray, List.set_cons_zero, List.set_cons_succ, i64_w, i32_w]
                  rfl
                 refine pure_ (i := 7) (N := some 101) (v := ?_) (a' := ?_) #[true, true, true, true, true, true, true, true, true, false, false] rfl rfl (any_of HT_.out (by kernel_rfl)) (fun _ _ _ h => h) (Or.inl ⟨by rfl, ?_⟩) ?_ ?_
                 rotate_left
                 ·
                  intro w'
                  go_simp
                  with_reducible rfl
                 rotate_left
                 ·
                  simp only [Act.put, List.setIfInBounds_toArray, List.set_cons_zero, List.set_cons_succ, i64_w, i32_w]
                  rfl
                 exact norm_ (by simp only [putAll, Act.put, List.setIfInBounds_toArray, List.set_cons_zero, List.set_cons_succ]) (hCont (.slice Ao156 t235.length co156, .slice Ao157 t240.length co157, v246, gb249) _ ⟨hHeld, (by exact sqm Oq8 (fun _ hk => ⟨hk.1.2, ⟨hk.2, ⟨hk.1.1.1.1.1.2, ⟨hk.1.1.1.1.2, ⟨hk.1.1.1.2, hk.1.1.2⟩⟩⟩⟩⟩)), (by exact sqm Oq9 (fun _ hk => ⟨hk.1.2, ⟨hk.2, ⟨hk.1.1.1.1.1.2, ⟨hk.1.1.1.1.2, ⟨hk.1.1.1.2, hk.1.1.2⟩⟩⟩⟩⟩)), (by exact sqm Oq10 (fun _ hk => ⟨hk.1.2, ⟨hk.2, ⟨hk.1.1.1.1.1.2, ⟨hk.1.1.1.1.2, ⟨hk.1.1.1.2, hk.1.1.2⟩⟩⟩⟩⟩)), (by exact sqm Oq11 (fun _ hk => ⟨hk.1.1.2, ⟨hk.1.2, ⟨hk.2, ⟨hk.1.1.1.1, ⟨hk.1.1.1.2.1, hk.1.1.1.2.2⟩⟩⟩⟩⟩)), (by exact sqm Oq12 (fun _ hk => ⟨hk.1.1.2, ⟨hk.1.2, ⟨hk.2, ⟨hk.1.1.1.1, ⟨hk.1.1.1.2.1, hk.1.1.1.2.2⟩⟩⟩⟩⟩)), (by exact sqm Oq13 (fun _ hk => ⟨hk.1.1.2, ⟨hk.1.2, ⟨hk.2, ⟨hk.1.1.1.1, ⟨hk.1.1.1.2.1, hk.1.1.1.2.2⟩⟩⟩⟩⟩)), (by exact sqm Oq14 (fun _ hk => ⟨hk.1.1.2, ⟨hk.1.2, ⟨hk.2, ⟨hk.1.1.1.1, ⟨hk.1.1.1.2.1, hk.1.1.1.2.2⟩⟩⟩⟩⟩)), (sqb BK172), (sqb BK173), (sqb BK192), (sqb BK198), (sqb BK204), (sqb BK211), (sqb BK249), GW249.out, GE249.out, Nq5.out, Nq36.out, Nq11.out, Nq37.out, Nq17.out, Nq38.out, Nq23.out, Nq39.out, Nq29.out, Nq40.out, Nq35.out, Nq41.out, (by repeat with_reducible first | exact HB.out | apply pw_below_drewN | apply below_drew1 | refine below_set ?_ (Aside0.out (by assumption)))⟩)
               ·
                skip
                refine box_step ?hg (N := 15) ?hd (cs := #[.int .i64 0, .int .i64 0, .slice none 0 0]) (t := 26) ?hr ?_; (case hd => rfl); (case hg => rfl); (case hr => first | (go_simp; done) | (go_simp; rfl))
                intro gb249 hg w154 hbox hb
                have n11_ := am (below_step (by repeat with_reducible first | exact HB.out | apply pw_below_drewN | apply below_drew1 | refine below_set ?_ (Aside0.out (by assumption))) hb)
                have n12_ := am (hbox)
                have n13_ := am ((by rw [hg]; exact (below_size (by repeat with_reducible first | exact HB.out | apply pw_below_drewN | apply below_drew1 | refine below_set ?_ (Aside0.out (by assumption)))) : w.heap.size ≤ gb249))
                have n14_ := am ((by rw [hg]; exact (below_size (by repeat with_reducible first | exact HB.out | apply pw_below_drewN | apply below_drew1 | refine below_set ?_ (Aside0.out (by assumption)))) : w.heap.size ≤ gb249))
                have n15_ := am ((by rw [hg]; exact Nat.ne_of_lt (sqT BK172) : gb172 ≠ gb249))
                have n16_ := am ((by rw [hg]; exact Nat.ne_of_gt (sqT BK172) : gb249 ≠ gb172))
                have n17_ := am ((by rw [hg]; exact Nat.ne_of_lt (sqT BK173) : gb173 ≠ gb249))
                have n18_ := am ((by rw [hg]; exact Nat.ne_of_gt (sqT BK173) : gb249 ≠ gb173))
                have n19_ := am ((by rw [hg]; exact Nat.ne_of_lt (sqT BK192) : gb192 ≠ gb249))
                have n20_ := am ((by rw [hg]; exact Nat.ne_of_gt (sqT BK192) : gb249 ≠ gb192))
                have n21_ := am ((by rw [hg]; exact Nat.ne_of_lt (sqT BK198) : gb198 ≠ gb249))
                have n22_ := am ((by rw [hg]; exact Nat.ne_of_gt (sqT BK198) : gb249 ≠ gb198))
                have n23_ := am ((by rw [hg]; exact Nat.ne_of_lt (sqT BK204) : gb204 ≠ gb249))
                have n24_ := am ((by rw [hg]; exact Nat.ne_of_gt (sqT BK204) : gb249 ≠ gb204))
                have n25_ := am ((by rw [hg]; exact Nat.ne_of_lt (sqT BK211) : gb211 ≠ gb249))
                have n26_ := am ((by rw [hg]; exact Nat.ne_of_gt (sqT BK211) : gb249 ≠ gb211))
                clear HB
                replace Oq11 := sqR Oq11 hb
                replace Oq12 := sqR Oq12 hb
                replace Oq13 := sqR Oq13 hb
                replace Oq14 := sqR Oq14 hb
                replace Oq8 := sqR Oq8 hb
                replace BK172 := sqB BK172 hb
                replace BK173 := sqB BK173 hb
                replace BK192 := sqB BK192 hb
                replace BK198 := sqB BK198 hb
                replace BK204 := sqB BK204 hb
                replace BK211 := sqB BK211 hb
                have HB := n11_
                have BK249 := n12_
                have GW249 := n13_
                have GE249 := n14_
                have Nq5 := n15_
                have Nq36 := n16_
                have Nq11 := n17_
                have Nq37 := n18_
                have Nq17 := n19_
                have Nq38 := n20_
                have Nq23 := n21_
                have Nq39 := n22_
                have Nq29 := n23_
                have Nq40 := n24_
                have Nq35 := n25_
                have Nq41 := n26_
                clear n11_ n12_ n13_ n14_ n15_ n16_ n17_ n18_ n19_ n20_ n21_ n22_ n23_ n24_ n25_ n26_ hb hbox hg
                refine hK.out _ _ ⟨sqc BK172 0, sqc BK172 1, sqc BK172 2, sqc BK173 0, sqc BK173 1, sqc BK173 2⟩ (fun hHeld => ?_)
                clear hK K
                refine norm_ (a' := ?_) ?_ ?_
                rotate_left
                ·
                 show Act.put _ (some 15) _ = _
                 simp only [Act.put, List.setIfInBounds_toArray, List.set_cons_zero, List.set_cons_succ, i64_w, i32_w]
                 rfl
                refine one_ (i := 3) (N := some 98) #[true, true, true, true, false, false, false, false, true, false, false] rfl rfl (one_of HT_.out (by kernel_rfl)) (by decide) (fun K hK => ?_)
                refine goes_ Try.func14 (by kernel_rfl) rfl #[.agg #[.int .i64 a1_0, .int .i64 a1_1, .slice A1_2 l1_2.length c1_2]] (by rfl) rfl rfl (by (try simp only [List.map_toArray, List.map_cons, List.map_nil]); try rfl) ?_
                with_reducible refine (laws_toBoard.calls kj96 a1_0 a1_1 _ _ l1_2 t238 t239 t240 _ ?side1 ?side2 A140.out).mono ?_
                (case side1 => repeat (first | exact (Kd.C_below HR1_2.out HB.out) | (with_reducible first | refine Kd.C_alloc ?_ _ | refine Kd.C_drewN ?_ _ | refine Kd.C_drew ?_)))
                (case side2 => exact HC1_2.out)
                rintro e w155 ⟨v241, rfl, ho0, hb⟩
                refine ⟨_, rfl, ?_⟩
                have n5_ := am (Kd.R_lower (Kd.R_new' (Kd.R_new' (Kd.R_new' (Kd.R_new' (Kd.R_new' ho0 (sqL Oq11)) (sqL Oq12)) (sqL Oq13)) (sqL Oq14)) (sqL Oq8)) (below_size (by repeat with_reducible first | exact HB.out | apply pw_below_drewN | apply below_drew1 | refine below_set ?_ (Aside0.out (by assumption)))))
                have n13_ := am (below_step (by repeat with_reducible first | exact HB.out | apply pw_below_drewN | apply below_drew1 | refine below_set ?_ (Aside0.out (by assumption))) hb)
                clear HB
                replace Oq11 := sqE Oq11 ho0 hb
                replace Oq12 := sqE Oq12 ho0 hb
                replace Oq13 := sqE Oq13 ho0 hb
                replace Oq14 := sqE Oq14 ho0 hb
                replace Oq8 := sqE Oq8 ho0 hb
                have Oq9 := n5_
                replace BK172 := sqB BK172 hb
                replace BK173 := sqB BK173 hb
                replace BK192 := sqB BK192 hb
                replace BK198 := sqB BK198 hb
                replace BK204 := sqB BK204 hb
                replace BK211 := sqB BK211 hb
                replace BK249 := sqB BK249 hb
                have HB := n13_
                clear n5_ n13_
                (try clear hb)
                (try clear hb2)
                (try clear hk)
                (try clear hi)
                (try clear ho0)
                obtain ⟨Ao156, co156, eo156⟩ := Kd.R_slice Oq8.out
                (first | subst eo156 | (injection eo156 with f1_ f2_ f3_; have f4_ := f1_.symm; have f5_ := f3_.symm; clear f1_ f2_ f3_; subst f4_; subst f5_))
                obtain ⟨Ao157, co157, eo157⟩ := Kd.R_slice Oq9.out
                (first | subst eo157 | (injection eo157 with f1_ f2_ f3_; have f4_ := f1_.symm; have f5_ := f3_.symm; clear f1_ f2_ f3_; subst f4_; subst f5_))
                refine hK.out _ _ ⟨sqc BK172 0, sqc BK172 1, sqc BK172 2, sqc BK173 0, sqc BK173 1, sqc BK173 2⟩ (fun hHeld => ?_)
                clear hK K
                refine norm_ (a' := ?_) ?_ ?_
                rotate_left
                ·
                 show Act.put _ (some 98) _ = _
                 simp only [Act.put, List.setIfInBounds_toArray, List.set_cons_zero, List.set_cons_succ, i64_w, i32_w]
                 rfl
                refine one_ (i := 4) (N := some 99) #[true, true, true, true, true, false, false, false, true, false, false] rfl rfl (one_of HT_.out (by kernel_rfl)) (by decide) (fun K hK => ?_)
                refine goes_ Try.func31 (by kernel_rfl) rfl #[.agg #[.int .i64 t233, .int .i64 t234, .slice Ao156 t235.length co156], .agg #[.int .i64 t238, .int .i64 t239, .slice Ao157 t240.length co157]] (by rfl) rfl rfl (by (try simp only [List.map_toArray, List.map_cons, List.map_nil]); try rfl) ?_
                with_reducible refine (impl_MeetOf.calls t233 t234 _ _ t235 t238 t239 _ _ t240 t243 t244 t245 t248 _ ?side1 ?side2 ?side3 ?side4 A141.out).mono ?_
                (case side1 => repeat (first | exact (Kd.R_reads' Oq8.out).2.2 | (with_reducible first | refine Kd.C_alloc ?_ _ | refine Kd.C_drewN ?_ _ | refine Kd.C_drew ?_)))
                (case side2 => exact (Kd.R_reads' Oq8.out).2.1)
                (case side3 => repeat (first | exact (Kd.R_reads' Oq9.out).2.2 | (with_reducible first | refine Kd.C_alloc ?_ _ | refine Kd.C_drewN ?_ _ | refine Kd.C_drew ?_)))
                (case side4 => exact (Kd.R_reads' Oq9.out).2.1)
                rintro e w158 ⟨v246, rfl, ho0, hb⟩
                refine ⟨_, rfl, ?_⟩
                have n6_ := am (Kd.R_lower (Kd.R_new' (Kd.R_new' (Kd.R_new' (Kd.R_new' (Kd.R_new' (Kd.R_new' ho0 (sqL Oq11)) (sqL Oq12)) (sqL Oq13)) (sqL Oq14)) (sqL Oq8)) (sqL Oq9)) (below_size (by repeat with_reducible first | exact HB.out | apply pw_below_drewN | apply below_drew1 | refine below_set ?_ (Aside0.out (by assumption)))))
                have n14_ := am (below_step (by repeat with_reducible first | exact HB.out | apply pw_below_drewN | apply below_drew1 | refine below_set ?_ (Aside0.out (by assumption))) hb)
                clear HB
                replace Oq11 := sqE Oq11 ho0 hb
                replace Oq12 := sqE Oq12 ho0 hb
                replace Oq13 := sqE Oq13 ho0 hb
                replace Oq14 := sqE Oq14 ho0 hb
                replace Oq8 := sqE Oq8 ho0 hb
                replace Oq9 := sqE Oq9 ho0 hb
                have Oq10 := n6_
                replace BK172 := sqB BK172 hb
                replace BK173 := sqB BK173 hb
                replace BK192 := sqB BK192 hb
                replace BK198 := sqB BK198 hb
                replace BK204 := sqB BK204 hb
                replace BK211 := sqB BK211 hb
                replace BK249 := sqB BK249 hb
                have HB := n14_
                clear n6_ n14_
                (try clear hb)
                (try clear hb2)
                (try clear hk)
                (try clear hi)
                (try clear ho0)
                refine hK.out _ _ ⟨sqc BK172 0, sqc BK172 1, sqc BK172 2, sqc BK173 0, sqc BK173 1, sqc BK173 2⟩ (fun hHeld => ?_)
                clear hK K
                refine norm_ (a' := ?_) ?_ ?_
                rotate_left
                ·
                 show Act.put _ (some 99) _ = _
                 simp only [Act.put, List.setIfInBounds_toArray, List.set_cons_zero, List.set_cons_succ, i64_w, i32_w]
                 rfl
                refine pure_ (i := 5) (N := some 94) (v := ?_) (a' := ?_) #[true, true, true, true, true, true, false, false, true, false, false] rfl rfl (any_of HT_.out (by kernel_rfl)) (fun _ _ _ h => h) (Or.inl ⟨by rfl, ?_⟩) ?_ ?_
                rotate_left
                ·
                 intro w'
                 go_simp
                 with_reducible rfl
                rotate_left
                ·
                 simp only [Act.put, List.setIfInBounds_toArray, List.set_cons_zero, List.set_cons_succ, i64_w, i32_w]
                 rfl
                refine pure_ (i := 6) (N := some 100) (v := ?_) (a' := ?_) #[true, true, true, true, true, true, true, false, true, false, false] rfl rfl (any_of HT_.out (by kernel_rfl)) (fun _ _ _ h => h) (Or.inl ⟨by rfl, ?_⟩) ?_ ?_
                rotate_left
                ·
                 intro w'
                 go_simp
                 with_reducible rfl
                rotate_left
                ·
                 simp only [Act.put, List.setIfInBounds_toArray, List.set_cons_zero, List.set_cons_succ, i64_w, i32_w]
                 rfl
                refine pure_ (i := 7) (N := some 101) (v := ?_) (a' := ?_) #[true, true, true, true, true, true, true, true, true, false, false] rfl rfl (any_of HT_.out (by kernel_rfl)) (fun _ _ _ h => h) (Or.inl ⟨by rfl, ?_⟩) ?_ ?_
                rotate_left
                ·
                 intro w'
                 go_simp
                 with_reducible rfl
                rotate_left
                ·
                 simp only [Act.put, List.setIfInBounds_toArray, List.set_cons_zero, List.set_cons_succ, i64_w, i32_w]
                 rfl
                exact norm_ (by simp only [putAll, Act.put, List.setIfInBounds_toArray, List.set_cons_zero, List.set_cons_succ]) (hCont (.slice Ao156 t235.length co156, .slice Ao157 t240.length co157, v246, gb249) _ ⟨hHeld, (by exact sqm Oq8 (fun _ hk => ⟨hk.1.2, ⟨hk.2, ⟨hk.1.1.1.1.1.2, ⟨hk.1.1.1.1.2, ⟨hk.1.1.1.2, hk.1.1.2⟩⟩⟩⟩⟩)), (by exact sqm Oq9 (fun _ hk => ⟨hk.1.2, ⟨hk.2, ⟨hk.1.1.1.1.1.2, ⟨hk.1.1.1.1.2, ⟨hk.1.1.1.2, hk.1.1.2⟩⟩⟩⟩⟩)), (by exact sqm Oq10 (fun _ hk => ⟨hk.1.2, ⟨hk.2, ⟨hk.1.1.1.1.1.2, ⟨hk.1.1.1.1.2, ⟨hk.1.1.1.2, hk.1.1.2⟩⟩⟩⟩⟩)), (by exact sqm Oq11 (fun _ hk => ⟨hk.1.1.2, ⟨hk.1.2, ⟨hk.2, ⟨hk.1.1.1.1, ⟨hk.1.1.1.2.1, hk.1.1.1.2.2⟩⟩⟩⟩⟩)), (by exact sqm Oq12 (fun _ hk => ⟨hk.1.1.2, ⟨hk.1.2, ⟨hk.2, ⟨hk.1.1.1.1, ⟨hk.1.1.1.2.1, hk.1.1.1.2.2⟩⟩⟩⟩⟩)), (by exact sqm Oq13 (fun _ hk => ⟨hk.1.1.2, ⟨hk.1.2, ⟨hk.2, ⟨hk.1.1.1.1, ⟨hk.1.1.1.2.1, hk.1.1.1.2.2⟩⟩⟩⟩⟩)), (by exact sqm Oq14 (fun _ hk => ⟨hk.1.1.2, ⟨hk.1.2, ⟨hk.2, ⟨hk.1.1.1.1, ⟨hk.1.1.1.2.1, hk.1.1.1.2.2⟩⟩⟩⟩⟩)), (sqb BK172), (sqb BK173), (sqb BK192), (sqb BK198), (sqb BK204), (sqb BK211), (sqb BK249), GW249.out, GE249.out, Nq5.out, Nq36.out, Nq11.out, Nq37.out, Nq17.out, Nq38.out, Nq23.out, Nq39.out, Nq29.out, Nq40.out, Nq35.out, Nq41.out, (by repeat with_reducible first | exact HB.out | apply pw_below_drewN | apply below_drew1 | refine below_set ?_ (Aside0.out (by assumption)))⟩)
              ·
               skip
               refine box_step ?hg (N := 15) ?hd (cs := #[.int .i64 0, .int .i64 0, .slice none 0 0]) (t := 26) ?hr ?_; (case hd => rfl); (case hg => rfl); (case hr => first | (go_simp; done) | (go_simp; rfl))
               intro gb249 hg w153 hbox hb
               have n10_ := am (below_step (by repeat with_reducible first | exact HB.out | apply pw_below_drewN | apply below_drew1 | refine below_set ?_ (Aside0.out (by assumption))) hb)
               have n11_ := am (hbox)
               have n12_ := am ((by rw [hg]; exact (below_size (by repeat with_reducible first | exact HB.out | apply pw_below_drewN | apply below_drew1 | refine below_set ?_ (Aside0.out (by assumption)))) : w.heap.size ≤ gb249))
               have n13_ := am ((by rw [hg]; exact (below_size (by repeat with_reducible first | exact HB.out | apply pw_below_drewN | apply below_drew1 | refine below_set ?_ (Aside0.out (by assumption)))) : w.heap.size ≤ gb249))
               have n14_ := am ((by rw [hg]; exact Nat.ne_of_lt (sqT BK172) : gb172 ≠ gb249))
               have n15_ := am ((by rw [hg]; exact Nat.ne_of_gt (sqT BK172) : gb249 ≠ gb172))
               have n16_ := am ((by rw [hg]; exact Nat.ne_of_lt (sqT BK173) : gb173 ≠ gb249))
               have n17_ := am ((by rw [hg]; exact Nat.ne_of_gt (sqT BK173) : gb249 ≠ gb173))
               have n18_ := am ((by rw [hg]; exact Nat.ne_of_lt (sqT BK192) : gb192 ≠ gb249))
               have n19_ := am ((by rw [hg]; exact Nat.ne_of_gt (sqT BK192) : gb249 ≠ gb192))
               have n20_ := am ((by rw [hg]; exact Nat.ne_of_lt (sqT BK198) : gb198 ≠ gb249))
               have n21_ := am ((by rw [hg]; exact Nat.ne_of_gt (sqT BK198) : gb249 ≠ gb198))
               have n22_ := am ((by rw [hg]; exact Nat.ne_of_lt (sqT BK204) : gb204 ≠ gb249))
               have n23_ := am ((by rw [hg]; exact Nat.ne_of_gt (sqT BK204) : gb249 ≠ gb204))
               have n24_ := am ((by rw [hg]; exact Nat.ne_of_lt (sqT BK211) : gb211 ≠ gb249))
               have n25_ := am ((by rw [hg]; exact Nat.ne_of_gt (sqT BK211) : gb249 ≠ gb211))
               clear HB
               replace Oq11 := sqR Oq11 hb
               replace Oq12 := sqR Oq12 hb
               replace Oq13 := sqR Oq13 hb
               replace Oq14 := sqR Oq14 hb
               replace BK172 := sqB BK172 hb
               replace BK173 := sqB BK173 hb
               replace BK192 := sqB BK192 hb
               replace BK198 := sqB BK198 hb
               replace BK204 := sqB BK204 hb
               replace BK211 := sqB BK211 hb
               have HB := n10_
               have BK249 := n11_
               have GW249 := n12_
               have GE249 := n13_
               have Nq5 := n14_
               have Nq36 := n15_
               have Nq11 := n16_
               have Nq37 := n17_
               have Nq17 := n18_
               have Nq38 := n19_
               have Nq23 := n20_
               have Nq39 := n21_
               have Nq29 := n22_
               have Nq40 := n23_
               have Nq35 := n24_
               have Nq41 := n25_
               clear n10_ n11_ n12_ n13_ n14_ n15_ n16_ n17_ n18_ n19_ n20_ n21_ n22_ n23_ n24_ n25_ hb hbox hg
               refine hK.out _ _ ⟨sqc BK172 0, sqc BK172 1, sqc BK172 2, sqc BK173 0, sqc BK173 1, sqc BK173 2⟩ (fun hHeld => ?_)
               clear hK K
               refine norm_ (a' := ?_) ?_ ?_
               rotate_left
               ·
                show Act.put _ (some 15) _ = _
                simp only [Act.put, List.setIfInBounds_toArray, List.set_cons_zero, List.set_cons_succ, i64_w, i32_w]
                rfl
               refine one_ (i := 1) (N := some 96) #[true, true, true, false, false, false, false, false, true, false, false] rfl rfl (one_of HT_.out (by kernel_rfl)) (by decide) (fun K hK => ?_)
               refine goes_ Try.func14 (by kernel_rfl) rfl #[.agg #[.int .i64 a0_0, .int .i64 a0_1, .slice A0_2 l0_2.length c0_2]] (by rfl) rfl rfl (by (try simp only [List.map_toArray, List.map_cons, List.map_nil]); try rfl) ?_
               with_reducible refine (laws_toBoard.calls kj96 a0_0 a0_1 _ _ l0_2 t233 t234 t235 _ ?side1 ?side2 A139.out).mono ?_
               (case side1 => repeat (first | exact (Kd.C_below HR0_2.out HB.out) | (with_reducible first | refine Kd.C_alloc ?_ _ | refine Kd.C_drewN ?_ _ | refine Kd.C_drew ?_)))
               (case side2 => exact HC0_2.out)
               rintro e w154 ⟨v236, rfl, ho0, hb⟩
               refine ⟨_, rfl, ?_⟩
               have n4_ := am (Kd.R_lower (Kd.R_new' (Kd.R_new' (Kd.R_new' (Kd.R_new' ho0 (sqL Oq11)) (sqL Oq12)) (sqL Oq13)) (sqL Oq14)) (below_size (by repeat with_reducible first | exact HB.out | apply pw_below_drewN | apply below_drew1 | refine below_set ?_ (Aside0.out (by assumption)))))
               have n12_ := am (below_step (by repeat with_reducible first | exact HB.out | apply pw_below_drewN | apply below_drew1 | refine below_set ?_ (Aside0.out (by assumption))) hb)
               clear HB
               replace Oq11 := sqE Oq11 ho0 hb
               replace Oq12 := sqE Oq12 ho0 hb
               replace Oq13 := sqE Oq13 ho0 hb
               replace Oq14 := sqE Oq14 ho0 hb
               have Oq8 := n4_
               replace BK172 := sqB BK172 hb
               replace BK173 := sqB BK173 hb
               replace BK192 := sqB BK192 hb
               replace BK198 := sqB BK198 hb
               replace BK204 := sqB BK204 hb
               replace BK211 := sqB BK211 hb
               replace BK249 := sqB BK249 hb
               have HB := n12_
               clear n4_ n12_
               (try clear hb)
               (try clear hb2)
               (try clear hk)
               (try clear hi)
               (try clear ho0)
               refine hK.out _ _ ⟨sqc BK172 0, sqc BK172 1, sqc BK172 2, sqc BK173 0, sqc BK173 1, sqc BK173 2⟩ (fun hHeld => ?_)
               clear hK K
               refine norm_ (a' := ?_) ?_ ?_
               rotate_left
               ·
                show Act.put _ (some 96) _ = _
                simp only [Act.put, List.setIfInBounds_toArray, List.set_cons_zero, List.set_cons_succ, i64_w, i32_w]
                rfl
               refine one_ (i := 3) (N := some 98) #[true, true, true, true, false, false, false, false, true, false, false] rfl rfl (one_of HT_.out (by kernel_rfl)) (by decide) (fun K hK => ?_)
               refine goes_ Try.func14 (by kernel_rfl) rfl #[.agg #[.int .i64 a1_0, .int .i64 a1_1, .slice A1_2 l1_2.length c1_2]] (by rfl) rfl rfl (by (try simp only [List.map_toArray, List.map_cons, List.map_nil]); try rfl) ?_
               with_reducible refine (laws_toBoard.calls kj96 a1_0 a1_1 _ _ l1_2 t238 t239 t240 _ ?side1 ?side2 A140.out).mono ?_
               (case side1 => repeat (first | exact (Kd.C_below HR1_2.out HB.out) | (with_reducible first | refine Kd.C_alloc ?_ _ | refine Kd.C_drewN ?_ _ | refine Kd.C_drew ?_)))
               (case side2 => exact HC1_2.out)
               rintro e w155 ⟨v241, rfl, ho0, hb⟩
               refine ⟨_, rfl, ?_⟩
               have n5_ := am (Kd.R_lower (Kd.R_new' (Kd.R_new' (Kd.R_new' (Kd.R_new' (Kd.R_new' ho0 (sqL Oq11)) (sqL Oq12)) (sqL Oq13)) (sqL Oq14)) (sqL Oq8)) (below_size (by repeat with_reducible first | exact HB.out | apply pw_below_drewN | apply below_drew1 | refine below_set ?_ (Aside0.out (by assumption)))))
               have n13_ := am (below_step (by repeat with_reducible first | exact HB.out | apply pw_below_drewN | apply below_drew1 | refine below_set ?_ (Aside0.out (by assumption))) hb)
               clear HB
               replace Oq11 := sqE Oq11 ho0 hb
               replace Oq12 := sqE Oq12 ho0 hb
               replace Oq13 := sqE Oq13 ho0 hb
               replace Oq14 := sqE Oq14 ho0 hb
               replace Oq8 := sqE Oq8 ho0 hb
               have Oq9 := n5_
               replace BK172 := sqB BK172 hb
               replace BK173 := sqB BK173 hb
               replace BK192 := sqB BK192 hb
               replace BK198 := sqB BK198 hb
               replace BK204 := sqB BK204 hb
               replace BK211 := sqB BK211 hb
               replace BK249 := sqB BK249 hb
               have HB := n13_
               clear n5_ n13_
               (try clear hb)
               (try clear hb2)
               (try clear hk)
               (try clear hi)
               (try clear ho0)
               obtain ⟨Ao156, co156, eo156⟩ := Kd.R_slice Oq8.out
               (first | subst eo156 | (injection eo156 with f1_ f2_ f3_; have f4_ := f1_.symm; have f5_ := f3_.symm; clear f1_ f2_ f3_; subst f4_; subst f5_))
               obtain ⟨Ao157, co157, eo157⟩ := Kd.R_slice Oq9.out
               (first | subst eo157 | (injection eo157 with f1_ f2_ f3_; have f4_ := f1_.symm; have f5_ := f3_.symm; clear f1_ f2_ f3_; subst f4_; subst f5_))
               refine hK.out _ _ ⟨sqc BK172 0, sqc BK172 1, sqc BK172 2, sqc BK173 0, sqc BK173 1, sqc BK173 2⟩ (fun hHeld => ?_)
               clear hK K
               refine norm_ (a' := ?_) ?_ ?_
               rotate_left
               ·
                show Act.put _ (some 98) _ = _
                simp only [Act.put, List.setIfInBounds_toArray, List.set_cons_zero, List.set_cons_succ, i64_w, i32_w]
                rfl
               refine one_ (i := 4) (N := some 99) #[true, true, true, true, true, false, false, false, true, false, false] rfl rfl (one_of HT_.out (by kernel_rfl)) (by decide) (fun K hK => ?_)
               refine goes_ Try.func31 (by kernel_rfl) rfl #[.agg #[.int .i64 t233, .int .i64 t234, .slice Ao156 t235.length co156], .agg #[.int .i64 t238, .int .i64 t239, .slice Ao157 t240.length co157]] (by rfl) rfl rfl (by (try simp only [List.map_toArray, List.map_cons, List.map_nil]); try rfl) ?_
               with_reducible refine (impl_MeetOf.calls t233 t234 _ _ t235 t238 t239 _ _ t240 t243 t244 t245 t248 _ ?side1 ?side2 ?side3 ?side4 A141.out).mono ?_
               (case side1 => repeat (first | exact (Kd.R_reads' Oq8.out).2.2 | (with_reducible first | refine Kd.C_alloc ?_ _ | refine Kd.C_drewN ?_ _ | refine Kd.C_drew ?_)))
               (case side2 => exact (Kd.R_reads' Oq8.out).2.1)
               (case side3 => repeat (first | exact (Kd.R_reads' Oq9.out).2.2 | (with_reducible first | refine Kd.C_alloc ?_ _ | refine Kd.C_drewN ?_ _ | refine Kd.C_drew ?_)))
               (case side4 => exact (Kd.R_reads' Oq9.out).2.1)
               rintro e w158 ⟨v246, rfl, ho0, hb⟩
               refine ⟨_, rfl, ?_⟩
               have n6_ := am (Kd.R_lower (Kd.R_new' (Kd.R_new' (Kd.R_new' (Kd.R_new' (Kd.R_new' (Kd.R_new' ho0 (sqL Oq11)) (sqL Oq12)) (sqL Oq13)) (sqL Oq14)) (sqL Oq8)) (sqL Oq9)) (below_size (by repeat with_reducible first | exact HB.out | apply pw_below_drewN | apply below_drew1 | refine below_set ?_ (Aside0.out (by assumption)))))
               have n14_ := am (below_step (by repeat with_reducible first | exact HB.out | apply pw_below_drewN | apply below_drew1 | refine below_set ?_ (Aside0.out (by assumption))) hb)
               clear HB
               replace Oq11 := sqE Oq11 ho0 hb
               replace Oq12 := sqE Oq12 ho0 hb
               replace Oq13 := sqE Oq13 ho0 hb
               replace Oq14 := sqE Oq14 ho0 hb
               replace Oq8 := sqE Oq8 ho0 hb
               replace Oq9 := sqE Oq9 ho0 hb
               have Oq10 := n6_
               replace BK172 := sqB BK172 hb
               replace BK173 := sqB BK173 hb
               replace BK192 := sqB BK192 hb
               replace BK198 := sqB BK198 hb
               replace BK204 := sqB BK204 hb
               replace BK211 := sqB BK211 hb
               replace BK249 := sqB BK249 hb
               have HB := n14_
               clear n6_ n14_
               (try clear hb)
               (try clear hb2)
               (try clear hk)
               (try clear hi)
               (try clear ho0)
               refine hK.out _ _ ⟨sqc BK172 0, sqc BK172 1, sqc BK172 2, sqc BK173 0, sqc BK173 1, sqc BK173 2⟩ (fun hHeld => ?_)
               clear hK K
               refine norm_ (a' := ?_) ?_ ?_
               rotate_left
               ·
                show Act.put _ (some 99) _ = _
                simp only [Act.put, List.setIfInBounds_toArray, List.set_cons_zero, List.set_cons_succ, i64_w, i32_w]
                rfl
               refine pure_ (i := 5) (N := some 94) (v := ?_) (a' := ?_) #[true, true, true, true, true, true, false, false, true, false, false] rfl rfl (any_of HT_.out (by kernel_rfl)) (fun _ _ _ h => h) (Or.inl ⟨by rfl, ?_⟩) ?_ ?_
               rotate_left
               ·
                intro w'
                go_simp
                with_reducible rfl
               rotate_left
               ·
                simp only [Act.put, List.setIfInBounds_toArray, List.set_cons_zero, List.set_cons_succ, i64_w, i32_w]
                rfl
               refine pure_ (i := 6) (N := some 100) (v := ?_) (a' := ?_) #[true, true, true, true, true, true, true, false, true, false, false] rfl rfl (any_of HT_.out (by kernel_rfl)) (fun _ _ _ h => h) (Or.inl ⟨by rfl, ?_⟩) ?_ ?_
               rotate_left
               ·
                intro w'
                go_simp
                with_reducible rfl
               rotate_left
               ·
                simp only [Act.put, List.setIfInBounds_toArray, List.set_cons_zero, List.set_cons_succ, i64_w, i32_w]
                rfl
               refine pure_ (i := 7) (N := some 101) (v := ?_) (a' := ?_) #[true, true, true, true, true, true, true, true, true, false, false] rfl rfl (any_of HT_.out (by kernel_rfl)) (fun _ _ _ h => h) (Or.inl ⟨by rfl, ?_⟩) ?_ ?_
               rotate_left
               ·
                intro w'
                go_simp
                with_reducible rfl
               rotate_left
               ·
                simp only [Act.put, List.setIfInBounds_toArray, List.set_cons_zero, List.set_cons_succ, i64_w, i32_w]
                rfl
               exact norm_ (by simp only [putAll, Act.put, List.setIfInBounds_toArray, List.set_cons_zero, List.set_cons_succ]) (hCont (.slice Ao156 t235.length co156, .slice Ao157 t240.length co157, v246, gb249) _ ⟨hHeld, (by exact sqm Oq8 (fun _ hk => ⟨hk.1.2, ⟨hk.2, ⟨hk.1.1.1.1.1.2, ⟨hk.1.1.1.1.2, ⟨hk.1.1.1.2, hk.1.1.2⟩⟩⟩⟩⟩)), (by exact sqm Oq9 (fun _ hk => ⟨hk.1.2, ⟨hk.2, ⟨hk.1.1.1.1.1.2, ⟨hk.1.1.1.1.2, ⟨hk.1.1.1.2, hk.1.1.2⟩⟩⟩⟩⟩)), (by exact sqm Oq10 (fun _ hk => ⟨hk.1.2, ⟨hk.2, ⟨hk.1.1.1.1.1.2, ⟨hk.1.1.1.1.2, ⟨hk.1.1.1.2, hk.1.1.2⟩⟩⟩⟩⟩)), (by exact sqm Oq11 (fun _ hk => ⟨hk.1.1.2, ⟨hk.1.2, ⟨hk.2, ⟨hk.1.1.1.1, ⟨hk.1.1.1.2.1, hk.1.1.1.2.2⟩⟩⟩⟩⟩)), (by exact sqm Oq12 (fun _ hk => ⟨hk.1.1.2, ⟨hk.1.2, ⟨hk.2, ⟨hk.1.1.1.1, ⟨hk.1.1.1.2.1, hk.1.1.1.2.2⟩⟩⟩⟩⟩)), (by exact sqm Oq13 (fun _ hk => ⟨hk.1.1.2, ⟨hk.1.2, ⟨hk.2, ⟨hk.1.1.1.1, ⟨hk.1.1.1.2.1, hk.1.1.1.2.2⟩⟩⟩⟩⟩)), (by exact sqm Oq14 (fun _ hk => ⟨hk.1.1.2, ⟨hk.1.2, ⟨hk.2, ⟨hk.1.1.1.1, ⟨hk.1.1.1.2.1, hk.1.1.1.2.2⟩⟩⟩⟩⟩)), (sqb BK172), (sqb BK173), (sqb BK192), (sqb BK198), (sqb BK204), (sqb BK211), (sqb BK249), GW249.out, GE249.out, Nq5.out, Nq36.out, Nq11.out, Nq37.out, Nq17.out, Nq38.out, Nq23.out, Nq39.out, Nq29.out, Nq40.out, Nq35.out, Nq41.out, (by repeat with_reducible first | exact HB.out | apply pw_below_drewN | apply below_drew1 | refine below_set ?_ (Aside0.out (by assumption)))⟩)
             rintro ⟨v236, v241, v246, gb249⟩ w159 ⟨hS_, h0_, h1_, h2_, h3_, h4_, h5_, h6_, h7_, h8_, h9_, h10_, h11_, h12_, h13_, h14_, h15_, h16_, h17_, h18_, h19_, h20_, h21_, h22_, h23_, h24_, h25_, h26_, h27_, h28_⟩
             have n0_ : Aside0 (Kd.R (Kd.int .i64) 3 w159 w.heap.size (fun k_ => some k_ ≠ (v241 : Value).ownBlock ∧ some k_ ≠ (v246 : Value).ownBlock ∧ some k_ ≠ (.slice Ao43 t188.length co43 : Value).ownBlock ∧ some k_ ≠ (.slice Ao53 t226.length co53 : Value).ownBlock ∧ some k_ ≠ (.slice Ao63 t228.length co63 : Value).ownBlock ∧ some k_ ≠ (.slice Ao73 t207.length co73 : Value).ownBlock) v236 t235) := ⟨h0_⟩
             have n1_ : Aside0 (Kd.R (Kd.int .i64) 3 w159 w.heap.size (fun k_ => some k_ ≠ (v236 : Value).ownBlock ∧ some k_ ≠ (v246 : Value).ownBlock ∧ some k_ ≠ (.slice Ao43 t188.length co43 : Value).ownBlock ∧ some k_ ≠ (.slice Ao53 t226.length co53 : Value).ownBlock ∧ some k_ ≠ (.slice Ao63 t228.length co63 : Value).ownBlock ∧ some k_ ≠ (.slice Ao73 t207.length co73 : Value).ownBlock) v241 t240) := ⟨h1_⟩
             have n2_ : Aside0 (Kd.R (Kd.int .i64) 3 w159 w.heap.size (fun k_ => some k_ ≠ (v236 : Value).ownBlock ∧ some k_ ≠ (v241 : Value).ownBlock ∧ some k_ ≠ (.slice Ao43 t188.length co43 : Value).ownBlock ∧ some k_ ≠ (.slice Ao53 t226.length co53 : Value).ownBlock ∧ some k_ ≠ (.slice Ao63 t228.length co63 : Value).ownBlock ∧ some k_ ≠ (.slice Ao73 t207.length co73 : Value).ownBlock) v246 t245) := ⟨h2_⟩
             have n3_ : Aside0 (Kd.R (Kd.int .i64) 3 w159 w.heap.size (fun k_ => some k_ ≠ (v236 : Value).ownBlock ∧ some k_ ≠ (v241 : Value).ownBlock ∧ some k_ ≠ (v246 : Value).ownBlock ∧ some k_ ≠ (.slice Ao53 t226.length co53 : Value).ownBlock ∧ some k_ ≠ (.slice Ao63 t228.length co63 : Value).ownBlock ∧ some k_ ≠ (.slice Ao73 t207.length co73 : Value).ownBlock) (.slice Ao43 t188.length co43) t188) := ⟨h3_⟩
             have n4_ : Aside0 (Kd.R (Kd.int .i64) 3 w159 w.heap.size (fun k_ => some k_ ≠ (v236 : Value).ownBlock ∧ some k_ ≠ (v241 : Value).ownBlock ∧ some k_ ≠ (v246 : Value).ownBlock ∧ some k_ ≠ (.slice Ao43 t188.length co43 : Value).ownBlock ∧ some k_ ≠ (.slice Ao63 t228.length co63 : Value).ownBlock ∧ some k_ ≠ (.slice Ao73 t207.length co73 : Value).ownBlock) (.slice Ao53 t226.length co53) t226) := ⟨h4_⟩
             have n5_ : Aside0 (Kd.R (Kd.int .i64) 3 w159 w.heap.size (fun k_ => some k_ ≠ (v236 : Value).ownBlock ∧ some k_ ≠ (v241 : Value).ownBlock ∧ some k_ ≠ (v246 : Value).ownBlock ∧ some k_ ≠ (.slice Ao43 t188.length co43 : Value).ownBlock ∧ some k_ ≠ (.slice Ao53 t226.length co53 : Value).ownBlock ∧ some k_ ≠ (.slice Ao73 t207.length co73 : Value).ownBlock) (.slice Ao63 t228.length co63) t228) := ⟨h5_⟩
             have n6_ : Aside0 (Kd.R (Kd.int .i64) 3 w159 w.heap.size (fun k_ => some k_ ≠ (v236 : Value).ownBlock ∧ some k_ ≠ (v241 : Value).ownBlock ∧ some k_ ≠ (v246 : Value).ownBlock ∧ some k_ ≠ (.slice Ao43 t188.length co43 : Value).ownBlock ∧ some k_ ≠ (.slice Ao53 t226.length co53 : Value).ownBlock ∧ some k_ ≠ (.slice Ao63 t228.length co63 : Value).ownBlock) (.slice Ao73 t207.length co73) t231) := ⟨h6_⟩
             have n7_ : Aside0 (w159.heap[gb172]? = some (.cells #[.int .i64 a0_0, .int .i64 a0_1, .slice A0_2 l0_2.length c0_2] 24 (0, 0))) := ⟨h7_⟩
             have n8_ : Aside0 (w159.heap[gb173]? = some (.cells #[.int .i64 a1_0, .int .i64 a1_1, .slice A1_2 l1_2.length c1_2] 24 (0, 0))) := ⟨h8_⟩
             have n9_ : Aside0 (w159.heap[gb192]? = some (.cells #[.int .i64 t186, .int .i64 t187, .slice Ao43 t188.length co43] 26 (0, 0))) := ⟨h9_⟩
             have n10_ : Aside0 (w159.heap[gb198]? = some (.cells #[.int .i64 t193, .int .i64 t194, .slice Ao53 t226.length co53] 26 (0, 0))) := ⟨h10_⟩
             have n11_ : Aside0 (w159.heap[gb204]? = some (.cells #[.int .i64 t199, .int .i64 t200, .slice Ao63 t228.length co63] 26 (0, 0))) := ⟨h11_⟩
             have n12_ : Aside0 (w159.heap[gb211]? = some (.cells #[.int .i64 t205, .int .i64 t206, .slice Ao73 t207.length co73] 26 (0, 0))) := ⟨h12_⟩
             have n13_ : Aside0 (w159.heap[gb249]? = some (.cells #[.int .i64 0, .int .i64 0, .slice none 0 0] 26 (0, 0))) := ⟨h13_⟩
             have n14_ : Aside0 (w.heap.size ≤ gb249) := ⟨h14_⟩
             have n15_ : Aside0 (w.heap.size ≤ gb249) := ⟨h15_⟩
             have n16_ : Aside0 (gb172 ≠ gb249) := ⟨h16_⟩
             have n17_ : Aside0 (gb249 ≠ gb172) := ⟨h17_⟩
             have n18_ : Aside0 (gb173 ≠ gb249) := ⟨h18_⟩
             have n19_ : Aside0 (gb249 ≠ gb173) := ⟨h19_⟩
             have n20_ : Aside0 (gb192 ≠ gb249) := ⟨h20_⟩
             have n21_ : Aside0 (gb249 ≠ gb192) := ⟨h21_⟩
             have n22_ : Aside0 (gb198 ≠ gb249) := ⟨h22_⟩
             have n23_ : Aside0 (gb249 ≠ gb198) := ⟨h23_⟩
             have n24_ : Aside0 (gb204 ≠ gb249) := ⟨h24_⟩
             have n25_ : Aside0 (gb249 ≠ gb204) := ⟨h25_⟩
             have n26_ : Aside0 (gb211 ≠ gb249) := ⟨h26_⟩
             have n27_ : Aside0 (gb249 ≠ gb211) := ⟨h27_⟩
             have n28_ : Aside0 (Below w.heap.size w w159) := ⟨h28_⟩
             clear Oq11 Oq12 Oq13 Oq14 BK172 BK173 BK192 BK198 BK204 BK211 HB h0_ h1_ h2_ h3_ h4_ h5_ h6_ h7_ h8_ h9_ h10_ h11_ h12_ h13_ h14_ h15_ h16_ h17_ h18_ h19_ h20_ h21_ h22_ h23_ h24_ h25_ h26_ h27_ h28_
             have Oq8 := n0_
             have Oq9 := n1_
             have Oq10 := n2_
             have Oq11 := n3_
             have Oq12 := n4_
             have Oq13 := n5_
             have Oq14 := n6_
             have BK172 := n7_
             have BK173 := n8_
             have BK192 := n9_
             have BK198 := n10_
             have BK204 := n11_
             have BK211 := n12_
             have BK249 := n13_
             have GW249 := n14_
             have GE249 := n15_
             have Nq5 := n16_
             have Nq36 := n17_
             have Nq11 := n18_
             have Nq37 := n19_
             have Nq17 := n20_
             have Nq38 := n21_
             have Nq23 := n22_
             have Nq39 := n23_
             have Nq29 := n24_
             have Nq40 := n25_
             have Nq35 := n26_
             have Nq41 := n27_
             have HB := n28_
             clear n0_ n1_ n2_ n3_ n4_ n5_ n6_ n7_ n8_ n9_ n10_ n11_ n12_ n13_ n14_ n15_ n16_ n17_ n18_ n19_ n20_ n21_ n22_ n23_ n24_ n25_ n26_ n27_ n28_
             have hHeld : w159.cell? ⟨gb172, 0, none⟩ = some (.int .i64 a0_0) ∧ w159.cell? ⟨gb172, 1, none⟩ = some (.int .i64 a0_1) ∧ w159.cell? ⟨gb172, 2, none⟩ = some (.slice A0_2 l0_2.length c0_2) ∧ w159.cell? ⟨gb173, 0, none⟩ = some (.int .i64 a1_0) ∧ w159.cell? ⟨gb173, 1, none⟩ = some (.int .i64 a1_1) ∧ w159.cell? ⟨gb173, 2, none⟩ = some (.slice A1_2 l1_2.length c1_2) := hS_
             obtain ⟨Ao162, co162, eo162⟩ := Kd.R_slice Oq10.out
             (first | subst eo162 | (injection eo162 with f1_ f2_ f3_; have f4_ := f1_.symm; have f5_ := f3_.symm; clear f1_ f2_ f3_; subst f4_; subst f5_))
             refine norm_ (a' := ?_) ?_ ?_
             rotate_left
             ·
              simp only [putAll, Act.put, List.setIfInBounds_toArray, List.set_cons_zero, List.set_cons_succ]
              rfl
             refine one_ (i := 9) (N := none) #[true, true, true, true, true, true, true, true, true, true, false] rfl rfl (one_of HT_.out (by kernel_rfl)) (by decide) (fun K hK => ?_)
             have hs160 : w159.cell? ⟨gb249, 0, none⟩ = some (.int .i64 0) := sqc BK249 0
             have hfs160 := blk_frozen BK249.out 0
             have hq0 := Nq5.out
             have hq1 := Nq11.out
             have hq2 := Nq17.out
             have hq3 := Nq23.out
             have hq4 := Nq29.out
             have hq5 := Nq35.out
             have hms160_0 := Nq36.out
             have hms160_1 := Nq37.out
             have hms160_2 := Nq38.out
             have hms160_3 := Nq39.out
             have hms160_4 := Nq40.out
             have hms160_5 := Nq41.out
             have hs161 : w159.cell? ⟨gb249, 1, none⟩ = some (.int .i64 0) := sqc BK249 1
             have hfs161 := blk_frozen BK249.out 1
             have hq6 := Nq5.out
             have hq7 := Nq11.out
             have hq8 := Nq17.out
             have hq9 := Nq23.out
             have hq10 := Nq29.out
             have hq11 := Nq35.out
             have hms161_0 := Nq36.out
             have hms161_1 := Nq37.out
             have hms161_2 := Nq38.out
             have hms161_3 := Nq39.out
             have hms161_4 := Nq40.out
             have hms161_5 := Nq41.out
             have hs163 : w159.cell? ⟨gb249, 2, none⟩ = some (.slice none 0 0) := sqc BK249 2
             have hfs163 := blk_frozen BK249.out 2
             have hq12 := Nq5.out
             have hq13 := Nq11.out
             have hq14 := Nq17.out
             have hq15 := Nq23.out
             have hq16 := Nq29.out
             have hq17 := Nq35.out
             have hms163_0 := Nq36.out
             have hms163_1 := Nq37.out
             have hms163_2 := Nq38.out
             have hms163_3 := Nq39.out
             have hms163_4 := Nq40.out
             have hms163_5 := Nq41.out
             refine skip_ (w1 := ?_) (by rfl) rfl ?_ ?_
             rotate_left
             ·
              go_simp
              rfl
             refine hK.out _ _ ⟨((cell_far (p := ⟨gb249, _, none⟩) Nq5.out _).trans (((cell_far (p := ⟨gb249, _, none⟩) Nq5.out _).trans (((cell_far (p := ⟨gb249, _, none⟩) Nq5.out _).trans (hHeld.1)))))), ((cell_far (p := ⟨gb249, _, none⟩) Nq5.out _).trans (((cell_far (p := ⟨gb249, _, none⟩) Nq5.out _).trans (((cell_far (p := ⟨gb249, _, none⟩) Nq5.out _).trans (hHeld.2.1)))))), ((cell_far (p := ⟨gb249, _, none⟩) Nq5.out _).trans (((cell_far (p := ⟨gb249, _, none⟩) Nq5.out _).trans (((cell_far (p := ⟨gb249, _, none⟩) Nq5.out _).trans (hHeld.2.2.1)))))), ((cell_far (p := ⟨gb249, _, none⟩) Nq11.out _).trans (((cell_far (p := ⟨gb249, _, none⟩) Nq11.out _).trans (((cell_far (p := ⟨gb249, _, none⟩) Nq11.out _).trans (hHeld.2.2.2.1)))))), ((cell_far (p := ⟨gb249, _, none⟩) Nq11.out _).trans (((cell_far (p := ⟨gb249, _, none⟩) Nq11.out _).trans (((cell_far (p := ⟨gb249, _, none⟩) Nq11.out _).trans (hHeld.2.2.2.2.1)))))), ((cell_far (p := ⟨gb249, _, none⟩) Nq11.out _).trans (((cell_far (p := ⟨gb249, _, none⟩) Nq11.out _).trans (((cell_far (p := ⟨gb249, _, none⟩) Nq11.out _).trans (hHeld.2.2.2.2.2))))))⟩ (fun hHeld => ?_)
             clear hK K
             refine pure_ (i := 10) (N := some 16) (v := ?_) (a' := ?_) #[true, true, true, true, true, true, true, true, true, true, true] rfl rfl (any_of HT_.out (by kernel_rfl)) (fun _ _ _ h => h) (Or.inl ⟨by rfl, ?_⟩) ?_ ?_
             rotate_left
             ·
              intro w'
              go_simp
              with_reducible rfl
             rotate_left
             ·
              simp only [Act.put, List.setIfInBounds_toArray, List.set_cons_zero, List.set_cons_succ, i64_w, i32_w]
              rfl
             refine done_ (done_of HT_.out (by kernel_rfl)) ?_
             go_upto_region 32 with (fail)
             go_cut [110] (fun v110 wc => ∃ (kq : Nat) (x110_141 : Bool), v110 = .bool x110_141 ∧ Aside0 (laws_FnExactMeetOf.j2 kq t230 x110_141 t205 t206 t231 = some true) ∧ Aside0 (kq ≤ kj96) ∧ Aside0 (Kd.R (Kd.int .i64) 3 wc w.heap.size (fun k_ => some k_ ≠ ((.slice Ao53 t226.length co53) : Value).ownBlock ∧ some k_ ≠ ((.slice Ao63 t228.length co63) : Value).ownBlock ∧ some k_ ≠ ((.slice Ao73 t207.length co73) : Value).ownBlock ∧ some k_ ≠ ((.slice Ao162 t245.length co162) : Value).ownBlock) (.slice Ao43 t188.length co43) t188) ∧ Aside0 (Kd.R (Kd.int .i64) 3 wc w.heap.size (fun k_ => some k_ ≠ ((.slice Ao43 t188.length co43) : Value).ownBlock ∧ some k_ ≠ ((.slice Ao63 t228.length co63) : Value).ownBlock ∧ some k_ ≠ ((.slice Ao73 t207.length co73) : Value).ownBlock ∧ some k_ ≠ ((.slice Ao162 t245.length co162) : Value).ownBlock) (.slice Ao53 t226.length co53) t226) ∧ Aside0 (Kd.R (Kd.int .i64) 3 wc w.heap.size (fun k_ => some k_ ≠ ((.slice Ao43 t188.length co43) : Value).ownBlock ∧ some k_ ≠ ((.slice Ao53 t226.length co53) : Value).ownBlock ∧ some k_ ≠ ((.slice Ao73 t207.length co73) : Value).ownBlock ∧ some k_ ≠ ((.slice Ao162 t245.length co162) : Value).ownBlock) (.slice Ao63 t228.length co63) t228) ∧ Aside0 (Kd.R (Kd.int .i64) 3 wc w.heap.size (fun k_ => some k_ ≠ ((.slice Ao43 t188.length co43) : Value).ownBlock ∧ some k_ ≠ ((.slice Ao53 t226.length co53) : Value).ownBlock ∧ some k_ ≠ ((.slice Ao63 t228.length co63) : Value).ownBlock ∧ some k_ ≠ ((.slice Ao162 t245.length co162) : Value).ownBlock) (.slice Ao73 t207.length co73) t231) ∧ Aside0 (Kd.R (Kd.int .i64) 3 wc w.heap.size (fun k_ => some k_ ≠ ((.slice Ao43 t188.length co43) : Value).ownBlock ∧ some k_ ≠ ((.slice Ao53 t226.length co53) : Value).ownBlock ∧ some k_ ≠ ((.slice Ao63 t228.length co63) : Value).ownBlock ∧ some k_ ≠ ((.slice Ao73 t207.length co73) : Value).ownBlock) (.slice Ao162 t245.length co162) t245) ∧ Aside0 (wc.heap[gb172]? = some (.cells #[.int .i64 a0_0, .int .i64 a0_1, (.slice A0_2 l0_2.length c0_2)] 24 (0, 0))) ∧ Aside0 (wc.heap[gb173]? = some (.cells #[.int .i64 a1_0, .int .i64 a1_1, (.slice A1_2 l1_2.length c1_2)] 24 (0, 0))) ∧ Aside0 (wc.heap[gb192]? = some (.cells #[.int .i64 t186, .int .i64 t187, (.slice Ao43 t188.length co43)] 26 (0, 0))) ∧ Aside0 (wc.heap[gb198]? = some (.cells #[.int .i64 t193, .int .i64 t194, (.slice Ao53 t226.length co53)] 26 (0, 0))) ∧ Aside0 (wc.heap[gb204]? = some (.cells #[.int .i64 t199, .int .i64 t200, (.slice Ao63 t228.length co63)] 26 (0, 0))) ∧ Aside0 (wc.heap[gb211]? = some (.cells #[.int .i64 t205, .int .i64 t206, (.slice Ao73 t207.length co73)] 26 (0, 0))) ∧ Aside0 (wc.heap[gb249]? = some (.cells #[.int .i64 t243, .int .i64 t244, (.slice Ao162 t245.length co162)] 26 (0, 0))) ∧ Aside0 (Below w.heap.size w wc))
             case first =>
              have H := HC142.out
              clear HC142
              replace H := Option.bind_eq_some_iff.mp H
              obtain ⟨t250, A1640, H⟩ := H
              replace H : (if t250 = true then (laws_FnExactMeetOf.j2 kj96 t230 (t248 != t191) t205 t206 t231) else (laws_FnExactMeetOf.j2 kj96 t230 true t205 t206 t231)) = some true := H
              have A164 := Aside0.mk A1640
              clear A1640
              by_cases c165 : t250 = true
              ·
               subst c165
               have H1 : (laws_FnExactMeetOf.j2 kj96 t230 (t248 != t191) t205 t206 t231) = some true := by first | (rw [if_pos rfl] at H; exact H) | rfl
               clear H
               have H := H1
               clear H1
               have H' := Aside0.mk H
               clear H
               have bq24 := Nq36.out
               have cq24 := Nq5.out
               have bq25 := Nq37.out
               have cq25 := Nq11.out
               have bq26 := Nq38.out
               have cq26 := Nq17.out
               have bq27 := Nq39.out
               have cq27 := Nq23.out
               have bq28 := Nq40.out
               have cq28 := Nq29.out
               have bq29 := Nq41.out
               have cq29 := Nq35.out
               have zq21 : w159.cell? ⟨gb249, 0, none⟩ = some (.int .i64 0) := sqc BK249 0
               have zq22 : w159.cell? ⟨gb249, 1, none⟩ = some (.int .i64 0) := sqc BK249 1
               have zq23 : w159.cell? ⟨gb249, 2, none⟩ = some (.slice none 0 0) := sqc BK249 2
               have fq21 := blk_frozen BK249.out 0
               have fq22 := blk_frozen BK249.out 1
               have fq23 := blk_frozen BK249.out 2
               have bq30 := Nq12.out
               have cq30 := Nq1.out
               have bq31 := Nq13.out
               have cq31 := Nq7.out
               have bq32 := Nq14.out
               have cq32 := Nq20.out
               have bq33 := Nq15.out
               have cq33 := Nq26.out
               have bq34 := Nq16.out
               have cq34 := Nq32.out
               have zq24 : w159.cell? ⟨gb192, 0, none⟩ = some (.int .i64 t186) := sqc BK192 0
               have zq25 : w159.cell? ⟨gb192, 1, none⟩ = some (.int .i64 t187) := sqc BK192 1
               have zq26 : w159.cell? ⟨gb192, 2, none⟩ = some (.slice Ao43 t188.length co43) := sqc BK192 2
               have fq24 := blk_frozen BK192.out 0
               have fq25 := blk_frozen BK192.out 1
               have fq26 := blk_frozen BK192.out 2
               go_wp2_with (first | ((with_reducible refine gate_callee (f := 16) rfl ?_); refine goesL_ (some 104) rfl rfl Try.func16 (by kernel_rfl) rfl #[.agg #[.int .i64 t243, .int .i64 t244, .slice Ao162 t245.length co162], .agg #[.int .i64 t186, .int .i64 t187, .slice Ao43 t188.length co43]] rfl (by (try simp only [List.map_toArray, List.map_cons, List.map_nil]); try rfl) ?_; (with_reducible refine (laws_eqBoard.calls kj96 t243 t244 _ _ t245 t186 t187 _ _ t188 true _ ?side1 ?side2 ?side3 ?side4 A164.out).mono ?_); (case side1 => refine (Kd.R_reads' (e := 3) (base := w.heap.size) (ok := fun k_ => (some k_ ≠ (v236 : Value).ownBlock ∧ (some k_ ≠ (v241 : Value).ownBlock ∧ (some k_ ≠ (.slice Ao43 t188.length co43 : Value).ownBlock ∧ (some k_ ≠ (.slice Ao53 t226.length co53 : Value).ownBlock ∧ (some k_ ≠ (.slice Ao63 t228.length co63 : Value).ownBlock ∧ some k_ ≠ (.slice Ao73 t207.length co73 : Value).ownBlock)))))) (n := t245.length) (c := co162) ?_).2.2; exact (by (with_reducible repeat (first | apply Kd.R_alloc | apply Kd.R_drewN | apply Kd.R_drew)); exact (Kd.R_mono (Kd.R_far (p := ⟨gb249, 2, none⟩) (Kd.R_far (p := ⟨gb249, 1, none⟩) (Kd.R_far (p := ⟨gb249, 0, none⟩) (Kd.R_types Oq10.out BK249.out (by decide)) (fun _ hk => hk.2) (.int .i64 t243)) (fun _ hk => hk.2) (.int .i64 t244)) (fun _ hk => hk.2) (.slice Ao162 t245.length co162)) (fun _ h_ => h_.1)))); (case side2 => exact (Kd.R_reads' Oq10.out).2.1); (case side3 => refine (Kd.R_reads' (e := 3) (base := w.heap.size) (ok := fun k_ => (some k_ ≠ (v236 : Value).ownBlock ∧ (some k_ ≠ (v241 : Value).ownBlock ∧ (some k_ ≠ (.slice Ao162 t245.length co162 : Value).ownBlock ∧ (some k_ ≠ (.slice Ao53 t226.length co53 : Value).ownBlock ∧ (some k_ ≠ (.slice Ao63 t228.length co63 : Value).ownBlock ∧ some k_ ≠ (.slice Ao73 t207.length co73 : Value).ownBlock)))))) (n := t188.length) (c := co43) ?_).2.2; exact (by (with_reducible repeat (first | apply Kd.R_alloc | apply Kd.R_drewN | apply Kd.R_drew)); exact (Kd.R_mono (Kd.R_far (p := ⟨gb249, 2, none⟩) (Kd.R_far (p := ⟨gb249, 1, none⟩) (Kd.R_far (p := ⟨gb249, 0, none⟩) (Kd.R_types Oq11.out BK249.out (by decide)) (fun _ hk => hk.2) (.int .i64 t243)) (fun _ hk => hk.2) (.int .i64 t244)) (fun _ hk => hk.2) (.slice Ao162 t245.length co162)) (fun _ h_ => h_.1)))); (case side4 => exact (Kd.R_reads' Oq11.out).2.1); rintro e w179 ⟨rfl, hb⟩; refine ⟨_, rfl, ?_⟩; have n0_ := am (Kd.R_below (by (with_reducible repeat (first | apply Kd.R_alloc | apply Kd.R_drewN | apply Kd.R_drew)); exact (Kd.R_mono (Kd.R_far (p := ⟨gb249, 2, none⟩) (Kd.R_far (p := ⟨gb249, 1, none⟩) (Kd.R_far (p := ⟨gb249, 0, none⟩) (Kd.R_types Oq11.out BK249.out (by decide)) (fun _ hk => hk.2) (.int .i64 t243)) (fun _ hk => hk.2) (.int .i64 t244)) (fun _ hk => hk.2) (.slice Ao162 t245.length co162)) (fun _ h_ => h_.1))) hb); have n1_ := am (Kd.R_below (by (with_reducible repeat (first | apply Kd.R_alloc | apply Kd.R_drewN | apply Kd.R_drew)); exact (Kd.R_mono (Kd.R_far (p := ⟨gb249, 2, none⟩) (Kd.R_far (p := ⟨gb249, 1, none⟩) (Kd.R_far (p := ⟨gb249, 0, none⟩) (Kd.R_types Oq12.out BK249.out (by decide)) (fun _ hk => hk.2) (.int .i64 t243)) (fun _ hk => hk.2) (.int .i64 t244)) (fun _ hk => hk.2) (.slice Ao162 t245.length co162)) (fun _ h_ => h_.1))) hb); have n2_ := am (Kd.R_below (by (with_reducible repeat (first | apply Kd.R_alloc | apply Kd.R_drewN | apply Kd.R_drew)); exact (Kd.R_mono (Kd.R_far (p := ⟨gb249, 2, none⟩) (Kd.R_far (p := ⟨gb249, 1, none⟩) (Kd.R_far (p := ⟨gb249, 0, none⟩) (Kd.R_types Oq13.out BK249.out (by decide)) (fun _ hk => hk.2) (.int .i64 t243)) (fun _ hk => hk.2) (.int .i64 t244)) (fun _ hk => hk.2) (.slice Ao162 t245.length co162)) (fun _ h_ => h_.1))) hb); have n3_ := am (Kd.R_below (by (with_reducible repeat (first | apply Kd.R_alloc | apply Kd.R_drewN | apply Kd.R_drew)); exact (Kd.R_mono (Kd.R_far (p := ⟨gb249, 2, none⟩) (Kd.R_far (p := ⟨gb249, 1, none⟩) (Kd.R_far (p := ⟨gb249, 0, none⟩) (Kd.R_types Oq14.out BK249.out (by decide)) (fun _ hk => hk.2) (.int .i64 t243)) (fun _ hk => hk.2) (.int .i64 t244)) (fun _ hk => hk.2) (.slice Ao162 t245.length co162)) (fun _ h_ => h_.1))) hb); have n4_ := am (Kd.R_below (by (with_reducible repeat (first | apply Kd.R_alloc | apply Kd.R_drewN | apply Kd.R_drew)); exact (Kd.R_mono (Kd.R_far (p := ⟨gb249, 2, none⟩) (Kd.R_far (p := ⟨gb249, 1, none⟩) (Kd.R_far (p := ⟨gb249, 0, none⟩) (Kd.R_types Oq8.out BK249.out (by decide)) (fun _ hk => hk.2) (.int .i64 t243)) (fun _ hk => hk.2) (.int .i64 t244)) (fun _ hk => hk.2) (.slice Ao162 t245.length co162)) (fun _ h_ => h_.1))) hb); have n5_ := am (Kd.R_below (by (with_reducible repeat (first | apply Kd.R_alloc | apply Kd.R_drewN | apply Kd.R_drew)); exact (Kd.R_mono (Kd.R_far (p := ⟨gb249, 2, none⟩) (Kd.R_far (p := ⟨gb249, 1, none⟩) (Kd.R_far (p := ⟨gb249, 0, none⟩) (Kd.R_types Oq9.out BK249.out (by decide)) (fun _ hk => hk.2) (.int .i64 t243)) (fun _ hk => hk.2) (.int .i64 t244)) (fun _ hk => hk.2) (.slice Ao162 t245.length co162)) (fun _ h_ => h_.1))) hb); have n6_ := am (Kd.R_below (by (with_reducible repeat (first | apply Kd.R_alloc | apply Kd.R_drewN | apply Kd.R_drew)); exact (Kd.R_mono (Kd.R_far (p := ⟨gb249, 2, none⟩) (Kd.R_far (p := ⟨gb249, 1, none⟩) (Kd.R_far (p := ⟨gb249, 0, none⟩) (Kd.R_types Oq10.out BK249.out (by decide)) (fun _ hk => hk.2) (.int .i64 t243)) (fun _ hk => hk.2) (.int .i64 t244)) (fun _ hk => hk.2) (.slice Ao162 t245.length co162)) (fun _ h_ => h_.1))) hb); have n7_ := am (blk_below (g := gb172) (o := .cells #[.int .i64 a0_0, .int .i64 a0_1, .slice A0_2 l0_2.length c0_2] 24 (0, 0)) (by (with_reducible repeat (first | refine blk_drewN ?_ _ | refine blk_drew ?_ | refine blk_alloc ?_ _)); refine blk_far ?_ Nq5.out _; (with_reducible repeat (first | refine blk_drewN ?_ _ | refine blk_drew ?_ | refine blk_alloc ?_ _)); refine blk_far ?_ Nq5.out _; (with_reducible repeat (first | refine blk_drewN ?_ _ | refine blk_drew ?_ | refine blk_alloc ?_ _)); refine blk_far ?_ Nq5.out _; (with_reducible repeat (first | refine blk_drewN ?_ _ | refine blk_drew ?_ | refine blk_alloc ?_ _)); exact BK172.out) hb); have n8_ := am (blk_below (g := gb173) (o := .cells #[.int .i64 a1_0, .int .i64 a1_1, .slice A1_2 l1_2.length c1_2] 24 (0, 0)) (by (with_reducible repeat (first | refine blk_drewN ?_ _ | refine blk_drew ?_ | refine blk_alloc ?_ _)); refine blk_far ?_ Nq11.out _; (with_reducible repeat (first | refine blk_drewN ?_ _ | refine blk_drew ?_ | refine blk_alloc ?_ _)); refine blk_far ?_ Nq11.out _; (with_reducible repeat (first | refine blk_drewN ?_ _ | refine blk_drew ?_ | refine blk_alloc ?_ _)); refine blk_far ?_ Nq11.out _; (with_reducible repeat (first | refine blk_drewN ?_ _ | refine blk_drew ?_ | refine blk_alloc ?_ _)); exact BK173.out) hb); have n9_ := am (blk_below (g := gb192) (o := .cells #[.int .i64 t186, .int .i64 t187, .slice Ao43 t188.length co43] 26 (0, 0)) (by (with_reducible repeat (first | refine blk_drewN ?_ _ | refine blk_drew ?_ | refine blk_alloc ?_ _)); refine blk_far ?_ Nq17.out _; (with_reducible repeat (first | refine blk_drewN ?_ _ | refine blk_drew ?_ | refine blk_alloc ?_ _)); refine blk_far ?_ Nq17.out _; (with_reducible repeat (first | refine blk_drewN ?_ _ | refine blk_drew ?_ | refine blk_alloc ?_ _)); refine blk_far ?_ Nq17.out _; (with_reducible repeat (first | refine blk_drewN ?_ _ | refine blk_drew ?_ | refine blk_alloc ?_ _)); exact BK192.out) hb); have n10_ := am (blk_below (g := gb198) (o := .cells #[.int .i64 t193, .int .i64 t194, .slice Ao53 t226.length co53] 26 (0, 0)) (by (with_reducible repeat (first | refine blk_drewN ?_ _ | refine blk_drew ?_ | refine blk_alloc ?_ _)); refine blk_far ?_ Nq23.out _; (with_reducible repeat (first | refine blk_drewN ?_ _ | refine blk_drew ?_ | refine blk_alloc ?_ _)); refine blk_far ?_ Nq23.out _; (with_reducible repeat (first | refine blk_drewN ?_ _ | refine blk_drew ?_ | refine blk_alloc ?_ _)); refine blk_far ?_ Nq23.out _; (with_reducible repeat (first | refine blk_drewN ?_ _ | refine blk_drew ?_ | refine blk_alloc ?_ _)); exact BK198.out) hb); have n11_ := am (blk_below (g := gb204) (o := .cells #[.int .i64 t199, .int .i64 t200, .slice Ao63 t228.length co63] 26 (0, 0)) (by (with_reducible repeat (first | refine blk_drewN ?_ _ | refine blk_drew ?_ | refine blk_alloc ?_ _)); refine blk_far ?_ Nq29.out _; (with_reducible repeat (first | refine blk_drewN ?_ _ | refine blk_drew ?_ | refine blk_alloc ?_ _)); refine blk_far ?_ Nq29.out _; (with_reducible repeat (first | refine blk_drewN ?_ _ | refine blk_drew ?_ | refine blk_alloc ?_ _)); refine blk_far ?_ Nq29.out _; (with_reducible repeat (first | refine blk_drewN ?_ _ | refine blk_drew ?_ | refine blk_alloc ?_ _)); exact BK204.out) hb); have n12_ := am (blk_below (g := gb211) (o := .cells #[.int .i64 t205, .int .i64 t206, .slice Ao73 t207.length co73] 26 (0, 0)) (by (with_reducible repeat (first | refine blk_drewN ?_ _ | refine blk_drew ?_ | refine blk_alloc ?_ _)); refine blk_far ?_ Nq35.out _; (with_reducible repeat (first | refine blk_drewN ?_ _ | refine blk_drew ?_ | refine blk_alloc ?_ _)); refine blk_far ?_ Nq35.out _; (with_reducible repeat (first | refine blk_drewN ?_ _ | refine blk_drew ?_ | refine blk_alloc ?_ _)); refine blk_far ?_ Nq35.out _; (with_reducible repeat (first | refine blk_drewN ?_ _ | refine blk_drew ?_ | refine blk_alloc ?_ _)); exact BK211.out) hb); have n13_ := am (blk_below (g := gb249) (o := .cells #[.int .i64 t243, .int .i64 t244, .slice Ao162 t245.length co162] 26 (0, 0)) (by (with_reducible repeat (first | refine blk_drewN ?_ _ | refine blk_drew ?_ | refine blk_alloc ?_ _)); refine blk_put (cs := #[.int .i64 t243, .int .i64 t244, .slice none 0 0]) ?_ 2 _ rfl; (with_reducible repeat (first | refine blk_drewN ?_ _ | refine blk_drew ?_ | refine blk_alloc ?_ _)); refine blk_put (cs := #[.int .i64 t243, .int .i64 0, .slice none 0 0]) ?_ 1 _ rfl; (with_reducible repeat (first | refine blk_drewN ?_ _ | refine blk_drew ?_ | refine blk_alloc ?_ _)); refine blk_put (cs := #[.int .i64 0, .int .i64 0, .slice none 0 0]) ?_ 0 _ rfl; (with_reducible repeat (first | refine blk_drewN ?_ _ | refine blk_drew ?_ | refine blk_alloc ?_ _)); exact BK249.out) hb); have n14_ := am (below_step (by repeat with_reducible first | exact HB.out | apply pw_below_drewN | apply below_drew1 | refine below_set ?_ (Aside0.out (by assumption))) hb); clear Oq11; clear Oq12; clear Oq13; clear Oq14; clear Oq8; clear Oq9; clear Oq10; clear BK172; clear BK173; clear BK192; clear BK198; clear BK204; clear BK211; clear BK249; clear HB; have Oq11 := n0_; have Oq12 := n1_; have Oq13 := n2_; have Oq14 := n3_; have Oq8 := n4_; have Oq9 := n5_; have Oq10 := n6_; have BK172 := n7_; have BK173 := n8_; have BK192 := n9_; have BK198 := n10_; have BK204 := n11_; have BK211 := n12_; have BK249 := n13_; have HB := n14_; clear n0_ n1_ n2_ n3_ n4_ n5_ n6_ n7_ n8_ n9_ n10_ n11_ n12_ n13_ n14_; (try clear hb); (try clear hb2); (try clear hk); (try clear hi)))
               go_meet
               case rel => exact ⟨_, ((t248 != t191)), (by first | rfl | (simp; done) | (simp [*]; done)), H', ⟨by have := HJ24.out; have := HJ96.out; first | omega | exact Nat.le_refl _⟩, ⟨by (try simp only [hl199002_96]); (try simp only [hl205002_96]); exact sqm Oq11 (fun _ hk => ⟨hk.2.2.2.1, ⟨hk.2.2.2.2.1, ⟨hk.2.2.2.2.2, hk.2.2.1⟩⟩⟩)⟩, ⟨by (try simp only [hl199002_96]); (try simp only [hl205002_96]); exact sqm Oq12 (fun _ hk => ⟨hk.2.2.2.1, ⟨hk.2.2.2.2.1, ⟨hk.2.2.2.2.2, hk.2.2.1⟩⟩⟩)⟩, ⟨by (try simp only [hl199002_96]); (try simp only [hl205002_96]); exact sqm Oq13 (fun _ hk => ⟨hk.2.2.2.1, ⟨hk.2.2.2.2.1, ⟨hk.2.2.2.2.2, hk.2.2.1⟩⟩⟩)⟩, ⟨by (try simp only [hl199002_96]); (try simp only [hl205002_96]); exact sqm Oq14 (fun _ hk => ⟨hk.2.2.2.1, ⟨hk.2.2.2.2.1, ⟨hk.2.2.2.2.2, hk.2.2.1⟩⟩⟩)⟩, ⟨by (try simp only [hl199002_96]); (try simp only [hl205002_96]); exact sqm Oq10 (fun _ hk => ⟨hk.2.2.1, ⟨hk.2.2.2.1, ⟨hk.2.2.2.2.1, hk.2.2.2.2.2⟩⟩⟩)⟩, ⟨by (try simp only [hl199002_96]); (try simp only [hl205002_96]); (with_reducible repeat (first | refine blk_drewN ?_ _ | refine blk_drew ?_ | refine blk_alloc ?_ _)); exact BK172.out⟩, ⟨by (try simp only [hl199002_96]); (try simp only [hl205002_96]); (with_reducible repeat (first | refine blk_drewN ?_ _ | refine blk_drew ?_ | refine blk_alloc ?_ _)); exact BK173.out⟩, ⟨by (try simp only [hl199002_96]); (try simp only [hl205002_96]); (with_reducible repeat (first | refine blk_drewN ?_ _ | refine blk_drew ?_ | refine blk_alloc ?_ _)); exact BK192.out⟩, ⟨by (try simp only [hl199002_96]); (try simp only [hl205002_96]); (with_reducible repeat (first | refine blk_drewN ?_ _ | refine blk_drew ?_ | refine blk_alloc ?_ _)); exact BK198.out⟩, ⟨by (try simp only [hl199002_96]); (try simp only [hl205002_96]); (with_reducible repeat (first | refine blk_drewN ?_ _ | refine blk_drew ?_ | refine blk_alloc ?_ _)); exact BK204.out⟩, ⟨by (try simp only [hl199002_96]); (try simp only [hl205002_96]); (with_reducible repeat (first | refine blk_drewN ?_ _ | refine blk_drew ?_ | refine blk_alloc ?_ _)); exact BK211.out⟩, ⟨by (try simp only [hl199002_96]); (try simp only [hl205002_96]); (with_reducible repeat (first | refine blk_drewN ?_ _ | refine blk_drew ?_ | refine blk_alloc ?_ _)); exact BK249.out⟩, ⟨by repeat with_reducible first | exact HB.out | apply pw_below_drewN | apply below_drew1 | refine below_set ?_ (Aside0.out (by assumption))⟩⟩
              ·
               replace c165 := Bool.eq_false_iff.mpr c165
               subst c165
               have H1 : (laws_FnExactMeetOf.j2 kj96 t230 true t205 t206 t231) = some true := by first | (rw [if_neg (show ¬ (false = true) by decide)] at H; exact H) | rfl
               clear H
               have H := H1
               clear H1
               exact absurd H (laws_FnExactMeetOf.j2_no _ _ _ _ _)
             case rest =>
              clear HC142
              try clear c1; try clear p2; try clear c3; try clear c14; try clear c16; try clear c17; try clear c31; try clear c165; try clear c166; try clear c167; try clear c168; try clear c169; try clear c170; try clear c171; try clear c173; try clear c174; try clear c175; try clear c176; try clear c177; try clear zq21; try clear zq22; try clear zq23; try clear zq24; try clear zq25; try clear zq26; try clear fq21; try clear fq22; try clear fq23; try clear fq24; try clear fq25; try clear fq26
              obtain ⟨kq, x110_141, rfl, HA, HJ141, Oq11, Oq12, Oq13, Oq14, Oq15, BK172, BK173, BK192, BK198, BK204, BK211, BK249, HB⟩ := hcut
              have hl212002_141 := (Kd.R_reads' Oq14.out).1
              rw [hl212002_141] at Oq14
              (try simp only [hl212002_141])
              (try simp only [hl212002_141] at BK172)
              (try simp only [hl212002_141] at BK173)
              (try simp only [hl212002_141] at BK192)
              (try simp only [hl212002_141] at BK198)
              (try simp only [hl212002_141] at BK204)
              (try simp only [hl212002_141] at BK211)
              (try simp only [hl212002_141] at BK249)
              (try simp only [hl212002_141] at Oq11)
              (try simp only [hl212002_141] at Oq12)
              (try simp only [hl212002_141] at Oq13)
              (try simp only [hl212002_141] at Oq15)
              cases kq with
              | zero => exact absurd HA.out (by simp [laws_FnExactMeetOf.j2])
              | succ kj141 =>
               have H := HA.out
               clear HA
               simp only [laws_FnExactMeetOf.j2] at H
               by_cases c180 : x110_141 = true
               ·
                subst c180
                have H1 : (some false) = some true := by first | (rw [if_pos rfl] at H; exact H) | rfl
                clear H
                have H := H1
                clear H1
                exact absurd (Option.some.inj H) (by decide)
               ·
                replace c180 := Bool.eq_false_iff.mpr c180
                subst c180
                have H1 : ((laws_heldBoard.f kj141 t205 t206 t231 1).bind fun t251 => (if t251 < 0 then (some false) else (if t251 = t230 then (some true) else (some false)))) = some true := by first | (rw [if_neg (show ¬ (false = true) by decide)] at H; exact H) | rfl
                clear H
                have H := H1
                clear H1
                replace H := Option.bind_eq_some_iff.mp H
                obtain ⟨t251, A1810, H⟩ := H
                replace H : (if t251 < 0 then (some false) else (if t251 = t230 then (some true) else (some false))) = some true := H
                have A181 := Aside0.mk A1810
                clear A1810
                by_cases c182 : t251 < 0
                ·
                 rw [if_pos c182] at H
                 have c182b0 : decide (t251 < 0) = true := decide_eq_true c182
                 clear c182
                 exact absurd (Option.some.inj H) (by decide)
                ·
                 rw [if_neg c182] at H
                 have c182b0 : decide (t251 < 0) = false := decide_eq_false c182
                 clear c182
                 by_cases c183 : t251 = t230
                 ·
                  rw [if_pos c183] at H
                  have c183b0 : (t251 == t230) = true := beq_iff_eq.mpr c183
                  have c183b1 : (t251 != t230) = false := bne_eq_false_iff_eq.mpr c183
                  clear c183 H
                  have bq35 := Nq30.out
                  have cq35 := Nq4.out
                  have bq36 := Nq31.out
                  have cq36 := Nq10.out
                  have bq37 := Nq32.out
                  have cq37 := Nq16.out
                  have bq38 := Nq33.out
                  have cq38 := Nq22.out
                  have bq39 := Nq34.out
                  have cq39 := Nq28.out
                  have bq40 := Nq35.out
                  have cq40 := Nq41.out
                  have zq30 : wc.cell? ⟨gb211, 0, none⟩ = some (.int .i64 t205) := sqc BK211 0
                  have zq31 : wc.cell? ⟨gb211, 1, none⟩ = some (.int .i64 t206) := sqc BK211 1
                  have zq32 : wc.cell? ⟨gb211, 2, none⟩ = some (.slice Ao73 t231.length co73) := sqc BK211 2
                  have fq30 := blk_frozen BK211.out 0
                  have fq31 := blk_frozen BK211.out 1
                  have fq32 := blk_frozen BK211.out 2
                  go_wp2_with (first | ((with_reducible refine gate_callee (f := 18) rfl ?_); refine goesL_ (some 113) rfl rfl Try.func18 (by kernel_rfl) rfl #[.agg #[.int .i64 t205, .int .i64 t206, .slice Ao73 t231.length co73], .int .i64 1] rfl (by (try simp only [List.map_toArray, List.map_cons, List.map_nil]); try rfl) ?_; (with_reducible refine (laws_heldBoard.calls kj141 t205 t206 _ _ t231 1 t251 _ ?side1 ?side2 A181.out).mono ?_); (case side1 => repeat (first | exact (Kd.R_reads' Oq14.out).2.2 | (with_reducible first | refine Kd.C_alloc ?_ _ | refine Kd.C_drewN ?_ _ | refine Kd.C_drew ?_))); (case side2 => exact (Kd.R_reads' Oq14.out).2.1); rintro e w191 ⟨rfl, hb⟩; refine ⟨_, rfl, ?_⟩; have n12_ := am (below_step (by repeat with_reducible first | exact HB.out | apply pw_below_drewN | apply below_drew1 | refine below_set ?_ (Aside0.out (by assumption))) hb); clear HB; replace Oq11 := sqR Oq11 hb; replace Oq12 := sqR Oq12 hb; replace Oq13 := sqR Oq13 hb; replace Oq14 := sqR Oq14 hb; replace Oq15 := sqR Oq15 hb; replace BK172 := sqB BK172 hb; replace BK173 := sqB BK173 hb; replace BK192 := sqB BK192 hb; replace BK198 := sqB BK198 hb; replace BK204 := sqB BK204 hb; replace BK211 := sqB BK211 hb; replace BK249 := sqB BK249 hb; have HB := n12_; clear n12_; (try clear hb); (try clear hb2); (try clear hk); (try clear hi)))
                  go_ret
                  exact ⟨by first | rfl | (simp [errW_none, errW_some] <;> rfl) | (simp [*, errW_none, errW_some] <;> rfl), by repeat with_reducible first | exact HB.out | apply pw_below_drewN | apply below_drew1 | refine below_set ?_ (Aside0.out (by assumption))⟩
                 ·
                  rw [if_neg c183] at H
                  have c183b0 : (t251 == t230) = false := beq_eq_false_iff_ne.mpr c183
                  have c183b1 : (t251 != t230) = true := bne_iff_ne.mpr c183
                  exact absurd (Option.some.inj H) (by decide)
            ·
             rw [if_neg c138] at H
             have c138b0 : (t232 == t230) = false := beq_eq_false_iff_ne.mpr c138
             have c138b1 : (t232 != t230) = true := bne_iff_ne.mpr c138
             exact absurd (Option.some.inj H) (by decide)
       ·
        replace c94 := Bool.eq_false_iff.mpr c94
        subst c94
        have H1 : (some false) = some true := by first | (rw [if_neg (show ¬ (false = true) by decide)] at H; exact H) | rfl
        clear H
        have H := H1
        clear H1
        exact absurd (Option.some.inj H) (by decide)
      ·
       replace c91 := Bool.eq_false_iff.mpr c91
       subst c91
       have H1 : (some false) = some true := by first | (rw [if_neg (show ¬ (false = true) by decide)] at H; exact H) | rfl
       clear H
       have H := H1
       clear H1
       exact absurd (Option.some.inj H) (by decide)

/-- The pure statement of laws_FnExactMeetOf. -/
def laws_FnExactMeetOf.Pure : Prop := ∀ (a0_0 : Int) (a0_1 : Int) (l0_2 : List Int) (a1_0 : Int) (a1_1 : Int) (l1_2 : List Int), (Lit.int .i64 a0_0).wf = true → (Lit.int .i64 a0_1).wf = true → l0_2.length ≤ maxLen → (∀ x ∈ l0_2, (Lit.int .i64 x).wf = true) → (Lit.int .i64 a1_0).wf = true → (Lit.int .i64 a1_1).wf = true → l1_2.length ≤ maxLen → (∀ x ∈ l1_2, (Lit.int .i64 x).wf = true) → ∃ k, laws_FnExactMeetOf.f k a0_0 a0_1 l0_2 a1_0 a1_1 l1_2 = some true

end Go.Proofs.Ytlbffjkckpdclaa.PFnExactMeetOf
