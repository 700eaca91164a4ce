-- Printed for this claim by wip/pp.py over the kit's printer; Lean checks it.
import Derived.Test.YtfgfgkpmkfjeiaaPFnPolynomialsOfRooksx0
import Derived.Test.YtfgfgkpmkfjeiaaPFnPolynomialsOfRooksx5
namespace Go.Proofs.Ytfgfgkpmkfjeiaa.PFnPolynomialsOfRooks
open Go.RowKit Go.Proofs.YtfgfgkpmkfjeiaaW.PrintWords Go.Proofs.YtfgfgkpmkfjeiaaW.PrintLast Go.Proofs.YtfgfgkpmkfjeiaaW.PrintMore
attribute [local go_sem] max2_int min2_int max_two min_two max_three min_three max_four min_four   -- for this text's walks alone
set_option linter.unusedVariables false
set_option linter.unusedSimpArgs false

/-! ### spec_roWays: function 206 -/
mutual
def spec_roWays.l0 : Nat → Int → Int → List Int → List Int → Int → Int → Int → Int → List Int → Option (List Int)
 | 0, _, _, _, _, _, _, _, _, _ => none
 | k + 1, x1, x2, x7, x31, x32, x33, x262000, x262001, x262002 => if x33 < x32 then (if 0 ≤ x33 then (if x33 < (x31.length : Int) then (if x33 < (x7.length : Int) then (spec_roWays.l0 k x1 x2 (x7.set (x33 : Int).toNat (wrap64 ((rd x7 x33) + (rd x31 x33)))) x31 x32 (wrap64 (x33 + 1)) x262000 x262001 x262002) else (none)) else (none)) else (none)) else (spec_roWays.l1 k x1 x2 x7 0 x262000 x262001 x262002)
def spec_roWays.l1 : Nat → Int → Int → List Int → Int → Int → Int → List Int → Option (List Int)
 | 0, _, _, _, _, _, _, _ => none
 | k + 1, x1, x2, x7, x10, x262000, x262001, x262002 => if x10 < x262001 then ((spec_boHas.f x262000 x262001 x262002 x1 x10).bind fun t273 => (if t273 = true then (if 0 ≤ x10 then (spec_roWays.j2 k x1 x2 x7 x10 ((Int.tmod (shr .i64 x2 x10) 2) == 1) x262000 x262001 x262002) else (none)) else (spec_roWays.j2 k x1 x2 x7 x10 true x262000 x262001 x262002))) else (some x7)
def spec_roWays.j2 : Nat → Int → Int → List Int → Int → Bool → Int → Int → List Int → Option (List Int)
 | 0, _, _, _, _, _, _, _, _ => none
 | k + 1, x1, x2, x7, x10, x63, x262000, x262001, x262002 => if x63 = true then (spec_roWays.l1 k x1 x2 x7 (wrap64 (x10 + 1)) x262000 x262001 x262002) else (if 0 ≤ x10 then ((spec_roWays.f k x262000 x262001 x262002 (wrap64 (x1 + 1)) (Go.bits .or .i64 x2 (shl .i64 1 x10))).bind fun t274 => (spec_roWays.l2 k x1 x2 x7 x10 t274 (t274.length : Int) 0 x262000 x262001 x262002)) else (none))
def spec_roWays.l2 : Nat → Int → Int → List Int → Int → List Int → Int → Int → Int → Int → List Int → Option (List Int)
 | 0, _, _, _, _, _, _, _, _, _, _ => none
 | k + 1, x1, x2, x7, x10, x71, x72, x73, x262000, x262001, x262002 => if x73 < x72 then (if 0 ≤ x73 then (if x73 < (x71.length : Int) then (if (rd x71 x73) > 0 then (if 0 ≤ (wrap64 (x73 + 1)) then (if (wrap64 (x73 + 1)) < (x7.length : Int) then (spec_roWays.l2 k x1 x2 (x7.set ((wrap64 (x73 + 1)) : Int).toNat (wrap64 ((rd x7 (wrap64 (x73 + 1))) + (rd x71 x73)))) x10 x71 x72 (wrap64 (x73 + 1)) x262000 x262001 x262002) else (none)) else (none)) else (spec_roWays.l2 k x1 x2 x7 x10 x71 x72 (wrap64 (x73 + 1)) x262000 x262001 x262002)) else (none)) else (none)) else (spec_roWays.l1 k x1 x2 x7 (wrap64 (x10 + 1)) x262000 x262001 x262002)
def spec_roWays.f : Nat → Int → Int → List Int → Int → Int → Option (List Int)
 | 0, _, _, _, _, _ => none
 | k + 1, a0_0, a0_1, l0_2, a1, a2 => (spec_l1Least.f a0_0 a0_1).bind fun t262 => (if 0 ≤ (wrap64 (t262 + 1)) then (if (wrap64 (t262 + 1) : Int).toNat ≤ 35184372088832 then ((some (List.replicate (wrap64 (t262 + 1) : Int).toNat 0 : List Int)).bind fun y263 => (if a1 = a0_0 then (if 0 < (y263.length : Int) then (some (y263.set (0 : Int).toNat 1)) else (none)) else ((spec_roWays.f k a0_0 a0_1 l0_2 (wrap64 (a1 + 1)) a2).bind fun t267 => (spec_roWays.l0 k a1 a2 y263 t267 (t267.length : Int) 0 a0_0 a0_1 l0_2)))) else (none)) else (none))
end
theorem spec_roWays.mono_l : ∀ k, (∀ y0 y1 y2 y3 y4, LeO (spec_roWays.f k y0 y1 y2 y3 y4) (spec_roWays.f (k + 1) y0 y1 y2 y3 y4)) ∧ (∀ y0 y1 y2 y3 y4 y5 y6 y7 y8, LeO (spec_roWays.l0 k y0 y1 y2 y3 y4 y5 y6 y7 y8) (spec_roWays.l0 (k + 1) y0 y1 y2 y3 y4 y5 y6 y7 y8)) ∧ (∀ y0 y1 y2 y3 y4 y5 y6, LeO (spec_roWays.l1 k y0 y1 y2 y3 y4 y5 y6) (spec_roWays.l1 (k + 1) y0 y1 y2 y3 y4 y5 y6)) ∧ (∀ y0 y1 y2 y3 y4 y5 y6 y7, LeO (spec_roWays.j2 k y0 y1 y2 y3 y4 y5 y6 y7) (spec_roWays.j2 (k + 1) y0 y1 y2 y3 y4 y5 y6 y7)) ∧ (∀ y0 y1 y2 y3 y4 y5 y6 y7 y8 y9, LeO (spec_roWays.l2 k y0 y1 y2 y3 y4 y5 y6 y7 y8 y9) (spec_roWays.l2 (k + 1) y0 y1 y2 y3 y4 y5 y6 y7 y8 y9))
 | 0 => ⟨fun _ _ _ _ _ r h => by simp [spec_roWays.f] at h, fun _ _ _ _ _ _ _ _ _ r h => by simp [spec_roWays.l0] at h, fun _ _ _ _ _ _ _ r h => by simp [spec_roWays.l1] at h, fun _ _ _ _ _ _ _ _ r h => by simp [spec_roWays.j2] at h, fun _ _ _ _ _ _ _ _ _ _ r h => by simp [spec_roWays.l2] at h⟩
 | k + 1 => by
  obtain ⟨ih0, ih1, ih2, ih3, ih4⟩ := spec_roWays.mono_l k
  refine ⟨?_, ?_, ?_, ?_, ?_⟩
  ·
   intro y0 y1 y2 y3 y4
   unfold spec_roWays.f
   repeat' first
   | (with_reducible exact ih0 _ _ _ _ _)
   | (with_reducible exact ih1 _ _ _ _ _ _ _ _ _)
   | (with_reducible exact ih2 _ _ _ _ _ _ _)
   | (with_reducible exact ih3 _ _ _ _ _ _ _ _)
   | (with_reducible exact ih4 _ _ _ _ _ _ _ _ _ _)
   | (with_reducible exact LeO.refl _)
   | (with_reducible exact LeO.none _)
   | (with_reducible refine LeO.ite ?_ ?_)
   | (with_reducible refine LeO.bind ?_ (fun _ => ?_))
   | exact ih0 _ _ _ _ _
   | exact ih1 _ _ _ _ _ _ _ _ _
   | exact ih2 _ _ _ _ _ _ _
   | exact ih3 _ _ _ _ _ _ _ _
   | exact ih4 _ _ _ _ _ _ _ _ _ _
   | exact LeO.none _
   | refine LeO.ite ?_ ?_
   | refine LeO.bind ?_ (fun _ => ?_)
  ·
   intro y0 y1 y2 y3 y4 y5 y6 y7 y8
   unfold spec_roWays.l0
   repeat' first
   | (with_reducible exact ih0 _ _ _ _ _)
   | (with_reducible exact ih1 _ _ _ _ _ _ _ _ _)
   | (with_reducible exact ih2 _ _ _ _ _ _ _)
   | (with_reducible exact ih3 _ _ _ _ _ _ _ _)
   | (with_reducible exact ih4 _ _ _ _ _ _ _ _ _ _)
   | (with_reducible exact LeO.refl _)
   | (with_reducible exact LeO.none _)
   | (with_reducible refine LeO.ite ?_ ?_)
   | (with_reducible refine LeO.bind ?_ (fun _ => ?_))
   | exact ih0 _ _ _ _ _
   | exact ih1 _ _ _ _ _ _ _ _ _
   | exact ih2 _ _ _ _ _ _ _
   | exact ih3 _ _ _ _ _ _ _ _
   | exact ih4 _ _ _ _ _ _ _ _ _ _
   | exact LeO.none _
   | refine LeO.ite ?_ ?_
   | refine LeO.bind ?_ (fun _ => ?_)
  ·
   intro y0 y1 y2 y3 y4 y5 y6
   unfold spec_roWays.l1
   repeat' first
   | (with_reducible exact ih0 _ _ _ _ _)
   | (with_reducible exact ih1 _ _ _ _ _ _ _ _ _)
   | (with_reducible exact ih2 _ _ _ _ _ _ _)
   | (with_reducible exact ih3 _ _ _ _ _ _ _ _)
   | (with_reducible exact ih4 _ _ _ _ _ _ _ _ _ _)
   | (with_reducible exact LeO.refl _)
   | (with_reducible exact LeO.none _)
   | (with_reducible refine LeO.ite ?_ ?_)
   | (with_reducible refine LeO.bind ?_ (fun _ => ?_))
   | exact ih0 _ _ _ _ _
   | exact ih1 _ _ _ _ _ _ _ _ _
   | exact ih2 _ _ _ _ _ _ _
   | exact ih3 _ _ _ _ _ _ _ _
   | exact ih4 _ _ _ _ _ _ _ _ _ _
   | exact LeO.none _
   | refine LeO.ite ?_ ?_
   | refine LeO.bind ?_ (fun _ => ?_)
  ·
   intro y0 y1 y2 y3 y4 y5 y6 y7
   unfold spec_roWays.j2
   repeat' first
   | (with_reducible exact ih0 _ _ _ _ _)
   | (with_reducible exact ih1 _ _ _ _ _ _ _ _ _)
   | (with_reducible exact ih2 _ _ _ _ _ _ _)
   | (with_reducible exact ih3 _ _ _ _ _ _ _ _)
   | (with_reducible exact ih4 _ _ _ _ _ _ _ _ _ _)
   | (with_reducible exact LeO.refl _)
   | (with_reducible exact LeO.none _)
   | (with_reducible refine LeO.ite ?_ ?_)
   | (with_reducible refine LeO.bind ?_ (fun _ => ?_))
   | exact ih0 _ _ _ _ _
   | exact ih1 _ _ _ _ _ _ _ _ _
   | exact ih2 _ _ _ _ _ _ _
   | exact ih3 _ _ _ _ _ _ _ _
   | exact ih4 _ _ _ _ _ _ _ _ _ _
   | exact LeO.none _
   | refine LeO.ite ?_ ?_
   | refine LeO.bind ?_ (fun _ => ?_)
  ·
   intro y0 y1 y2 y3 y4 y5 y6 y7 y8 y9
   unfold spec_roWays.l2
   repeat' first
   | (with_reducible exact ih0 _ _ _ _ _)
   | (with_reducible exact ih1 _ _ _ _ _ _ _ _ _)
   | (with_reducible exact ih2 _ _ _ _ _ _ _)
   | (with_reducible exact ih3 _ _ _ _ _ _ _ _)
   | (with_reducible exact ih4 _ _ _ _ _ _ _ _ _ _)
   | (with_reducible exact LeO.refl _)
   | (with_reducible exact LeO.none _)
   | (with_reducible refine LeO.ite ?_ ?_)
   | (with_reducible refine LeO.bind ?_ (fun _ => ?_))
   | exact ih0 _ _ _ _ _
   | exact ih1 _ _ _ _ _ _ _ _ _
   | exact ih2 _ _ _ _ _ _ _
   | exact ih3 _ _ _ _ _ _ _ _
   | exact ih4 _ _ _ _ _ _ _ _ _ _
   | exact LeO.none _
   | refine LeO.ite ?_ ?_
   | refine LeO.bind ?_ (fun _ => ?_)
theorem spec_roWays.mono : ∀ a0 a1 a2 a3 a4 k, LeO (spec_roWays.f k a0 a1 a2 a3 a4) (spec_roWays.f (k + 1) a0 a1 a2 a3 a4) := by
 intro a0 a1 a2 a3 a4 k
 obtain ⟨ih0, ih1, ih2, ih3, ih4⟩ := spec_roWays.mono_l k
 exact ih0 a0 a1 a2 a3 a4
def spec_roWays.T14 : Bool × List (List Nat × List Nat) := (true, [([], []), ([], []), ([1], [1]), ([], []), ([], []), ([4], [4]), ([3, 5], [3, 5]), ([0, 2, 6], [0, 2, 6]), ([7], [7]), ([], [])])
def spec_roWays.B14 : List Nat := [0, 0, 2, 0, 0, 16, 56, 127, 255, 0]
theorem spec_roWays.tab14 : rtab .any (opsOf Try.f206 14) = spec_roWays.T14 := by kernel_rfl
theorem spec_roWays.bits14 : waitsOk spec_roWays.T14.2 spec_roWays.B14 = true := by kernel_rfl
set_option maxHeartbeats 8000000 in
set_option maxRecDepth 100000 in
theorem spec_roWays.calls (k : Nat) : ∀ (a0_0 : Int) (a0_1 : Int) (A0_2 : Option Addr) (c0_2 : Nat) (l0_2 : List Int) (a1 : Int) (a2 : Int) (r : List Int) (w : World) (hr0_2 : Kd.C (Kd.int .i64) w A0_2 l0_2.length l0_2) (hc0_2 : l0_2.length ≤ c0_2) (h : spec_roWays.f k a0_0 a0_1 l0_2 a1 a2 = some r),
  Calls Try.prog 206 #[.agg #[.int .i64 a0_0, .int .i64 a0_1, .slice A0_2 l0_2.length c0_2], .int .i64 a1, .int .i64 a2] w fun e w' => ∃ v0_ : Value, e = .returned (v0_) ∧ Kd.R (Kd.int .i64) 3 w' w.heap.size (fun _ => True) v0_ r ∧ Below w.heap.size w w' := by
 induction k using Nat.strongRecOn with
 | _ k ih =>
 intro a0_0 a0_1 A0_2 c0_2 l0_2 a1 a2 r w hr0_2 hc0_2 h
 cases k with
 | zero => exact absurd h (by simp [spec_roWays.f])
 | succ k =>
 simp only [spec_roWays.f] at h
 have hu34 := Try.underlying34
 have HR0_2 := Aside0.mk hr0_2
 have HC0_2 := Aside0.mk hc0_2
 clear hr0_2 hc0_2
 have HB := am (Below.refl w.heap.size w)
 have H : ((spec_l1Least.f a0_0 a0_1).bind fun t262 => (if 0 ≤ (wrap64 (t262 + 1)) then (if (wrap64 (t262 + 1) : Int).toNat ≤ 35184372088832 then ((some (List.replicate (wrap64 (t262 + 1) : Int).toNat 0 : List Int)).bind fun y263 => (if a1 = a0_0 then (if 0 < (y263.length : Int) then (some (y263.set (0 : Int).toNat 1)) else (none)) else ((spec_roWays.f k a0_0 a0_1 l0_2 (wrap64 (a1 + 1)) a2).bind fun t267 => (spec_roWays.l0 k a1 a2 y263 t267 (t267.length : Int) 0 a0_0 a0_1 l0_2)))) else (none)) else (none))) = some r := h
 clear h
 replace H := Option.bind_eq_some_iff.mp H
 obtain ⟨t262, A40, H⟩ := H
 replace H : (if 0 ≤ (wrap64 (t262 + 1)) then (if (wrap64 (t262 + 1) : Int).toNat ≤ 35184372088832 then ((some (List.replicate (wrap64 (t262 + 1) : Int).toNat 0 : List Int)).bind fun y263 => (if a1 = a0_0 then (if 0 < (y263.length : Int) then (some (y263.set (0 : Int).toNat 1)) else (none)) else ((spec_roWays.f k a0_0 a0_1 l0_2 (wrap64 (a1 + 1)) a2).bind fun t267 => (spec_roWays.l0 k a1 a2 y263 t267 (t267.length : Int) 0 a0_0 a0_1 l0_2)))) else (none)) else (none)) = some r := H
 have A4 := Aside0.mk A40
 clear A40
 obtain ⟨ji5, hji5⟩ : ∃ j_ : Int, (wrap64 (t262 + 1)) = j_ := ⟨_, rfl⟩
 replace H : (if 0 ≤ (ji5) then (if (ji5 : Int).toNat ≤ 35184372088832 then ((some (List.replicate (ji5 : Int).toNat 0 : List Int)).bind fun y263 => (if a1 = a0_0 then (if 0 < (y263.length : Int) then (some (y263.set (0 : Int).toNat 1)) else (none)) else ((spec_roWays.f k a0_0 a0_1 l0_2 (wrap64 (a1 + 1)) a2).bind fun t267 => (spec_roWays.l0 k a1 a2 y263 t267 (t267.length : Int) 0 a0_0 a0_1 l0_2)))) else (none)) else (none)) = some r := by first | (rw [hji5] at H; exact H) | (simp only [hji5] at H ⊢; exact H)
 (try rw [hji5] at A4)
 have hji5w : (IntKind.i64.wrap (t262 + 1)) = ji5 := (i64_w _).trans hji5
 by_cases c6 : 0 ≤ (ji5)
 ·
  rw [if_pos c6] at H
  have c6b0 := eq_true c6
  have c6b1 : decide (0 ≤ (ji5)) = true := decide_eq_true c6
  clear c6
  by_cases c7 : (ji5 : Int).toNat ≤ 35184372088832
  ·
   rw [if_pos c7] at H
   have c7b0 := eq_true c7
   have c7b1 : decide ((ji5 : Int).toNat ≤ 35184372088832) = true := decide_eq_true c7
   clear c7
   obtain ⟨y263, hy263⟩ : ∃ y_ : List Int, y_ = (List.replicate (ji5 : Int).toNat 0) := ⟨_, rfl⟩
   replace H : (if a1 = a0_0 then (if 0 < (y263.length : Int) then (some (y263.set (0 : Int).toNat 1)) else (none)) else ((spec_roWays.f k a0_0 a0_1 l0_2 (wrap64 (a1 + 1)) a2).bind fun t267 => (spec_roWays.l0 k a1 a2 y263 t267 (t267.length : Int) 0 a0_0 a0_1 l0_2))) = some r := by first | (rw [hy263]; with_reducible exact H) | (have H2_ := (Option.bind_some _ _).symm.trans H; rw [hy263]; with_reducible exact H2_) | (have H2_ := (Option.bind_some _ _).symm.trans H; with_reducible exact H2_) | with_reducible exact H | (rw [hy263]; exact H) | exact H
   have Ny263 := Aside0.mk hy263
   clear hy263
   by_cases c8 : a1 = a0_0
   ·
    rw [if_pos c8] at H
    have c8b0 : (a1 == a0_0) = true := beq_iff_eq.mpr c8
    have c8b1 : (a1 != a0_0) = false := bne_eq_false_iff_eq.mpr c8
    clear c8
    by_cases c9 : 0 < (y263.length : Int)
    ·
     rw [if_pos c9] at H
     have c9b0 : decide (0 < (y263.length : Int)) = true := decide_eq_true c9
     have c9b1 : decide (0 < y263.length) = true := decide_eq_true (by omega)
     clear c9
     obtain ⟨y266, hy266⟩ : ∃ y_ : List Int, y_ = (y263.set (0 : Int).toNat 1) := ⟨_, rfl⟩
     replace H : (some y266) = some r := by first | (rw [hy266]; with_reducible exact H) | (have H2_ := (Option.bind_some _ _).symm.trans H; rw [hy266]; with_reducible exact H2_) | (have H2_ := (Option.bind_some _ _).symm.trans H; with_reducible exact H2_) | with_reducible exact H | (rw [hy266]; exact H) | exact H
     have Ny266 := Aside0.mk hy266
     clear hy266
     obtain rfl := Option.some.inj H
     go_enter Try.func206, Try.ntmps206
     go_wp2_with (first | ((with_reducible refine gate_dst (N := 3) rfl ?_); refine box_event ?hg (N := 3) ?hd (cs := #[.int .i64 a0_0, .int .i64 a0_1, .slice A0_2 l0_2.length c0_2]) (t := 34) ?hr ?_; (case hd => rfl); (case hg => rfl); (case hr => first | (go_simp; done) | (go_simp; rfl)); intro gb261 hg w11 hbox hb; have n0_ := am (below_step (by repeat with_reducible first | exact HB.out | apply pw_below_drewN | apply below_drew1) hb); have n1_ := am (hbox); have n2_ := am ((by rw [hg]; exact (below_size (by repeat with_reducible first | exact HB.out | apply pw_below_drewN | apply below_drew1)) : w.heap.size ≤ gb261)); have n3_ := am ((by rw [hg]; exact (below_size (by repeat with_reducible first | exact HB.out | apply pw_below_drewN | apply below_drew1)) : w.heap.size ≤ gb261)); clear HB; have HB := n0_; have BK261 := n1_; have GW261 := n2_; have GE261 := n3_; clear n0_ n1_ n2_ n3_; clear hb hbox hg; have zq0 : w11.cell? ⟨gb261, 0, none⟩ = some (.int .i64 a0_0) := sqc BK261 0; have zq1 : w11.cell? ⟨gb261, 1, none⟩ = some (.int .i64 a0_1) := sqc BK261 1; have zq2 : w11.cell? ⟨gb261, 2, none⟩ = some (.slice A0_2 l0_2.length c0_2) := sqc BK261 2; have fq0 := blk_frozen BK261.out 0; have fq1 := blk_frozen BK261.out 1; have fq2 := blk_frozen BK261.out 2) | ((with_reducible refine gate_callee (f := 150) rfl ?_); refine goesL_ (some 17) rfl rfl Try.func150 (by kernel_rfl) rfl #[.int .i64 a0_0, .int .i64 a0_1] rfl (by (try simp only [List.map_toArray, List.map_cons, List.map_nil]); try rfl) ?_; (with_reducible refine (spec_l1Least.calls a0_0 a0_1 t262 _ A4.out).mono ?_); rintro e w' ⟨rfl, ⟨nd, rfl⟩⟩; refine ⟨_, rfl, ?_⟩; (try (rw [drewN_self w11]; generalize hq_ : World.drewN w11 _ = w11; have n0_ : Aside0 (w11.heap[gb261]? = some (.cells #[.int .i64 a0_0, .int .i64 a0_1, .slice A0_2 l0_2.length c0_2] 34 (0, 0))) := ⟨by rw [← hq_]; exact (sqb BK261)⟩; have n1_ : Aside0 (Below w.heap.size w w11) := ⟨by rw [← hq_]; exact (by repeat with_reducible first | exact HB.out | apply pw_below_drewN | apply below_drew1 | refine below_set ?_ GE261.out)⟩; clear BK261 HB hq_; have BK261 := n0_; have HB := n1_; clear n0_ n1_))) | ((with_reducible refine gate_dst (N := 19) rfl ?_); refine Kd.R_make (Kd.int .i64) _ 3 rfl (N := 19) rfl 24 _ _ rfl ji5 rfl rfl Try.underlying24 (.int .i64 0) 8 info3 rfl (by decide) (by omega) 0 (ok := fun _ => True) (okp := fun _ => True) rfl (fun _ hk => hk) trivial (of_decide_eq_true (by first | (with_reducible assumption) | assumption)) (Nat.le_trans (Nat.mul_le_mul_right _ (of_decide_eq_true (by first | (with_reducible assumption) | assumption) : ji5.toNat ≤ 35184372088832)) (by omega)) (Below.refl _ _) (Nat.le_refl _) ?_; intro v264 w13 ho14 hb hg_ hnew_; clear hg_ hnew_; (first | rw [← Ny263.out] at ho14 | (simp only [Int.reduceToNat] at ho14; rw [← Ny263.out] at ho14)); have n0_ := am (Kd.R_lower ho14 (below_size (by repeat with_reducible first | exact HB.out | apply pw_below_drewN | apply below_drew1 | refine below_set ?_ GE261.out))); have n2_ := am (below_step (by repeat with_reducible first | exact HB.out | apply pw_below_drewN | apply below_drew1 | refine below_set ?_ GE261.out) hb); clear HB; have Oq0 := n0_; replace BK261 := sqB BK261 hb; have HB := n2_; clear n0_ n2_; clear hb ho14; have zq3 : w13.cell? ⟨gb261, 0, none⟩ = some (.int .i64 a0_0) := sqc BK261 0; have zq4 : w13.cell? ⟨gb261, 1, none⟩ = some (.int .i64 a0_1) := sqc BK261 1; have zq5 : w13.cell? ⟨gb261, 2, none⟩ = some (.slice A0_2 l0_2.length c0_2) := sqc BK261 2; have fq3 := blk_frozen BK261.out 0; have fq4 := blk_frozen BK261.out 1; have fq5 := blk_frozen BK261.out 2; have p10 : 0 ≤ (0 : Int) := (by omega); have q10 : (0 : Int) < ((y263.length : Int) : Int) := of_decide_eq_true (by first | (with_reducible assumption) | assumption); have qi10 : (0 < y263.length) = True := eq_true (by omega); obtain ⟨go10, co10, eo10, gb10, gl10, cl10, HG10⟩ := Kd.R_form Oq0.out (by omega); (first | cases eo10 | (injection eo10 with ea_ en_ ec_; (first | subst ea_ | (injection ea_ with ea_; subst ea_)); subst ec_; clear en_)); have GB10 := Aside0.mk gb10; have GG10 := Aside0.mk HG10; clear gb10 gl10 HG10; obtain ⟨hx10_0, hf10_0⟩ := Kd.R_celln 0 Oq0.out (0 : Int) p10 q10; (try rw [show ((0 : Int)).toNat = 0 from rfl] at hx10_0); (try simp only [Nat.reduceMul, Nat.zero_mul, Nat.zero_add, Nat.reduceAdd] at hx10_0); (try rw [show ((0 : Int)).toNat = 0 from rfl] at hf10_0); (try simp only [Nat.reduceMul, Nat.zero_mul, Nat.zero_add, Nat.reduceAdd] at hf10_0); replace p10 := eq_true p10; replace q10 := eq_true q10; obtain ⟨hy16_, hz16_⟩ := Kd.R_celln 0 Oq0.out (0 : Int) (by omega) (of_decide_eq_true (by first | (with_reducible assumption) | assumption)); (try simp only [Int.reduceToNat, Int.toNat_zero, Int.toNat_ofNat, Nat.reduceMul, Nat.zero_mul, Nat.zero_add] at hy16_ hz16_); (try rw [show ((0 : Int)).toNat = 0 from rfl] at hy16_); (try rw [show ((0 : Int)).toNat = 0 from rfl] at hz16_); have HP16 := Kd.R_putg Oq0.out (0 : Int) 1) | ((with_reducible refine gate_store (t := 3) (p := 25) rfl ?_); refine store_event (t := 3) (p := 25) (v := ?vo_w17) (w1 := (w13.setCell ⟨go10, (0 : Int).toNat, none⟩ (.int .i64 1))) ?hg ?ho ?hn ?hr ?_; (case ho => rfl); (case hg => rfl); (case hn => rfl); (case hr => first | (go_simp; done) | (go_simp; rfl)); intro w17 hw; have hg : w13.grownBy w17 (some go10) := (by rw [hw]; exact HP16.2); have hp_ : Kd.R (Kd.int .i64) 3 w17 w.heap.size (fun _ => True) (.slice (some ⟨go10, 0, none⟩) y263.length co10) y266 := (by rw [hw, Ny266.out]; exact HP16.1); clear HP16; have n0_ := am (blk_grown (g := gb261) (o := .cells #[.int .i64 a0_0, .int .i64 a0_1, .slice A0_2 l0_2.length c0_2] 34 (0, 0)) (sqb BK261) hg (Kd.R_ne Oq0.out BK261.out (by decide))); have n1_ := am (hp_); have n2_ := am ((by rw [hw]; exact below_set (HB.out) GB10.out : Below w.heap.size w w17)); clear BK261; clear Oq0; clear HB; have BK261 := n0_; have Oq0 := n1_; have HB := n2_; clear n0_ n1_ n2_; clear hg hw hp_))
     go_ret
     exact ⟨_, by first | rfl | (simp [errW_none, errW_some] <;> rfl) | (simp only [← hji5]; first | rfl | (simp [errW_none, errW_some] <;> rfl)) | (simp [*, errW_none, errW_some] <;> rfl), by (with_reducible repeat (first | apply Kd.R_alloc | apply Kd.R_drewN | apply Kd.R_drew)); exact Oq0.out, by repeat with_reducible first | exact HB.out | apply pw_below_drewN | apply below_drew1 | refine below_set ?_ GE261.out⟩
    ·
     rw [if_neg c9] at H
     exact absurd H (by simp)
   ·
    rw [if_neg c8] at H
    have c8b0 : (a1 == a0_0) = false := beq_eq_false_iff_ne.mpr c8
    have c8b1 : (a1 != a0_0) = true := bne_iff_ne.mpr c8
    replace H := Option.bind_eq_some_iff.mp H
    obtain ⟨t267, A180, H⟩ := H
    replace H : (spec_roWays.l0 k a1 a2 y263 t267 (t267.length : Int) 0 a0_0 a0_1 l0_2) = some r := H
    have A18 := Aside0.mk A180
    clear A180
    have H' := Aside0.mk H
    clear H
    go_enter Try.func206, Try.ntmps206
    go_wp2_with (first | ((with_reducible refine gate_dst (N := 3) rfl ?_); refine box_event ?hg (N := 3) ?hd (cs := #[.int .i64 a0_0, .int .i64 a0_1, .slice A0_2 l0_2.length c0_2]) (t := 34) ?hr ?_; (case hd => rfl); (case hg => rfl); (case hr => first | (go_simp; done) | (go_simp; rfl)); intro gb261 hg w19 hbox hb; have n0_ := am (below_step (by repeat with_reducible first | exact HB.out | apply pw_below_drewN | apply below_drew1) hb); have n1_ := am (hbox); have n2_ := am ((by rw [hg]; exact (below_size (by repeat with_reducible first | exact HB.out | apply pw_below_drewN | apply below_drew1)) : w.heap.size ≤ gb261)); have n3_ := am ((by rw [hg]; exact (below_size (by repeat with_reducible first | exact HB.out | apply pw_below_drewN | apply below_drew1)) : w.heap.size ≤ gb261)); clear HB; have HB := n0_; have BK261 := n1_; have GW261 := n2_; have GE261 := n3_; clear n0_ n1_ n2_ n3_; clear hb hbox hg; have zq6 : w19.cell? ⟨gb261, 0, none⟩ = some (.int .i64 a0_0) := sqc BK261 0; have zq7 : w19.cell? ⟨gb261, 1, none⟩ = some (.int .i64 a0_1) := sqc BK261 1; have zq8 : w19.cell? ⟨gb261, 2, none⟩ = some (.slice A0_2 l0_2.length c0_2) := sqc BK261 2; have fq6 := blk_frozen BK261.out 0; have fq7 := blk_frozen BK261.out 1; have fq8 := blk_frozen BK261.out 2) | ((with_reducible refine gate_callee (f := 150) rfl ?_); refine goesL_ (some 17) rfl rfl Try.func150 (by kernel_rfl) rfl #[.int .i64 a0_0, .int .i64 a0_1] rfl (by (try simp only [List.map_toArray, List.map_cons, List.map_nil]); try rfl) ?_; (with_reducible refine (spec_l1Least.calls a0_0 a0_1 t262 _ A4.out).mono ?_); rintro e w' ⟨rfl, ⟨nd, rfl⟩⟩; refine ⟨_, rfl, ?_⟩) | ((with_reducible refine gate_dst (N := 19) rfl ?_); refine Kd.R_make (Kd.int .i64) _ 3 rfl (N := 19) rfl 24 _ _ rfl ji5 rfl rfl Try.underlying24 (.int .i64 0) 8 info3 rfl (by decide) (by omega) 0 (ok := fun _ => True) (okp := fun _ => True) rfl (fun _ hk => hk) trivial (of_decide_eq_true (by first | (with_reducible assumption) | assumption)) (Nat.le_trans (Nat.mul_le_mul_right _ (of_decide_eq_true (by first | (with_reducible assumption) | assumption) : ji5.toNat ≤ 35184372088832)) (by omega)) (Below.refl _ _) (Nat.le_refl _) ?_; intro v264 w21 ho22 hb hg_ hnew_; clear hg_ hnew_; (first | rw [← Ny263.out] at ho22 | (simp only [Int.reduceToNat] at ho22; rw [← Ny263.out] at ho22)); have n0_ := am (Kd.R_lower ho22 (below_size (by repeat with_reducible first | exact HB.out | apply pw_below_drewN | apply below_drew1 | refine below_set ?_ GE261.out))); have n2_ := am (below_step (by repeat with_reducible first | exact HB.out | apply pw_below_drewN | apply below_drew1 | refine below_set ?_ GE261.out) hb); clear HB; have Oq0 := n0_; replace BK261 := sqB BK261 hb; have HB := n2_; clear n0_ n2_; clear hb ho22; have zq9 : w21.cell? ⟨gb261, 0, none⟩ = some (.int .i64 a0_0) := sqc BK261 0; have zq10 : w21.cell? ⟨gb261, 1, none⟩ = some (.int .i64 a0_1) := sqc BK261 1; have zq11 : w21.cell? ⟨gb261, 2, none⟩ = some (.slice A0_2 l0_2.length c0_2) := sqc BK261 2; have fq9 := blk_frozen BK261.out 0; have fq10 := blk_frozen BK261.out 1; have fq11 := blk_frozen BK261.out 2) | ((with_reducible refine gate_callee (f := 206) rfl ?_); refine goesL_ (some 31) rfl rfl Try.func206 (by kernel_rfl) rfl #[.agg #[.int .i64 a0_0, .int .i64 a0_1, .slice A0_2 l0_2.length c0_2], .int .i64 (wrap64 (a1 + 1)), .int .i64 a2] rfl (by (try simp only [List.map_toArray, List.map_cons, List.map_nil]); try rfl) ?_; (with_reducible refine (ih k (by omega) a0_0 a0_1 _ _ l0_2 (wrap64 (a1 + 1)) a2 t267 _ ?side1 ?side2 A18.out).mono ?_); (case side1 => repeat (first | exact (Kd.C_below HR0_2.out HB.out) | (with_reducible first | refine Kd.C_alloc ?_ _ | refine Kd.C_drewN ?_ _ | refine Kd.C_drew ?_))); (case side2 => exact HC0_2.out); rintro e w24 ⟨v268, rfl, ho0, hb⟩; refine ⟨_, rfl, ?_⟩; have n1_ := am (Kd.R_lower (Kd.R_new' ho0 (sqL Oq0)) (below_size (by repeat with_reducible first | exact HB.out | apply pw_below_drewN | apply below_drew1 | refine below_set ?_ GE261.out))); have n3_ := am (below_step (by repeat with_reducible first | exact HB.out | apply pw_below_drewN | apply below_drew1 | refine below_set ?_ GE261.out) hb); clear HB; replace Oq0 := sqE Oq0 ho0 hb; have Oq1 := n1_; replace BK261 := sqB BK261 hb; have HB := n3_; clear n1_ n3_; (try clear hb); (try clear hb2); (try clear hk); (try clear hi); (try clear ho0); obtain ⟨Ao25, co25, eo25⟩ := Kd.R_slice Oq1.out; subst eo25))
    go_loopg [33] k (fun kq v33 w' => ∃ (x7_1 : List Int) (x33_1 : Int), v33 = .int .i64 x33_1 ∧ Aside0 (spec_roWays.l0 kq a1 a2 x7_1 t267 (t267.length : Int) x33_1 a0_0 a0_1 l0_2 = some r) ∧ Aside0 (kq ≤ k) ∧ Aside0 (Kd.R (Kd.int .i64) 3 w' w.heap.size (fun k_ => some k_ ≠ ((.slice Ao25 t267.length co25) : Value).ownBlock) v264 x7_1) ∧ Aside0 (Kd.R (Kd.int .i64) 3 w' w.heap.size (fun k_ => some k_ ≠ (v264 : Value).ownBlock) (.slice Ao25 t267.length co25) t267) ∧ Aside0 (w'.heap[gb261]? = some (.cells #[.int .i64 a0_0, .int .i64 a0_1, (.slice A0_2 l0_2.length c0_2)] 34 (0, 0))) ∧ Aside0 (Below w.heap.size w w'))
    case atStart => exact ⟨(y263), (0), (by first | rfl | (simp; done) | (simp [*]; done)), H', ⟨Nat.le_refl _⟩, ⟨by exact sqm Oq0 (fun _ hk => hk.2)⟩, ⟨by exact sqm Oq1 (fun _ hk => hk.2)⟩, ⟨by (with_reducible repeat (first | refine blk_drewN ?_ _ | refine blk_drew ?_ | refine blk_alloc ?_ _)); exact BK261.out⟩, ⟨by repeat with_reducible first | exact HB.out | apply pw_below_drewN | apply below_drew1 | refine below_set ?_ GE261.out⟩⟩
    case round =>
     clear H'
     try clear c1; try clear p1; try clear q1; try clear hx1; try clear qi1; try clear c2; try clear p2; try clear c6; try clear c6b0; try clear c6b1; try clear p6; try clear c7; try clear c7b0; try clear c7b1; try clear c8; try clear c8b0; try clear c8b1; try clear c9; try clear c9b0; try clear c9b1; try clear p10; try clear q10; try clear hx10; try clear qi10; try clear hf10; try clear c15; try clear c20; try clear zq0; try clear zq1; try clear zq2; try clear zq3; try clear zq4; try clear zq5; try clear zq6; try clear zq7; try clear zq8; try clear zq9; try clear zq10; try clear zq11; try clear fq0; try clear fq1; try clear fq2; try clear fq3; try clear fq4; try clear fq5; try clear fq6; try clear fq7; try clear fq8; try clear fq9; try clear fq10; try clear fq11; try clear hx10_0; try clear p10; try clear q10
     obtain ⟨x7_1, x33_1, rfl, HA, HK1, Oq4, Oq3, BK261, HB⟩ := hrel
     cases gk with
     | zero => exact absurd HA.out (by simp [spec_roWays.l0])
     | succ k1 =>
      have H := HA.out
      clear HA
      simp only [spec_roWays.l0] at H
      by_cases c26 : x33_1 < (t267.length : Int)
      ·
       rw [if_pos c26] at H
       have c26b0 : decide (x33_1 < (t267.length : Int)) = true := decide_eq_true c26
       clear c26
       by_cases c27 : 0 ≤ x33_1
       ·
        rw [if_pos c27] at H
        have c27b0 : decide (0 ≤ x33_1) = true := decide_eq_true c27
        clear c27
        by_cases c28 : x33_1 < (t267.length : Int)
        ·
         rw [if_pos c28] at H
         have c28b0 : decide (x33_1 < (t267.length : Int)) = true := decide_eq_true c28
         clear c28
         by_cases c29 : x33_1 < (x7_1.length : Int)
         ·
          rw [if_pos c29] at H
          have c29b0 : decide (x33_1 < (x7_1.length : Int)) = true := decide_eq_true c29
          clear c29
          obtain ⟨y272, hy272⟩ : ∃ y_ : List Int, y_ = (x7_1.set (x33_1 : Int).toNat (wrap64 ((rd x7_1 x33_1) + (rd t267 x33_1)))) := ⟨_, rfl⟩
          replace H : (spec_roWays.l0 k1 a1 a2 y272 t267 (t267.length : Int) (wrap64 (x33_1 + 1)) a0_0 a0_1 l0_2) = some r := by first | (rw [hy272]; with_reducible exact H) | (have H2_ := (Option.bind_some _ _).symm.trans H; rw [hy272]; with_reducible exact H2_) | (have H2_ := (Option.bind_some _ _).symm.trans H; with_reducible exact H2_) | with_reducible exact H | (rw [hy272]; exact H) | exact H
          have Ny272 := Aside0.mk hy272
          clear hy272
          have H' := Aside0.mk H
          clear H
          have p270 : 0 ≤ (x33_1 : Int) := of_decide_eq_true (by first | (with_reducible assumption) | assumption)
          have q270 : x33_1 < (t267.length : Int) := of_decide_eq_true (by first | (with_reducible assumption) | assumption)
          obtain ⟨ad270, e270, hx270_0⟩ := Kd.at_int (Kd.R_reads' Oq3.out).2.2 x33_1 p270 q270
          cases e270
          replace p270 := eq_true p270
          replace q270 := eq_true q270
          obtain ⟨Ao31, co31, eo31⟩ := Kd.R_slice Oq4.out
          subst eo31
          have p271 : 0 ≤ (x33_1 : Int) := of_decide_eq_true (by first | (with_reducible assumption) | assumption)
          have q271 : x33_1 < (x7_1.length : Int) := of_decide_eq_true (by first | (with_reducible assumption) | assumption)
          obtain ⟨ad271, e271, hx271_0⟩ := Kd.at_int (Kd.R_reads' Oq4.out).2.2 x33_1 p271 q271
          cases e271
          replace p271 := eq_true p271
          replace q271 := eq_true q271
          have p30 : 0 ≤ (x33_1 : Int) := of_decide_eq_true (by first | (with_reducible assumption) | assumption)
          have q30 : (x33_1 : Int) < ((x7_1.length : Int) : Int) := of_decide_eq_true (by first | (with_reducible assumption) | assumption)
          obtain ⟨go30, co30, eo30, gb30, gl30, cl30, HG30⟩ := Kd.R_form Oq4.out (by omega)
          (first | cases eo30 | (injection eo30 with ea_ en_ ec_; (first | subst ea_ | (injection ea_ with ea_; subst ea_)); subst ec_; clear en_))
          have GB30 := Aside0.mk gb30
          have GG30 := Aside0.mk HG30
          clear gb30 gl30 HG30
          (first | simp only [add_plain] at hx271_0 | skip)
          obtain ⟨hx30_0, hf30_0⟩ := Kd.R_celln 0 Oq4.out (x33_1 : Int) p30 q30
          replace p30 := eq_true p30
          replace q30 := eq_true q30
          have HP32 := Kd.R_putg Oq4.out (x33_1 : Int) (wrap64 ((rd x7_1 x33_1) + (rd t267 x33_1)))
          go_wp2_with (first | ((with_reducible refine gate_store (t := 3) (p := 44) rfl ?_); refine store_event (t := 3) (p := 44) (v := ?vo_w33) (w1 := (wr.setCell ⟨go30, (x33_1 : Int).toNat, none⟩ (.int .i64 (wrap64 ((rd x7_1 x33_1) + (rd t267 x33_1)))))) ?hg ?ho ?hn ?hr ?_; (case ho => rfl); (case hg => rfl); (case hn => rfl); (case hr => first | (go_simp; done) | (go_simp; rfl)); intro w33 hw; have hg : wr.grownBy w33 (some go30) := (by rw [hw]; exact HP32.2); have hp_ : Kd.R (Kd.int .i64) 3 w33 w.heap.size (fun k_ => some k_ ≠ (.slice (some ad270) t267.length co25 : Value).ownBlock) (.slice (some ⟨go30, 0, none⟩) x7_1.length co31) y272 := (by rw [hw, Ny272.out]; exact HP32.1); clear HP32; have n0_ := am (hp_); have n1_ := am (Kd.R_after (v := (.slice (some ⟨go30, 0, none⟩) x7_1.length co31)) (v1 := (.slice (some ⟨go30, 0, none⟩) x7_1.length co31)) (ok := (fun _ => True)) (by exact sqm Oq3 (fun _ hk => ⟨trivial, hk⟩)) hg (.inl rfl)); have n2_ := am (blk_grown (g := gb261) (o := .cells #[.int .i64 a0_0, .int .i64 a0_1, .slice A0_2 l0_2.length c0_2] 34 (0, 0)) (sqb BK261) hg (Kd.R_ne Oq4.out BK261.out (by decide))); have n3_ := am ((by rw [hw]; exact below_set (HB.out) GB30.out : Below w.heap.size w w33)); clear Oq4; clear Oq3; clear BK261; clear HB; have Oq4 := n0_; have Oq3 := n1_; have BK261 := n2_; have HB := n3_; clear n0_ n1_ n2_ n3_; clear hg hw hp_))
          go_roundg k1
          case measure => have := HK1.out; omega
          case rel => exact ⟨(y272), (wrap64 (x33_1 + 1)), (by first | rfl | (simp; done) | (simp [*]; done)), H', ⟨by have := HK1.out; omega⟩, ⟨by (with_reducible repeat (first | apply Kd.R_alloc | apply Kd.R_drewN | apply Kd.R_drew)); exact Oq4.out⟩, ⟨by exact sqm Oq3 (fun _ hk => hk.2)⟩, ⟨by (with_reducible repeat (first | refine blk_drewN ?_ _ | refine blk_drew ?_ | refine blk_alloc ?_ _)); exact BK261.out⟩, ⟨by repeat with_reducible first | exact HB.out | apply pw_below_drewN | apply below_drew1 | refine below_set ?_ GE261.out⟩⟩
         ·
          rw [if_neg c29] at H
          exact absurd H (by simp)
        ·
         rw [if_neg c28] at H
         exact absurd H (by simp)
       ·
        rw [if_neg c27] at H
        exact absurd H (by simp)
      ·
       rw [if_neg c26] at H
       have c26b0 : decide (x33_1 < (t267.length : Int)) = false := decide_eq_false c26
       clear c26
       have H' := Aside0.mk H
       clear H
       go_wp2
       go_loopg [10] k1 (fun kq v10 w' => ∃ (x7_2 : List Int) (x10_2 : Int), v10 = .int .i64 x10_2 ∧ Aside0 (spec_roWays.l1 kq a1 a2 x7_2 x10_2 a0_0 a0_1 l0_2 = some r) ∧ Aside0 (kq ≤ k1) ∧ Aside0 (Kd.R (Kd.int .i64) 3 w' w.heap.size (fun _ => True) v264 x7_2) ∧ Aside0 (w'.heap[gb261]? = some (.cells #[.int .i64 a0_0, .int .i64 a0_1, (.slice A0_2 l0_2.length c0_2)] 34 (0, 0))) ∧ Aside0 (Below w.heap.size w w'))
       case atStart => exact ⟨(x7_1), (0), (by first | rfl | (simp; done) | (simp [*]; done)), H', ⟨Nat.le_refl _⟩, ⟨by exact sqm Oq4 (fun _ hk => trivial)⟩, ⟨by (with_reducible repeat (first | refine blk_drewN ?_ _ | refine blk_drew ?_ | refine blk_alloc ?_ _)); exact BK261.out⟩, ⟨by repeat with_reducible first | exact HB.out | apply pw_below_drewN | apply below_drew1 | refine below_set ?_ GE261.out⟩⟩
       case round =>
        clear H'
        try clear c1; try clear p1; try clear q1; try clear hx1; try clear qi1; try clear c2; try clear p2; try clear q2; try clear hx2; try clear p3; try clear q3; try clear hx3; try clear hf3; try clear c6; try clear c6b0; try clear c6b1; try clear p6; try clear c7; try clear c7b0; try clear c7b1; try clear c8; try clear c8b0; try clear c8b1; try clear c9; try clear c9b0; try clear c9b1; try clear p10; try clear q10; try clear hx10; try clear qi10; try clear hf10; try clear c15; try clear c20; try clear c26; try clear c26b0; try clear c27; try clear c27b0; try clear p27; try clear q27; try clear hx27; try clear c28; try clear c28b0; try clear c29; try clear c29b0; try clear p30; try clear q30; try clear hx30; try clear hf30; try clear zq0; try clear zq1; try clear zq2; try clear zq3; try clear zq4; try clear zq5; try clear zq6; try clear zq7; try clear zq8; try clear zq9; try clear zq10; try clear zq11; try clear fq0; try clear fq1; try clear fq2; try clear fq3; try clear fq4; try clear fq5; try clear fq6; try clear fq7; try clear fq8; try clear fq9; try clear fq10; try clear fq11; try clear hx10_0; try clear hx270_0; try clear hx271_0; try clear hx30_0; try clear p1; try clear p10; try clear p2; try clear p270; try clear p271; try clear p30; try clear p6; try clear q1; try clear q10; try clear q270; try clear q271; try clear q30
        obtain ⟨x7_2, x10_2, rfl, HA, HK2, Oq4, BK261, HB⟩ := hrel
        cases gk with
        | zero => exact absurd HA.out (by simp [spec_roWays.l1])
        | succ k2 =>
         have H := HA.out
         clear HA
         simp only [spec_roWays.l1] at H
         by_cases c34 : x10_2 < a0_1
         ·
          rw [if_pos c34] at H
          have c34b0 : decide (x10_2 < a0_1) = true := decide_eq_true c34
          clear c34
          have HC35 := Aside0.mk H
          clear H
          have zq12 : wr.cell? ⟨gb261, 0, none⟩ = some (.int .i64 a0_0) := sqc BK261 0
          have zq13 : wr.cell? ⟨gb261, 1, none⟩ = some (.int .i64 a0_1) := sqc BK261 1
          have zq14 : wr.cell? ⟨gb261, 2, none⟩ = some (.slice A0_2 l0_2.length c0_2) := sqc BK261 2
          have fq12 := blk_frozen BK261.out 0
          have fq13 := blk_frozen BK261.out 1
          have fq14 := blk_frozen BK261.out 2
          go_upto_region 13 with (fail)
          go_cut [63] (fun v63 wc => ∃ (kq : Nat) (x63_34 : Bool), v63 = .bool x63_34 ∧ Aside0 (spec_roWays.j2 kq a1 a2 x7_2 x10_2 x63_34 a0_0 a0_1 l0_2 = some r) ∧ Aside0 (kq ≤ k2) ∧ Aside0 (Kd.R (Kd.int .i64) 3 wc w.heap.size (fun _ => True) v264 x7_2) ∧ Aside0 (wc.heap[gb261]? = some (.cells #[.int .i64 a0_0, .int .i64 a0_1, (.slice A0_2 l0_2.length c0_2)] 34 (0, 0))) ∧ Aside0 (Below w.heap.size w wc))
          case first =>
           have H := HC35.out
           clear HC35
           replace H := Option.bind_eq_some_iff.mp H
           obtain ⟨t273, A370, H⟩ := H
           replace H : (if t273 = true then (if 0 ≤ x10_2 then (spec_roWays.j2 k2 a1 a2 x7_2 x10_2 ((Int.tmod (shr .i64 a2 x10_2) 2) == 1) a0_0 a0_1 l0_2) else (none)) else (spec_roWays.j2 k2 a1 a2 x7_2 x10_2 true a0_0 a0_1 l0_2)) = some r := H
           have A37 := Aside0.mk A370
           clear A370
           by_cases c38 : t273 = true
           ·
            subst c38
            have H1 : (if 0 ≤ x10_2 then (spec_roWays.j2 k2 a1 a2 x7_2 x10_2 ((Int.tmod (shr .i64 a2 x10_2) 2) == 1) a0_0 a0_1 l0_2) else (none)) = some r := by first | (rw [if_pos rfl] at H; exact H) | rfl
            clear H
            have H := H1
            clear H1
            by_cases c39 : 0 ≤ x10_2
            ·
             rw [if_pos c39] at H
             have c39b0 := eq_true c39
             have c39b1 : decide (0 ≤ x10_2) = true := decide_eq_true c39
             clear c39
             obtain ⟨ji40, hji40⟩ : ∃ j_ : Int, (shr .i64 a2 x10_2) = j_ := ⟨_, rfl⟩
             replace H : (spec_roWays.j2 k2 a1 a2 x7_2 x10_2 ((Int.tmod (ji40) 2) == 1) a0_0 a0_1 l0_2) = some r := by first | (rw [hji40] at H; exact H) | (simp only [hji40] at H ⊢; exact H)
             (try rw [hji40] at A37)
             have hji40_ : (a2 / 2 ^ min x10_2.toNat 64) = ji40 := hji40
             have hji40z : x10_2 ≤ 64 → (a2 / 2 ^ x10_2.toNat) = ji40 := shr_small hji40
             have H' := Aside0.mk H
             clear H
             have zq15 : wr.cell? ⟨gb261, 0, none⟩ = some (.int .i64 a0_0) := sqc BK261 0
             have zq16 : wr.cell? ⟨gb261, 1, none⟩ = some (.int .i64 a0_1) := sqc BK261 1
             have zq17 : wr.cell? ⟨gb261, 2, none⟩ = some (.slice A0_2 l0_2.length c0_2) := sqc BK261 2
             have fq15 := blk_frozen BK261.out 0
             have fq16 := blk_frozen BK261.out 1
             have fq17 := blk_frozen BK261.out 2
             go_wp2_with (first | ((with_reducible refine gate_callee (f := 211) rfl ?_); refine goesL_ (some 55) rfl rfl Try.func211 (by kernel_rfl) rfl #[.agg #[.int .i64 a0_0, .int .i64 a0_1, .slice A0_2 l0_2.length c0_2], .int .i64 a1, .int .i64 x10_2] rfl (by (try simp only [List.map_toArray, List.map_cons, List.map_nil]); try rfl) ?_; (with_reducible refine (spec_boHas.calls a0_0 a0_1 _ _ l0_2 a1 x10_2 true _ ?side1 ?side2 A37.out).mono ?_); (case side1 => repeat (first | exact (Kd.C_below HR0_2.out HB.out) | (with_reducible first | refine Kd.C_alloc ?_ _ | refine Kd.C_drewN ?_ _ | refine Kd.C_drew ?_))); (case side2 => exact HC0_2.out); rintro e w42 ⟨rfl, hb⟩; refine ⟨_, rfl, ?_⟩; have n2_ := am (below_step (by repeat with_reducible first | exact HB.out | apply pw_below_drewN | apply below_drew1 | refine below_set ?_ GE261.out) hb); clear HB; replace Oq4 := sqR Oq4 hb; replace BK261 := sqB BK261 hb; have HB := n2_; clear n2_; (try clear hb); (try clear hb2); (try clear hk); (try clear hi)))
             go_meet
             case rel => exact ⟨_, (((Int.tmod (ji40) 2) == 1)), (by first | rfl | (simp; done) | (simp only [← hji40] <;> (first | rfl | simp)) | (simp [*]; done)), H', ⟨by have := HK1.out; have := HK2.out; first | omega | exact Nat.le_refl _⟩, ⟨by (with_reducible repeat (first | apply Kd.R_alloc | apply Kd.R_drewN | apply Kd.R_drew)); exact Oq4.out⟩, ⟨by (with_reducible repeat (first | refine blk_drewN ?_ _ | refine blk_drew ?_ | refine blk_alloc ?_ _)); exact BK261.out⟩, ⟨by repeat with_reducible first | exact HB.out | apply pw_below_drewN | apply below_drew1 | refine below_set ?_ GE261.out⟩⟩
            ·
             rw [if_neg c39] at H
             exact absurd H (by simp)
           ·
            replace c38 := Bool.eq_false_iff.mpr c38
            subst c38
            have H1 : (spec_roWays.j2 k2 a1 a2 x7_2 x10_2 true a0_0 a0_1 l0_2) = some r := by first | (rw [if_neg (show ¬ (false = true) by decide)] at H; exact H) | rfl
            clear H
            have H := H1
            clear H1
            have H' := Aside0.mk H
            clear H
            have zq18 : wr.cell? ⟨gb261, 0, none⟩ = some (.int .i64 a0_0) := sqc BK261 0
            have zq19 : wr.cell? ⟨gb261, 1, none⟩ = some (.int .i64 a0_1) := sqc BK261 1
            have zq20 : wr.cell? ⟨gb261, 2, none⟩ = some (.slice A0_2 l0_2.length c0_2) := sqc BK261 2
            have fq18 := blk_frozen BK261.out 0
            have fq19 := blk_frozen BK261.out 1
            have fq20 := blk_frozen BK261.out 2
            go_wp2_with (first | ((with_reducible refine gate_callee (f := 211) rfl ?_); refine goesL_ (some 55) rfl rfl Try.func211 (by kernel_rfl) rfl #[.agg #[.int .i64 a0_0, .int .i64 a0_1, .slice A0_2 l0_2.length c0_2], .int .i64 a1, .int .i64 x10_2] rfl (by (try simp only [List.map_toArray, List.map_cons, List.map_nil]); try rfl) ?_; (with_reducible refine (spec_boHas.calls a0_0 a0_1 _ _ l0_2 a1 x10_2 false _ ?side1 ?side2 A37.out).mono ?_); (case side1 => repeat (first | exact (Kd.C_below HR0_2.out HB.out) | (with_reducible first | refine Kd.C_alloc ?_ _ | refine Kd.C_drewN ?_ _ | refine Kd.C_drew ?_))); (case side2 => exact HC0_2.out); rintro e w44 ⟨rfl, hb⟩; refine ⟨_, rfl, ?_⟩; have n2_ := am (below_step (by repeat with_reducible first | exact HB.out | apply pw_below_drewN | apply below_drew1 | refine below_set ?_ GE261.out) hb); clear HB; replace Oq4 := sqR Oq4 hb; replace BK261 := sqB BK261 hb; have HB := n2_; clear n2_; (try clear hb); (try clear hb2); (try clear hk); (try clear hi)))
            go_meet
            case rel => exact ⟨_, (true), (by first | rfl | (simp; done) | (simp [*]; done)), H', ⟨by have := HK1.out; have := HK2.out; first | omega | exact Nat.le_refl _⟩, ⟨by (with_reducible repeat (first | apply Kd.R_alloc | apply Kd.R_drewN | apply Kd.R_drew)); exact Oq4.out⟩, ⟨by (with_reducible repeat (first | refine blk_drewN ?_ _ | refine blk_drew ?_ | refine blk_alloc ?_ _)); exact BK261.out⟩, ⟨by repeat with_reducible first | exact HB.out | apply pw_below_drewN | apply below_drew1 | refine below_set ?_ GE261.out⟩⟩
          case rest =>
           clear HC35
           try clear c1; try clear p1; try clear q1; try clear hx1; try clear qi1; try clear c2; try clear p2; try clear q2; try clear hx2; try clear c3; try clear p3; try clear q3; try clear hx3; try clear hf3; try clear c6; try clear c6b0; try clear c6b1; try clear p6; try clear c7; try clear c7b0; try clear c7b1; try clear c8; try clear c8b0; try clear c8b1; try clear c9; try clear c9b0; try clear c9b1; try clear p10; try clear q10; try clear hx10; try clear qi10; try clear hf10; try clear c15; try clear c20; try clear c21; try clear c26; try clear c26b0; try clear c27; try clear c27b0; try clear p27; try clear q27; try clear hx27; try clear c28; try clear c28b0; try clear c29; try clear c29b0; try clear p30; try clear q30; try clear hx30; try clear hf30; try clear c34; try clear c34b0; try clear c38; try clear c39; try clear c39b0; try clear c39b1; try clear zq0; try clear zq1; try clear zq2; try clear zq3; try clear zq4; try clear zq5; try clear zq6; try clear zq7; try clear zq8; try clear zq9; try clear zq10; try clear zq11; try clear zq12; try clear zq13; try clear zq14; try clear zq15; try clear zq16; try clear zq17; try clear zq18; try clear zq19; try clear zq20; try clear fq0; try clear fq1; try clear fq2; try clear fq3; try clear fq4; try clear fq5; try clear fq6; try clear fq7; try clear fq8; try clear fq9; try clear fq10; try clear fq11; try clear fq12; try clear fq13; try clear fq14; try clear fq15; try clear fq16; try clear fq17; try clear fq18; try clear fq19; try clear fq20; try clear hx10_0; try clear hx270_0; try clear hx271_0; try clear hx30_0; try clear p1; try clear p10; try clear p2; try clear p27; try clear p270; try clear p271; try clear p3; try clear p30; try clear p6; try clear q1; try clear q10; try clear q2; try clear q27; try clear q270; try clear q271; try clear q3; try clear q30
           obtain ⟨kq, x63_34, rfl, HA, HJ34, Oq4, BK261, HB⟩ := hcut
           cases kq with
           | zero => exact absurd HA.out (by simp [spec_roWays.j2])
           | succ kj34 =>
            have H := HA.out
            clear HA
            simp only [spec_roWays.j2] at H
            by_cases c45 : x63_34 = true
            ·
             subst c45
             have H1 : (spec_roWays.l1 kj34 a1 a2 x7_2 (wrap64 (x10_2 + 1)) a0_0 a0_1 l0_2) = some r := by first | (rw [if_pos rfl] at H; exact H) | rfl
             clear H
             have H := H1
             clear H1
             have H' := Aside0.mk H
             clear H
             go_wp2
             go_roundg kj34
             case measure => have := HK1.out; have := HK2.out; have := HJ34.out; omega
             case rel => exact ⟨(x7_2), (wrap64 (x10_2 + 1)), (by first | rfl | (simp; done) | (simp [*]; done)), H', ⟨by have := HK1.out; have := HK2.out; have := HJ34.out; omega⟩, ⟨by (with_reducible repeat (first | apply Kd.R_alloc | apply Kd.R_drewN | apply Kd.R_drew)); exact Oq4.out⟩, ⟨by (with_reducible repeat (first | refine blk_drewN ?_ _ | refine blk_drew ?_ | refine blk_alloc ?_ _)); exact BK261.out⟩, ⟨by repeat with_reducible first | exact HB.out | apply pw_below_drewN | apply below_drew1 | refine below_set ?_ GE261.out⟩⟩
            ·
             replace c45 := Bool.eq_false_iff.mpr c45
             subst c45
             have H1 : (if 0 ≤ x10_2 then ((spec_roWays.f kj34 a0_0 a0_1 l0_2 (wrap64 (a1 + 1)) (Go.bits .or .i64 a2 (shl .i64 1 x10_2))).bind fun t274 => (spec_roWays.l2 kj34 a1 a2 x7_2 x10_2 t274 (t274.length : Int) 0 a0_0 a0_1 l0_2)) else (none)) = some r := by first | (rw [if_neg (show ¬ (false = true) by decide)] at H; exact H) | rfl
             clear H
             have H := H1
             clear H1
             by_cases c46 : 0 ≤ x10_2
             ·
              rw [if_pos c46] at H
              have c46b0 := eq_true c46
              have c46b1 : decide (0 ≤ x10_2) = true := decide_eq_true c46
              clear c46
              obtain ⟨ji47, hji47⟩ : ∃ j_ : Int, (shl .i64 1 x10_2) = j_ := ⟨_, rfl⟩
              replace H : ((spec_roWays.f kj34 a0_0 a0_1 l0_2 (wrap64 (a1 + 1)) (Go.bits .or .i64 a2 (ji47))).bind fun t274 => (spec_roWays.l2 kj34 a1 a2 x7_2 x10_2 t274 (t274.length : Int) 0 a0_0 a0_1 l0_2)) = some r := by first | (rw [hji47] at H; exact H) | (simp only [hji47] at H ⊢; exact H)
              have hji47_ : (IntKind.i64.wrap (1 * 2 ^ min x10_2.toNat 64)) = ji47 := hji47
              have hji47z : x10_2 ≤ 64 → (IntKind.i64.wrap (1 * 2 ^ x10_2.toNat)) = ji47 := shl_small hji47
              have hji47u : (IntKind.i64.wrap (2 ^ min x10_2.toNat 64)) = ji47 := by have h_ := hji47_; rw [Int.one_mul] at h_; exact h_
              have hji47v : x10_2 ≤ 64 → (IntKind.i64.wrap (2 ^ x10_2.toNat)) = ji47 := fun hle_ => by have h_ := hji47z hle_; rw [Int.one_mul] at h_; exact h_
              have hji47y : (wrap64 (1 * 2 ^ min x10_2.toNat 64)) = ji47 := (i64_w _).symm.trans hji47_
              have hji47x : x10_2 ≤ 64 → (wrap64 (1 * 2 ^ x10_2.toNat)) = ji47 := fun h_ => (i64_w _).symm.trans (hji47z h_)
              replace H := Option.bind_eq_some_iff.mp H
              obtain ⟨t274, A480, H⟩ := H
              replace H : (spec_roWays.l2 kj34 a1 a2 x7_2 x10_2 t274 (t274.length : Int) 0 a0_0 a0_1 l0_2) = some r := H
              have A48 := Aside0.mk A480
              clear A480
              have H' := Aside0.mk H
              clear H
              try go_wp2
              have n0_ := am (Kd.R_drew Oq4.out)
              have n1_ := am (blk_drew BK261.out)
              have n2_ := am (below_drew1 HB.out)
              clear Oq4 BK261 HB
              have Oq4 := n0_
              have BK261 := n1_
              have HB := n2_
              clear n0_ n1_ n2_
              refine start_ (n := 10) (S := fun w' => w'.cell? ⟨gb261, 0, none⟩ = some (.int .i64 a0_0) ∧ w'.cell? ⟨gb261, 1, none⟩ = some (.int .i64 a0_1) ∧ w'.cell? ⟨gb261, 2, none⟩ = some (.slice A0_2 l0_2.length c0_2)) (ds := []) #[false, false, false, false, false, false, false, false, false, false] (by kernel_rfl) rfl rfl ⟨sqc BK261 0, sqc BK261 1, sqc BK261 2⟩ (fun hHeld => ?_); refine with_tabW spec_roWays.tab14 spec_roWays.bits14 (fun HT_ HW_ => ?_)
              generalize wc.drew = w49 at Oq4 BK261 HB hHeld ⊢
              refine pure_ (i := 1) (N := some 65) (v := ?_) (a' := ?_) #[false, true, false, false, false, false, false, false, false, false] rfl rfl (any_of HT_.out (by kernel_rfl)) (fun _ _ _ h => h) (Or.inl ⟨by rfl, ?_⟩) ?_ ?_
              rotate_left
              ·
               intro w'
               go_simp
               with_reducible rfl
              rotate_left
              ·
               simp only [Act.put, List.setIfInBounds_toArray, List.set_cons_zero, List.set_cons_succ, i64_w, i32_w]
               rfl
              refine pure_ (i := 2) (N := some 66) (v := ?_) (a' := ?_) #[false, true, true, false, false, false, false, false, false, false] rfl rfl (any_of HT_.out (by kernel_rfl)) (fun _ _ _ h => h) (Or.inl ⟨by rfl, ?_⟩) ?_ ?_
              rotate_left
              ·
               intro w'
               go_simp
               with_reducible rfl
              rotate_left
              ·
               simp only [Act.put, List.setIfInBounds_toArray, List.set_cons_zero, List.set_cons_succ, i64_w, i32_w]
               rfl
              refine pure_ (i := 3) (N := some 67) (v := ?_) (a' := ?_) #[false, true, true, true, false, false, false, false, false, false] rfl rfl (any_of HT_.out (by kernel_rfl)) (fun _ _ _ h => h) (Or.inl ⟨by rfl, ?_⟩) ?_ ?_
              rotate_left
              ·
               intro w'
               go_simp
               with_reducible rfl
              rotate_left
              ·
               simp only [Act.put, List.setIfInBounds_toArray, List.set_cons_zero, List.set_cons_succ, i64_w, i32_w]
               rfl
              refine pure_ (i := 4) (N := some 68) (v := ?_) (a' := ?_) #[false, true, true, true, true, false, false, false, false, false] rfl rfl (any_of HT_.out (by kernel_rfl)) (fun _ _ _ h => h) (Or.inl ⟨by rfl, ?_⟩) ?_ ?_
              rotate_left
              ·
               intro w'
               go_simp
               with_reducible rfl
              rotate_left
              ·
               simp only [Act.put, List.setIfInBounds_toArray, List.set_cons_zero, List.set_cons_succ, i64_w, i32_w]
               rfl
              refine pure_ (i := 5) (N := some 69) (v := ?_) (a' := ?_) #[false, true, true, true, true, true, false, false, false, false] rfl rfl (any_of HT_.out (by kernel_rfl)) (fun _ _ _ h => h) (Or.inl ⟨by rfl, ?_⟩) ?_ ?_
              rotate_left
              ·
               intro w'
               go_simp
               with_reducible rfl
              rotate_left
              ·
               simp only [Act.put, List.setIfInBounds_toArray, List.set_cons_zero, List.set_cons_succ, i64_w, i32_w]
               rfl
              refine pure_ (i := 6) (N := some 70) (v := ?_) (a' := ?_) #[false, true, true, true, true, true, true, false, false, false] rfl rfl (any_of HT_.out (by kernel_rfl)) (fun _ _ _ h => h) (Or.inl ⟨by rfl, ?_⟩) ?_ ?_
              rotate_left
              ·
               intro w'
               go_simp
               with_reducible rfl
              rotate_left
              ·
               simp only [Act.put, List.setIfInBounds_toArray, List.set_cons_zero, List.set_cons_succ, i64_w, i32_w]
               rfl
              refine pure_ (i := 9) (N := some 73) (v := ?_) (a' := ?_) #[false, true, true, true, true, true, true, false, false, true] rfl rfl (any_of HT_.out (by kernel_rfl)) (fun _ _ _ h => h) (Or.inl ⟨by rfl, ?_⟩) ?_ ?_
              rotate_left
              ·
               intro w'
               go_simp
               with_reducible rfl
              rotate_left
              ·
               simp only [Act.put, List.setIfInBounds_toArray, List.set_cons_zero, List.set_cons_succ, i64_w, i32_w]
               rfl
              refine take_ (i := 0) (N := some 64) (v := ?_) (a' := ?_) #[true, true, true, true, true, true, true, false, false, true] rfl rfl (take_ofW HT_.out HW_.out (by kernel_rfl)) (fun _ _ _ h => h) (Or.inl ⟨by rfl, ?_⟩) hHeld ?_ ?_
              rotate_left
              ·
               rintro w' ⟨s0, s1, s2⟩
               go_simp
               with_reducible rfl
              rotate_left
              ·
               simp only [Act.put, List.setIfInBounds_toArray, List.set_cons_zero, List.set_cons_succ, i64_w, i32_w]
               rfl
              refine one_ (i := 7) (N := some 71) #[true, true, true, true, true, true, true, true, false, true] rfl rfl (one_of HT_.out (by kernel_rfl)) (by decide) (fun K hK => ?_)
              refine goes_ Try.func206 (by kernel_rfl) rfl #[.agg #[.int .i64 a0_0, .int .i64 a0_1, .slice A0_2 l0_2.length c0_2], .int .i64 (wrap64 (a1 + 1)), .int .i64 (Go.bits .or .i64 a2 (ji47))] (by rfl) rfl rfl (by (try simp only [List.map_toArray, List.map_cons, List.map_nil]); first | done | (simp only [hji47]; rfl) | rfl | (simp only [List.length_drop, List.length_take]; rfl)) ?_
              with_reducible refine (ih kj34 (by have := HK1.out; have := HK2.out; have := HJ34.out; omega) a0_0 a0_1 _ _ l0_2 (wrap64 (a1 + 1)) (Go.bits .or .i64 a2 (ji47)) t274 _ ?side1 ?side2 A48.out).mono ?_
              (case side1 => repeat (first | exact (Kd.C_below HR0_2.out HB.out) | (with_reducible first | refine Kd.C_alloc ?_ _ | refine Kd.C_drewN ?_ _ | refine Kd.C_drew ?_)))
              (case side2 => exact HC0_2.out)
              rintro e w50 ⟨v275, rfl, ho0, hb⟩
              refine ⟨_, rfl, ?_⟩
              have n1_ := am (Kd.R_lower (Kd.R_new' ho0 (sqL Oq4)) (below_size (by repeat with_reducible first | exact HB.out | apply pw_below_drewN | apply below_drew1 | refine below_set ?_ GE261.out)))
              have n3_ := am (below_step (by repeat with_reducible first | exact HB.out | apply pw_below_drewN | apply below_drew1 | refine below_set ?_ GE261.out) hb)
              clear HB
              replace Oq4 := sqE Oq4 ho0 hb
              have Oq2 := n1_
              replace BK261 := sqB BK261 hb
              have HB := n3_
              clear n1_ n3_
              (try clear hb)
              (try clear hb2)
              (try clear hk)
              (try clear hi)
              (try clear ho0)
              obtain ⟨Ao51, co51, eo51⟩ := Kd.R_slice Oq2.out
              (first | subst eo51 | (injection eo51 with f1_ f2_ f3_; have f4_ := f1_.symm; have f5_ := f3_.symm; clear f1_ f2_ f3_; subst f4_; subst f5_))
              refine hK.out _ _ ⟨sqc BK261 0, sqc BK261 1, sqc BK261 2⟩ (fun hHeld => ?_)
              clear hK K
              refine norm_ (a' := ?_) ?_ ?_
              rotate_left
              ·
               show Act.put _ (some 71) _ = _
               simp only [Act.put, List.setIfInBounds_toArray, List.set_cons_zero, List.set_cons_succ, i64_w, i32_w]
               rfl
              refine pure_ (i := 8) (N := some 72) (v := ?_) (a' := ?_) #[true, true, true, true, true, true, true, true, true, true] rfl rfl (any_of HT_.out (by kernel_rfl)) (fun _ _ _ h => h) (Or.inl ⟨by rfl, ?_⟩) ?_ ?_
              rotate_left
              ·
               intro w'
               go_simp
               with_reducible rfl
              rotate_left
              ·
               simp only [Act.put, List.setIfInBounds_toArray, List.set_cons_zero, List.set_cons_succ, i64_w, i32_w]
               rfl
              refine done_ (done_of HT_.out (by kernel_rfl)) ?_
              try go_wp2
              go_loopg [73] kj34 (fun kq v73 w' => ∃ (x7_4 : List Int) (x73_4 : Int), v73 = .int .i64 x73_4 ∧ Aside0 (spec_roWays.l2 kq a1 a2 x7_4 x10_2 t274 (t274.length : Int) x73_4 a0_0 a0_1 l0_2 = some r) ∧ Aside0 (kq ≤ kj34) ∧ Aside0 (Kd.R (Kd.int .i64) 3 w' w.heap.size (fun k_ => some k_ ≠ ((.slice Ao51 t274.length co51) : Value).ownBlock) v264 x7_4) ∧ Aside0 (Kd.R (Kd.int .i64) 3 w' w.heap.size (fun k_ => some k_ ≠ (v264 : Value).ownBlock) (.slice Ao51 t274.length co51) t274) ∧ Aside0 (w'.heap[gb261]? = some (.cells #[.int .i64 a0_0, .int .i64 a0_1, (.slice A0_2 l0_2.length c0_2)] 34 (0, 0))) ∧ Aside0 (Below w.heap.size w w'))
              case atStart => exact ⟨(x7_2), (0), (by first | rfl | (simp; done) | (simp [*]; done)), H', ⟨Nat.le_refl _⟩, ⟨by exact sqm Oq4 (fun _ hk => hk.2)⟩, ⟨by exact sqm Oq2 (fun _ hk => hk.2)⟩, ⟨by (with_reducible repeat (first | refine blk_drewN ?_ _ | refine blk_drew ?_ | refine blk_alloc ?_ _)); exact BK261.out⟩, ⟨by repeat with_reducible first | exact HB.out | apply pw_below_drewN | apply below_drew1 | refine below_set ?_ GE261.out⟩⟩
              case round =>
               clear H'
               try clear c1; try clear p1; try clear q1; try clear hx1; try clear qi1; try clear c2; try clear p2; try clear q2; try clear hx2; try clear c3; try clear p3; try clear q3; try clear hx3; try clear hf3; try clear c4; try clear c6; try clear c6b0; try clear c6b1; try clear p6; try clear c7; try clear c7b0; try clear c7b1; try clear c8; try clear c8b0; try clear c8b1; try clear c9; try clear c9b0; try clear c9b1; try clear p10; try clear q10; try clear hx10; try clear qi10; try clear hf10; try clear c15; try clear c20; try clear c21; try clear c26; try clear c26b0; try clear c27; try clear c27b0; try clear p27; try clear q27; try clear hx27; try clear c28; try clear c28b0; try clear c29; try clear c29b0; try clear p30; try clear q30; try clear hx30; try clear hf30; try clear c34; try clear c34b0; try clear c38; try clear c39; try clear c39b0; try clear c39b1; try clear c45; try clear c46; try clear c46b0; try clear c46b1; try clear zq0; try clear zq1; try clear zq2; try clear zq3; try clear zq4; try clear zq5; try clear zq6; try clear zq7; try clear zq8; try clear zq9; try clear zq10; try clear zq11; try clear zq12; try clear zq13; try clear zq14; try clear zq15; try clear zq16; try clear zq17; try clear zq18; try clear zq19; try clear zq20; try clear fq0; try clear fq1; try clear fq2; try clear fq3; try clear fq4; try clear fq5; try clear fq6; try clear fq7; try clear fq8; try clear fq9; try clear fq10; try clear fq11; try clear fq12; try clear fq13; try clear fq14; try clear fq15; try clear fq16; try clear fq17; try clear fq18; try clear fq19; try clear fq20; try clear hx10_0; try clear hx270_0; try clear hx271_0; try clear hx30_0; try clear p1; try clear p10; try clear p2; try clear p27; try clear p270; try clear p271; try clear p3; try clear p30; try clear p6; try clear q1; try clear q10; try clear q2; try clear q27; try clear q270; try clear q271; try clear q3; try clear q30
               obtain ⟨x7_4, x73_4, rfl, HA, HK4, Oq4, Oq5, BK261, HB⟩ := hrel
               cases gk with
               | zero => exact absurd HA.out (by simp [spec_roWays.l2])
               | succ k4 =>
                have H := HA.out
                clear HA
                simp only [spec_roWays.l2] at H
                by_cases c52 : x73_4 < (t274.length : Int)
                ·
                 rw [if_pos c52] at H
                 have c52b0 : decide (x73_4 < (t274.length : Int)) = true := decide_eq_true c52
                 clear c52
                 by_cases c53 : 0 ≤ x73_4
                 ·
                  rw [if_pos c53] at H
                  have c53b0 : decide (0 ≤ x73_4) = true := decide_eq_true c53
                  clear c53
                  by_cases c54 : x73_4 < (t274.length : Int)
                  ·
                   rw [if_pos c54] at H
                   have c54b0 : decide (x73_4 < (t274.length : Int)) = true := decide_eq_true c54
                   clear c54
                   by_cases c55 : (rd t274 x73_4) > 0
                   ·
                    rw [if_pos c55] at H
                    have c55b0 : decide (0 < (rd t274 x73_4)) = true := decide_eq_true c55
                    clear c55
                    obtain ⟨ji56, hji56⟩ : ∃ j_ : Int, (wrap64 (x73_4 + 1)) = j_ := ⟨_, rfl⟩
                    replace H : (if 0 ≤ (ji56) then (if (ji56) < (x7_4.length : Int) then (spec_roWays.l2 k4 a1 a2 (x7_4.set ((ji56) : Int).toNat (wrap64 ((rd x7_4 (ji56)) + (rd t274 x73_4)))) x10_2 t274 (t274.length : Int) ji56 a0_0 a0_1 l0_2) else (none)) else (none)) = some r := by first | (rw [hji56] at H; exact H) | (simp only [hji56] at H ⊢; exact H)
                    have hji56w : (IntKind.i64.wrap (x73_4 + 1)) = ji56 := (i64_w _).trans hji56
                    by_cases c57 : 0 ≤ (ji56)
                    ·
                     rw [if_pos c57] at H
                     have c57b0 : decide (0 ≤ (ji56)) = true := decide_eq_true c57
                     clear c57
                     by_cases c58 : (ji56) < (x7_4.length : Int)
                     ·
                      rw [if_pos c58] at H
                      have c58b0 : decide ((ji56) < (x7_4.length : Int)) = true := decide_eq_true c58
                      clear c58
                      obtain ⟨y279, hy279⟩ : ∃ y_ : List Int, y_ = (x7_4.set ((ji56) : Int).toNat (wrap64 ((rd x7_4 (ji56)) + (rd t274 x73_4)))) := ⟨_, rfl⟩
                      replace H : (spec_roWays.l2 k4 a1 a2 y279 x10_2 t274 (t274.length : Int) ji56 a0_0 a0_1 l0_2) = some r := by first | (rw [hy279]; with_reducible exact H) | (have H2_ := (Option.bind_some _ _).symm.trans H; rw [hy279]; with_reducible exact H2_) | (have H2_ := (Option.bind_some _ _).symm.trans H; with_reducible exact H2_) | with_reducible exact H | (rw [hy279]; exact H) | exact H
                      have Ny279 := Aside0.mk hy279
                      clear hy279
                      have H' := Aside0.mk H
                      clear H
                      have p277 : 0 ≤ (x73_4 : Int) := of_decide_eq_true (by first | (with_reducible assumption) | assumption)
                      have q277 : x73_4 < (t274.length : Int) := of_decide_eq_true (by first | (with_reducible assumption) | assumption)
                      obtain ⟨ad277, e277, hx277_0⟩ := Kd.at_int (Kd.R_reads' Oq5.out).2.2 x73_4 p277 q277
                      cases e277
                      replace p277 := eq_true p277
                      replace q277 := eq_true q277
                      obtain ⟨Ao60, co60, eo60⟩ := Kd.R_slice Oq4.out
                      subst eo60
                      have p278 : 0 ≤ ((ji56) : Int) := of_decide_eq_true (by first | (with_reducible assumption) | assumption)
                      have q278 : (ji56) < (x7_4.length : Int) := of_decide_eq_true (by first | (with_reducible assumption) | assumption)
                      obtain ⟨ad278, e278, hx278_0⟩ := Kd.at_int (Kd.R_reads' Oq4.out).2.2 (ji56) p278 q278
                      cases e278
                      replace p278 := eq_true p278
                      replace q278 := eq_true q278
                      have p59 : 0 ≤ ((ji56) : Int) := of_decide_eq_true (by first | (with_reducible assumption) | assumption)
                      have q59 : ((ji56) : Int) < ((x7_4.length : Int) : Int) := of_decide_eq_true (by first | (with_reducible assumption) | assumption)
                      obtain ⟨go59, co59, eo59, gb59, gl59, cl59, HG59⟩ := Kd.R_form Oq4.out (by omega)
                      (first | cases eo59 | (injection eo59 with ea_ en_ ec_; (first | subst ea_ | (injection ea_ with ea_; subst ea_)); subst ec_; clear en_))
                      have GB59 := Aside0.mk gb59
                      have GG59 := Aside0.mk HG59
                      clear gb59 gl59 HG59
                      (first | simp only [add_plain] at hx278_0 | skip)
                      obtain ⟨hx59_0, hf59_0⟩ := Kd.R_celln 0 Oq4.out ((ji56) : Int) p59 q59
                      replace p59 := eq_true p59
                      replace q59 := eq_true q59
                      have HP61 := Kd.R_putg Oq4.out ((ji56) : Int) (wrap64 ((rd x7_4 (ji56)) + (rd t274 x73_4)))
                      go_wp2_with (first | ((with_reducible refine gate_store (t := 3) (p := 87) rfl ?_); refine store_event (t := 3) (p := 87) (v := ?vo_w62) (w1 := (wr.setCell ⟨go59, ((ji56) : Int).toNat, none⟩ (.int .i64 (wrap64 ((rd x7_4 (ji56)) + (rd t274 x73_4)))))) ?hg ?ho ?hn ?hr ?_; (case ho => rfl); (case hg => rfl); (case hn => rfl); (case hr => first | (go_simp; done) | (go_simp; rfl)); intro w62 hw; have hg : wr.grownBy w62 (some go59) := (by rw [hw]; exact HP61.2); have hp_ : Kd.R (Kd.int .i64) 3 w62 w.heap.size (fun k_ => some k_ ≠ (.slice (some ad277) t274.length co51 : Value).ownBlock) (.slice (some ⟨go59, 0, none⟩) x7_4.length co60) y279 := (by rw [hw, Ny279.out]; exact HP61.1); clear HP61; have n0_ := am (hp_); have n1_ := am (Kd.R_after (v := (.slice (some ⟨go59, 0, none⟩) x7_4.length co60)) (v1 := (.slice (some ⟨go59, 0, none⟩) x7_4.length co60)) (ok := (fun _ => True)) (by exact sqm Oq5 (fun _ hk => ⟨trivial, hk⟩)) hg (.inl rfl)); have n2_ := am (blk_grown (g := gb261) (o := .cells #[.int .i64 a0_0, .int .i64 a0_1, .slice A0_2 l0_2.length c0_2] 34 (0, 0)) (sqb BK261) hg (Kd.R_ne Oq4.out BK261.out (by decide))); have n3_ := am ((by rw [hw]; exact below_set (HB.out) GB59.out : Below w.heap.size w w62)); clear Oq4; clear Oq5; clear BK261; clear HB; have Oq4 := n0_; have Oq5 := n1_; have BK261 := n2_; have HB := n3_; clear n0_ n1_ n2_ n3_; clear hg hw hp_))
                      go_roundg k4
                      case measure => have := HK1.out; have := HK2.out; have := HJ34.out; have := HK4.out; omega
                      case rel => exact ⟨(y279), (ji56), (by first | rfl | (simp; done) | (simp only [← hji56] <;> (first | rfl | simp)) | (simp [*]; done)), H', ⟨by have := HK1.out; have := HK2.out; have := HJ34.out; have := HK4.out; omega⟩, ⟨by (with_reducible repeat (first | apply Kd.R_alloc | apply Kd.R_drewN | apply Kd.R_drew)); exact Oq4.out⟩, ⟨by exact sqm Oq5 (fun _ hk => hk.2)⟩, ⟨by (with_reducible repeat (first | refine blk_drewN ?_ _ | refine blk_drew ?_ | refine blk_alloc ?_ _)); exact BK261.out⟩, ⟨by repeat with_reducible first | exact HB.out | apply pw_below_drewN | apply below_drew1 | refine below_set ?_ GE261.out⟩⟩
                     ·
                      rw [if_neg c58] at H
                      exact absurd H (by simp)
                    ·
                     rw [if_neg c57] at H
                     exact absurd H (by simp)
                   ·
                    rw [if_neg c55] at H
                    have c55b0 : decide (0 < (rd t274 x73_4)) = false := decide_eq_false c55
                    clear c55
                    have H' := Aside0.mk H
                    clear H
                    have p277 : 0 ≤ (x73_4 : Int) := of_decide_eq_true (by first | (with_reducible assumption) | assumption)
                    have q277 : x73_4 < (t274.length : Int) := of_decide_eq_true (by first | (with_reducible assumption) | assumption)
                    obtain ⟨ad277, e277, hx277_0⟩ := Kd.at_int (Kd.R_reads' Oq5.out).2.2 x73_4 p277 q277
                    cases e277
                    replace p277 := eq_true p277
                    replace q277 := eq_true q277
                    go_wp2
                    go_roundg k4
                    case measure => have := HK1.out; have := HK2.out; have := HJ34.out; have := HK4.out; omega
                    case rel => exact ⟨(x7_4), (wrap64 (x73_4 + 1)), (by first | rfl | (simp; done) | (simp [*]; done)), H', ⟨by have := HK1.out; have := HK2.out; have := HJ34.out; have := HK4.out; omega⟩, ⟨by (with_reducible repeat (first | apply Kd.R_alloc | apply Kd.R_drewN | apply Kd.R_drew)); exact Oq4.out⟩, ⟨by (with_reducible repeat (first | apply Kd.R_alloc | apply Kd.R_drewN | apply Kd.R_drew)); exact Oq5.out⟩, ⟨by (with_reducible repeat (first | refine blk_drewN ?_ _ | refine blk_drew ?_ | refine blk_alloc ?_ _)); exact BK261.out⟩, ⟨by repeat with_reducible first | exact HB.out | apply pw_below_drewN | apply below_drew1 | refine below_set ?_ GE261.out⟩⟩
                  ·
                   rw [if_neg c54] at H
                   exact absurd H (by simp)
                 ·
                  rw [if_neg c53] at H
                  exact absurd H (by simp)
                ·
                 rw [if_neg c52] at H
                 have c52b0 : decide (x73_4 < (t274.length : Int)) = false := decide_eq_false c52
                 clear c52
                 have H' := Aside0.mk H
                 clear H
                 go_wp2
                 go_roundg k4
                 case measure => have := HK1.out; have := HK2.out; have := HJ34.out; have := HK4.out; omega
                 case rel => exact ⟨(x7_4), (wrap64 (x10_2 + 1)), (by first | rfl | (simp; done) | (simp [*]; done)), H', ⟨by have := HK1.out; have := HK2.out; have := HJ34.out; have := HK4.out; omega⟩, ⟨by exact sqm Oq4 (fun _ hk => trivial)⟩, ⟨by (with_reducible repeat (first | refine blk_drewN ?_ _ | refine blk_drew ?_ | refine blk_alloc ?_ _)); exact BK261.out⟩, ⟨by repeat with_reducible first | exact HB.out | apply pw_below_drewN | apply below_drew1 | refine below_set ?_ GE261.out⟩⟩
             ·
              rw [if_neg c46] at H
              exact absurd H (by simp)
         ·
          rw [if_neg c34] at H
          have c34b0 : decide (x10_2 < a0_1) = false := decide_eq_false c34
          clear c34
          obtain rfl := Option.some.inj H
          have zq21 : wr.cell? ⟨gb261, 0, none⟩ = some (.int .i64 a0_0) := sqc BK261 0
          have zq22 : wr.cell? ⟨gb261, 1, none⟩ = some (.int .i64 a0_1) := sqc BK261 1
          have zq23 : wr.cell? ⟨gb261, 2, none⟩ = some (.slice A0_2 l0_2.length c0_2) := sqc BK261 2
          have fq21 := blk_frozen BK261.out 0
          have fq22 := blk_frozen BK261.out 1
          have fq23 := blk_frozen BK261.out 2
          go_wp2
          go_ret
          exact ⟨_, by first | rfl | (simp [errW_none, errW_some] <;> rfl) | (simp only [← hji5]; first | rfl | (simp [errW_none, errW_some] <;> rfl)) | (simp [*, errW_none, errW_some] <;> rfl), by (with_reducible repeat (first | apply Kd.R_alloc | apply Kd.R_drewN | apply Kd.R_drew)); exact Oq4.out, by repeat with_reducible first | exact HB.out | apply pw_below_drewN | apply below_drew1 | refine below_set ?_ GE261.out⟩
  ·
   rw [if_neg c7] at H
   exact absurd H (by simp)
 ·
  rw [if_neg c6] at H
  exact absurd H (by simp)

end Go.Proofs.Ytfgfgkpmkfjeiaa.PFnPolynomialsOfRooks
