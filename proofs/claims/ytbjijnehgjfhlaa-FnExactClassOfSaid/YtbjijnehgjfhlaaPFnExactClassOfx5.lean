-- Printed for this claim by wip/pp.py over the kit's printer; Lean checks it.
import Derived.Test.YtbjijnehgjfhlaaPFnExactClassOfx0
import Derived.Test.YtbjijnehgjfhlaaPFnExactClassOfx4
namespace Go.Proofs.Ytbjijnehgjfhlaa.PFnExactClassOf
open Go.RowKit Go.Proofs.YtbjijnehgjfhlaaW.PrintWords Go.Proofs.YtbjijnehgjfhlaaW.PrintLast Go.Proofs.YtbjijnehgjfhlaaW.PrintMore
attribute [local go_sem] max2_int min2_int max_two min_two max_three min_three max_four min_four   -- for this text's walks alone
set_option linter.unusedVariables false
set_option linter.unusedSimpArgs false

/-! ### slices_Sort_int_int: function 56 -/
def slices_Sort_int_int.f (k : Nat) (l0 : List Int) : Option (List Int) := (bits_Len.f (IntKind.u64.wrap ((l0.length : Int)))).bind fun t214 => ((slices_pdqsortOrdered_int.f k l0 0 (l0.length : Int) t214).bind fun t215 => (some t215))
theorem slices_Sort_int_int.mono : ∀ a0 k, LeO (slices_Sort_int_int.f k a0) (slices_Sort_int_int.f (k + 1) a0) := by
  intro a0 k
  unfold slices_Sort_int_int.f
  repeat' first
      | (with_reducible exact slices_pdqsortOrdered_int.mono _ _ _ _ _)
      | (with_reducible exact LeO.refl _)
      | (with_reducible exact LeO.none _)
      | (with_reducible refine LeO.ite ?_ ?_)
      | (with_reducible refine LeO.bind ?_ (fun _ => ?_))
      | exact slices_pdqsortOrdered_int.mono _ _ _ _ _
      | exact LeO.none _
      | refine LeO.ite ?_ ?_
      | refine LeO.bind ?_ (fun _ => ?_)
set_option maxHeartbeats 8000000 in
set_option maxRecDepth 100000 in
theorem slices_Sort_int_int.calls (k : Nat) (P0_ : Nat → Prop) (u9000_ : Value) (l0 : List Int) (r : List Int) (w0 w : World) (hB : Below w0.heap.size w0 w) (ho0 : Kd.R (Kd.int .i64) 3 w w0.heap.size P0_ u9000_ l0) (h : slices_Sort_int_int.f k l0 = some r) :
    Calls Try.prog 56 #[u9000_] w fun e w' => e = .returned (.tuple #[]) ∧ Kd.R (Kd.int .i64) 3 w' w0.heap.size (fun k_ => (P0_ k_ ∨ w.heap.size ≤ k_)) u9000_ r ∧ Below w0.heap.size w0 w' ∧ Kept w w' (fun k_ => P0_ k_) := by
  have HO0 := Aside0.mk (show Kd.R (Kd.int .i64) 3 w w0.heap.size (fun k_ => (P0_ k_ ∨ w.heap.size ≤ k_)) u9000_ l0 from Kd.R_mono ho0 (fun k_ hk => (.inl hk)))
  have HK := Aside0.mk (Kept.refl w (fun k_ => P0_ k_))
  have HW0 := Aside0.mk hB.size
  have HB := Aside0.mk hB
  clear hB
  have H : ((bits_Len.f (IntKind.u64.wrap ((l0.length : Int)))).bind fun t214 => ((slices_pdqsortOrdered_int.f k l0 0 (l0.length : Int) t214).bind fun t215 => (some t215))) = some r := h
  clear h
  replace H := Option.bind_eq_some_iff.mp H
  obtain ⟨t214, A20, H⟩ := H
  replace H : ((slices_pdqsortOrdered_int.f k l0 0 (l0.length : Int) t214).bind fun t215 => (some t215)) = some r := H
  have A2 := Aside0.mk A20
  clear A20
  replace H := Option.bind_eq_some_iff.mp H
  obtain ⟨t215, A30, H⟩ := H
  replace H : (some t215) = some r := H
  have A3 := Aside0.mk A30
  clear A30
  obtain rfl := Option.some.inj H
  obtain ⟨Ao4, co4, eo4⟩ := Kd.R_slice HO0.out
  subst eo4
  go_enter Try.func56, Try.ntmps56
  go_wp2_with (first | ((with_reducible refine gate_callee (f := 62) rfl ?_); refine goesL_ (some 9) rfl rfl Try.func62 (by kernel_rfl) rfl #[.int .u64 (IntKind.u64.wrap ((l0.length : Int)))] rfl (by (try simp only [List.map_toArray, List.map_cons, List.map_nil]); first | done | rfl | (simp only [List.length_drop, List.length_take]; rfl)) ?_; (with_reducible refine (bits_Len.calls (IntKind.u64.wrap ((l0.length : Int))) t214 _ A2.out).mono ?_); rintro e w' ⟨rfl, ⟨nd, rfl⟩⟩; refine ⟨_, rfl, ?_⟩) | ((with_reducible refine gate_callee (f := 61) rfl ?_); refine goesL_ (some 10) rfl rfl Try.func61 (by kernel_rfl) rfl #[.slice Ao4 l0.length co4, .int .i64 0, .int .i64 (l0.length : Int), .int .i64 t214] rfl (by (try simp only [List.map_toArray, List.map_cons, List.map_nil]); first | done | rfl | (simp only [List.length_drop, List.length_take]; rfl)) ?_; (with_reducible refine (slices_pdqsortOrdered_int.calls k (fun k_ => some k_ = (.slice Ao4 l0.length co4 : Value).ownBlock) (.slice Ao4 l0.length co4) l0 0 (l0.length : Int) t214 t215 w0 _ ?side1 ?side2 A3.out).mono ?_); (case side1 => repeat (first | (with_reducible first | exact HB.out | apply below_alloc | apply pw_below_drewN | apply below_drew1) | exact HB.out)); (case side2 => exact Kd.R_tight rfl HO0.out); rintro e w5 ⟨rfl, hy0, hb, hkp⟩; refine ⟨_, rfl, ?_⟩; have n0_ := Aside0.mk (Kd.R_reok rfl hy0 (fun k_ e_ => HO0.out.1 k_ e_)); have n1_ := Aside0.mk (Kept.then_ (S := (fun k_ => P0_ k_)) (by repeat (first | (with_reducible first | exact HK.out | apply Kept.alloc | apply Kept.drewN | apply Kept.drew) | exact HK.out)) hkp (fun k_ hs_ => (fun e_ => (HO0.out.1 k_ e_.symm)) hs_)); have n2_ := Aside0.mk (hb); clear HO0; clear HK; clear HB; have HO0 := n0_; have HK := n1_; have HB := n2_; clear n0_ n1_ n2_; (try clear hb); (try clear hkp); (try clear hy0)))
  first | go_end0 | ((try simp only [Exit.inBlock, Exit.then]); refine bodyPost_ret (results_none rfl _ _ _) rfl ?_)
  exact ⟨by first | rfl | (simp [errW_none, errW_some] <;> rfl) | (simp [*, errW_none, errW_some] <;> rfl), by (with_reducible repeat (first | apply Kd.R_alloc | apply Kd.R_drewN | apply Kd.R_drew)); exact HO0.out, by repeat (first | (with_reducible first | exact HB.out | apply below_alloc | apply pw_below_drewN | apply below_drew1) | exact HB.out), by repeat (first | (with_reducible first | exact HK.out | apply Kept.alloc | apply Kept.drewN | apply Kept.drew) | exact HK.out)⟩

/-! ### impl_factors: function 36 -/
def impl_factors.l0 : Nat → List Int → List Int → Int → Int → Option (List Int)
  | 0, _, _, _, _ => none
  | k + 1, x3, x7, x8, x9 => if x9 < x8 then (if 0 ≤ x9 then (if x9 < (x7.length : Int) then (if x3.length < 17592186044416 then (impl_factors.l0 k (x3 ++ [wrap64 ((rd x7 x9) - x9)]) x7 x8 (wrap64 (x9 + 1))) else (none)) else (none)) else (none)) else ((slices_Sort_int_int.f k x3).bind fun t223 => (some t223))
def impl_factors.f (k : Nat) (l0 : List Int) : Option (List Int) := impl_factors.l0 k (([] : List Int)) l0 (l0.length : Int) 0
theorem impl_factors.mono_l : ∀ k, (∀ y0 y1 y2 y3, LeO (impl_factors.l0 k y0 y1 y2 y3) (impl_factors.l0 (k + 1) y0 y1 y2 y3))
  | 0 => fun _ _ _ _ r h => by simp [impl_factors.l0] at h
  | k + 1 => by
    have ih0 := impl_factors.mono_l k
    · intro y0 y1 y2 y3
      unfold impl_factors.l0
      repeat' first
      | (with_reducible exact ih0 _ _ _ _)
      | (with_reducible exact slices_Sort_int_int.mono _ _)
      | (with_reducible exact LeO.refl _)
      | (with_reducible exact LeO.none _)
      | (with_reducible refine LeO.ite ?_ ?_)
      | (with_reducible refine LeO.bind ?_ (fun _ => ?_))
      | exact ih0 _ _ _ _
      | exact slices_Sort_int_int.mono _ _
      | exact LeO.none _
      | refine LeO.ite ?_ ?_
      | refine LeO.bind ?_ (fun _ => ?_)
theorem impl_factors.mono : ∀ a0 k, LeO (impl_factors.f k a0) (impl_factors.f (k + 1) a0) := by
  intro a0 k
  have ih0 := impl_factors.mono_l k
  unfold impl_factors.f
  repeat' first
      | (with_reducible exact ih0 _ _ _ _)
      | (with_reducible exact slices_Sort_int_int.mono _ _)
      | (with_reducible exact LeO.refl _)
      | (with_reducible exact LeO.none _)
      | (with_reducible refine LeO.ite ?_ ?_)
      | (with_reducible refine LeO.bind ?_ (fun _ => ?_))
      | exact ih0 _ _ _ _
      | exact slices_Sort_int_int.mono _ _
      | exact LeO.none _
      | refine LeO.ite ?_ ?_
      | refine LeO.bind ?_ (fun _ => ?_)
set_option maxHeartbeats 8000000 in
set_option maxRecDepth 100000 in
theorem impl_factors.calls (k : Nat) (A0 : Option Addr) (c0 : Nat) (l0 : List Int) (r : List Int) (w : World) (hr0 : Kd.C (Kd.int .i64) w A0 l0.length l0) (hc0 : l0.length ≤ c0) (h : impl_factors.f k l0 = some r) :
    Calls Try.prog 36 #[.slice A0 l0.length c0] w fun e w' => ∃ v0_ : Value, e = .returned (v0_) ∧ Kd.R (Kd.int .i64) 3 w' w.heap.size (fun _ => True) v0_ r ∧ Below w.heap.size w w' := by
  have HR0 := Aside0.mk hr0
  have HC0 := Aside0.mk hc0
  clear hr0 hc0
  have HB := Aside0.mk (Below.refl w.heap.size w)
  have H : (impl_factors.l0 k (([] : List Int)) l0 (l0.length : Int) 0) = some r := h
  clear h
  obtain ⟨y216, hy216⟩ : ∃ y_ : List Int, y_ = (([] : List Int)) := ⟨_, rfl⟩
  replace H : (impl_factors.l0 k y216 l0 (l0.length : Int) 0) = some r := by first | (rw [hy216]; with_reducible exact H) | (have H2_ := (Option.bind_some _ _).symm.trans H; rw [hy216]; with_reducible exact H2_) | (have H2_ := (Option.bind_some _ _).symm.trans H; with_reducible exact H2_) | with_reducible exact H | (rw [hy216]; exact H) | exact H
  have Ny216 := Aside0.mk hy216
  clear hy216
  have H' := Aside0.mk H
  clear H
  go_enter Try.func36, Try.ntmps36
  go_wp2_with (first | ((with_reducible refine gate_dst (N := 6) rfl ?_); refine Kd.R_lit (Kd.int .i64) _ 3 ?hg (N := 6) ?hd (xs := ([] : List Int)) (inner := []) (ok := fun _ => True) (okp := fun _ => True) ?hr ?hp (fun _ hk => hk) trivial (Below.refl _ _) (Nat.le_refl _) (by simp) ?_; (case hd => rfl); (case hg => rfl); (case hr => first | (go_simp; done) | (go_simp; rfl)); (case hp => exact (Reps.none _ _)); intro v217 w2 ho3 hb hg_ hnew_; clear hg_ hnew_; (first | rw [← Ny216.out] at ho3 | (simp only [Int.reduceToNat] at ho3; rw [← Ny216.out] at ho3)); have n0_ := Aside0.mk (Kd.R_lower ho3 (below_size (by repeat (first | (with_reducible first | exact HB.out | apply below_alloc | apply pw_below_drewN | apply below_drew1) | exact HB.out)))); have n1_ := Aside0.mk (below_step (by repeat (first | (with_reducible first | exact HB.out | apply below_alloc | apply pw_below_drewN | apply below_drew1) | exact HB.out)) hb); clear HB; have HO218 := n0_; have HB := n1_; clear n0_ n1_; clear hb ho3))
  go_loopg [3, 9] k (fun kq v3 v9 w' => ∃ (x3_1 : List Int) (x9_1 : Int), v9 = .int .i64 x9_1 ∧ Aside0 (impl_factors.l0 kq x3_1 l0 (l0.length : Int) x9_1 = some r) ∧ Aside0 (kq ≤ k) ∧ Aside0 (Kd.R (Kd.int .i64) 3 w' w.heap.size (fun _ => True) v3 x3_1) ∧ Aside0 (Below w.heap.size w w'))
  case atStart => exact ⟨(y216), (0), (by first | rfl | (simp; done) | (simp [*]; done)), H', ⟨Nat.le_refl _⟩, ⟨by (with_reducible repeat (first | apply Kd.R_alloc | apply Kd.R_drewN | apply Kd.R_drew)); exact HO218.out⟩, ⟨by repeat (first | (with_reducible first | exact HB.out | apply below_alloc | apply pw_below_drewN | apply below_drew1) | exact HB.out)⟩⟩
  case round =>
    clear H'
    try clear p2
    try clear c3
    obtain ⟨x3_1, x9_1, rfl, HA, HK1, HO_3, HB⟩ := hrel
    cases gk with
    | zero => exact absurd HA.out (by simp [impl_factors.l0])
    | succ k1 =>
      have H := HA.out
      clear HA
      simp only [impl_factors.l0] at H
      by_cases c4 : x9_1 < (l0.length : Int)
      · rw [if_pos c4] at H
        have c4b0 : decide (x9_1 < (l0.length : Int)) = true := decide_eq_true c4
        clear c4
        by_cases c5 : 0 ≤ x9_1
        · rw [if_pos c5] at H
          have c5b0 : decide (0 ≤ x9_1) = true := decide_eq_true c5
          clear c5
          by_cases c6 : x9_1 < (l0.length : Int)
          · rw [if_pos c6] at H
            have c6b0 : decide (x9_1 < (l0.length : Int)) = true := decide_eq_true c6
            clear c6
            by_cases c7 : x3_1.length < 17592186044416
            · rw [if_pos c7] at H
              have LMc7 := Aside0.mk c7
              clear c7
              obtain ⟨y220, hy220⟩ : ∃ y_ : List Int, y_ = (x3_1 ++ [wrap64 ((rd l0 x9_1) - x9_1)]) := ⟨_, rfl⟩
              replace H : (impl_factors.l0 k1 y220 l0 (l0.length : Int) (wrap64 (x9_1 + 1))) = some r := by first | (rw [hy220]; with_reducible exact H) | (have H2_ := (Option.bind_some _ _).symm.trans H; rw [hy220]; with_reducible exact H2_) | (have H2_ := (Option.bind_some _ _).symm.trans H; with_reducible exact H2_) | with_reducible exact H | (rw [hy220]; exact H) | exact H
              have Ny220 := Aside0.mk hy220
              clear hy220
              have H' := Aside0.mk H
              clear H
              have p219 : 0 ≤ (x9_1 : Int) := of_decide_eq_true (by first | (with_reducible assumption) | assumption)
              have q219 : x9_1 < (l0.length : Int) := of_decide_eq_true (by first | (with_reducible assumption) | assumption)
              obtain ⟨ad219, e219, hx219_0⟩ := Kd.at_int HR0.out x9_1 p219 q219
              cases e219
              replace hx219_0 := (HB.out.cell (World.block_lt_of_cell? w _ hx219_0)).trans hx219_0
              replace p219 := eq_true p219
              replace q219 := eq_true q219
              go_wp2_with (first | ((with_reducible refine gate_builtin (b := .append) (xs := #[.tmp 14, .tmp 18]) rfl ?_); at_builtin; refine Kd.R_append (Kd.int .i64) (w0 := w) w.heap.size rfl (.tmp 14) (.tmp 18) 22 3 (.int .i64 0) 8 rfl Try.underlying22 info3 rfl (by decide) (by omega) u3 x3_1 (wrap64 ((rd l0 x9_1) - x9_1)) [.int .i64 (wrap64 ((rd l0 x9_1) - x9_1))] (fun _ => True) (fun _ => False) rfl rfl ?aP (fun _ hk => hk.elim) ?aF ?aO ?aB ?aS ?aL ?_; (case aP => exact rfl); (case aB => exact (by repeat (first | (with_reducible first | exact HB.out | apply below_alloc | apply pw_below_drewN | apply below_drew1) | exact HB.out))); (case aF => exact (fun _ _ => trivial)); (case aO => exact (by (with_reducible repeat (first | apply Kd.R_alloc | apply Kd.R_drewN | apply Kd.R_drew)); exact HO_3.out)); (case aS => exact (below_size (by repeat (first | (with_reducible first | exact HB.out | apply below_alloc | apply pw_below_drewN | apply below_drew1) | exact HB.out)))); (case aL => have := LMc7.out; omega); intro v221 w8 ho hb hg hat; rw [← Ny220.out] at ho; have n0_ := Aside0.mk (hb); have n1_ := Aside0.mk (ho); clear HB; clear HO_3; have HB := n0_; have HO222 := n1_; clear n0_ n1_; clear ho hb hg hat))
              go_roundg k1
              case measure => have := HK1.out; omega
              case rel => exact ⟨(y220), (wrap64 (x9_1 + 1)), (by first | rfl | (simp; done) | (simp [*]; done)), H', ⟨by have := HK1.out; omega⟩, ⟨by (with_reducible repeat (first | apply Kd.R_alloc | apply Kd.R_drewN | apply Kd.R_drew)); exact HO222.out⟩, ⟨by repeat (first | (with_reducible first | exact HB.out | apply below_alloc | apply pw_below_drewN | apply below_drew1) | exact HB.out)⟩⟩
            · rw [if_neg c7] at H
              exact absurd H (by simp)
          · rw [if_neg c6] at H
            exact absurd H (by simp)
        · rw [if_neg c5] at H
          exact absurd H (by simp)
      · rw [if_neg c4] at H
        have c4b0 : decide (x9_1 < (l0.length : Int)) = false := decide_eq_false c4
        clear c4
        replace H := Option.bind_eq_some_iff.mp H
        obtain ⟨t223, A90, H⟩ := H
        replace H : (some t223) = some r := H
        have A9 := Aside0.mk A90
        clear A90
        obtain rfl := Option.some.inj H
        obtain ⟨Ao10, co10, eo10⟩ := Kd.R_slice HO_3.out
        subst eo10
        go_wp2_with (first | ((with_reducible refine gate_callee (f := 56) rfl ?_); refine goesL_ (some 22) rfl rfl Try.func56 (by kernel_rfl) rfl #[.slice Ao10 x3_1.length co10] rfl (by (try simp only [List.map_toArray, List.map_cons, List.map_nil]); first | done | rfl | (simp only [List.length_drop, List.length_take]; rfl)) ?_; (with_reducible refine (slices_Sort_int_int.calls k1 (fun k_ => some k_ = (.slice Ao10 x3_1.length co10 : Value).ownBlock) (.slice Ao10 x3_1.length co10) x3_1 t223 w _ ?side1 ?side2 A9.out).mono ?_); (case side1 => repeat (first | (with_reducible first | exact HB.out | apply below_alloc | apply pw_below_drewN | apply below_drew1) | exact HB.out)); (case side2 => exact Kd.R_tight rfl HO_3.out); rintro e w11 ⟨rfl, hy0, hb, hkp⟩; refine ⟨_, rfl, ?_⟩; have n0_ := Aside0.mk (Kd.R_reok rfl hy0 (fun k_ e_ => HO_3.out.1 k_ e_)); have n1_ := Aside0.mk (hb); clear HO_3; clear HB; have HO_3 := n0_; have HB := n1_; clear n0_ n1_; (try clear hb); (try clear hkp); (try clear hy0)))
        go_ret
        exact ⟨_, by first | rfl | (simp [errW_none, errW_some] <;> rfl) | (simp [*, errW_none, errW_some] <;> rfl), by (with_reducible repeat (first | apply Kd.R_alloc | apply Kd.R_drewN | apply Kd.R_drew)); exact HO_3.out, by repeat (first | (with_reducible first | exact HB.out | apply below_alloc | apply pw_below_drewN | apply below_drew1) | exact HB.out)⟩

/-! ### slices_Equal_int_int: function 53 -/
def slices_Equal_int_int.l0 : Nat → List Int → List Int → Int → Int → Option (Bool)
  | 0, _, _, _, _ => none
  | k + 1, x0, x1, x12, x13 => if x13 < x12 then (if 0 ≤ x13 then (if x13 < (x0.length : Int) then (if x13 < (x1.length : Int) then (if (rd x0 x13) = (rd x1 x13) then (slices_Equal_int_int.l0 k x0 x1 x12 (wrap64 (x13 + 1))) else (some false)) else (none)) else (none)) else (none)) else (some true)
def slices_Equal_int_int.f (k : Nat) (l0 : List Int) (l1 : List Int) : Option (Bool) := if (l0.length : Int) = (l1.length : Int) then (slices_Equal_int_int.l0 k l0 l1 (l0.length : Int) 0) else (some false)
theorem slices_Equal_int_int.mono_l : ∀ k, (∀ y0 y1 y2 y3, LeO (slices_Equal_int_int.l0 k y0 y1 y2 y3) (slices_Equal_int_int.l0 (k + 1) y0 y1 y2 y3))
  | 0 => fun _ _ _ _ r h => by simp [slices_Equal_int_int.l0] at h
  | k + 1 => by
    have ih0 := slices_Equal_int_int.mono_l k
    · intro y0 y1 y2 y3
      unfold slices_Equal_int_int.l0
      repeat' first
      | (with_reducible exact ih0 _ _ _ _)
      | (with_reducible exact LeO.refl _)
      | (with_reducible exact LeO.none _)
      | (with_reducible refine LeO.ite ?_ ?_)
      | (with_reducible refine LeO.bind ?_ (fun _ => ?_))
      | exact ih0 _ _ _ _
      | exact LeO.none _
      | refine LeO.ite ?_ ?_
      | refine LeO.bind ?_ (fun _ => ?_)
theorem slices_Equal_int_int.mono : ∀ a0 a1 k, LeO (slices_Equal_int_int.f k a0 a1) (slices_Equal_int_int.f (k + 1) a0 a1) := by
  intro a0 a1 k
  have ih0 := slices_Equal_int_int.mono_l k
  unfold slices_Equal_int_int.f
  repeat' first
      | (with_reducible exact ih0 _ _ _ _)
      | (with_reducible exact LeO.refl _)
      | (with_reducible exact LeO.none _)
      | (with_reducible refine LeO.ite ?_ ?_)
      | (with_reducible refine LeO.bind ?_ (fun _ => ?_))
      | exact ih0 _ _ _ _
      | exact LeO.none _
      | refine LeO.ite ?_ ?_
      | refine LeO.bind ?_ (fun _ => ?_)
set_option maxHeartbeats 8000000 in
set_option maxRecDepth 100000 in
theorem slices_Equal_int_int.calls (k : Nat) (A0 : Option Addr) (c0 : Nat) (l0 : List Int) (A1 : Option Addr) (c1 : Nat) (l1 : List Int) (r : Bool) (w : World) (hr0 : Kd.C (Kd.int .i64) w A0 l0.length l0) (hc0 : l0.length ≤ c0) (hr1 : Kd.C (Kd.int .i64) w A1 l1.length l1) (hc1 : l1.length ≤ c1) (h : slices_Equal_int_int.f k l0 l1 = some r) :
    Calls Try.prog 53 #[.slice A0 l0.length c0, .slice A1 l1.length c1] w fun e w' => e = .returned (.bool r) ∧ Drawn0 w w' := by
  have HR0 := Aside0.mk hr0
  have HC0 := Aside0.mk hc0
  clear hr0 hc0
  have HR1 := Aside0.mk hr1
  have HC1 := Aside0.mk hc1
  clear hr1 hc1
  have H : (if (l0.length : Int) = (l1.length : Int) then (slices_Equal_int_int.l0 k l0 l1 (l0.length : Int) 0) else (some false)) = some r := h
  clear h
  by_cases c3 : (l0.length : Int) = (l1.length : Int)
  · rw [if_pos c3] at H
    have c3b0 : ((l0.length : Int) == (l1.length : Int)) = true := beq_iff_eq.mpr c3
    have c3b1 : ((l0.length : Int) != (l1.length : Int)) = false := bne_eq_false_iff_eq.mpr c3
    have c3b2 : (l0.length == l1.length) = true := by first | simpa using c3 | (simp at c3 ⊢; omega)
    clear c3
    have H' := Aside0.mk H
    clear H
    go_enter Try.func53, Try.ntmps53
    go_wp2
    repeat (go_quiet (fail); try go_wp2)
    go_loopg [13] k (fun kq v13 w' => ∃ (x13_1 : Int), v13 = .int .i64 x13_1 ∧ Aside0 (slices_Equal_int_int.l0 kq l0 l1 (l0.length : Int) x13_1 = some r) ∧ Aside0 (kq ≤ k) ∧ Drawn0 w w')
    case atStart => exact ⟨(0), (by first | rfl | (simp; done) | (simp [*]; done)), H', ⟨Nat.le_refl _⟩, by repeat (first | exact Drawn0.refl _ | apply Drawn0.step)⟩
    case round =>
      clear H'
      try clear c1
      try clear p2
      try clear c3
      try clear c3b0
      try clear c3b1
      try clear c3b2
      obtain ⟨x13_1, rfl, HA, HK1, ⟨m1, rfl⟩⟩ := hrel
      cases gk with
      | zero => exact absurd HA.out (by simp [slices_Equal_int_int.l0])
      | succ k1 =>
        have H := HA.out
        clear HA
        simp only [slices_Equal_int_int.l0] at H
        by_cases c4 : x13_1 < (l0.length : Int)
        · rw [if_pos c4] at H
          have c4b0 : decide (x13_1 < (l0.length : Int)) = true := decide_eq_true c4
          clear c4
          by_cases c5 : 0 ≤ x13_1
          · rw [if_pos c5] at H
            have c5b0 : decide (0 ≤ x13_1) = true := decide_eq_true c5
            clear c5
            by_cases c6 : x13_1 < (l0.length : Int)
            · rw [if_pos c6] at H
              have c6b0 : decide (x13_1 < (l0.length : Int)) = true := decide_eq_true c6
              clear c6
              by_cases c7 : x13_1 < (l1.length : Int)
              · rw [if_pos c7] at H
                have c7b0 : decide (x13_1 < (l1.length : Int)) = true := decide_eq_true c7
                clear c7
                by_cases c8 : (rd l0 x13_1) = (rd l1 x13_1)
                · rw [if_pos c8] at H
                  have c8b0 : ((rd l0 x13_1) == (rd l1 x13_1)) = true := beq_iff_eq.mpr c8
                  have c8b1 : ((rd l0 x13_1) != (rd l1 x13_1)) = false := bne_eq_false_iff_eq.mpr c8
                  clear c8
                  have H' := Aside0.mk H
                  clear H
                  have p224 : 0 ≤ (x13_1 : Int) := of_decide_eq_true (by first | (with_reducible assumption) | assumption)
                  have q224 : x13_1 < (l0.length : Int) := of_decide_eq_true (by first | (with_reducible assumption) | assumption)
                  obtain ⟨ad224, e224, hx224_0⟩ := Kd.at_int HR0.out x13_1 p224 q224
                  cases e224
                  replace p224 := eq_true p224
                  replace q224 := eq_true q224
                  have p225 : 0 ≤ (x13_1 : Int) := of_decide_eq_true (by first | (with_reducible assumption) | assumption)
                  have q225 : x13_1 < (l1.length : Int) := of_decide_eq_true (by first | (with_reducible assumption) | assumption)
                  obtain ⟨ad225, e225, hx225_0⟩ := Kd.at_int HR1.out x13_1 p225 q225
                  cases e225
                  replace p225 := eq_true p225
                  replace q225 := eq_true q225
                  go_wp2
                  repeat (go_quiet (fail); try go_wp2)
                  go_roundg k1
                  case measure => have := HK1.out; omega
                  case rel => exact ⟨(wrap64 (x13_1 + 1)), (by first | rfl | (simp; done) | (simp [*]; done)), H', ⟨by have := HK1.out; omega⟩, by repeat (first | exact Drawn0.refl _ | apply Drawn0.step)⟩
                · rw [if_neg c8] at H
                  have c8b0 : ((rd l0 x13_1) == (rd l1 x13_1)) = false := beq_eq_false_iff_ne.mpr c8
                  have c8b1 : ((rd l0 x13_1) != (rd l1 x13_1)) = true := bne_iff_ne.mpr c8
                  obtain rfl := Option.some.inj H
                  have p224 : 0 ≤ (x13_1 : Int) := of_decide_eq_true (by first | (with_reducible assumption) | assumption)
                  have q224 : x13_1 < (l0.length : Int) := of_decide_eq_true (by first | (with_reducible assumption) | assumption)
                  obtain ⟨ad224, e224, hx224_0⟩ := Kd.at_int HR0.out x13_1 p224 q224
                  cases e224
                  replace p224 := eq_true p224
                  replace q224 := eq_true q224
                  have p225 : 0 ≤ (x13_1 : Int) := of_decide_eq_true (by first | (with_reducible assumption) | assumption)
                  have q225 : x13_1 < (l1.length : Int) := of_decide_eq_true (by first | (with_reducible assumption) | assumption)
                  obtain ⟨ad225, e225, hx225_0⟩ := Kd.at_int HR1.out x13_1 p225 q225
                  cases e225
                  replace p225 := eq_true p225
                  replace q225 := eq_true q225
                  go_wp2
                  repeat (go_quiet (fail); try go_wp2)
                  go_ret
                  exact ⟨by first | rfl | (simp; done) | (simp [*]; done), by repeat (first | exact Drawn0.refl _ | apply Drawn0.step)⟩
              · rw [if_neg c7] at H
                exact absurd H (by simp)
            · rw [if_neg c6] at H
              exact absurd H (by simp)
          · rw [if_neg c5] at H
            exact absurd H (by simp)
        · rw [if_neg c4] at H
          have c4b0 : decide (x13_1 < (l0.length : Int)) = false := decide_eq_false c4
          clear c4
          obtain rfl := Option.some.inj H
          go_wp2
          repeat (go_quiet (fail); try go_wp2)
          go_ret
          exact ⟨by first | rfl | (simp; done) | (simp [*]; done), by repeat (first | exact Drawn0.refl _ | apply Drawn0.step)⟩
  · rw [if_neg c3] at H
    have c3b0 : ((l0.length : Int) == (l1.length : Int)) = false := beq_eq_false_iff_ne.mpr c3
    have c3b1 : ((l0.length : Int) != (l1.length : Int)) = true := bne_iff_ne.mpr c3
    have c3b2 : (l0.length == l1.length) = false := by first | simpa using c3 | (simp at c3 ⊢; omega)
    obtain rfl := Option.some.inj H
    go_enter Try.func53, Try.ntmps53
    go_wp2
    repeat (go_quiet (fail); try go_wp2)
    go_ret
    exact ⟨by first | rfl | (simp; done) | (simp [*]; done), by repeat (first | exact Drawn0.refl _ | apply Drawn0.step)⟩

/-! ### slices_Clone_int_int: function 54 (by hand) -/
def slices_Clone_int_int.f (l0 : List Int) : Option (List Int) := if l0.length < 17592186044416 then some l0 else none
-- (walk)
set_option maxHeartbeats 8000000 in
set_option maxRecDepth 100000 in
theorem slices_Clone_int_int.calls (A0 : Option Addr) (c0 : Nat) (l0 : List Int) (r : List Int) (w : World) (hr0 : Kd.C (Kd.int .i64) w A0 l0.length l0) (hc0 : l0.length ≤ c0) (h : slices_Clone_int_int.f l0 = some r) :
    Calls Try.prog 54 #[.slice A0 l0.length c0] w fun e w' => ∃ v0_ : Value, e = .returned (v0_) ∧ Kd.R (Kd.int .i64) 3 w' w.heap.size (fun _ => True) v0_ r ∧ Below w.heap.size w w' := by
  have hu := Try.underlying22
  have HR0 := Aside0.mk hr0
  have HC0 := Aside0.mk hc0
  have HL0 := Aside0.mk (Kd.C_len hr0)
  have HZ0 := Aside0.mk (show A0 = none → l0 = [] from fun e => by
    subst e
    by_cases h0 : 0 < l0.length
    · obtain ⟨_, _, h3⟩ := hr0
      obtain ⟨ad, e, _⟩ := h3 h0
      cases e
    · exact List.eq_nil_of_length_eq_zero (by omega))
  clear hr0 hc0
  have HB := Aside0.mk (Below.refl w.heap.size w)
  unfold slices_Clone_int_int.f at h
  by_cases c2 : l0.length < 17592186044416
  · rw [if_pos c2] at h
    obtain rfl := Option.some.inj h
    have LM := Aside0.mk c2
    clear c2 h
    cases A0 with
    | none =>
      obtain rfl := HZ0.out rfl
      have hq := fun (W : World) => Lib.run_eql_slice_nil (P := Try.prog) W 22 3 none 0 c0 0 0 Try.underlying22
      go_enter Try.func54, Try.ntmps54
      go_wp2
      go_ret
      exact ⟨_, rfl, Kd.R_nil _ _ _ _ _, HB.out⟩
    | some a =>
      have hq := fun (W : World) => Lib.run_eql_slice_nil (P := Try.prog) W 22 3 (some a) l0.length c0 0 0 Try.underlying22
      go_enter Try.func54, Try.ntmps54
      have hd : (some a : Option Addr).isNone = false := rfl
      obtain ⟨y133, hy133⟩ : ∃ y_ : List Int, y_ = (([] : List Int)) := ⟨_, rfl⟩
      obtain ⟨y136, hy136⟩ : ∃ y_ : List Int, y_ = (y133 ++ l0) := ⟨_, rfl⟩
      have e136 := Aside0.mk (show y136 = l0 by rw [hy136, hy133]; rfl)
      have hl133 := Aside0.mk (show y133.length = 0 by rw [hy133]; rfl)
      have Ny133 := Aside0.mk hy133
      have Ny136 := Aside0.mk hy136
      clear hy133 hy136
      go_wp2_with (first | ((with_reducible refine gate_dst (N := 5) rfl ?_); refine Kd.R_lit (Kd.int .i64) _ 3 ?hg (N := 5) ?hd (xs := ([] : List Int)) (inner := []) (ok := fun _ => True) (okp := fun _ => True) ?hr ?hp (fun _ hk => hk) trivial (Below.refl _ _) (Nat.le_refl _) (by simp) ?_; (case hd => rfl); (case hg => rfl); (case hr => first | (go_simp; done) | (go_simp; rfl)); (case hp => exact (Reps.none _ _)); intro v134 w3 ho4 hb hg_ hnew_; clear hg_ hnew_; (first | rw [← Ny133.out] at ho4 | (simp only [Int.reduceToNat] at ho4; rw [← Ny133.out] at ho4)); have n0_ := Aside0.mk (Kd.R_lower ho4 (below_size (by repeat (first | (with_reducible first | exact HB.out | apply below_alloc | apply pw_below_drewN | apply below_drew1) | exact HB.out)))); have n1_ := Aside0.mk (below_step (by repeat (first | (with_reducible first | exact HB.out | apply below_alloc | apply pw_below_drewN | apply below_drew1) | exact HB.out)) hb); clear HB; have HO135 := n0_; have HB := n1_; clear n0_ n1_; clear hb ho4) | ((with_reducible refine gate_builtin (b := .append) (xs := #[.tmp 5, .tmp 6]) rfl ?_); at_builtin; refine Kd.R_append_rows (Kd.int .i64) (w0 := w) w.heap.size rfl (.tmp 5) (.tmp 6) 22 3 (.int .i64 0) 8 rfl Try.underlying22 info3 rfl (by decide) (by omega) v134 y133 l0 _ _ _ (fun _ => True) (fun _ => False) rfl rfl ?aO ?aR (fun _ _ h => h) (fun _ h => h.elim) ?aF ?aB ?aS ?aL ?_; (case aR => repeat (first | exact (Kd.C_below HR0.out HB.out) | (with_reducible refine Kd.C_alloc ?_ _) | (with_reducible refine Kd.C_drewN ?_ _) | (with_reducible refine Kd.C_drew ?_))); (case aB => exact (by repeat (first | (with_reducible first | exact HB.out | apply below_alloc | apply pw_below_drewN | apply below_drew1) | exact HB.out))); (case aF => exact (fun _ _ => trivial)); (case aO => exact (by (with_reducible repeat (first | apply Kd.R_alloc | apply Kd.R_drewN | apply Kd.R_drew)); exact HO135.out)); (case aS => exact (below_size (by repeat (first | (with_reducible first | exact HB.out | apply below_alloc | apply pw_below_drewN | apply below_drew1) | exact HB.out)))); (case aL => have := LM.out; have := hl133.out; omega); intro v137 w5 ho hb hg hat; rw [← Ny136.out] at ho; have n0_ := Aside0.mk (hb); have n1_ := Aside0.mk (ho); clear HB; clear HO135; have HB := n0_; have HO138 := n1_; clear n0_ n1_; clear ho hb hg hat))
      go_ret
      exact ⟨_, rfl, by rw [← e136.out]; (with_reducible repeat (first | apply Kd.R_alloc | apply Kd.R_drewN | apply Kd.R_drew)); exact HO138.out, by repeat (first | (with_reducible first | exact HB.out | apply below_alloc | apply pw_below_drewN | apply below_drew1) | exact HB.out)⟩
  · rw [if_neg c2] at h; exact absurd h (by simp)

/-! ### impl_having: function 32 (by hand) -/
/-- All lists of d numbers more, none below the last one, none above n. -/
def allL (n : Nat) : Nat → List Int → List (List Int)
  | 0, l => [l]
  | d + 1, l => (List.range (n + 1 - (l.getLastD 0).toNat)).flatMap fun i => allL n d (l ++ [(((l.getLastD 0).toNat + i : Nat) : Int)])
/-- Are a list's factors told, and is the comparison? -/
def okH (k : Nat) (own l : List Int) : Bool := match impl_factors.f k l with
  | some fl => slices_Equal_int_int.f k fl own == some (decide (fl = own))
  | none => false
def impl_having.f (k : Nat) (l0 : List Int) : Option (List (List Int)) := if l0.length ≤ 6 ∧ ((allL l0.length l0.length []).all (okH k l0)) = true then some ((allL l0.length l0.length []).filter fun l => impl_factors.f k l == some l0) else none
-- (walk)
/-- The search's variables in memory, what it holds and what it found. -/
def HvP (w0 : World) (gl gn gown gout gx n : Nat) (A0 : Option Addr) (c0 : Nat) (l0 : List Int) (A : Option Addr) (cl : Nat) (Ao : Option Addr) (co : Nat) (l : List Int) (out : List (List Int)) (w : World) : Prop :=
  w.heap[gl]? = some (.cells #[.slice A l.length cl] 22 (0, 0)) ∧
  w.heap[gn]? = some (.cells #[.int .i64 n] 3 (0, 0)) ∧
  w.heap[gown]? = some (.cells #[.slice A0 l0.length c0] 22 (0, 0)) ∧
  w.heap[gout]? = some (.cells #[.slice Ao out.length co] 29 (0, 0)) ∧
  w.heap[gx]? = some (.cells #[.func (.func 52) #[] #[.pointer (some ⟨gl, 0, none⟩), .pointer (some ⟨gn, 0, none⟩), .pointer (some ⟨gown, 0, none⟩), .pointer (some ⟨gout, 0, none⟩), .pointer (some ⟨gx, 0, none⟩)]] 1 (0, 0)) ∧
  Kd.R (Kd.int .i64) 3 w w0.heap.size (fun k => k ≠ gn) (.slice A l.length cl) l ∧
  Kd.S (Kd.slice 3 (Kd.int .i64)) 22 w w0.heap.size (fun k => (k ≠ gn ∧ k ≠ gl ∧ k ≠ gown) ∧ some k ≠ (Value.slice A l.length cl).ownBlock) (.slice Ao out.length co) out ∧
  Below w0.heap.size w0 w ∧ gl ≠ gown ∧ (w0.heap.size ≤ gl ∧ w0.heap.size ≤ gout)
section
variable {w0 w w1 w9 W : World} {gl gn gown gout gx n cl co c0 m : Nat} {A0 A Ao : Option Addr} {l0 l l' : List Int} {out : List (List Int)}
theorem HvP.below (h : HvP w0 gl gn gown gout gx n A0 c0 l0 A cl Ao co l out w) (hb : Below w.heap.size w w1) : HvP w0 gl gn gown gout gx n A0 c0 l0 A cl Ao co l out w1 := by
  obtain ⟨b1, b2, b3, b4, b5, hR, hS, hB, hg⟩ := h
  exact ⟨blk_below b1 hb, blk_below b2 hb, blk_below b3 hb, blk_below b4 hb, blk_below b5 hb, Kd.R_below hR hb, Kd.S_below hS hb, below_step hB hb, hg⟩
theorem HvP.drewN (h : HvP w0 gl gn gown gout gx n A0 c0 l0 A cl Ao co l out w) (k : Nat) : HvP w0 gl gn gown gout gx n A0 c0 l0 A cl Ao co l out (w.drewN k) := h.below (pw_below_drewN (Below.refl _ _) k)
theorem HvP.reads (h : HvP w0 gl gn gown gout gx n A0 c0 l0 A cl Ao co l out w) : l.length ≤ cl ∧ Kd.C (Kd.int .i64) w A l.length l := (Kd.R_reads' h.2.2.2.2.2.1).2
theorem HvP.came (h : HvP w0 gl gn gown gout gx n A0 c0 l0 A cl Ao co l out w) (h0 : Kd.C (Kd.int .i64) w0 A0 l0.length l0) : Kd.C (Kd.int .i64) w A0 l0.length l0 := Kd.C_below h0 h.2.2.2.2.2.2.2.1
/-- One more number: the row's new value is stored. -/
theorem HvP.push {v1 : Value} {x : Int} (h : HvP w0 gl gn gown gout gx n A0 c0 l0 A cl Ao co l out W) (hr : Kd.R (Kd.int .i64) 3 w1 w0.heap.size (fun k => k ≠ gn) v1 (l ++ [x])) (hb : Below w0.heap.size w0 w1) (hg : W.grownBy w1 (Value.slice A l.length cl).ownBlock)
    (hat : v1.ownBlock = (Value.slice A l.length cl).ownBlock ∨ ∃ b, v1.ownBlock = some b ∧ W.heap.size ≤ b) :
    w1.heap[gl]? = some (.cells #[.slice A l.length cl] 22 (0, 0)) ∧ ∃ A1 cl1, v1 = .slice A1 (l ++ [x]).length cl1 ∧ HvP w0 gl gn gown gout gx n A0 c0 l0 A1 cl1 Ao co (l ++ [x]) out (w1.setCell ⟨gl, 0, none⟩ v1) := by
  obtain ⟨b1, b2, b3, b4, b5, hR, hS, hB, hgg, hgl, hgo⟩ := h
  obtain ⟨A1, cl1, rfl⟩ := Kd.R_slice hr
  have k1 : w1.heap[gl]? = _ := (hg.block gl (blk_lt b1) (Kd.R_ne hR b1 (by decide))).trans b1
  have k2 : w1.heap[gn]? = _ := (hg.block gn (blk_lt b2) (Kd.R_away hR (fun k hk => hk))).trans b2
  have k3 : w1.heap[gown]? = _ := (hg.block gown (blk_lt b3) (Kd.R_ne hR b3 (by decide))).trans b3
  have k4 : w1.heap[gout]? = _ := (hg.block gout (blk_lt b4) (Kd.R_ne hR b4 (by decide))).trans b4
  have k5 : w1.heap[gx]? = _ := (hg.block gx (blk_lt b5) (Kd.R_ne hR b5 (by decide))).trans b5
  have hS1 := Kd.S_after hS hg hat
  refine ⟨k1, A1, cl1, rfl, blk_put k1 0 _ rfl, blk_far (p := ⟨gl, 0, none⟩) k2 (blk_ne k2 k1 (by decide)) _, blk_far (p := ⟨gl, 0, none⟩) k3 (Ne.symm hgg) _, blk_far (p := ⟨gl, 0, none⟩) k4 (blk_ne k4 k1 (by decide)) _, blk_far (p := ⟨gl, 0, none⟩) k5 (blk_ne k5 k1 (by decide)) _, Kd.R_set hr k1 (by intro q hq; simp [Kd.int, Kd.scalar] at hq; subst hq; decide) 0 _, Kd.S_far (p := ⟨gl, 0, none⟩) hS1 (fun k hk => hk.1.2.1) _, below_set hb hgl, hgg, hgl, hgo⟩
/-- The last number is cut off. -/
theorem HvP.pop {j : Nat} {x : Int} (h : HvP w0 gl gn gown gout gx n A0 c0 l0 A cl Ao co (l ++ [x]) out W) (hj : j = l.length) :
    HvP w0 gl gn gown gout gx n A0 c0 l0 A cl Ao co l out (W.setCell ⟨gl, 0, none⟩ (.slice A j cl)) := by
  obtain ⟨b1, b2, b3, b4, b5, hR, hS, hB, hgg, hgl, hgo⟩ := h
  subst hj
  have e : ∀ a b : Nat, (Value.slice A a cl).ownBlock = (Value.slice A b cl).ownBlock := by intro a b; cases A <;> rfl
  have hR1 := Kd.R_take hR (m := l.length) (by rw [List.length_append]; omega)
  rw [List.take_left'  rfl] at hR1
  rw [e _ l.length] at hS
  exact ⟨blk_put b1 0 _ rfl, blk_far (p := ⟨gl, 0, none⟩) b2 (blk_ne b2 b1 (by decide)) _, blk_far (p := ⟨gl, 0, none⟩) b3 (Ne.symm hgg) _, blk_far (p := ⟨gl, 0, none⟩) b4 (blk_ne b4 b1 (by decide)) _, blk_far (p := ⟨gl, 0, none⟩) b5 (blk_ne b5 b1 (by decide)) _, Kd.R_set hR1 b1 (by intro q hq; simp [Kd.int, Kd.scalar] at hq; subst hq; decide) 0 _, Kd.S_far (p := ⟨gl, 0, none⟩) hS (fun k hk => hk.1.2.1) _, below_set hB hgl, hgg, hgl, hgo⟩
/-- Behind a copy: what the append asks for. -/
theorem HvP.clone {d : Nat} {Ac : Option Addr} {ql cc : Nat} (h : HvP w0 gl gn gown gout gx n A0 c0 l0 A cl Ao co l out w)
    (hoc : Kd.R (Kd.int .i64) 3 w9 (w.drewN d).heap.size (fun _ => True) (.slice Ac ql cc) l) (hb9 : Below (w.drewN d).heap.size (w.drewN d) w9) :
    HvP w0 gl gn gown gout gx n A0 c0 l0 A cl Ao co l out w9 ∧ Kd.S (Kd.slice 3 (Kd.int .i64)) 22 w9 w0.heap.size (fun k => ((k ≠ gn ∧ k ≠ gl ∧ k ≠ gown) ∧ some k ≠ (Value.slice A l.length cl).ownBlock) ∧ ¬ (w.heap.size ≤ k ∧ k < w9.heap.size)) (.slice Ao out.length co) out ∧ (Kd.slice 3 (Kd.int .i64)).M w9 w0.heap.size (fun k => w.heap.size ≤ k ∧ k < w9.heap.size) l [.slice Ac ql cc] ∧
    (∀ k, w.heap.size ≤ k → ((k ≠ gn ∧ k ≠ gl ∧ k ≠ gown) ∧ some k ≠ (Value.slice A l.length cl).ownBlock) ∧ some k ≠ (Value.slice Ao out.length co).ownBlock) ∧ w.heap.size ≤ w9.heap.size ∧ w0.heap.size ≤ w.heap.size := by
  have h9 := (h.drewN d).below hb9
  obtain ⟨b1, b2, b3, b4, b5, hR, hS, hB, hgg, hgl, hgo⟩ := h
  refine ⟨h9, Kd.S_mono (Kd.S_old (Kd.S_drewN hS d) hb9) (fun k hk => ⟨hk.1, fun h => Nat.lt_irrefl _ (Nat.lt_of_lt_of_le hk.2 h.1)⟩), ⟨_, rfl, Kd.R_mono (Kd.R_lower (Kd.R_bound hoc) hB.size) (fun k hk => ⟨hk.2.1, hk.2.2.1⟩)⟩, ?_, hb9.size, hB.size⟩
  intro k hk
  have l1 := blk_lt b1
  have l2 := blk_lt b2
  have l3 := blk_lt b3
  exact ⟨⟨⟨by omega, by omega, by omega⟩, fun e => by have := Kd.R_lt hR k e.symm; omega⟩, fun e => by have := Kd.S_lt hS k e.symm; omega⟩
/-- One more list found: the row's new value is stored. -/
theorem HvP.found {v1 : Value} {q : List Int} (h : HvP w0 gl gn gown gout gx n A0 c0 l0 A cl Ao co l out W) (hr : Kd.S (Kd.slice 3 (Kd.int .i64)) 22 w1 w0.heap.size (fun k => (k ≠ gn ∧ k ≠ gl ∧ k ≠ gown) ∧ some k ≠ (Value.slice A l.length cl).ownBlock) v1 (out ++ [q])) (hb : Below w0.heap.size w0 w1) (hg : W.grownBy w1 (Value.slice Ao out.length co).ownBlock) :
    w1.heap[gout]? = some (.cells #[.slice Ao out.length co] 29 (0, 0)) ∧ ∃ A1 co1, v1 = .slice A1 (out ++ [q]).length co1 ∧ HvP w0 gl gn gown gout gx n A0 c0 l0 A cl A1 co1 l (out ++ [q]) (w1.setCell ⟨gout, 0, none⟩ v1) := by
  obtain ⟨b1, b2, b3, b4, b5, hR, hS, hB, hgg, hgl, hgo⟩ := h
  obtain ⟨A1, co1, rfl⟩ := Kd.S_slice hr
  have k1 : w1.heap[gl]? = _ := (hg.block gl (blk_lt b1) (Kd.S_away hS (fun k hk => hk.1.2.1))).trans b1
  have k2 : w1.heap[gn]? = _ := (hg.block gn (blk_lt b2) (Kd.S_ne hS b2 (by decide))).trans b2
  have k3 : w1.heap[gown]? = _ := (hg.block gown (blk_lt b3) (Kd.S_away hS (fun k hk => hk.1.2.2))).trans b3
  have k4 : w1.heap[gout]? = _ := (hg.block gout (blk_lt b4) (Kd.S_ne hS b4 (by decide))).trans b4
  have k5 : w1.heap[gx]? = _ := (hg.block gx (blk_lt b5) (Kd.S_ne hS b5 (by decide))).trans b5
  have hR1 := Kd.R_grown2 hR rfl hg (fun k hk => by
    obtain ⟨cells, hc⟩ := Kd.S_typed hS k hk
    exact Kd.R_ne hR hc (by decide))
  exact ⟨k4, A1, co1, rfl, blk_far (p := ⟨gout, 0, none⟩) k1 (blk_ne k1 k4 (by decide)) _, blk_far (p := ⟨gout, 0, none⟩) k2 (blk_ne k2 k4 (by decide)) _, blk_far (p := ⟨gout, 0, none⟩) k3 (blk_ne k3 k4 (by decide)) _, blk_put k4 0 _ rfl, blk_far (p := ⟨gout, 0, none⟩) k5 (blk_ne k5 k4 (by decide)) _, Kd.R_set hR1 k4 (by intro q hq; simp [Kd.int, Kd.scalar] at hq; subst hq; decide) 0 _, Kd.S_set hr k4 (by intro x hx; simp [Kd.slice, Kd.int, Kd.scalar] at hx; rcases hx with rfl | rfl <;> decide) 0 _, below_set hb hgo, hgg, hgl, hgo⟩
end
theorem okH_ok {k : Nat} {own l : List Int} (h : okH k own l = true) : ∃ fl, impl_factors.f k l = some fl ∧ slices_Equal_int_int.f k fl own = some (decide (fl = own)) := by
  unfold okH at h
  split at h
  · rename_i fl hf
    exact ⟨fl, hf, by rwa [beq_iff_eq] at h⟩
  · cases h
set_option maxHeartbeats 2000000 in
set_option maxRecDepth 4000 in
theorem hv_no {w0 w : World} {gl gn gown gout gx cl co c0 k : Nat} {A0 A Ao : Option Addr} {l0 l fl : List Int} {out : List (List Int)}
    (hc0 : l0.length ≤ c0) (hl0 : Kd.C (Kd.int .i64) w0 A0 l0.length l0) (h : HvP w0 gl gn gown gout gx l.length A0 c0 l0 A cl Ao co l out w) (hf : impl_factors.f k l = some fl) (he : slices_Equal_int_int.f k fl l0 = some false) :
    Calls Try.prog 52 #[.pointer (some ⟨gl, 0, none⟩), .pointer (some ⟨gn, 0, none⟩), .pointer (some ⟨gown, 0, none⟩), .pointer (some ⟨gout, 0, none⟩), .pointer (some ⟨gx, 0, none⟩)] w fun e w' => e = .returned (.tuple #[]) ∧ HvP w0 gl gn gown gout gx l.length A0 c0 l0 A cl Ao co l out w' := by
  have HP := Aside0.mk h
  have HF := Aside0.mk hf
  have HE := Aside0.mk he
  have HL0 := Aside0.mk hl0
  have hlc := h.reads.1
  have HCL := Aside0.mk h.reads.2
  have HCO := Aside0.mk (h.came hl0)
  have c1 := blk_cell h.1 0
  have c2 := blk_cell h.2.1 0
  have c3 := blk_cell h.2.2.1 0
  clear h hf he hl0
  go_enter Try.func52, Try.ntmps52
  go_wp2_with fail
  go_region_with (first
    | (go_at_call 36; (refine (impl_factors.calls k _ _ l fl _ ?side1 hlc HF.out).mono ?_); (case side1 => repeat (first | exact HCL.out | (with_reducible refine Kd.C_drewN ?_ _) | (with_reducible refine Kd.C_drew ?_))); rintro e w9 ⟨vf, rfl, hrf, hb9⟩; obtain ⟨Af, cf, rfl, hcf, hCf⟩ := Kd.R_reads hrf; have HF9 := Aside0.mk hCf; have HP9 := Aside0.mk ((HP.out.drewN _).below hb9); have HCO9 := Aside0.mk (HP9.out.came HL0.out); have c39 := blk_cell HP9.out.2.2.1 0; clear hrf hb9 hCf c1 c2 c3)
    | (go_at_call 53; (refine (slices_Equal_int_int.calls k _ _ fl _ _ l0 _ _ ?side1 hcf ?side2 hc0 HE.out).mono ?_); (case side1 => repeat (first | exact HF9.out | (with_reducible refine Kd.C_drewN ?_ _) | (with_reducible refine Kd.C_drew ?_))); (case side2 => repeat (first | exact HCO9.out | (with_reducible refine Kd.C_drewN ?_ _) | (with_reducible refine Kd.C_drew ?_))); rintro e w' ⟨rfl, ⟨nd, rfl⟩⟩))
  all_goals (simp only [Exit.then]; go_wp2)
  all_goals (first | go_end0 | ((try simp only [Exit.inBlock, Exit.then]); refine bodyPost_ret (results_none rfl _ _ _) rfl ?_))
  all_goals exact ⟨rfl, HP9.out.drewN _⟩
set_option maxHeartbeats 8000000 in
set_option maxRecDepth 4000 in
theorem hv_yes {w0 w : World} {gl gn gown gout gx cl co c0 k : Nat} {A0 A Ao : Option Addr} {l0 l : List Int} {out : List (List Int)}
    (hc0 : l0.length ≤ c0) (h6 : l.length ≤ 6) (hout : out.length ≤ 1000000) (hl0 : Kd.C (Kd.int .i64) w0 A0 l0.length l0) (h : HvP w0 gl gn gown gout gx l.length A0 c0 l0 A cl Ao co l out w) (hf : impl_factors.f k l = some l0) (he : slices_Equal_int_int.f k l0 l0 = some true) :
    Calls Try.prog 52 #[.pointer (some ⟨gl, 0, none⟩), .pointer (some ⟨gn, 0, none⟩), .pointer (some ⟨gown, 0, none⟩), .pointer (some ⟨gout, 0, none⟩), .pointer (some ⟨gx, 0, none⟩)] w fun e w' => e = .returned (.tuple #[]) ∧ ∃ A1 co1, HvP w0 gl gn gown gout gx l.length A0 c0 l0 A cl A1 co1 l (out ++ [l]) w' := by
  have HP := Aside0.mk h
  have HF := Aside0.mk hf
  have HE := Aside0.mk he
  have HL0 := Aside0.mk hl0
  have hlc := h.reads.1
  have HCL := Aside0.mk h.reads.2
  have INF := Aside0.mk (show (Try.prog.info? 22).map (fun i => (i.zero, i.size, i.bytes)) = some (some (.slice none 0 0), 1, 24) by kernel_rfl)
  have c1 := blk_cell h.1 0
  have c2 := blk_cell h.2.1 0
  have c3 := blk_cell h.2.2.1 0
  clear h hf he hl0
  go_enter Try.func52, Try.ntmps52
  go_wp2_with fail
  go_region_with (first
    | (go_at_call 36; (refine (impl_factors.calls k _ _ l l0 _ ?side1 hlc HF.out).mono ?_); (case side1 => repeat (first | exact HCL.out | (with_reducible refine Kd.C_drewN ?_ _) | (with_reducible refine Kd.C_drew ?_))); rintro e w9 ⟨vf, rfl, hrf, hb9⟩; obtain ⟨Af, cf, rfl, hcf, hCf⟩ := Kd.R_reads hrf; have HF9 := Aside0.mk hCf; have HP9 := Aside0.mk ((HP.out.drewN _).below hb9); have HCO9 := Aside0.mk (HP9.out.came HL0.out); have c39 := blk_cell HP9.out.2.2.1 0; clear hrf hb9 hCf c1 c2 c3)
    | (go_at_call 53; (refine (slices_Equal_int_int.calls k _ _ l0 _ _ l0 _ _ ?side1 hcf ?side2 hc0 HE.out).mono ?_); (case side1 => repeat (first | exact HF9.out | (with_reducible refine Kd.C_drewN ?_ _) | (with_reducible refine Kd.C_drew ?_))); (case side2 => repeat (first | exact HCO9.out | (with_reducible refine Kd.C_drewN ?_ _) | (with_reducible refine Kd.C_drew ?_))); rintro e w' ⟨rfl, ⟨nd, rfl⟩⟩))
  all_goals
    have HCL9 := Aside0.mk HP9.out.reads.2
    have d1 := blk_cell HP9.out.1 0
    have d4 := blk_cell HP9.out.2.2.2.1 0
    have g4 := blk_frozen HP9.out.2.2.2.1 0
    clear c39
  all_goals (simp only [Exit.then]; go_wp2)
  all_goals
    go_region_law (first
      | (go_simp; go_at_call 54; (refine (slices_Clone_int_int.calls _ _ l l _ ?side1 hlc (by unfold slices_Clone_int_int.f; rw [if_pos (by omega)])).mono ?_); (case side1 => repeat (first | exact HCL9.out | (with_reducible refine Kd.C_alloc ?_ _) | (with_reducible refine Kd.C_drewN ?_ _) | (with_reducible refine Kd.C_drew ?_))); rintro e w10 ⟨vc, rfl, hoc, hb10⟩; obtain ⟨Ac, cc, rfl⟩ := Kd.R_slice hoc; have H10 := Aside0.mk (HP9.out.clone hoc hb10); have e4 := blk_cell H10.out.1.2.2.2.1 0; have f4 := blk_frozen H10.out.1.2.2.2.1 0; have e4a := blk_cell (blk_alloc H10.out.1.2.2.2.1 (Obj.cells #[Value.slice Ac l.length cc] 22)) 0; clear hoc hb10)
      | (refine Kd.S_append_step (Kd.slice 3 (Kd.int .i64)) (w0 := w0) w0.heap.size (by rfl) (.tmp 15) (.tmp 18) 29 22 (.slice none 0 0) 24 rfl Try.underlying29 INF.out rfl (by decide) (by omega) (.slice Ao out.length co) out l [.slice Ac l.length cc] (fun k => (k ≠ gn ∧ k ≠ gl ∧ k ≠ gown) ∧ some k ≠ (Value.slice A l.length cl).ownBlock) (fun k => w9.heap.size ≤ k ∧ k < w10.heap.size) rfl rfl H10.out.2.2.1 (fun k hk => H10.out.2.2.2.1 k hk.1) (fun k hk => (H10.out.2.2.2.1 k (Nat.le_trans H10.out.2.2.2.2.1 hk)).1) H10.out.2.1 H10.out.1.2.2.2.2.2.2.2.1 (Nat.le_trans H10.out.2.2.2.2.2 H10.out.2.2.2.2.1) (by omega) ?_; intro v1 w1 ho1 hb1 hg1 _; obtain ⟨b1v, A1, co1, rfl, hp1⟩ := H10.out.1.found ho1 hb1 hg1; have H1 := Aside0.mk hp1; have c1v := blk_cell b1v 0; have f1v := blk_frozen b1v 0; clear ho1 hb1 hg1 hp1 b1v))
  all_goals go_wp2
  all_goals (first | go_end0 | ((try simp only [Exit.inBlock, Exit.then]); refine bodyPost_ret (results_none rfl _ _ _) rfl ?_))
  all_goals
    have h2 := H1.out
    simp only [List.length_append, List.length_cons, List.length_nil, Nat.zero_add] at h2
    exact ⟨rfl, _, _, h2⟩
theorem allL_len (n : Nat) : ∀ (d : Nat) (l : List Int), (allL n d l).length ≤ (n + 1) ^ d := by
  intro d
  induction d with
  | zero => intro l; simp [allL]
  | succ d ih =>
    intro l
    have key : ∀ (c : Nat) (f : Nat → List (List Int)), (∀ i, (f i).length ≤ (n + 1) ^ d) → ((List.range c).flatMap f).length ≤ c * (n + 1) ^ d := by
      intro c f hf
      induction c with
      | zero => simp
      | succ c ihn => rw [List.range_succ, List.flatMap_append, List.length_append, Nat.succ_mul]; simp only [List.flatMap_cons, List.flatMap_nil, List.append_nil]; have := hf c; omega
    unfold allL
    refine Nat.le_trans (key _ _ (fun i => ih _)) ?_
    rw [Nat.pow_succ, Nat.mul_comm]
    exact Nat.mul_le_mul_left _ (by omega)
theorem allL_succ (n d : Nat) (l : List Int) : allL n (d + 1) l = (List.range (n + 1 - (l.getLastD 0).toNat)).flatMap fun i => allL n d (l ++ [(((l.getLastD 0).toNat + i : Nat) : Int)]) := by rw [allL]
theorem hv_flat {α : Type} (f : Nat → List α) {i c : Nat} (h : i ≤ c) : ((List.range i).flatMap f).length ≤ ((List.range c).flatMap f).length := by
  obtain ⟨j, rfl⟩ := Nat.le.dest h
  rw [List.range_add, List.flatMap_append, List.length_append]
  omega
theorem hv_last (l : List Int) : l.getLastD 0 = if l.length = 0 then 0 else rd l ((l.length : Int) - 1) := by
  rcases List.eq_nil_or_concat l with rfl | ⟨t, x, rfl⟩
  · rfl
  · rw [if_neg (by simp), List.concat_eq_append]
    unfold rd
    rw [show (((t ++ [x]).length : Int) - 1).toNat = t.length from by rw [List.length_append, List.length_singleton]; omega]
    simp
set_option maxHeartbeats 4000000 in
set_option maxRecDepth 4000 in
theorem hv_row {w0 : World} {gl gn gown gout gx n c0 k : Nat} {A0 : Option Addr} {l0 : List Int} (hn : n ≤ 6) (hc0 : l0.length ≤ c0) (hl0 : Kd.C (Kd.int .i64) w0 A0 l0.length l0) :
    ∀ (d : Nat) (l : List Int) (out : List (List Int)) (w : World), l.length + d = n → 0 ≤ l.getLastD 0 → (∀ q ∈ allL n d l, okH k l0 q = true) → out.length + (allL n d l).length ≤ 1000000 → (∃ A cl Ao co, HvP w0 gl gn gown gout gx n A0 c0 l0 A cl Ao co l out w) →
    Calls Try.prog 52 #[.pointer (some ⟨gl, 0, none⟩), .pointer (some ⟨gn, 0, none⟩), .pointer (some ⟨gown, 0, none⟩), .pointer (some ⟨gout, 0, none⟩), .pointer (some ⟨gx, 0, none⟩)] w fun e w' => e = .returned (.tuple #[]) ∧ ∃ A cl Ao co, HvP w0 gl gn gown gout gx n A0 c0 l0 A cl Ao co l (out ++ (allL n d l).filter fun q => impl_factors.f k q == some l0) w' := by
  have HL0 := Aside0.mk hl0
  clear hl0
  intro d
  induction d with
  | zero =>
    intro l out w hd _ hok hlen ⟨A, cl, Ao, co, h⟩
    obtain rfl : n = l.length := by omega
    obtain ⟨fl, hf, he⟩ := okH_ok (hok l (by simp [allL]))
    simp only [allL, List.length_singleton] at hlen ⊢
    by_cases hfl : fl = l0
    · subst hfl
      rw [decide_eq_true rfl] at he
      refine (hv_yes hc0 hn (by omega) HL0.out h hf he).mono ?_
      rintro e w' ⟨rfl, A1, co1, h1⟩
      refine ⟨rfl, A, cl, A1, co1, ?_⟩
      rw [List.filter_cons_of_pos (by rw [hf]; exact beq_self_eq_true _)]
      exact h1
    · rw [decide_eq_false hfl] at he
      refine (hv_no hc0 HL0.out h hf he).mono ?_
      rintro e w' ⟨rfl, h1⟩
      refine ⟨rfl, A, cl, Ao, co, ?_⟩
      rw [List.filter_cons_of_neg (by rw [hf]; intro hh; exact hfl (Option.some.inj (eq_of_beq hh))), List.filter_nil, List.append_nil]
      exact h1
  | succ d ih =>
    intro l out w hd hls hok hlen ⟨A, cl, Ao, co, h⟩
    have HIH := Aside0.mk ih
    clear ih
    have hlt : l.length < n := by omega
    obtain ⟨ls, hls2⟩ : ∃ ls : Nat, l.getLastD 0 = (ls : Int) := ⟨(l.getLastD 0).toNat, by omega⟩
    obtain ⟨cand, hcand⟩ : ∃ cand : Nat → List (List Int), cand = fun i => allL n d (l ++ [((ls + i : Nat) : Int)]) := ⟨_, rfl⟩
    obtain ⟨cnt, hcnt⟩ : ∃ cnt : Nat, cnt = n + 1 - ls := ⟨_, rfl⟩
    have HALL := Aside0.mk (show allL n (d + 1) l = (List.range cnt).flatMap cand by rw [hcand, hcnt, allL_succ, hls2, Int.toNat_natCast])
    rw [HALL.out] at hok hlen
    have HOK := Aside0.mk hok
    have HLEN := Aside0.mk hlen
    have HC := Aside0.mk hcand
    have HLS := Aside0.mk hls2
    clear hok hlen hcand hls hls2
    have hne : ((l.length : Int) == (n : Int)) = false := by simp; omega
    have c1 := blk_cell h.1 0
    have c2 := blk_cell h.2.1 0
    obtain ⟨hlcap, hlC⟩ := h.reads
    have HI := Aside0.mk (show ∃ A cl Ao co, HvP w0 gl gn gown gout gx n A0 c0 l0 A cl Ao co l out w from ⟨A, cl, Ao, co, h⟩)
    have INF := Aside0.mk (show (Try.prog.info? 3).map (fun i => (i.zero, i.size, i.bytes)) = some (some (.int .i64 0), 1, 8) by kernel_rfl)
    clear h
    by_cases hl : l.length = 0
    case' pos =>
      have hls0 := Aside0.mk (show ls = 0 by have := HLS.out; rw [hv_last, if_pos hl] at this; omega)
      have hpos : decide (0 < l.length) = false := decide_eq_false (by omega)
      have hpos' : decide (0 < (l.length : Int)) = false := decide_eq_false (by omega)
      clear hlC hlcap hl
      go_enter Try.func52, Try.ntmps52
      go_wp2_with fail
    case' neg =>
      have hpos : decide (0 < l.length) = true := decide_eq_true (by omega)
      have hpos' : decide (0 < (l.length : Int)) = true := decide_eq_true (by omega)
      obtain ⟨ji, hji⟩ : ∃ j_ : Int, (wrap64 ((l.length : Int) - 1)) = j_ := ⟨_, rfl⟩
      have hjiw : (IntKind.i64.wrap ((l.length : Int) - 1)) = ji := (i64_w _).trans hji
      have hj2 : ji = (l.length : Int) - 1 := by rw [← hji]; unfold wrap64; omega
      have p1 : 0 ≤ ji := by omega
      have q1 : ji < (l.length : Int) := by omega
      obtain ⟨ad, e1, hx⟩ := Kd.at_int hlC ji p1 q1
      have hrd : rd l ji = (ls : Int) := by rw [← HLS.out, hv_last, if_neg hl, hj2]
      rw [hrd] at hx
      cases e1
      replace p1 := eq_true p1
      replace q1 := eq_true q1
      clear hlC hj2 hrd
      go_enter Try.func52, Try.ntmps52
      go_wp2_with fail
    all_goals
      go_loopw [6] (fun v6 w' => ∃ (i m : Nat), i ≤ cnt ∧ Aside0 (m = ls + i) ∧ v6 = .int .i64 (m : Int) ∧ Aside0 (∃ A cl Ao co, HvP w0 gl gn gown gout gx n A0 c0 l0 A cl Ao co l (out ++ ((List.range i).flatMap cand).filter fun q => impl_factors.f k q == some l0) w')) (fun v6 _ => ((n : Int) + 1 - intOf v6).toNat)
      case atStart => exact ⟨0, ls, by omega, ⟨rfl⟩, by first | rfl | (rw [hls0.out]; rfl), ⟨by rw [List.range_zero, List.flatMap_nil, List.filter_nil, List.append_nil]; exact HI.out⟩⟩
      case round =>
        clear HI c1 c2
        obtain ⟨i, m, hi, ⟨hm⟩, rfl, ⟨A1, cl1, Ao1, co1, h1⟩⟩ := hrel
        by_cases hic : i < cnt
        · have hle : decide ((m : Int) ≤ (n : Int)) = true := decide_eq_true (by omega)
          have hle' : decide (m ≤ n) = true := decide_eq_true (by omega)
          have c1 := blk_cell h1.1 0
          have f1 := blk_frozen h1.1 0
          have c2 := blk_cell h1.2.1 0
          have H1 := Aside0.mk h1
          have HM := Aside0.mk hm
          have HCI := Aside0.mk (show cand i = allL n d (l ++ [((ls + i : Nat) : Int)]) by rw [HC.out])
          have hmn : m ≤ n := by omega
          have HW := Aside0.mk (show wrap64 ((m : Int) + 1) = ((m + 1 : Nat) : Int) by unfold wrap64; omega)
          clear h1 hm
          go_wp2_with (first
            | ((with_reducible refine gate_builtin (b := .append) (xs := #[.tmp 35, .tmp 37]) rfl ?_); at_builtin; refine Kd.R_append (Kd.int .i64) (w0 := w0) w0.heap.size rfl (.tmp 35) (.tmp 37) 22 3 (.int .i64 0) 8 rfl Try.underlying22 INF.out rfl (by decide) (by omega) (.slice A1 l.length cl1) l (m : Int) [.int .i64 (m : Int)] (fun k => k ≠ gn) (fun _ => False) rfl rfl rfl (fun _ hk => hk.elim) (fun k hk => by have := blk_lt H1.out.2.1; omega) H1.out.2.2.2.2.2.1 H1.out.2.2.2.2.2.2.2.1 H1.out.2.2.2.2.2.2.2.1.size (by omega) ?_; intro v1 w1 ho hb hg hat; obtain ⟨b2, A2, cl2, ev, h2⟩ := H1.out.push ho hb hg hat; obtain ⟨L2, hL2⟩ : ∃ L2, L2 = (l ++ [(m : Int)]).length := ⟨_, rfl⟩; rw [← hL2] at ev; clear hL2 ho hb hg hat; subst ev; clear c1 f1; have c1 := blk_cell b2 0; have f1 := blk_frozen b2 0; have c5 := blk_cell h2.2.2.2.2.1 0; have H2 := Aside0.mk h2; clear b2 h2))
          refine (HIH.out (l ++ [(m : Int)]) _ _ (by rw [List.length_append, List.length_singleton]; omega) (by simp) (fun q hq => HOK.out q (List.mem_flatMap.2 ⟨i, List.mem_range.2 hic, by rw [HC.out]; rwa [HM.out] at hq⟩)) ?len ⟨_, _, _, _, H2.out⟩).mono ?_
          case len =>
            have e1 := hv_flat cand (show i + 1 ≤ cnt from hic)
            rw [List.range_succ, List.flatMap_append, List.length_append, List.flatMap_singleton] at e1
            have e2 := List.length_filter_le (fun q => impl_factors.f k q == some l0) ((List.range i).flatMap cand)
            have e3 := HLEN.out
            rw [List.length_append, HM.out, ← HCI.out]
            omega
          rintro e w3 ⟨rfl, A3, cl3, Ao3, co3, h3⟩
          obtain ⟨L1, hL1⟩ : ∃ L1, L1 = (l ++ [(m : Int)]).length := ⟨_, rfl⟩
          have hL2 : L1 = l.length + 1 := by rw [hL1, List.length_append, List.length_singleton]
          have c1 := blk_cell h3.1 0
          have f1 := blk_frozen h3.1 0
          have hcap := h3.reads.1
          rw [← hL1] at c1 hcap
          obtain ⟨jt, hjt⟩ : ∃ j_ : Int, (wrap64 ((L1 : Int) - 1)) = j_ := ⟨_, rfl⟩
          have hjtw : (IntKind.i64.wrap ((L1 : Int) - 1)) = jt := (i64_w _).trans hjt
          have hjt2 : jt = (l.length : Int) := by rw [← hjt]; unfold wrap64; omega
          obtain ⟨i0, hi0, _, hsz, _⟩ := info_parts INF.out
          have hcut := cut_to (P := Try.prog) 22 3 .i64 Try.underlying22 hi0 A3 L1 cl3 jt (by omega) (by omega) hcap
          have H3 := Aside0.mk (h3.pop (j := jt.toNat) (by omega))
          clear h3 hL1 hL2 hjt2 hi0 hsz
          go_wp2_with fail
          go_roundw
          case rel => exact ⟨i + 1, m + 1, by omega, ⟨by have := HM.out; omega⟩, by go_num, ⟨_, _, _, _, by rw [List.range_succ, List.flatMap_append, List.flatMap_singleton, List.filter_append, ← List.append_assoc, HCI.out, ← HM.out]; exact H3.out⟩⟩
          case measure => simp [intOf]; omega
        · have hle : decide ((m : Int) ≤ (n : Int)) = false := decide_eq_false (by omega)
          have hle' : decide (m ≤ n) = false := decide_eq_false (by omega)
          have c2 := blk_cell h1.2.1 0
          obtain rfl : i = cnt := by omega
          have H1 := Aside0.mk h1
          clear h1 hm
          go_wp2
          first | go_end0 | ((try simp only [Exit.inBlock, Exit.then]); refine bodyPost_ret (results_none rfl _ _ _) rfl ?_)
          exact ⟨rfl, _, _, _, _, by rw [HALL.out]; exact H1.out⟩
theorem impl_having.mono : ∀ a0 k, LeO (impl_having.f k a0) (impl_having.f (k + 1) a0) := by
  intro l0 k
  unfold impl_having.f
  by_cases h : l0.length ≤ 6 ∧ ((allL l0.length l0.length []).all (okH k l0)) = true
  · have hu : ∀ q ∈ allL l0.length l0.length [], okH (k + 1) l0 q = true ∧ impl_factors.f (k + 1) q = impl_factors.f k q := by
      intro q hq
      obtain ⟨fl, hf, he⟩ := okH_ok (List.all_eq_true.1 h.2 q hq)
      have hf' := impl_factors.mono q k _ hf
      have he' := slices_Equal_int_int.mono fl l0 k _ he
      refine ⟨?_, by rw [hf', hf]⟩
      unfold okH
      rw [hf']
      simp only [he']
      exact beq_self_eq_true _
    rw [if_pos h, if_pos ⟨h.1, List.all_eq_true.2 fun q hq => (hu q hq).1⟩]
    have : (allL l0.length l0.length []).filter (fun l => impl_factors.f k l == some l0) = (allL l0.length l0.length []).filter (fun l => impl_factors.f (k + 1) l == some l0) := List.filter_congr fun q hq => by rw [(hu q hq).2]
    rw [this]
    exact LeO.refl _
  · rw [if_neg h]; exact LeO.none _
theorem hv_start {w w1 w2 w3 w4 w5 w6 w9 : World} {gown gn gout gl gx c0 cl cv : Nat} {A0 Al Av : Option Addr} {l0 : List Int} {V : Value} (hV : V = .func (.func 52) #[] #[.pointer (some ⟨gl, 0, none⟩), .pointer (some ⟨gn, 0, none⟩), .pointer (some ⟨gown, 0, none⟩), .pointer (some ⟨gout, 0, none⟩), .pointer (some ⟨gx, 0, none⟩)])
    (GO : gown = w.heap.size) (BO : w1.heap[gown]? = some (.cells #[.slice A0 l0.length c0] 22 (0, 0))) (HB1 : Below w.heap.size w w1)
    (HS : Kd.S (Kd.slice 3 (Kd.int .i64)) 22 w2 w1.heap.size (fun _ => True) (.slice Av 0 cv) []) (HB2 : Below w1.heap.size w1 w2) (HL : Kd.R (Kd.int .i64) 3 w3 w2.heap.size (fun _ => True) (.slice Al 0 cl) []) (HB3 : Below w2.heap.size w2 w3)
    (GN : gn = w3.heap.size) (BN : w4.heap[gn]? = some (.cells #[.int .i64 0] 3 (0, 0))) (HB4 : Below w3.heap.size w3 w4) (GT : gout = w4.heap.size) (BT : w5.heap[gout]? = some (.cells #[.slice none 0 0] 29 (0, 0))) (HB5 : Below w4.heap.size w4 w5)
    (GL : gl = w5.heap.size) (BL : w6.heap[gl]? = some (.cells #[.slice none 0 0] 22 (0, 0))) (HB6 : Below w5.heap.size w5 w6)
    {W : World} (hW : W = ((w6.setCell ⟨gn, 0, none⟩ (.int .i64 (l0.length : Int))).setCell ⟨gout, 0, none⟩ (.slice Av 0 cv)).setCell ⟨gl, 0, none⟩ (.slice Al 0 cl)) (BX : w9.heap[gx]? = some (.cells #[.nilFunc] 1 (0, 0))) (GX : gx = W.heap.size) (HB9 : Below W.heap.size W w9) :
    HvP w gl gn gown gout gx l0.length A0 c0 l0 Al cl Av cv [] [] (w9.setCell ⟨gx, 0, none⟩ V) := by
  have s1 := HB1.size
  have s2 := HB2.size
  have s3 := HB3.size
  have s4 := HB4.size
  have s5 := HB5.size
  have s6 := HB6.size
  have lo := blk_lt BO
  have ln4 := blk_lt BN
  have lt5 := blk_lt BT
  have ll6 := blk_lt BL
  have T6 : Below w.heap.size w w6 := below_step (below_step (below_step (below_step (below_step HB1 HB2) HB3) HB4) HB5) HB6
  have TW : Below w.heap.size w W := by rw [hW]; exact below_set (below_set (below_set T6 (by omega)) (by omega)) (by omega)
  have T9 : Below w.heap.size w w9 := below_step TW HB9
  have sW := TW.size
  have bo6 := blk_below (blk_below (blk_below (blk_below (blk_below BO HB2) HB3) HB4) HB5) HB6
  have bn6 := blk_below (blk_below BN HB5) HB6
  have bt6 := blk_below BT HB6
  have HS6 := Kd.S_below (Kd.S_below (Kd.S_below (Kd.S_below (Kd.S_mono (ok' := fun k => w1.heap.size ≤ k ∧ k < w2.heap.size) (Kd.S_bound HS) (fun k hk => ⟨hk.2.1, hk.2.2.1⟩)) HB3) HB4) HB5) HB6
  have HL6 := Kd.R_below (Kd.R_below (Kd.R_below (Kd.R_mono (ok' := fun k => w2.heap.size ≤ k ∧ k < w3.heap.size) (Kd.R_bound HL) (fun k hk => ⟨hk.2.1, hk.2.2.1⟩)) HB4) HB5) HB6
  have bn7 := blk_put (cs' := #[.int .i64 (l0.length : Int)]) bn6 0 (.int .i64 (l0.length : Int)) rfl
  have bt7 := blk_far (p := ⟨gn, 0, none⟩) bt6 (by show gout ≠ gn; omega) (.int .i64 (l0.length : Int))
  have bl7 := blk_far (p := ⟨gn, 0, none⟩) BL (by show gl ≠ gn; omega) (.int .i64 (l0.length : Int))
  have bo7 := blk_far (p := ⟨gn, 0, none⟩) bo6 (by show gown ≠ gn; omega) (.int .i64 (l0.length : Int))
  have HS7 := Kd.S_far (p := ⟨gn, 0, none⟩) HS6 (fun k hk => by show k ≠ gn; omega) (.int .i64 (l0.length : Int))
  have HL7 := Kd.R_far (p := ⟨gn, 0, none⟩) HL6 (fun k hk => by show k ≠ gn; omega) (.int .i64 (l0.length : Int))
  have bt8 := blk_put (cs' := #[.slice Av 0 cv]) bt7 0 (.slice Av 0 cv) rfl
  have bn8 := blk_far (p := ⟨gout, 0, none⟩) bn7 (by show gn ≠ gout; omega) (.slice Av 0 cv)
  have bl8 := blk_far (p := ⟨gout, 0, none⟩) bl7 (by show gl ≠ gout; omega) (.slice Av 0 cv)
  have bo8 := blk_far (p := ⟨gout, 0, none⟩) bo7 (by show gown ≠ gout; omega) (.slice Av 0 cv)
  have HS8 := Kd.S_far (p := ⟨gout, 0, none⟩) HS7 (fun k hk => by show k ≠ gout; omega) (.slice Av 0 cv)
  have HL8 := Kd.R_far (p := ⟨gout, 0, none⟩) HL7 (fun k hk => by show k ≠ gout; omega) (.slice Av 0 cv)
  have bl9 := blk_put (cs' := #[.slice Al 0 cl]) bl8 0 (.slice Al 0 cl) rfl
  have bn9 := blk_far (p := ⟨gl, 0, none⟩) bn8 (by show gn ≠ gl; omega) (.slice Al 0 cl)
  have bt9 := blk_far (p := ⟨gl, 0, none⟩) bt8 (by show gout ≠ gl; omega) (.slice Al 0 cl)
  have bo9 := blk_far (p := ⟨gl, 0, none⟩) bo8 (by show gown ≠ gl; omega) (.slice Al 0 cl)
  have HS9 := Kd.S_far (p := ⟨gl, 0, none⟩) HS8 (fun k hk => by show k ≠ gl; omega) (.slice Al 0 cl)
  have HL9 := Kd.R_far (p := ⟨gl, 0, none⟩) HL8 (fun k hk => by show k ≠ gl; omega) (.slice Al 0 cl)
  rw [← hW] at bl9 bn9 bt9 bo9 HS9 HL9
  have ll := blk_lt bl9
  have ln := blk_lt bn9
  have lt := blk_lt bt9
  have lo9 := blk_lt bo9
  have HS10 := Kd.S_far (p := ⟨gx, 0, none⟩) (Kd.S_below HS9 HB9) (fun k hk => by show k ≠ gx; omega) V
  have HL10 := Kd.R_far (p := ⟨gx, 0, none⟩) (Kd.R_below HL9 HB9) (fun k hk => by show k ≠ gx; omega) V
  refine ⟨blk_far (p := ⟨gx, 0, none⟩) (blk_below bl9 HB9) (by show gl ≠ gx; omega) _, blk_far (p := ⟨gx, 0, none⟩) (blk_below bn9 HB9) (by show gn ≠ gx; omega) _, blk_far (p := ⟨gx, 0, none⟩) (blk_below bo9 HB9) (by show gown ≠ gx; omega) _, blk_far (p := ⟨gx, 0, none⟩) (blk_below bt9 HB9) (by show gout ≠ gx; omega) _, by rw [hV]; exact blk_put BX 0 _ rfl, Kd.R_mono (Kd.R_lower HL10 (by omega)) (fun k hk => by omega), Kd.S_mono (Kd.S_lower HS10 (by omega)) (fun k hk => ⟨⟨by omega, by omega, by omega⟩, fun e => by have := HL10.1 k e.symm; omega⟩), below_set T9 (by omega), by omega, by omega, by omega⟩
set_option maxHeartbeats 2000000 in
set_option maxRecDepth 4000 in
theorem impl_having.calls (k : Nat) (A0 : Option Addr) (c0 : Nat) (l0 : List Int) (r : List (List Int)) (w : World) (hr0 : Kd.C (Kd.int .i64) w A0 l0.length l0) (hc0 : l0.length ≤ c0) (h : impl_having.f k l0 = some r) :
    Calls Try.prog 32 #[.slice A0 l0.length c0] w fun e w' => ∃ v0_ : Value, e = .returned (v0_) ∧ Kd.S (Kd.slice 3 (Kd.int .i64)) 22 w' w.heap.size (fun _ => True) v0_ r ∧ Below w.heap.size w w' := by
  unfold impl_having.f at h
  by_cases hc : l0.length ≤ 6 ∧ ((allL l0.length l0.length []).all (okH k l0)) = true
  case neg => rw [if_neg hc] at h; exact absurd h (by simp)
  rw [if_pos hc] at h
  have HRes := Aside0.mk (Option.some.inj h)
  have HOK := Aside0.mk (List.all_eq_true.1 hc.2)
  have h6 := hc.1
  clear h hc
  have HR0 := Aside0.mk hr0
  clear hr0
  obtain ⟨n, hn⟩ : ∃ n, n = l0.length := ⟨_, rfl⟩
  have HN := Aside0.mk hn
  go_enter Try.func32, Try.ntmps32
  go_wp2_with (first
    | ((with_reducible refine gate_dst (N := 1) rfl ?_); refine box_event ?hg (N := 1) ?hd (cs := #[.slice A0 l0.length c0]) (t := 22) ?hr ?_; (case hd => rfl); (case hg => rfl); (case hr => first | (go_simp; done) | (go_simp; rfl)); intro gown hgown w1 bo hb1; have co1 := blk_cell bo 0; have GO := Aside0.mk hgown; have BO := Aside0.mk bo; have HB1 := Aside0.mk hb1; clear hgown bo hb1)
    | ((with_reducible refine gate_dst (N := 9) rfl ?_); refine Kd.S_lit (Kd.slice 3 (Kd.int .i64)) (w0 := w1) w1.heap.size 22 ?hg (N := 9) ?hd (xs := ([] : List (List Int))) (inner := []) (ok := fun _ => True) (okp := fun _ => True) ?hr ?hp (fun _ hk => hk) trivial (Below.refl _ _) (Nat.le_refl _) (by simp) ?_; (case hd => rfl); (case hg => rfl); (case hr => first | (go_simp; done) | (go_simp; rfl)); (case hp => exact (Reps.none _ _)); intro v1 w2 ho hb2 hgr2 hnw2; obtain ⟨Av, cv, ev⟩ := Kd.S_slice ho; rw [List.length_nil] at ev; subst ev; have HS := Aside0.mk ho; have HB2 := Aside0.mk hb2; clear ho hb2 hgr2 hnw2 co1)
    | ((with_reducible refine gate_dst (N := 10) rfl ?_); refine Kd.R_lit (Kd.int .i64) (w0 := w2) w2.heap.size 3 ?hg (N := 10) ?hd (xs := ([] : List Int)) (inner := []) (ok := fun _ => True) (okp := fun _ => True) ?hr ?hp (fun _ hk => hk) trivial (Below.refl _ _) (Nat.le_refl _) (by simp) ?_; (case hd => rfl); (case hg => rfl); (case hr => first | (go_simp; done) | (go_simp; rfl)); (case hp => exact (Reps.none _ _)); intro v2 w3 ho hb3 hgr3 hnw3; obtain ⟨Al, cl, ev⟩ := Kd.R_slice ho; rw [List.length_nil] at ev; subst ev; have HL := Aside0.mk ho; have HB3 := Aside0.mk hb3; clear ho hb3 hgr3 hnw3)
    | ((with_reducible refine gate_dst (N := 3) rfl ?_); refine box_event ?hg (N := 3) ?hd (cs := #[.int .i64 0]) (t := 3) ?hr ?_; (case hd => rfl); (case hg => rfl); (case hr => first | (go_simp; done) | (go_simp; rfl)); intro gn hgn w4 bn hb4; have GN := Aside0.mk hgn; have BN := Aside0.mk bn; have HB4 := Aside0.mk hb4; clear hgn bn hb4)
    | ((with_reducible refine gate_dst (N := 4) rfl ?_); refine box_event ?hg (N := 4) ?hd (cs := #[.slice none 0 0]) (t := 29) ?hr ?_; (case hd => rfl); (case hg => rfl); (case hr => first | (go_simp; done) | (go_simp; rfl)); intro gout hgout w5 bt hb5; have GT := Aside0.mk hgout; have BT := Aside0.mk bt; have HB5 := Aside0.mk hb5; clear hgout bt hb5)
    | ((with_reducible refine gate_dst (N := 5) rfl ?_); refine box_event ?hg (N := 5) ?hd (cs := #[.slice none 0 0]) (t := 22) ?hr ?_; (case hd => rfl); (case hg => rfl); (case hr => first | (go_simp; done) | (go_simp; rfl)); intro gl hgl w6 bl hb6; have GL := Aside0.mk hgl; have BL := Aside0.mk bl; have HB6 := Aside0.mk hb6; have bn6 := blk_below (blk_below BN.out HB5.out) hb6; have bt6 := blk_below BT.out hb6; have q1 := blk_cell bn6 0; have q2 := blk_frozen bn6 0; have bt7 := blk_far (p := ⟨gn, 0, none⟩) bt6 (blk_ne bt6 bn6 (by decide)) (.int .i64 (l0.length : Int)); have q3 := blk_cell bt7 0; have q4 := blk_frozen bt7 0; have bl7 := blk_far (p := ⟨gn, 0, none⟩) bl (blk_ne bl bn6 (by decide)) (.int .i64 (l0.length : Int)); have bl8 := blk_far (p := ⟨gout, 0, none⟩) bl7 (blk_ne bl7 bt7 (by decide)) (.slice Av 0 cv); have q5 := blk_cell bl8 0; have q6 := blk_frozen bl8 0; clear hgl bl hb6 bn6 bt6 bt7 bl7 bl8)
    | ((with_reducible refine gate_dst (N := 6) rfl ?_); refine box_event ?hg (N := 6) ?hd (cs := #[.nilFunc]) (t := 1) ?hr ?_; (case hd => rfl); (case hg => rfl); (case hr => first | (go_simp; done) | (go_simp; rfl)); intro gx hgx w9 bx hb9; have GX := Aside0.mk hgx; have BX := Aside0.mk bx; have HB9 := Aside0.mk hb9; have cr0 : w9.cell? ⟨gx, 0, none⟩ = some .nilFunc := (blk_cell bx 0).trans rfl; have fr0 := blk_frozen bx 0; have cr1 := blk_cell (blk_put (cs' := #[.func (.func 52) #[] #[.pointer (some ⟨gl, 0, none⟩), .pointer (some ⟨gn, 0, none⟩), .pointer (some ⟨gown, 0, none⟩), .pointer (some ⟨gout, 0, none⟩), .pointer (some ⟨gx, 0, none⟩)]]) bx 0 (.func (.func 52) #[] #[.pointer (some ⟨gl, 0, none⟩), .pointer (some ⟨gn, 0, none⟩), .pointer (some ⟨gown, 0, none⟩), .pointer (some ⟨gout, 0, none⟩), .pointer (some ⟨gx, 0, none⟩)]) rfl) 0; clear hgx bx hb9 q1 q2 q3 q4 q5 q6)
    )
  clear cr0 fr0 cr1
  have H0 := hv_start (l0 := l0) rfl GO.out BO.out HB1.out HS.out HB2.out HL.out HB3.out GN.out BN.out HB4.out GT.out BT.out HB5.out GL.out BL.out HB6.out rfl BX.out GX.out HB9.out
  have hlen := allL_len l0.length l0.length []
  have h7 : (l0.length + 1) ^ l0.length ≤ 1000000 := Nat.le_trans (Nat.pow_le_pow_left (by omega : l0.length + 1 ≤ 7) _) (Nat.le_trans (Nat.pow_le_pow_right (by omega) (by omega : l0.length ≤ 6)) (by decide))
  refine (hv_row (k := k) h6 hc0 HR0.out l0.length [] [] _ (by simp) (by simp) HOK.out (by rw [List.length_nil]; omega) ⟨_, _, _, _, H0⟩).mono ?_
  rintro e w10 ⟨rfl, A10, cl10, Ao10, co10, h10⟩
  obtain ⟨L, hL⟩ : ∃ L, L = ([] ++ (allL l0.length l0.length []).filter fun q => impl_factors.f k q == some l0) := ⟨_, rfl⟩
  rw [← hL] at h10
  have HL := Aside0.mk hL
  have cv10 := blk_cell h10.2.2.2.1 0
  have HO := Aside0.mk (Kd.S_mono h10.2.2.2.2.2.2.1 (fun _ _ => trivial) (ok' := fun _ => True))
  have HB := Aside0.mk h10.2.2.2.2.2.2.2.1
  clear h10 hL H0 hlen h7
  go_wp2
  go_ret
  exact ⟨_, rfl, by rw [← HRes.out]; have := HL.out; rw [List.nil_append] at this; rw [← this]; exact HO.out, HB.out⟩

/-! ### impl_within: function 50 -/
def impl_within.f (a0 : Int) (a1 : Int) (a2 : Int) : Option (Bool) := if a1 ≤ a0 then (some (decide (a0 ≤ a2))) else (some false)
set_option maxHeartbeats 8000000 in
set_option maxRecDepth 100000 in
theorem impl_within.calls (a0 : Int) (a1 : Int) (a2 : Int) (r : Bool) (w : World) (h : impl_within.f a0 a1 a2 = some r) :
    Calls Try.prog 50 #[.int .i64 a0, .int .i64 a1, .int .i64 a2] w fun e w' => e = .returned (.bool r) ∧ Drawn0 w w' := by
  have H : (if a1 ≤ a0 then (some (decide (a0 ≤ a2))) else (some false)) = some r := h
  clear h
  by_cases c4 : a1 ≤ a0
  · rw [if_pos c4] at H
    have c4b0 : decide (a1 ≤ a0) = true := decide_eq_true c4
    clear c4
    obtain rfl := Option.some.inj H
    go_enter Try.func50, Try.ntmps50
    go_wp2
    go_ret
    exact ⟨by first | rfl | (simp; done) | (simp [*]; done), by repeat (first | exact Drawn0.refl _ | apply Drawn0.step)⟩
  · rw [if_neg c4] at H
    have c4b0 : decide (a1 ≤ a0) = false := decide_eq_false c4
    clear c4
    obtain rfl := Option.some.inj H
    go_enter Try.func50, Try.ntmps50
    go_wp2
    go_ret
    exact ⟨by first | rfl | (simp; done) | (simp [*]; done), by repeat (first | exact Drawn0.refl _ | apply Drawn0.step)⟩

/-! ### impl_isSide: function 30 -/
def impl_isSide.f (a0 : Int) : Option (Bool) := (impl_within.f a0 1 6).bind fun t226 => (some t226)
set_option maxHeartbeats 8000000 in
set_option maxRecDepth 100000 in
theorem impl_isSide.calls (a0 : Int) (r : Bool) (w : World) (h : impl_isSide.f a0 = some r) :
    Calls Try.prog 30 #[.int .i64 a0] w fun e w' => e = .returned (.bool r) ∧ Drawn0 w w' := by
  have H : ((impl_within.f a0 1 6).bind fun t226 => (some t226)) = some r := h
  clear h
  replace H := Option.bind_eq_some_iff.mp H
  obtain ⟨t226, A20, H⟩ := H
  replace H : (some t226) = some r := H
  have A2 := Aside0.mk A20
  clear A20
  obtain rfl := Option.some.inj H
  go_enter Try.func30, Try.ntmps30
  go_wp2_with (first | ((with_reducible refine gate_callee (f := 50) rfl ?_); refine goesL_ (some 4) rfl rfl Try.func50 (by kernel_rfl) rfl #[.int .i64 a0, .int .i64 1, .int .i64 6] rfl (by (try simp only [List.map_toArray, List.map_cons, List.map_nil]); first | done | rfl | (simp only [List.length_drop, List.length_take]; rfl)) ?_; (with_reducible refine (impl_within.calls a0 1 6 t226 _ A2.out).mono ?_); rintro e w' ⟨rfl, ⟨nd, rfl⟩⟩; refine ⟨_, rfl, ?_⟩))
  go_ret
  exact ⟨by first | rfl | (simp; done) | (simp [*]; done), by repeat (first | exact Drawn0.refl _ | apply Drawn0.step)⟩

end Go.Proofs.Ytbjijnehgjfhlaa.PFnExactClassOf
