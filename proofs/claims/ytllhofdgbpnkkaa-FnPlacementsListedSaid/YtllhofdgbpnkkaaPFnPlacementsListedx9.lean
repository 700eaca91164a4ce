-- Printed for this claim by wip/pp.py over the kit's printer; Lean checks it.
import Derived.Test.YtllhofdgbpnkkaaPFnPlacementsListedx0
import Derived.Test.YtllhofdgbpnkkaaPFnPlacementsListedx5
import Derived.Test.YtllhofdgbpnkkaaPFnPlacementsListedx8
namespace Go.Proofs.Ytllhofdgbpnkkaa.PFnPlacementsListed
open Go.RowKit Go.Proofs.YtllhofdgbpnkkaaW.PrintWords Go.Proofs.YtllhofdgbpnkkaaW.PrintLast Go.Proofs.YtllhofdgbpnkkaaW.PrintMore
attribute [local go_sem] max2_int min2_int max_two min_two max_three min_three max_four min_four   -- for this text's walks alone
set_option linter.unusedVariables false
set_option linter.unusedSimpArgs false

/-! ### spec_roAll: function 105 -/
mutual
def spec_roAll.l0 : Nat → List Int → Int → Int → Int → List (List Int) → Int → Int → Int → List Int → Option ((List (List Int)))
 | 0, _, _, _, _, _, _, _, _, _ => none
 | k + 1, x1, x2, x3, x9, x10, x11, x297000, x297001, x297002 => if x11 < x297001 then (spec_roAll.j1 k x1 x2 x3 x9 x10 x11 (decide ((x10.length : Int) < x3)) x297000 x297001 x297002) else (spec_roAll.j1 k x1 x2 x3 x9 x10 x11 false x297000 x297001 x297002)
def spec_roAll.j1 : Nat → List Int → Int → Int → Int → List (List Int) → Int → Bool → Int → Int → List Int → Option ((List (List Int)))
 | 0, _, _, _, _, _, _, _, _, _, _ => none
 | k + 1, x1, x2, x3, x9, x10, x11, x38, x297000, x297001, x297002 => if x38 = true then (if x11 = (-1) then ((spec_l1Own.f x1).bind fun t303 => ((some (([(-1)] : List Int) : List Int)).bind fun y306 => (if t303.length + y306.length < 17592186044416 then ((spec_roAll.f k x297000 x297001 x297002 (t303 ++ y306) x2 x3).bind fun t312 => (if x10.length + t312.length < 5864062014805 then (spec_roAll.l0 k x1 x2 x3 x9 (x10 ++ t312) (wrap64 (x11 + 1)) x297000 x297001 x297002) else (none))) else (none)))) else (if x2 > 0 then ((spec_boHas.f x297000 x297001 x297002 x9 x11).bind fun t318 => (if t318 = true then ((spec_l1Has.f k x1 x11).bind fun t319 => (spec_roAll.j2 k x1 x2 x3 x9 x10 x11 (!t319) x297000 x297001 x297002)) else (spec_roAll.j2 k x1 x2 x3 x9 x10 x11 false x297000 x297001 x297002))) else (spec_roAll.j2 k x1 x2 x3 x9 x10 x11 false x297000 x297001 x297002))) else (some x10)
def spec_roAll.j2 : Nat → List Int → Int → Int → Int → List (List Int) → Int → Bool → Int → Int → List Int → Option ((List (List Int)))
 | 0, _, _, _, _, _, _, _, _, _, _ => none
 | k + 1, x1, x2, x3, x9, x10, x11, x54, x297000, x297001, x297002 => if x54 = true then ((spec_l1Own.f x1).bind fun t320 => ((some (([x11] : List Int) : List Int)).bind fun y323 => (if t320.length + y323.length < 17592186044416 then ((spec_roAll.f k x297000 x297001 x297002 (t320 ++ y323) (wrap64 (x2 - 1)) (wrap64 (x3 - (x10.length : Int)))).bind fun t329 => (if x10.length + t329.length < 5864062014805 then (spec_roAll.l0 k x1 x2 x3 x9 (x10 ++ t329) (wrap64 (x11 + 1)) x297000 x297001 x297002) else (none))) else (none)))) else (spec_roAll.l0 k x1 x2 x3 x9 x10 (wrap64 (x11 + 1)) x297000 x297001 x297002)
def spec_roAll.f : Nat → Int → Int → List Int → List Int → Int → Int → Option ((List (List Int)))
 | 0, _, _, _, _, _, _ => none
 | k + 1, a0_0, a0_1, l0_2, l1, a2, a3 => if (l1.length : Int) = a0_0 then (if a2 = 0 then ((spec_l1Own.f l1).bind fun t297 => (some (([t297] : List (List Int))))) else (some ([] : List (List Int)))) else (if (wrap64 (a0_0 - (l1.length : Int))) < a2 then (some ([] : List (List Int))) else (spec_roAll.l0 k l1 a2 a3 (l1.length : Int) ([] : List (List Int)) (-1) a0_0 a0_1 l0_2))
end
def spec_roAll.T13 : Bool × List (List Nat × List Nat) := (true, [([], []), ([], []), ([], []), ([2], [2]), ([], []), ([3, 4, 3], [3, 4]), ([], []), ([], []), ([1, 5, 6, 7, 5], [1, 5, 6, 7]), ([0, 8, 8], [0, 8]), ([9, 9, 0, 1, 2, 3, 4, 5, 6, 7, 8, 9], [0, 9])])
def spec_roAll.B13 : List Nat := [0, 0, 0, 4, 0, 28, 0, 0, 254, 511, 1023]
theorem spec_roAll.tab13 : rtab .any (opsOf Try.f105 13) = spec_roAll.T13 := by kernel_rfl
theorem spec_roAll.bits13 : waitsOk spec_roAll.T13.2 spec_roAll.B13 = true := by kernel_rfl
def spec_roAll.T15 : Bool × List (List Nat × List Nat) := (true, [([], []), ([], []), ([], []), ([2], [2]), ([], []), ([4], [4]), ([3, 5, 3], [3, 5]), ([], []), ([7], [7]), ([], []), ([], []), ([10], [10]), ([9, 11], [9, 11]), ([1, 6, 8, 12, 6], [1, 6, 8, 12]), ([0, 13, 13], [0, 13]), ([14, 14, 0, 1, 2, 3, 4, 5, 6, 7, 8, 9, 10, 11, 12, 13, 14], [0, 10, 14])])
def spec_roAll.B15 : List Nat := [0, 0, 0, 4, 0, 16, 60, 0, 128, 0, 0, 1024, 3584, 8190, 16383, 32767]
theorem spec_roAll.tab15 : rtab .any (opsOf Try.f105 15) = spec_roAll.T15 := by kernel_rfl
theorem spec_roAll.bits15 : waitsOk spec_roAll.T15.2 spec_roAll.B15 = true := by kernel_rfl
set_option maxHeartbeats 8000000 in
set_option maxRecDepth 100000 in
theorem spec_roAll.calls (k : Nat) : ∀ (a0_0 : Int) (a0_1 : Int) (A0_2 : Option Addr) (c0_2 : Nat) (l0_2 : List Int) (A1 : Option Addr) (c1 : Nat) (l1 : List Int) (a2 : Int) (a3 : Int) (r : List (List Int)) (w : World) (hr0_2 : Kd.C (Kd.int .i64) w A0_2 l0_2.length l0_2) (hc0_2 : l0_2.length ≤ c0_2) (hr1 : Kd.C (Kd.int .i64) w A1 l1.length l1) (hc1 : l1.length ≤ c1) (h : spec_roAll.f k a0_0 a0_1 l0_2 l1 a2 a3 = some r),
  Calls Try.prog 105 #[.agg #[.int .i64 a0_0, .int .i64 a0_1, .slice A0_2 l0_2.length c0_2], .slice A1 l1.length c1, .int .i64 a2, .int .i64 a3] w fun e w' => ∃ v0_ : Value, e = .returned (v0_) ∧ Kd.N (Kd.slice 3 (Kd.int .i64)) 24 w' w.heap.size (fun k_ => (w.heap.size ≤ k_)) v0_ r ∧ Below w.heap.size w w' := by
 induction k using Nat.strongRecOn with
 | _ k ih =>
 intro a0_0 a0_1 A0_2 c0_2 l0_2 A1 c1 l1 a2 a3 r w hr0_2 hc0_2 hr1 hc1 h
 cases k with
 | zero => exact absurd h (by simp [spec_roAll.f])
 | succ k =>
 simp only [spec_roAll.f] at h
 have hu26 := Try.underlying26
 have HR0_2 := Aside0.mk hr0_2
 have HC0_2 := Aside0.mk hc0_2
 clear hr0_2 hc0_2
 have HR1 := Aside0.mk hr1
 have HC1 := Aside0.mk hc1
 clear hr1 hc1
 have HB := am (Below.refl w.heap.size w)
 have H : (if (l1.length : Int) = a0_0 then (if a2 = 0 then ((spec_l1Own.f l1).bind fun t297 => (some (([t297] : List (List Int))))) else (some ([] : List (List Int)))) else (if (wrap64 (a0_0 - (l1.length : Int))) < a2 then (some ([] : List (List Int))) else (spec_roAll.l0 k l1 a2 a3 (l1.length : Int) ([] : List (List Int)) (-1) a0_0 a0_1 l0_2))) = some r := h
 clear h
 by_cases c5 : (l1.length : Int) = a0_0
 ·
  rw [if_pos c5] at H
  have c5b0 : ((l1.length : Int) == a0_0) = true := beq_iff_eq.mpr c5
  have c5b1 : ((l1.length : Int) != a0_0) = false := bne_eq_false_iff_eq.mpr c5
  clear c5
  by_cases c6 : a2 = 0
  ·
   rw [if_pos c6] at H
   have c6b0 : (a2 == 0) = true := beq_iff_eq.mpr c6
   have c6b1 : (a2 != 0) = false := bne_eq_false_iff_eq.mpr c6
   clear c6
   replace H := qE H
   obtain ⟨t297, A7, H⟩ := H
   replace H : (some (([t297] : List (List Int)))) = some r := H
   obtain ⟨y300, hy_⟩ : ∃ y_ : List (List Int), y_ = ((([t297] : List (List Int)))) := ⟨_, rfl⟩
   replace H : (some y300) = some r := qH
   have Ny300 := Aside0.mk hy_
   clear hy_
   obtain rfl := Option.some.inj H
   go_enter Try.func105, Try.ntmps105
   go_wp2_with (first | ((with_reducible refine gate_dst (N := 4) rfl ?_); (try (refine gate_guard (by rfl) ?_; dsimp only)); refine qv 4 #[.int .i64 a0_0, .int .i64 a0_1, .slice A0_2 l0_2.length c0_2] 26 ?_; intro gb296 hg w8 hbox hb; have BK296 := am hbox; have GW296 := qw hg; have GE296 := qw hg; replace HB := qs hb; clear hb hbox hg; obtain ⟨zq21, zq22, zq23, fq21, fq22, fq23⟩ := qd BK296) | ((with_reducible refine gate_callee (f := 77) rfl ?_); refine qg (some 21) Try.func77 #[.slice A1 l1.length c1] ?_; (with_reducible refine (spec_l1Own.calls _ _ l1 t297 _ ?side1 HC1.out A7.out).mono ?_); (case side1 => exact Q10); rintro e w10 ⟨v298, rfl, ho0, hb⟩; refine ⟨_, rfl, ?_⟩; have Oq0 := am (Kd.R_lower (Kd.R_newM (M := fun k_ => (w.heap.size ≤ k_)) ho0 (below_size qb) (fun k_ h_ => h_)) (below_size qb)); replace BK296 := sqB BK296 hb; replace HB := qs hb; (try clear hb ho0); obtain ⟨Ao11, co11, eo11⟩ := Kd.R_slice Oq0.out; subst eo11) | ((with_reducible refine gate_dst (N := 22) rfl ?_); (try (refine gate_guard (by rfl) ?_; dsimp only)); refine Kd.N_lit (Kd.slice 3 (Kd.int .i64)) _ 24 ?hg (N' := 22) ?hd (xs := ([t297] : List (List Int))) (inner := [.slice Ao11 t297.length co11]) (ok := (fun k_ => (w.heap.size ≤ k_) ∧ k_ ≠ gb296)) (okp := (fun k_ => (w.heap.size ≤ k_) ∧ k_ ≠ gb296)) ?hr ?hp (fun _ hk => hk) ((show ∀ k_, w10.heap.size ≤ k_ → (fun k_ => (w.heap.size ≤ k_) ∧ k_ ≠ gb296) k_ from fun k_ hk => ⟨(Nat.le_trans (below_size qb) hk), Kd.freshB (g := gb296) (o := .cells #[.int .i64 a0_0, .int .i64 a0_1, .slice A0_2 l0_2.length c0_2] 26 (0, 0)) (sqb BK296) k_ hk⟩) _ (Nat.le_refl _)) (Below.refl _ _) (Nat.le_refl _) (by simp) ?_; (case hd => rfl); (case hg => rfl); (case hr => first | (go_simp; done) | (go_simp; rfl)); (case hp => exact (Reps.one (show Kd.FK (Kd.slice 3 (Kd.int .i64)) _ _ t297 [.slice Ao11 t297.length co11] from (Kd.FK_slice_mk (Kd.R_reads' (Kd.R_mono (ok' := (fun k_ => (w.heap.size ≤ k_) ∧ k_ ≠ gb296)) (Kd.R_types (Oq0.out) BK296.out (by decide)) (fun k_ hk => ⟨hk.1.1, hk.2⟩))).2.1 (Kd.R_F (Kd.R_mono (ok' := (fun k_ => (w.heap.size ≤ k_) ∧ k_ ≠ gb296)) (Kd.R_types (Oq0.out) BK296.out (by decide)) (fun k_ hk => ⟨hk.1.1, hk.2⟩))))) (Reps.none _ _))); intro v301 w12 ho13 hb hg_ hnew_; clear hg_ hnew_; (first | rw [← Ny300.out] at ho13 | (simp only [Int.reduceToNat] at ho13; rw [← Ny300.out] at ho13)); have Oq1 := am (Kd.N_lower ho13 (below_size qb)); replace BK296 := sqB BK296 hb; replace HB := qs hb; clear Oq0; clear hb ho13))
   go_ret
   exact ⟨_, Q2, by (with_reducible repeat (first | apply Kd.N_alloc | apply Kd.N_drewN | apply Kd.N_drew)); exact Kd.N_mono Oq1.out (fun _ hk => hk.1), qb⟩
  ·
   rw [if_neg c6] at H
   have c6b0 : (a2 == 0) = false := beq_eq_false_iff_ne.mpr c6
   have c6b1 : (a2 != 0) = true := bne_iff_ne.mpr c6
   obtain rfl := Option.some.inj H
   go_enter Try.func105, Try.ntmps105
   go_wp2_with (first | ((with_reducible refine gate_dst (N := 4) rfl ?_); (try (refine gate_guard (by rfl) ?_; dsimp only)); refine qv 4 #[.int .i64 a0_0, .int .i64 a0_1, .slice A0_2 l0_2.length c0_2] 26 ?_; intro gb296 hg w14 hbox hb; have BK296 := am hbox; have GW296 := qw hg; have GE296 := qw hg; replace HB := qs hb; clear hb hbox hg; obtain ⟨zq0, zq1, zq2, fq0, fq1, fq2⟩ := qd BK296))
   go_ret
   exact ⟨_, Q2, Q21, qb⟩
 ·
  rw [if_neg c5] at H
  have c5b0 : ((l1.length : Int) == a0_0) = false := beq_eq_false_iff_ne.mpr c5
  have c5b1 : ((l1.length : Int) != a0_0) = true := bne_iff_ne.mpr c5
  by_cases c16 : (wrap64 (a0_0 - (l1.length : Int))) < a2
  ·
   rw [if_pos c16] at H
   have c16b0 : decide ((wrap64 (a0_0 - (l1.length : Int))) < a2) = true := decide_eq_true c16
   clear c16
   obtain rfl := Option.some.inj H
   go_enter Try.func105, Try.ntmps105
   go_wp2_with (first | ((with_reducible refine gate_dst (N := 4) rfl ?_); (try (refine gate_guard (by rfl) ?_; dsimp only)); refine qv 4 #[.int .i64 a0_0, .int .i64 a0_1, .slice A0_2 l0_2.length c0_2] 26 ?_; intro gb296 hg w17 hbox hb; have BK296 := am hbox; have GW296 := qw hg; have GE296 := qw hg; replace HB := qs hb; clear hb hbox hg; obtain ⟨zq3, zq4, zq5, fq3, fq4, fq5⟩ := qd BK296))
   go_ret
   exact ⟨_, Q2, Q21, qb⟩
  ·
   rw [if_neg c16] at H
   have c16b0 : decide ((wrap64 (a0_0 - (l1.length : Int))) < a2) = false := decide_eq_false c16
   clear c16
   have H' := Aside0.mk H
   clear H
   go_enter Try.func105, Try.ntmps105
   go_wp2_with (first | ((with_reducible refine gate_dst (N := 4) rfl ?_); (try (refine gate_guard (by rfl) ?_; dsimp only)); refine qv 4 #[.int .i64 a0_0, .int .i64 a0_1, .slice A0_2 l0_2.length c0_2] 26 ?_; intro gb296 hg w19 hbox hb; have BK296 := am hbox; have GW296 := qw hg; have GE296 := qw hg; replace HB := qs hb; clear hb hbox hg; obtain ⟨zq6, zq7, zq8, fq6, fq7, fq8⟩ := qd BK296))
   go_loopg [10, 11] k (fun kq v10 v11 w' => ∃ (x10_1 : List (List Int)) (x11_1 : Int), v11 = .int .i64 x11_1 ∧ Aside0 (spec_roAll.l0 kq l1 a2 a3 (l1.length : Int) x10_1 x11_1 a0_0 a0_1 l0_2 = some r) ∧ Aside0 (kq ≤ k) ∧ Aside0 (Kd.N (Kd.slice 3 (Kd.int .i64)) 24 w' w.heap.size (fun k_ => (w.heap.size ≤ k_) ∧ k_ ≠ gb296) v10 x10_1) ∧ Aside0 (w'.heap[gb296]? = some (.cells #[.int .i64 a0_0, .int .i64 a0_1, (.slice A0_2 l0_2.length c0_2)] 26 (0, 0))) ∧ Aside0 (Below w.heap.size w w'))
   case atStart => exact ⟨(([] : List (List Int))), ((-1)), Q3, H', ⟨Nat.le_refl _⟩, ⟨Q21⟩, ⟨Q17⟩, ⟨qb⟩⟩
   case round =>
    clear H'
    try clear c1; try clear c5; try clear c5b0; try clear c5b1; try clear c6; try clear c6b0; try clear c6b1; try clear c16; try clear c16b0; try clear zq0; try clear zq1; try clear zq2; try clear zq3; try clear zq4; try clear zq5; try clear zq6; try clear zq7; try clear zq8; try clear zq21; try clear zq22; try clear zq23; try clear fq0; try clear fq1; try clear fq2; try clear fq3; try clear fq4; try clear fq5; try clear fq6; try clear fq7; try clear fq8; try clear fq21; try clear fq22; try clear fq23
    obtain ⟨x10_1, x11_1, rfl, HA, HK1, Oq12, BK296, HB⟩ := hrel
    cases gk with
    | zero => exact absurd HA.out (by simp [spec_roAll.l0])
    | succ k1 =>
     have H := HA.out
     clear HA
     simp only [spec_roAll.l0] at H
     have HC21 := Aside0.mk H
     clear H
     go_upto_region 10 with (fail)
     go_cut [38] (fun v38 wc => ∃ (kq : Nat) (x38_20 : Bool), v38 = .bool x38_20 ∧ Aside0 (spec_roAll.j1 kq l1 a2 a3 (l1.length : Int) x10_1 x11_1 x38_20 a0_0 a0_1 l0_2 = some r) ∧ Aside0 (kq ≤ k1) ∧ Aside0 (Kd.N (Kd.slice 3 (Kd.int .i64)) 24 wc w.heap.size (fun k_ => (w.heap.size ≤ k_) ∧ k_ ≠ gb296) u10 x10_1) ∧ Aside0 (wc.heap[gb296]? = some (.cells #[.int .i64 a0_0, .int .i64 a0_1, (.slice A0_2 l0_2.length c0_2)] 26 (0, 0))) ∧ Aside0 (Below w.heap.size w wc))
     case first =>
      have H := HC21.out
      clear HC21
      by_cases c22 : x11_1 < a0_1
      ·
       rw [if_pos c22] at H
       have c22b0 : decide (x11_1 < a0_1) = true := decide_eq_true c22
       clear c22
       (first | rw [c22b0] | (simp only [i64_w, i32_w]; rw [c22b0]) | skip)
       have H' := Aside0.mk H
       clear H
       obtain ⟨zq9, zq10, zq11, fq9, fq10, fq11⟩ := qd BK296
       obtain ⟨Ao24, co24, eo24⟩ := Kd.N_slice Oq12.out
       subst eo24
       go_wp2
       go_meet
       case rel => exact ⟨_, (decide ((x10_1.length : Int) < a3)), Q3, H', ⟨by have := HK1.out; first | omega | exact Nat.le_refl _⟩, ⟨Q8⟩, ⟨Q17⟩, ⟨qb⟩⟩
      ·
       rw [if_neg c22] at H
       have c22b0 : decide (x11_1 < a0_1) = false := decide_eq_false c22
       clear c22
       (first | rw [c22b0] | (simp only [i64_w, i32_w]; rw [c22b0]) | skip)
       have H' := Aside0.mk H
       clear H
       obtain ⟨zq12, zq13, zq14, fq12, fq13, fq14⟩ := qd BK296
       go_wp2
       go_meet
       case rel => exact ⟨_, (false), Q3, H', ⟨by have := HK1.out; first | omega | exact Nat.le_refl _⟩, ⟨Q8⟩, ⟨Q17⟩, ⟨qb⟩⟩
     case rest =>
      clear HC21
      try clear c1; try clear c5; try clear c5b0; try clear c5b1; try clear c6; try clear c6b0; try clear c6b1; try clear c16; try clear c16b0; try clear c22; try clear c22b0; try clear zq0; try clear zq1; try clear zq2; try clear zq3; try clear zq4; try clear zq5; try clear zq6; try clear zq7; try clear zq8; try clear zq9; try clear zq10; try clear zq11; try clear zq12; try clear zq13; try clear zq14; try clear zq21; try clear zq22; try clear zq23; try clear fq0; try clear fq1; try clear fq2; try clear fq3; try clear fq4; try clear fq5; try clear fq6; try clear fq7; try clear fq8; try clear fq9; try clear fq10; try clear fq11; try clear fq12; try clear fq13; try clear fq14; try clear fq21; try clear fq22; try clear fq23
      obtain ⟨kq, x38_20, rfl, HA, HJ20, Oq12, BK296, HB⟩ := hcut
      cases kq with
      | zero => exact absurd HA.out (by simp [spec_roAll.j1])
      | succ kj20 =>
       have H := HA.out
       clear HA
       simp only [spec_roAll.j1] at H
       by_cases c26 : x38_20 = true
       ·
        subst c26
        have H1 : (if x11_1 = (-1) then ((spec_l1Own.f l1).bind fun t303 => ((some (([(-1)] : List Int) : List Int)).bind fun y306 => (if t303.length + y306.length < 17592186044416 then ((spec_roAll.f kj20 a0_0 a0_1 l0_2 (t303 ++ y306) a2 a3).bind fun t312 => (if x10_1.length + t312.length < 5864062014805 then (spec_roAll.l0 kj20 l1 a2 a3 (l1.length : Int) (x10_1 ++ t312) (wrap64 (x11_1 + 1)) a0_0 a0_1 l0_2) else (none))) else (none)))) else (if a2 > 0 then ((spec_boHas.f a0_0 a0_1 l0_2 (l1.length : Int) x11_1).bind fun t318 => (if t318 = true then ((spec_l1Has.f kj20 l1 x11_1).bind fun t319 => (spec_roAll.j2 kj20 l1 a2 a3 (l1.length : Int) x10_1 x11_1 (!t319) a0_0 a0_1 l0_2)) else (spec_roAll.j2 kj20 l1 a2 a3 (l1.length : Int) x10_1 x11_1 false a0_0 a0_1 l0_2))) else (spec_roAll.j2 kj20 l1 a2 a3 (l1.length : Int) x10_1 x11_1 false a0_0 a0_1 l0_2))) = some r := by first | (rw [if_pos rfl] at H; exact H) | rfl
        clear H
        have H := H1
        clear H1
        by_cases c27 : x11_1 = (-1)
        ·
         rw [if_pos c27] at H
         have c27b0 : (x11_1 == (-1)) = true := beq_iff_eq.mpr c27
         have c27b1 : (x11_1 != (-1)) = false := bne_eq_false_iff_eq.mpr c27
         clear c27
         replace H := qE H
         obtain ⟨t303, A28, H⟩ := H
         replace H : ((some (([(-1)] : List Int) : List Int)).bind fun y306 => (if t303.length + y306.length < 17592186044416 then ((spec_roAll.f kj20 a0_0 a0_1 l0_2 (t303 ++ y306) a2 a3).bind fun t312 => (if x10_1.length + t312.length < 5864062014805 then (spec_roAll.l0 kj20 l1 a2 a3 (l1.length : Int) (x10_1 ++ t312) (wrap64 (x11_1 + 1)) a0_0 a0_1 l0_2) else (none))) else (none))) = some r := H
         obtain ⟨y306, hy_⟩ : ∃ y_ : List Int, y_ = ((([(-1)] : List Int))) := ⟨_, rfl⟩
         replace H : (if t303.length + y306.length < 17592186044416 then ((spec_roAll.f kj20 a0_0 a0_1 l0_2 (t303 ++ y306) a2 a3).bind fun t312 => (if x10_1.length + t312.length < 5864062014805 then (spec_roAll.l0 kj20 l1 a2 a3 (l1.length : Int) (x10_1 ++ t312) (wrap64 (x11_1 + 1)) a0_0 a0_1 l0_2) else (none))) else (none)) = some r := qH
         have Ny306 := Aside0.mk hy_
         clear hy_
         by_cases c29 : t303.length + y306.length < 17592186044416
         ·
          rw [if_pos c29] at H
          have LMc29 := Aside0.mk c29
          clear c29
          obtain ⟨y309, hy_⟩ : ∃ y_ : List Int, y_ = ((t303 ++ y306)) := ⟨_, rfl⟩
          replace H : ((spec_roAll.f kj20 a0_0 a0_1 l0_2 y309 a2 a3).bind fun t312 => (if x10_1.length + t312.length < 5864062014805 then (spec_roAll.l0 kj20 l1 a2 a3 (l1.length : Int) (x10_1 ++ t312) (wrap64 (x11_1 + 1)) a0_0 a0_1 l0_2) else (none))) = some r := qH
          have Ny309 := Aside0.mk hy_
          clear hy_
          replace H := qE H
          obtain ⟨t312, A30, H⟩ := H
          replace H : (if x10_1.length + t312.length < 5864062014805 then (spec_roAll.l0 kj20 l1 a2 a3 (l1.length : Int) (x10_1 ++ t312) (wrap64 (x11_1 + 1)) a0_0 a0_1 l0_2) else (none)) = some r := H
          by_cases c31 : x10_1.length + t312.length < 5864062014805
          ·
           rw [if_pos c31] at H
           have LMc31 := Aside0.mk c31
           clear c31
           obtain ⟨y315, hy_⟩ : ∃ y_ : List (List Int), y_ = ((x10_1 ++ t312)) := ⟨_, rfl⟩
           replace H : (spec_roAll.l0 kj20 l1 a2 a3 (l1.length : Int) y315 (wrap64 (x11_1 + 1)) a0_0 a0_1 l0_2) = some r := qH
           have Ny315 := Aside0.mk hy_
           clear hy_
           have H' := Aside0.mk H
           clear H
           obtain ⟨Ao32, co32, eo32⟩ := Kd.N_slice Oq12.out
           subst eo32
           try go_wp2
           replace Oq12 := am (Kd.N_drew Oq12.out)
           replace BK296 := am (blk_drew BK296.out)
           replace HB := am (below_drew1 HB.out)
           refine start_ (n := 11) (S := fun w' => w'.cell? ⟨gb296, 0, none⟩ = some (.int .i64 a0_0) ∧ w'.cell? ⟨gb296, 1, none⟩ = some (.int .i64 a0_1) ∧ w'.cell? ⟨gb296, 2, none⟩ = some (.slice A0_2 l0_2.length c0_2)) (ds := []) #[false, false, false, false, false, false, false, false, false, false, false] (by kernel_rfl) rfl rfl ⟨sqc BK296 0, sqc BK296 1, sqc BK296 2⟩ (fun hHeld => ?_); refine with_tabW spec_roAll.tab13 spec_roAll.bits13 (fun HT_ HW_ => ?_)
           generalize wc.drew = w33 at Oq12 BK296 HB hHeld ⊢
           refine qp 0 (some 44) #[true, false, false, false, false, false, false, false, false, false, false] ?_
           refine qp 2 (some 46) #[true, false, true, false, false, false, false, false, false, false, false] ?_
           refine qp 6 (some 50) #[true, false, true, false, false, false, true, false, false, false, false] ?_
           refine qp 7 (some 51) #[true, false, true, false, false, false, true, true, false, false, false] ?_
           refine take_ (i := 1) (N := some 45) (v := ?_) (a' := ?_) #[true, true, true, false, false, false, true, true, false, false, false] rfl rfl (take_ofW HT_.out HW_.out (by kernel_rfl)) (fun _ _ _ h => h) (Or.inl ⟨by rfl, ?_⟩) hHeld ?_ ?_
           rotate_left
           ·
            rintro w' ⟨s0, s1, s2⟩
            go_simp
            with_reducible rfl
           rotate_left
           ·
            simp only [Act.put, List.setIfInBounds_toArray, List.set_cons_zero, List.set_cons_succ, i64_w, i32_w]
            rfl
           refine join_ (σ := Value × Value) 4 #[true, true, true, true, true, false, true, true, false, false, false] (fun s_ => [(47, s_.1), (48, s_.2)]) (fun s_ w' => (w'.cell? ⟨gb296, 0, none⟩ = some (.int .i64 a0_0) ∧ w'.cell? ⟨gb296, 1, none⟩ = some (.int .i64 a0_1) ∧ w'.cell? ⟨gb296, 2, none⟩ = some (.slice A0_2 l0_2.length c0_2)) ∧ (Kd.R (Kd.int .i64) 3 w' w.heap.size (fun k_ => (w.heap.size ≤ k_) ∧ some k_ ≠ (s_.2 : Value).ownBlock) s_.1 t303) ∧ (Kd.R (Kd.int .i64) 3 w' w.heap.size (fun k_ => (w.heap.size ≤ k_) ∧ some k_ ≠ (s_.1 : Value).ownBlock) s_.2 y306) ∧ (Kd.N (Kd.slice 3 (Kd.int .i64)) 24 w' w.heap.size (fun k_ => (w.heap.size ≤ k_) ∧ some k_ ≠ (s_.1 : Value).ownBlock ∧ some k_ ≠ (s_.2 : Value).ownBlock ∧ k_ ≠ gb296) (.slice Ao32 x10_1.length co32) x10_1) ∧ (w'.heap[gb296]? = some (.cells #[.int .i64 a0_0, .int .i64 a0_1, .slice A0_2 l0_2.length c0_2] 26 (0, 0))) ∧ (Below w.heap.size w w')) ?_ ?_
           rotate_left
           ·
            intro hCont
            refine two_ (i := 3) (j := 4) (Ni := some 47) (Nj := some 48) #[true, true, true, true, false, false, true, true, false, false, false] #[true, true, true, false, true, false, true, true, false, false, false] rfl rfl rfl rfl (two_of HT_.out (by kernel_rfl)) (by decide) (by decide) (fun K hK => ?_) (fun K hK => ?_)
            ·
             skip
             refine qG Try.func77 #[.slice A1 l1.length c1] ?_
             with_reducible refine (spec_l1Own.calls _ _ l1 t303 _ ?side1 ?side2 A28.out).mono ?_
             (case side1 => exact Q10)
             (case side2 => exact HC1.out)
             rintro e w34 ⟨v304, rfl, ho0, hb⟩
             refine ⟨_, rfl, ?_⟩
             have Oq2 := am (Kd.R_lower (Kd.R_newM (M := fun k_ => (w.heap.size ≤ k_)) ho0 (below_size qb) (fun k_ h_ => h_)) (below_size qb))
             replace BK296 := sqB BK296 hb
             replace Oq12 := am (Kd.N_elder' Q8 (Kd.R_base ho0) hb)
             replace HB := qs hb
             (try clear hb ho0)
             refine hK.out _ _ ⟨sqc BK296 0, sqc BK296 1, sqc BK296 2⟩ (fun hHeld => ?_)
             clear hK K
             refine qq (some 47) ?_
             refine one_ (i := 4) (N := some 48) #[true, true, true, true, true, false, true, true, false, false, false] rfl rfl (one_of HT_.out (by kernel_rfl)) (by decide) fun K hK => ?_
             refine Kd.R_lit_step (Kd.int .i64) _ 3 ?hg (N := 48) ?hd (xs := ([(-1)] : List Int)) (inner := [.int .i64 (-1)]) (ok := fun _ => True) (okp := fun _ => True) ?hr ?hp (fun _ hk => hk) trivial (Below.refl _ _) (Nat.le_refl _) (by simp) ?_; (case hd => rfl); (case hg => rfl); (case hr => first | (go_simp; done) | (go_simp; rfl)); (case hp => exact (Reps.one (show Kd.M (Kd.int .i64) _ _ _ (-1) [.int .i64 (-1)] from rfl) (Reps.none _ _)))
             intro v307 w35 ho36 hb hg_ hnew_
             clear hg_ hnew_
             (first | rw [← Ny306.out] at ho36 | (simp only [Int.reduceToNat] at ho36; rw [← Ny306.out] at ho36))
             have Oq3 := am (Kd.R_lower (Kd.R_new' (Kd.R_newM (M := fun k_ => (w.heap.size ≤ k_)) ho36 (below_size qb) (fun k_ h_ => h_)) (sqL Oq2)) (below_size qb))
             replace BK296 := sqB BK296 hb
             replace Oq12 := am (Kd.N_elder' Q8 (Kd.R_base ho36) hb)
             replace Oq2 := qe (sqr Oq2) ho36 hb
             replace HB := qs hb
             clear hb ho36
             refine hK.out _ _ ⟨sqc BK296 0, sqc BK296 1, sqc BK296 2⟩ (fun hHeld => ?_)
             clear hK K
             refine qq (some 48) ?_
             exact norm_ Q37 (hCont (v304, v307) _ ⟨hHeld, (by exact sqm Oq2 (fun _ hk => ⟨hk.1.1, hk.2⟩)), (by exact sqm Oq3 (fun _ hk => ⟨hk.1.1, hk.2⟩)), Q58, (sqb BK296), qb⟩)
            ·
             skip
             refine Kd.R_lit_step (Kd.int .i64) _ 3 ?hg (N := 48) ?hd (xs := ([(-1)] : List Int)) (inner := [.int .i64 (-1)]) (ok := fun _ => True) (okp := fun _ => True) ?hr ?hp (fun _ hk => hk) trivial (Below.refl _ _) (Nat.le_refl _) (by simp) ?_; (case hd => rfl); (case hg => rfl); (case hr => first | (go_simp; done) | (go_simp; rfl)); (case hp => exact (Reps.one (show Kd.M (Kd.int .i64) _ _ _ (-1) [.int .i64 (-1)] from rfl) (Reps.none _ _)))
             intro v307 w34 ho35 hb hg_ hnew_
             clear hg_ hnew_
             (first | rw [← Ny306.out] at ho35 | (simp only [Int.reduceToNat] at ho35; rw [← Ny306.out] at ho35))
             have Oq3 := am (Kd.R_lower (Kd.R_newM (M := fun k_ => (w.heap.size ≤ k_)) ho35 (below_size qb) (fun k_ h_ => h_)) (below_size qb))
             replace BK296 := sqB BK296 hb
             replace Oq12 := am (Kd.N_elder' Q8 (Kd.R_base ho35) hb)
             replace HB := qs hb
             clear hb ho35
             refine hK.out _ _ ⟨sqc BK296 0, sqc BK296 1, sqc BK296 2⟩ (fun hHeld => ?_)
             clear hK K
             refine qq (some 48) ?_
             refine one_ (i := 3) (N := some 47) #[true, true, true, true, true, false, true, true, false, false, false] rfl rfl (one_of HT_.out (by kernel_rfl)) (by decide) fun K hK => ?_
             refine qG Try.func77 #[.slice A1 l1.length c1] ?_
             with_reducible refine (spec_l1Own.calls _ _ l1 t303 _ ?side1 ?side2 A28.out).mono ?_
             (case side1 => exact Q10)
             (case side2 => exact HC1.out)
             rintro e w36 ⟨v304, rfl, ho0, hb⟩
             refine ⟨_, rfl, ?_⟩
             have Oq2 := am (Kd.R_lower (Kd.R_new' (Kd.R_newM (M := fun k_ => (w.heap.size ≤ k_)) ho0 (below_size qb) (fun k_ h_ => h_)) (sqL Oq3)) (below_size qb))
             replace Oq3 := sqE Oq3 ho0 hb
             replace BK296 := sqB BK296 hb
             replace Oq12 := am (Kd.N_elder' Q8 (Kd.R_base ho0) hb)
             replace HB := qs hb
             (try clear hb ho0)
             refine hK.out _ _ ⟨sqc BK296 0, sqc BK296 1, sqc BK296 2⟩ (fun hHeld => ?_)
             clear hK K
             refine qq (some 47) ?_
             exact norm_ Q37 (hCont (v304, v307) _ ⟨hHeld, (by exact sqm Oq2 (fun _ hk => ⟨hk.1.1, hk.2⟩)), (by exact sqm Oq3 (fun _ hk => ⟨hk.1.1, hk.2⟩)), Q59, (sqb BK296), qb⟩)
           rintro ⟨v304, v307⟩ w37 ⟨hS_, h0_, h1_, h2_, h3_, h4_⟩
           have n0_ : Aside0 (Kd.R (Kd.int .i64) 3 w37 w.heap.size (fun k_ => (w.heap.size ≤ k_) ∧ some k_ ≠ (v307 : Value).ownBlock) v304 t303) := ⟨h0_⟩
           have n1_ : Aside0 (Kd.R (Kd.int .i64) 3 w37 w.heap.size (fun k_ => (w.heap.size ≤ k_) ∧ some k_ ≠ (v304 : Value).ownBlock) v307 y306) := ⟨h1_⟩
           have n2_ : Aside0 (Kd.N (Kd.slice 3 (Kd.int .i64)) 24 w37 w.heap.size (fun k_ => (w.heap.size ≤ k_) ∧ some k_ ≠ (v304 : Value).ownBlock ∧ some k_ ≠ (v307 : Value).ownBlock ∧ k_ ≠ gb296) (.slice Ao32 x10_1.length co32) x10_1) := ⟨h2_⟩
           have n3_ : Aside0 (w37.heap[gb296]? = some (.cells #[.int .i64 a0_0, .int .i64 a0_1, .slice A0_2 l0_2.length c0_2] 26 (0, 0))) := ⟨h3_⟩
           have n4_ : Aside0 (Below w.heap.size w w37) := ⟨h4_⟩
           clear Oq12 BK296 HB h0_ h1_ h2_ h3_ h4_
           have Oq2 := n0_
           have Oq3 := n1_
           have Oq12 := n2_
           have BK296 := n3_
           have HB := n4_
           clear n0_ n1_ n2_ n3_ n4_
           have hHeld : w37.cell? ⟨gb296, 0, none⟩ = some (.int .i64 a0_0) ∧ w37.cell? ⟨gb296, 1, none⟩ = some (.int .i64 a0_1) ∧ w37.cell? ⟨gb296, 2, none⟩ = some (.slice A0_2 l0_2.length c0_2) := hS_
           obtain ⟨Ao39, co39, eo39⟩ := Kd.R_slice Oq3.out
           (first | subst eo39 | (injection eo39 with f1_ f2_ f3_; have f4_ := f1_.symm; have f5_ := f3_.symm; clear f1_ f2_ f3_; subst f4_; subst f5_))
           refine norm_ (a' := ?_) ?_ ?_
           rotate_left
           ·
            simp only [putAll, Act.put, List.setIfInBounds_toArray, List.set_cons_zero, List.set_cons_succ]
            rfl
           refine one_ (i := 5) (N := some 49) #[true, true, true, true, true, true, true, true, false, false, false] rfl rfl (one_of HT_.out (by kernel_rfl)) (by decide) fun K hK => ?_
           refine Kd.R_append_rows_step (Kd.int .i64) (w0 := w) w.heap.size (by rfl) (.tmp 47) (.tmp 48) 24 3 (.int .i64 0) 8 rfl Try.underlying24 info3 rfl (by decide) (by omega) v304 t303 y306 _ _ _ (fun k_ => (w.heap.size ≤ k_) ∧ some k_ ≠ (.slice Ao39 y306.length co39 : Value).ownBlock) (fun _ => False) rfl rfl ?aO ?aR (fun _ _ h => h) (fun _ h => h.elim) ?aF ?aB ?aS ?aL ?_
           (case aR => repeat (first | exact (Kd.R_reads' Oq3.out).2.2 | (with_reducible first | refine Kd.C_alloc ?_ _ | refine Kd.C_drewN ?_ _ | refine Kd.C_drew ?_)))
           (case aB => exact qb)
           (case aF => exact (fun k_ hk => ⟨(Nat.le_trans (below_size qb) hk), Kd.fresh' (sqL Oq3) k_ hk⟩))
           (case aO => exact (sqr Oq2))
           (case aS => exact (below_size qb))
           (case aL => have := LMc29.out; omega)
           intro v310 w38 ho hb hg hat
           rw [← Ny309.out] at ho
           have Oq4 := am (ho)
           replace Oq12 := am (Kd.N_afterv (ok := (fun k_ => (w.heap.size ≤ k_) ∧ some k_ ≠ (.slice Ao39 y306.length co39 : Value).ownBlock ∧ k_ ≠ gb296)) Q60 hg hat)
           replace BK296 := am (blk_grown (g := gb296) (o := .cells #[.int .i64 a0_0, .int .i64 a0_1, .slice A0_2 l0_2.length c0_2] 26 (0, 0)) (sqb BK296) hg (Kd.R_ne Oq2.out BK296.out (by decide)))
           replace Oq3 := am (Kd.R_after (ok := (fun k_ => (w.heap.size ≤ k_))) (sqr Oq3) hg hat)
           replace HB := am hb
           clear Oq2
           clear ho hb hg hat
           obtain ⟨Ao40, co40, eo40⟩ := Kd.R_slice Oq4.out
           (first | subst eo40 | (injection eo40 with f1_ f2_ f3_; have f4_ := f1_.symm; have f5_ := f3_.symm; clear f1_ f2_ f3_; subst f4_; subst f5_))
           refine hK.out _ _ ⟨sqc BK296 0, sqc BK296 1, sqc BK296 2⟩ (fun hHeld => ?_)
           clear hK K
           refine qq (some 49) ?_
           refine one_ (i := 8) (N := some 52) #[true, true, true, true, true, true, true, true, true, false, false] rfl rfl (one_of HT_.out (by kernel_rfl)) (by decide) fun K hK => ?_
           refine qG Try.func105 #[.agg #[.int .i64 a0_0, .int .i64 a0_1, .slice A0_2 l0_2.length c0_2], .slice Ao40 y309.length co40, .int .i64 a2, .int .i64 a3] ?_
           with_reducible refine (ih kj20 (by have := HK1.out; have := HJ20.out; omega) a0_0 a0_1 _ _ l0_2 _ _ y309 a2 a3 t312 _ ?side1 ?side2 ?side3 ?side4 A30.out).mono ?_
           (case side1 => exact Q0)
           (case side2 => exact HC0_2.out)
           (case side3 => repeat (first | exact (Kd.R_reads' Oq4.out).2.2 | (with_reducible first | refine Kd.C_alloc ?_ _ | refine Kd.C_drewN ?_ _ | refine Kd.C_drew ?_)))
           (case side4 => exact (Kd.R_reads' Oq4.out).2.1)
           rintro e w41 ⟨v313, rfl, ho0, hb⟩
           refine ⟨_, rfl, ?_⟩
           have Oq5 := am (Kd.N_lower (Kd.N_mono (ok' := fun k_ => (w.heap.size ≤ k_) ∧ some k_ ≠ (.slice Ao32 x10_1.length co32 : Value).ownBlock ∧ some k_ ≠ (.slice Ao39 y306.length co39 : Value).ownBlock ∧ some k_ ≠ (.slice Ao40 y309.length co40 : Value).ownBlock ∧ k_ ≠ gb296) ho0 (fun k_ hk_ => ⟨(Nat.le_trans (below_size qb) hk_), (Kd.fresh' (Kd.N_lt Q8) k_ hk_), (Kd.fresh' (sqL Oq3) k_ hk_), (Kd.fresh' (sqL Oq4) k_ hk_), (Kd.freshB (g := gb296) (o := .cells #[.int .i64 a0_0, .int .i64 a0_1, .slice A0_2 l0_2.length c0_2] 26 (0, 0)) (sqb BK296) k_ hk_)⟩)) (below_size qb))
           replace Oq3 := sqR Oq3 hb
           replace Oq4 := sqR Oq4 hb
           replace BK296 := sqB BK296 hb
           replace Oq12 := am (Kd.N_elder' Q8 (Kd.N_base ho0) hb)
           replace HB := qs hb
           (try clear hb ho0)
           obtain ⟨Ao43, co43, eo43⟩ := Kd.N_slice Oq5.out
           (first | subst eo43 | (injection eo43 with f1_ f2_ f3_; have f4_ := f1_.symm; have f5_ := f3_.symm; clear f1_ f2_ f3_; subst f4_; subst f5_))
           refine hK.out _ _ ⟨sqc BK296 0, sqc BK296 1, sqc BK296 2⟩ (fun hHeld => ?_)
           clear hK K
           refine qq (some 52) ?_
           refine one_ (i := 9) (N := some 53) #[true, true, true, true, true, true, true, true, true, true, false] rfl rfl (one_of HT_.out (by kernel_rfl)) (by decide) fun K hK => ?_
           refine Kd.N_append_rows_step (Kd.slice 3 (Kd.int .i64)) (w0 := w) w.heap.size (by rfl) (.tmp 44) (.tmp 52) 52 24 (.slice none 0 0) 24 rfl Try.underlying52 info24 rfl (by decide) (by omega) (.slice Ao32 x10_1.length co32) x10_1 t312 _ _ _ (fun k_ => (w.heap.size ≤ k_) ∧ some k_ ≠ (.slice Ao39 y306.length co39 : Value).ownBlock ∧ some k_ ≠ (.slice Ao40 y309.length co40 : Value).ownBlock ∧ k_ ≠ gb296) (fun k_ => ((fun k_ => (w.heap.size ≤ k_) ∧ some k_ ≠ (.slice Ao39 y306.length co39 : Value).ownBlock ∧ some k_ ≠ (.slice Ao40 y309.length co40 : Value).ownBlock ∧ k_ ≠ gb296)) k_ ∧ some k_ ≠ (.slice Ao32 x10_1.length co32 : Value).ownBlock) rfl rfl ?aO ?aR (fun _ hk => hk) ?aF ?aB ?aS ?aL ?_
           (case aR => exact (by skip; exact Kd.N_F (Kd.N_mono (ok' := (fun k_ => ((fun k_ => (w.heap.size ≤ k_) ∧ some k_ ≠ (.slice Ao39 y306.length co39 : Value).ownBlock ∧ some k_ ≠ (.slice Ao40 y309.length co40 : Value).ownBlock ∧ k_ ≠ gb296)) k_ ∧ some k_ ≠ (.slice Ao32 x10_1.length co32 : Value).ownBlock)) (Oq5.out) (fun k_ hk => ⟨⟨hk.1, ⟨hk.2.2.1, ⟨hk.2.2.2.1, hk.2.2.2.2⟩⟩⟩, hk.2.1⟩))))
           (case aB => exact qb)
           (case aF => exact (fun k_ hk => ⟨(Nat.le_trans (below_size qb) hk), Kd.fresh' (sqL Oq3) k_ hk, Kd.fresh' (sqL Oq4) k_ hk, Kd.freshB (g := gb296) (o := .cells #[.int .i64 a0_0, .int .i64 a0_1, .slice A0_2 l0_2.length c0_2] 26 (0, 0)) (sqb BK296) k_ hk⟩))
           (case aO => exact Q54)
           (case aS => exact (below_size qb))
           (case aL => have := LMc31.out; omega)
           intro v316 w42 ho hb hg hat
           rw [← Ny315.out] at ho
           have Oq6 := am (ho)
           replace BK296 := am (blk_grown (g := gb296) (o := .cells #[.int .i64 a0_0, .int .i64 a0_1, .slice A0_2 l0_2.length c0_2] 26 (0, 0)) (sqb BK296) hg (Kd.N_ne Oq12.out BK296.out (by decide)))
           replace Oq3 := am (Kd.R_over' (sqr Oq3) (Kd.N_typed Q8) (by decide) hg)
           replace Oq4 := am (Kd.R_over' (sqr Oq4) (Kd.N_typed Q8) (by decide) hg)
           replace Oq5 := am (Kd.N_afterv (ok := (fun k_ => (w.heap.size ≤ k_) ∧ some k_ ≠ (.slice Ao39 y306.length co39 : Value).ownBlock ∧ some k_ ≠ (.slice Ao40 y309.length co40 : Value).ownBlock ∧ k_ ≠ gb296)) (by (with_reducible repeat (first | apply Kd.N_alloc | apply Kd.N_drewN | apply Kd.N_drew)); exact Kd.N_mono Oq5.out (fun _ hk => ⟨⟨hk.1, ⟨hk.2.2.1, ⟨hk.2.2.2.1, hk.2.2.2.2⟩⟩⟩, hk.2.1⟩)) hg hat)
           replace HB := am hb
           clear Oq12
           clear ho hb hg hat
           refine hK.out _ _ ⟨sqc BK296 0, sqc BK296 1, sqc BK296 2⟩ (fun hHeld => ?_)
           clear hK K
           refine qq (some 53) ?_
           refine qp 10 (some 10) #[true, true, true, true, true, true, true, true, true, true, true] ?_
           refine done_ (done_of HT_.out (by kernel_rfl)) ?_
           try go_wp2
           go_roundg kj20
           case measure => have := HK1.out; have := HJ20.out; omega
           case rel => exact ⟨(y315), (wrap64 (x11_1 + 1)), Q3, H', ⟨by have := HK1.out; have := HJ20.out; omega⟩, ⟨by (with_reducible repeat (first | apply Kd.N_alloc | apply Kd.N_drewN | apply Kd.N_drew)); exact Kd.N_mono Oq6.out (fun _ hk => ⟨hk.1, hk.2.2.2⟩)⟩, ⟨Q17⟩, ⟨qb⟩⟩
          ·
           rw [if_neg c31] at H
           exact absurd H (by simp)
         ·
          rw [if_neg c29] at H
          exact absurd H (by simp)
        ·
         rw [if_neg c27] at H
         have c27b0 : (x11_1 == (-1)) = false := beq_eq_false_iff_ne.mpr c27
         have c27b1 : (x11_1 != (-1)) = true := bne_iff_ne.mpr c27
         have HC44 := Aside0.mk H
         clear H
         go_upto_region 14 with (fail)
         go_cut [54] (fun v54 wc => ∃ (kq : Nat) (x54_43 : Bool), v54 = .bool x54_43 ∧ Aside0 (spec_roAll.j2 kq l1 a2 a3 (l1.length : Int) x10_1 x11_1 x54_43 a0_0 a0_1 l0_2 = some r) ∧ Aside0 (kq ≤ kj20) ∧ Aside0 (Kd.N (Kd.slice 3 (Kd.int .i64)) 24 wc w.heap.size (fun k_ => (w.heap.size ≤ k_) ∧ k_ ≠ gb296) u10 x10_1) ∧ Aside0 (wc.heap[gb296]? = some (.cells #[.int .i64 a0_0, .int .i64 a0_1, (.slice A0_2 l0_2.length c0_2)] 26 (0, 0))) ∧ Aside0 (Below w.heap.size w wc))
         case first =>
          have H := HC44.out
          clear HC44
          by_cases c45 : a2 > 0
          ·
           rw [if_pos c45] at H
           have c45b0 : decide (0 < a2) = true := decide_eq_true c45
           clear c45
           (first | rw [c45b0] | (simp only [i64_w, i32_w]; rw [c45b0]) | skip)
           replace H := qE H
           obtain ⟨t318, A46, H⟩ := H
           replace H : (if t318 = true then ((spec_l1Has.f kj20 l1 x11_1).bind fun t319 => (spec_roAll.j2 kj20 l1 a2 a3 (l1.length : Int) x10_1 x11_1 (!t319) a0_0 a0_1 l0_2)) else (spec_roAll.j2 kj20 l1 a2 a3 (l1.length : Int) x10_1 x11_1 false a0_0 a0_1 l0_2)) = some r := H
           by_cases c47 : t318 = true
           ·
            subst c47
            have H1 : ((spec_l1Has.f kj20 l1 x11_1).bind fun t319 => (spec_roAll.j2 kj20 l1 a2 a3 (l1.length : Int) x10_1 x11_1 (!t319) a0_0 a0_1 l0_2)) = some r := by first | (rw [if_pos rfl] at H; exact H) | rfl
            clear H
            have H := H1
            clear H1
            replace H := qE H
            obtain ⟨t319, A48, H⟩ := H
            replace H : (spec_roAll.j2 kj20 l1 a2 a3 (l1.length : Int) x10_1 x11_1 (!t319) a0_0 a0_1 l0_2) = some r := H
            have H' := Aside0.mk H
            clear H
            obtain ⟨zq15, zq16, zq17, fq15, fq16, fq17⟩ := qd BK296
            go_wp2_with (first | (go_at_call 133; (with_reducible refine (spec_boHas.calls a0_0 a0_1 _ _ l0_2 (l1.length : Int) x11_1 true _ ?side1 HC0_2.out A46.out).mono ?_); (case side1 => exact Q0); rintro e w50 ⟨rfl, hb⟩; replace BK296 := sqB BK296 hb; replace Oq12 := am (Kd.N_below Q8 hb); replace HB := qs hb; (try clear hb)) | (go_at_call 134; (with_reducible refine (spec_l1Has.calls kj20 _ _ l1 x11_1 t319 _ ?side1 HC1.out A48.out).mono ?_); (case side1 => exact Q10); rintro e w' ⟨rfl, ⟨nd, rfl⟩⟩))
            go_meet
            case rel => exact ⟨_, (!t319), Q3, H', ⟨by have := HK1.out; have := HJ20.out; first | omega | exact Nat.le_refl _⟩, ⟨Q8⟩, ⟨Q17⟩, ⟨qb⟩⟩
           ·
            replace c47 := Bool.eq_false_iff.mpr c47
            subst c47
            have H1 : (spec_roAll.j2 kj20 l1 a2 a3 (l1.length : Int) x10_1 x11_1 false a0_0 a0_1 l0_2) = some r := by first | (rw [if_neg (show ¬ (false = true) by decide)] at H; exact H) | rfl
            clear H
            have H := H1
            clear H1
            have H' := Aside0.mk H
            clear H
            obtain ⟨zq18, zq19, zq20, fq18, fq19, fq20⟩ := qd BK296
            go_wp2_with (first | (go_at_call 133; (with_reducible refine (spec_boHas.calls a0_0 a0_1 _ _ l0_2 (l1.length : Int) x11_1 false _ ?side1 HC0_2.out A46.out).mono ?_); (case side1 => exact Q0); rintro e w52 ⟨rfl, hb⟩; replace BK296 := sqB BK296 hb; replace Oq12 := am (Kd.N_below Q8 hb); replace HB := qs hb; (try clear hb)))
            go_meet
            case rel => exact ⟨_, (false), Q3, H', ⟨by have := HK1.out; have := HJ20.out; first | omega | exact Nat.le_refl _⟩, ⟨Q8⟩, ⟨Q17⟩, ⟨qb⟩⟩
          ·
           rw [if_neg c45] at H
           have c45b0 : decide (0 < a2) = false := decide_eq_false c45
           clear c45
           (first | rw [c45b0] | (simp only [i64_w, i32_w]; rw [c45b0]) | skip)
           have H' := Aside0.mk H
           clear H
           go_wp2
           go_meet
           case rel => exact ⟨_, (false), Q3, H', ⟨by have := HK1.out; have := HJ20.out; first | omega | exact Nat.le_refl _⟩, ⟨Q8⟩, ⟨Q17⟩, ⟨qb⟩⟩
         case rest =>
          clear HC44
          try clear c1; try clear c5; try clear c5b0; try clear c5b1; try clear c6; try clear c6b0; try clear c6b1; try clear c16; try clear c16b0; try clear c22; try clear c22b0; try clear c26; try clear c27; try clear c27b0; try clear c27b1; try clear c29; try clear c31; try clear c45; try clear c45b0; try clear c47; try clear zq0; try clear zq1; try clear zq2; try clear zq3; try clear zq4; try clear zq5; try clear zq6; try clear zq7; try clear zq8; try clear zq9; try clear zq10; try clear zq11; try clear zq12; try clear zq13; try clear zq14; try clear zq15; try clear zq16; try clear zq17; try clear zq18; try clear zq19; try clear zq20; try clear zq21; try clear zq22; try clear zq23; try clear fq0; try clear fq1; try clear fq2; try clear fq3; try clear fq4; try clear fq5; try clear fq6; try clear fq7; try clear fq8; try clear fq9; try clear fq10; try clear fq11; try clear fq12; try clear fq13; try clear fq14; try clear fq15; try clear fq16; try clear fq17; try clear fq18; try clear fq19; try clear fq20; try clear fq21; try clear fq22; try clear fq23
          obtain ⟨kq, x54_43, rfl, HA, HJ43, Oq12, BK296, HB⟩ := hcut
          cases kq with
          | zero => exact absurd HA.out (by simp [spec_roAll.j2])
          | succ kj43 =>
           have H := HA.out
           clear HA
           simp only [spec_roAll.j2] at H
           by_cases c53 : x54_43 = true
           ·
            subst c53
            have H1 : ((spec_l1Own.f l1).bind fun t320 => ((some (([x11_1] : List Int) : List Int)).bind fun y323 => (if t320.length + y323.length < 17592186044416 then ((spec_roAll.f kj43 a0_0 a0_1 l0_2 (t320 ++ y323) (wrap64 (a2 - 1)) (wrap64 (a3 - (x10_1.length : Int)))).bind fun t329 => (if x10_1.length + t329.length < 5864062014805 then (spec_roAll.l0 kj43 l1 a2 a3 (l1.length : Int) (x10_1 ++ t329) (wrap64 (x11_1 + 1)) a0_0 a0_1 l0_2) else (none))) else (none)))) = some r := by first | (rw [if_pos rfl] at H; exact H) | rfl
            clear H
            have H := H1
            clear H1
            replace H := qE H
            obtain ⟨t320, A54, H⟩ := H
            replace H : ((some (([x11_1] : List Int) : List Int)).bind fun y323 => (if t320.length + y323.length < 17592186044416 then ((spec_roAll.f kj43 a0_0 a0_1 l0_2 (t320 ++ y323) (wrap64 (a2 - 1)) (wrap64 (a3 - (x10_1.length : Int)))).bind fun t329 => (if x10_1.length + t329.length < 5864062014805 then (spec_roAll.l0 kj43 l1 a2 a3 (l1.length : Int) (x10_1 ++ t329) (wrap64 (x11_1 + 1)) a0_0 a0_1 l0_2) else (none))) else (none))) = some r := H
            obtain ⟨y323, hy_⟩ : ∃ y_ : List Int, y_ = ((([x11_1] : List Int))) := ⟨_, rfl⟩
            replace H : (if t320.length + y323.length < 17592186044416 then ((spec_roAll.f kj43 a0_0 a0_1 l0_2 (t320 ++ y323) (wrap64 (a2 - 1)) (wrap64 (a3 - (x10_1.length : Int)))).bind fun t329 => (if x10_1.length + t329.length < 5864062014805 then (spec_roAll.l0 kj43 l1 a2 a3 (l1.length : Int) (x10_1 ++ t329) (wrap64 (x11_1 + 1)) a0_0 a0_1 l0_2) else (none))) else (none)) = some r := qH
            have Ny323 := Aside0.mk hy_
            clear hy_
            by_cases c55 : t320.length + y323.length < 17592186044416
            ·
             rw [if_pos c55] at H
             have LMc55 := Aside0.mk c55
             clear c55
             obtain ⟨y326, hy_⟩ : ∃ y_ : List Int, y_ = ((t320 ++ y323)) := ⟨_, rfl⟩
             replace H : ((spec_roAll.f kj43 a0_0 a0_1 l0_2 y326 (wrap64 (a2 - 1)) (wrap64 (a3 - (x10_1.length : Int)))).bind fun t329 => (if x10_1.length + t329.length < 5864062014805 then (spec_roAll.l0 kj43 l1 a2 a3 (l1.length : Int) (x10_1 ++ t329) (wrap64 (x11_1 + 1)) a0_0 a0_1 l0_2) else (none))) = some r := qH
             have Ny326 := Aside0.mk hy_
             clear hy_
             replace H := qE H
             obtain ⟨t329, A56, H⟩ := H
             replace H : (if x10_1.length + t329.length < 5864062014805 then (spec_roAll.l0 kj43 l1 a2 a3 (l1.length : Int) (x10_1 ++ t329) (wrap64 (x11_1 + 1)) a0_0 a0_1 l0_2) else (none)) = some r := H
             by_cases c57 : x10_1.length + t329.length < 5864062014805
             ·
              rw [if_pos c57] at H
              have LMc57 := Aside0.mk c57
              clear c57
              obtain ⟨y332, hy_⟩ : ∃ y_ : List (List Int), y_ = ((x10_1 ++ t329)) := ⟨_, rfl⟩
              replace H : (spec_roAll.l0 kj43 l1 a2 a3 (l1.length : Int) y332 (wrap64 (x11_1 + 1)) a0_0 a0_1 l0_2) = some r := qH
              have Ny332 := Aside0.mk hy_
              clear hy_
              have H' := Aside0.mk H
              clear H
              obtain ⟨Ao58, co58, eo58⟩ := Kd.N_slice Oq12.out
              subst eo58
              try go_wp2
              replace Oq12 := am (Kd.N_drew Oq12.out)
              replace BK296 := am (blk_drew BK296.out)
              replace HB := am (below_drew1 HB.out)
              refine start_ (n := 16) (S := fun w' => w'.cell? ⟨gb296, 0, none⟩ = some (.int .i64 a0_0) ∧ w'.cell? ⟨gb296, 1, none⟩ = some (.int .i64 a0_1) ∧ w'.cell? ⟨gb296, 2, none⟩ = some (.slice A0_2 l0_2.length c0_2)) (ds := []) #[false, false, false, false, false, false, false, false, false, false, false, false, false, false, false, false] (by kernel_rfl) rfl rfl ⟨sqc BK296 0, sqc BK296 1, sqc BK296 2⟩ (fun hHeld => ?_); refine with_tabW spec_roAll.tab15 spec_roAll.bits15 (fun HT_ HW_ => ?_)
              generalize wc.drew = w59 at Oq12 BK296 HB hHeld ⊢
              refine qp 0 (some 69) #[true, false, false, false, false, false, false, false, false, false, false, false, false, false, false, false] ?_
              refine qp 2 (some 71) #[true, false, true, false, false, false, false, false, false, false, false, false, false, false, false, false] ?_
              refine qp 4 (some 73) #[true, false, true, false, true, false, false, false, false, false, false, false, false, false, false, false] ?_
              refine qp 7 (some 76) #[true, false, true, false, true, false, false, true, false, false, false, false, false, false, false, false] ?_
              refine qp 8 (some 77) #[true, false, true, false, true, false, false, true, true, false, false, false, false, false, false, false] ?_
              refine qp 9 (some 78) #[true, false, true, false, true, false, false, true, true, true, false, false, false, false, false, false] ?_
              refine qp 10 (some 79) #[true, false, true, false, true, false, false, true, true, true, true, false, false, false, false, false] ?_
              refine qp 11 (some 80) #[true, false, true, false, true, false, false, true, true, true, true, true, false, false, false, false] ?_
              refine qp 12 (some 81) #[true, false, true, false, true, false, false, true, true, true, true, true, true, false, false, false] ?_
              refine take_ (i := 1) (N := some 70) (v := ?_) (a' := ?_) #[true, true, true, false, true, false, false, true, true, true, true, true, true, false, false, false] rfl rfl (take_ofW HT_.out HW_.out (by kernel_rfl)) (fun _ _ _ h => h) (Or.inl ⟨by rfl, ?_⟩) hHeld ?_ ?_
              rotate_left
              ·
               rintro w' ⟨s0, s1, s2⟩
               go_simp
               with_reducible rfl
              rotate_left
              ·
               simp only [Act.put, List.setIfInBounds_toArray, List.set_cons_zero, List.set_cons_succ, i64_w, i32_w]
               rfl
              refine join_ (σ := Value × Value) 4 #[true, true, true, true, true, true, false, true, true, true, true, true, true, false, false, false] (fun s_ => [(72, s_.1), (74, s_.2)]) (fun s_ w' => (w'.cell? ⟨gb296, 0, none⟩ = some (.int .i64 a0_0) ∧ w'.cell? ⟨gb296, 1, none⟩ = some (.int .i64 a0_1) ∧ w'.cell? ⟨gb296, 2, none⟩ = some (.slice A0_2 l0_2.length c0_2)) ∧ (Kd.R (Kd.int .i64) 3 w' w.heap.size (fun k_ => (w.heap.size ≤ k_) ∧ some k_ ≠ (s_.2 : Value).ownBlock) s_.1 t320) ∧ (Kd.R (Kd.int .i64) 3 w' w.heap.size (fun k_ => (w.heap.size ≤ k_) ∧ some k_ ≠ (s_.1 : Value).ownBlock) s_.2 y323) ∧ (Kd.N (Kd.slice 3 (Kd.int .i64)) 24 w' w.heap.size (fun k_ => (w.heap.size ≤ k_) ∧ some k_ ≠ (s_.1 : Value).ownBlock ∧ some k_ ≠ (s_.2 : Value).ownBlock ∧ k_ ≠ gb296) (.slice Ao58 x10_1.length co58) x10_1) ∧ (w'.heap[gb296]? = some (.cells #[.int .i64 a0_0, .int .i64 a0_1, .slice A0_2 l0_2.length c0_2] 26 (0, 0))) ∧ (Below w.heap.size w w')) ?_ ?_
              rotate_left
              ·
               intro hCont
               refine two_ (i := 3) (j := 5) (Ni := some 72) (Nj := some 74) #[true, true, true, true, true, false, false, true, true, true, true, true, true, false, false, false] #[true, true, true, false, true, true, false, true, true, true, true, true, true, false, false, false] rfl rfl rfl rfl (two_of HT_.out (by kernel_rfl)) (by decide) (by decide) (fun K hK => ?_) (fun K hK => ?_)
               ·
                skip
                refine qG Try.func77 #[.slice A1 l1.length c1] ?_
                with_reducible refine (spec_l1Own.calls _ _ l1 t320 _ ?side1 ?side2 A54.out).mono ?_
                (case side1 => exact Q10)
                (case side2 => exact HC1.out)
                rintro e w60 ⟨v321, rfl, ho0, hb⟩
                refine ⟨_, rfl, ?_⟩
                have Oq7 := am (Kd.R_lower (Kd.R_newM (M := fun k_ => (w.heap.size ≤ k_)) ho0 (below_size qb) (fun k_ h_ => h_)) (below_size qb))
                replace BK296 := sqB BK296 hb
                replace Oq12 := am (Kd.N_elder' Q8 (Kd.R_base ho0) hb)
                replace HB := qs hb
                (try clear hb ho0)
                refine hK.out _ _ ⟨sqc BK296 0, sqc BK296 1, sqc BK296 2⟩ (fun hHeld => ?_)
                clear hK K
                refine qq (some 72) ?_
                refine one_ (i := 5) (N := some 74) #[true, true, true, true, true, true, false, true, true, true, true, true, true, false, false, false] rfl rfl (one_of HT_.out (by kernel_rfl)) (by decide) fun K hK => ?_
                refine Kd.R_lit_step (Kd.int .i64) _ 3 ?hg (N := 74) ?hd (xs := ([x11_1] : List Int)) (inner := [.int .i64 x11_1]) (ok := fun _ => True) (okp := fun _ => True) ?hr ?hp (fun _ hk => hk) trivial (Below.refl _ _) (Nat.le_refl _) (by simp) ?_; (case hd => rfl); (case hg => rfl); (case hr => first | (go_simp; done) | (go_simp; rfl)); (case hp => exact (Reps.one (show Kd.M (Kd.int .i64) _ _ _ x11_1 [.int .i64 x11_1] from rfl) (Reps.none _ _)))
                intro v324 w61 ho62 hb hg_ hnew_
                clear hg_ hnew_
                (first | rw [← Ny323.out] at ho62 | (simp only [Int.reduceToNat] at ho62; rw [← Ny323.out] at ho62))
                have Oq8 := am (Kd.R_lower (Kd.R_new' (Kd.R_newM (M := fun k_ => (w.heap.size ≤ k_)) ho62 (below_size qb) (fun k_ h_ => h_)) (sqL Oq7)) (below_size qb))
                replace BK296 := sqB BK296 hb
                replace Oq12 := am (Kd.N_elder' Q8 (Kd.R_base ho62) hb)
                replace Oq7 := qe (sqr Oq7) ho62 hb
                replace HB := qs hb
                clear hb ho62
                refine hK.out _ _ ⟨sqc BK296 0, sqc BK296 1, sqc BK296 2⟩ (fun hHeld => ?_)
                clear hK K
                refine qq (some 74) ?_
                exact norm_ Q37 (hCont (v321, v324) _ ⟨hHeld, (by exact sqm Oq7 (fun _ hk => ⟨hk.1.1, hk.2⟩)), (by exact sqm Oq8 (fun _ hk => ⟨hk.1.1, hk.2⟩)), Q58, (sqb BK296), qb⟩)
               ·
                skip
                refine Kd.R_lit_step (Kd.int .i64) _ 3 ?hg (N := 74) ?hd (xs := ([x11_1] : List Int)) (inner := [.int .i64 x11_1]) (ok := fun _ => True) (okp := fun _ => True) ?hr ?hp (fun _ hk => hk) trivial (Below.refl _ _) (Nat.le_refl _) (by simp) ?_; (case hd => rfl); (case hg => rfl); (case hr => first | (go_simp; done) | (go_simp; rfl)); (case hp => exact (Reps.one (show Kd.M (Kd.int .i64) _ _ _ x11_1 [.int .i64 x11_1] from rfl) (Reps.none _ _)))
                intro v324 w60 ho61 hb hg_ hnew_
                clear hg_ hnew_
                (first | rw [← Ny323.out] at ho61 | (simp only [Int.reduceToNat] at ho61; rw [← Ny323.out] at ho61))
                have Oq8 := am (Kd.R_lower (Kd.R_newM (M := fun k_ => (w.heap.size ≤ k_)) ho61 (below_size qb) (fun k_ h_ => h_)) (below_size qb))
                replace BK296 := sqB BK296 hb
                replace Oq12 := am (Kd.N_elder' Q8 (Kd.R_base ho61) hb)
                replace HB := qs hb
                clear hb ho61
                refine hK.out _ _ ⟨sqc BK296 0, sqc BK296 1, sqc BK296 2⟩ (fun hHeld => ?_)
                clear hK K
                refine qq (some 74) ?_
                refine one_ (i := 3) (N := some 72) #[true, true, true, true, true, true, false, true, true, true, true, true, true, false, false, false] rfl rfl (one_of HT_.out (by kernel_rfl)) (by decide) fun K hK => ?_
                refine qG Try.func77 #[.slice A1 l1.length c1] ?_
                with_reducible refine (spec_l1Own.calls _ _ l1 t320 _ ?side1 ?side2 A54.out).mono ?_
                (case side1 => exact Q10)
                (case side2 => exact HC1.out)
                rintro e w62 ⟨v321, rfl, ho0, hb⟩
                refine ⟨_, rfl, ?_⟩
                have Oq7 := am (Kd.R_lower (Kd.R_new' (Kd.R_newM (M := fun k_ => (w.heap.size ≤ k_)) ho0 (below_size qb) (fun k_ h_ => h_)) (sqL Oq8)) (below_size qb))
                replace Oq8 := sqE Oq8 ho0 hb
                replace BK296 := sqB BK296 hb
                replace Oq12 := am (Kd.N_elder' Q8 (Kd.R_base ho0) hb)
                replace HB := qs hb
                (try clear hb ho0)
                refine hK.out _ _ ⟨sqc BK296 0, sqc BK296 1, sqc BK296 2⟩ (fun hHeld => ?_)
                clear hK K
                refine qq (some 72) ?_
                exact norm_ Q37 (hCont (v321, v324) _ ⟨hHeld, (by exact sqm Oq7 (fun _ hk => ⟨hk.1.1, hk.2⟩)), (by exact sqm Oq8 (fun _ hk => ⟨hk.1.1, hk.2⟩)), Q59, (sqb BK296), qb⟩)
              rintro ⟨v321, v324⟩ w63 ⟨hS_, h0_, h1_, h2_, h3_, h4_⟩
              have n0_ : Aside0 (Kd.R (Kd.int .i64) 3 w63 w.heap.size (fun k_ => (w.heap.size ≤ k_) ∧ some k_ ≠ (v324 : Value).ownBlock) v321 t320) := ⟨h0_⟩
              have n1_ : Aside0 (Kd.R (Kd.int .i64) 3 w63 w.heap.size (fun k_ => (w.heap.size ≤ k_) ∧ some k_ ≠ (v321 : Value).ownBlock) v324 y323) := ⟨h1_⟩
              have n2_ : Aside0 (Kd.N (Kd.slice 3 (Kd.int .i64)) 24 w63 w.heap.size (fun k_ => (w.heap.size ≤ k_) ∧ some k_ ≠ (v321 : Value).ownBlock ∧ some k_ ≠ (v324 : Value).ownBlock ∧ k_ ≠ gb296) (.slice Ao58 x10_1.length co58) x10_1) := ⟨h2_⟩
              have n3_ : Aside0 (w63.heap[gb296]? = some (.cells #[.int .i64 a0_0, .int .i64 a0_1, .slice A0_2 l0_2.length c0_2] 26 (0, 0))) := ⟨h3_⟩
              have n4_ : Aside0 (Below w.heap.size w w63) := ⟨h4_⟩
              clear Oq12 BK296 HB h0_ h1_ h2_ h3_ h4_
              have Oq7 := n0_
              have Oq8 := n1_
              have Oq12 := n2_
              have BK296 := n3_
              have HB := n4_
              clear n0_ n1_ n2_ n3_ n4_
              have hHeld : w63.cell? ⟨gb296, 0, none⟩ = some (.int .i64 a0_0) ∧ w63.cell? ⟨gb296, 1, none⟩ = some (.int .i64 a0_1) ∧ w63.cell? ⟨gb296, 2, none⟩ = some (.slice A0_2 l0_2.length c0_2) := hS_
              obtain ⟨Ao65, co65, eo65⟩ := Kd.R_slice Oq8.out
              (first | subst eo65 | (injection eo65 with f1_ f2_ f3_; have f4_ := f1_.symm; have f5_ := f3_.symm; clear f1_ f2_ f3_; subst f4_; subst f5_))
              refine norm_ (a' := ?_) ?_ ?_
              rotate_left
              ·
               simp only [putAll, Act.put, List.setIfInBounds_toArray, List.set_cons_zero, List.set_cons_succ]
               rfl
              refine one_ (i := 6) (N := some 75) #[true, true, true, true, true, true, true, true, true, true, true, true, true, false, false, false] rfl rfl (one_of HT_.out (by kernel_rfl)) (by decide) fun K hK => ?_
              refine Kd.R_append_rows_step (Kd.int .i64) (w0 := w) w.heap.size (by rfl) (.tmp 72) (.tmp 74) 24 3 (.int .i64 0) 8 rfl Try.underlying24 info3 rfl (by decide) (by omega) v321 t320 y323 _ _ _ (fun k_ => (w.heap.size ≤ k_) ∧ some k_ ≠ (.slice Ao65 y323.length co65 : Value).ownBlock) (fun _ => False) rfl rfl ?aO ?aR (fun _ _ h => h) (fun _ h => h.elim) ?aF ?aB ?aS ?aL ?_
              (case aR => repeat (first | exact (Kd.R_reads' Oq8.out).2.2 | (with_reducible first | refine Kd.C_alloc ?_ _ | refine Kd.C_drewN ?_ _ | refine Kd.C_drew ?_)))
              (case aB => exact qb)
              (case aF => exact (fun k_ hk => ⟨(Nat.le_trans (below_size qb) hk), Kd.fresh' (sqL Oq8) k_ hk⟩))
              (case aO => exact (sqr Oq7))
              (case aS => exact (below_size qb))
              (case aL => have := LMc55.out; omega)
              intro v327 w64 ho hb hg hat
              rw [← Ny326.out] at ho
              have Oq9 := am (ho)
              replace Oq12 := am (Kd.N_afterv (ok := (fun k_ => (w.heap.size ≤ k_) ∧ some k_ ≠ (.slice Ao65 y323.length co65 : Value).ownBlock ∧ k_ ≠ gb296)) Q60 hg hat)
              replace BK296 := am (blk_grown (g := gb296) (o := .cells #[.int .i64 a0_0, .int .i64 a0_1, .slice A0_2 l0_2.length c0_2] 26 (0, 0)) (sqb BK296) hg (Kd.R_ne Oq7.out BK296.out (by decide)))
              replace Oq8 := am (Kd.R_after (ok := (fun k_ => (w.heap.size ≤ k_))) (sqr Oq8) hg hat)
              replace HB := am hb
              clear Oq7
              clear ho hb hg hat
              obtain ⟨Ao66, co66, eo66⟩ := Kd.R_slice Oq9.out
              (first | subst eo66 | (injection eo66 with f1_ f2_ f3_; have f4_ := f1_.symm; have f5_ := f3_.symm; clear f1_ f2_ f3_; subst f4_; subst f5_))
              refine hK.out _ _ ⟨sqc BK296 0, sqc BK296 1, sqc BK296 2⟩ (fun hHeld => ?_)
              clear hK K
              refine qq (some 75) ?_
              refine one_ (i := 13) (N := some 82) #[true, true, true, true, true, true, true, true, true, true, true, true, true, true, false, false] rfl rfl (one_of HT_.out (by kernel_rfl)) (by decide) fun K hK => ?_
              refine qG Try.func105 #[.agg #[.int .i64 a0_0, .int .i64 a0_1, .slice A0_2 l0_2.length c0_2], .slice Ao66 y326.length co66, .int .i64 (wrap64 (a2 - 1)), .int .i64 (wrap64 (a3 - (x10_1.length : Int)))] ?_
              with_reducible refine (ih kj43 (by have := HK1.out; have := HJ20.out; have := HJ43.out; omega) a0_0 a0_1 _ _ l0_2 _ _ y326 (wrap64 (a2 - 1)) (wrap64 (a3 - (x10_1.length : Int))) t329 _ ?side1 ?side2 ?side3 ?side4 A56.out).mono ?_
              (case side1 => exact Q0)
              (case side2 => exact HC0_2.out)
              (case side3 => repeat (first | exact (Kd.R_reads' Oq9.out).2.2 | (with_reducible first | refine Kd.C_alloc ?_ _ | refine Kd.C_drewN ?_ _ | refine Kd.C_drew ?_)))
              (case side4 => exact (Kd.R_reads' Oq9.out).2.1)
              rintro e w67 ⟨v330, rfl, ho0, hb⟩
              refine ⟨_, rfl, ?_⟩
              have Oq10 := am (Kd.N_lower (Kd.N_mono (ok' := fun k_ => (w.heap.size ≤ k_) ∧ some k_ ≠ (.slice Ao58 x10_1.length co58 : Value).ownBlock ∧ some k_ ≠ (.slice Ao65 y323.length co65 : Value).ownBlock ∧ some k_ ≠ (.slice Ao66 y326.length co66 : Value).ownBlock ∧ k_ ≠ gb296) ho0 (fun k_ hk_ => ⟨(Nat.le_trans (below_size qb) hk_), (Kd.fresh' (Kd.N_lt Q8) k_ hk_), (Kd.fresh' (sqL Oq8) k_ hk_), (Kd.fresh' (sqL Oq9) k_ hk_), (Kd.freshB (g := gb296) (o := .cells #[.int .i64 a0_0, .int .i64 a0_1, .slice A0_2 l0_2.length c0_2] 26 (0, 0)) (sqb BK296) k_ hk_)⟩)) (below_size qb))
              replace Oq8 := sqR Oq8 hb
              replace Oq9 := sqR Oq9 hb
              replace BK296 := sqB BK296 hb
              replace Oq12 := am (Kd.N_elder' Q8 (Kd.N_base ho0) hb)
              replace HB := qs hb
              (try clear hb ho0)
              obtain ⟨Ao69, co69, eo69⟩ := Kd.N_slice Oq10.out
              (first | subst eo69 | (injection eo69 with f1_ f2_ f3_; have f4_ := f1_.symm; have f5_ := f3_.symm; clear f1_ f2_ f3_; subst f4_; subst f5_))
              refine hK.out _ _ ⟨sqc BK296 0, sqc BK296 1, sqc BK296 2⟩ (fun hHeld => ?_)
              clear hK K
              refine qq (some 82) ?_
              refine one_ (i := 14) (N := some 83) #[true, true, true, true, true, true, true, true, true, true, true, true, true, true, true, false] rfl rfl (one_of HT_.out (by kernel_rfl)) (by decide) fun K hK => ?_
              refine Kd.N_append_rows_step (Kd.slice 3 (Kd.int .i64)) (w0 := w) w.heap.size (by rfl) (.tmp 69) (.tmp 82) 52 24 (.slice none 0 0) 24 rfl Try.underlying52 info24 rfl (by decide) (by omega) (.slice Ao58 x10_1.length co58) x10_1 t329 _ _ _ (fun k_ => (w.heap.size ≤ k_) ∧ some k_ ≠ (.slice Ao65 y323.length co65 : Value).ownBlock ∧ some k_ ≠ (.slice Ao66 y326.length co66 : Value).ownBlock ∧ k_ ≠ gb296) (fun k_ => ((fun k_ => (w.heap.size ≤ k_) ∧ some k_ ≠ (.slice Ao65 y323.length co65 : Value).ownBlock ∧ some k_ ≠ (.slice Ao66 y326.length co66 : Value).ownBlock ∧ k_ ≠ gb296)) k_ ∧ some k_ ≠ (.slice Ao58 x10_1.length co58 : Value).ownBlock) rfl rfl ?aO ?aR (fun _ hk => hk) ?aF ?aB ?aS ?aL ?_
              (case aR => exact (by skip; exact Kd.N_F (Kd.N_mono (ok' := (fun k_ => ((fun k_ => (w.heap.size ≤ k_) ∧ some k_ ≠ (.slice Ao65 y323.length co65 : Value).ownBlock ∧ some k_ ≠ (.slice Ao66 y326.length co66 : Value).ownBlock ∧ k_ ≠ gb296)) k_ ∧ some k_ ≠ (.slice Ao58 x10_1.length co58 : Value).ownBlock)) (Oq10.out) (fun k_ hk => ⟨⟨hk.1, ⟨hk.2.2.1, ⟨hk.2.2.2.1, hk.2.2.2.2⟩⟩⟩, hk.2.1⟩))))
              (case aB => exact qb)
              (case aF => exact (fun k_ hk => ⟨(Nat.le_trans (below_size qb) hk), Kd.fresh' (sqL Oq8) k_ hk, Kd.fresh' (sqL Oq9) k_ hk, Kd.freshB (g := gb296) (o := .cells #[.int .i64 a0_0, .int .i64 a0_1, .slice A0_2 l0_2.length c0_2] 26 (0, 0)) (sqb BK296) k_ hk⟩))
              (case aO => exact Q54)
              (case aS => exact (below_size qb))
              (case aL => have := LMc57.out; omega)
              intro v333 w68 ho hb hg hat
              rw [← Ny332.out] at ho
              have Oq11 := am (ho)
              replace BK296 := am (blk_grown (g := gb296) (o := .cells #[.int .i64 a0_0, .int .i64 a0_1, .slice A0_2 l0_2.length c0_2] 26 (0, 0)) (sqb BK296) hg (Kd.N_ne Oq12.out BK296.out (by decide)))
              replace Oq8 := am (Kd.R_over' (sqr Oq8) (Kd.N_typed Q8) (by decide) hg)
              replace Oq9 := am (Kd.R_over' (sqr Oq9) (Kd.N_typed Q8) (by decide) hg)
              replace Oq10 := am (Kd.N_afterv (ok := (fun k_ => (w.heap.size ≤ k_) ∧ some k_ ≠ (.slice Ao65 y323.length co65 : Value).ownBlock ∧ some k_ ≠ (.slice Ao66 y326.length co66 : Value).ownBlock ∧ k_ ≠ gb296)) (by (with_reducible repeat (first | apply Kd.N_alloc | apply Kd.N_drewN | apply Kd.N_drew)); exact Kd.N_mono Oq10.out (fun _ hk => ⟨⟨hk.1, ⟨hk.2.2.1, ⟨hk.2.2.2.1, hk.2.2.2.2⟩⟩⟩, hk.2.1⟩)) hg hat)
              replace HB := am hb
              clear Oq12
              clear ho hb hg hat
              refine hK.out _ _ ⟨sqc BK296 0, sqc BK296 1, sqc BK296 2⟩ (fun hHeld => ?_)
              clear hK K
              refine qq (some 83) ?_
              refine qp 15 (some 10) #[true, true, true, true, true, true, true, true, true, true, true, true, true, true, true, true] ?_
              refine done_ (done_of HT_.out (by kernel_rfl)) ?_
              try go_wp2
              go_roundg kj43
              case measure => have := HK1.out; have := HJ20.out; have := HJ43.out; omega
              case rel => exact ⟨(y332), (wrap64 (x11_1 + 1)), Q3, H', ⟨by have := HK1.out; have := HJ20.out; have := HJ43.out; omega⟩, ⟨by (with_reducible repeat (first | apply Kd.N_alloc | apply Kd.N_drewN | apply Kd.N_drew)); exact Kd.N_mono Oq11.out (fun _ hk => ⟨hk.1, hk.2.2.2⟩)⟩, ⟨Q17⟩, ⟨qb⟩⟩
             ·
              rw [if_neg c57] at H
              exact absurd H (by simp)
            ·
             rw [if_neg c55] at H
             exact absurd H (by simp)
           ·
            replace c53 := Bool.eq_false_iff.mpr c53
            subst c53
            have H1 : (spec_roAll.l0 kj43 l1 a2 a3 (l1.length : Int) x10_1 (wrap64 (x11_1 + 1)) a0_0 a0_1 l0_2) = some r := by first | (rw [if_neg (show ¬ (false = true) by decide)] at H; exact H) | rfl
            clear H
            have H := H1
            clear H1
            have H' := Aside0.mk H
            clear H
            go_wp2
            go_roundg kj43
            case measure => have := HK1.out; have := HJ20.out; have := HJ43.out; omega
            case rel => exact ⟨(x10_1), (wrap64 (x11_1 + 1)), Q3, H', ⟨by have := HK1.out; have := HJ20.out; have := HJ43.out; omega⟩, ⟨Q8⟩, ⟨Q17⟩, ⟨qb⟩⟩
       ·
        replace c26 := Bool.eq_false_iff.mpr c26
        subst c26
        have H1 : (some x10_1) = some r := by first | (rw [if_neg (show ¬ (false = true) by decide)] at H; exact H) | rfl
        clear H
        have H := H1
        clear H1
        obtain rfl := Option.some.inj H
        go_wp2
        go_ret
        exact ⟨_, Q2, by (with_reducible repeat (first | apply Kd.N_alloc | apply Kd.N_drewN | apply Kd.N_drew)); exact Kd.N_mono Oq12.out (fun _ hk => hk.1), qb⟩

end Go.Proofs.Ytllhofdgbpnkkaa.PFnPlacementsListed
