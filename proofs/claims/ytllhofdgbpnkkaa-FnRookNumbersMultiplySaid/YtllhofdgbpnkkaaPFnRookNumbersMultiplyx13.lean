-- Printed for this claim by wip/pp.py over the kit's printer; Lean checks it.
import Derived.Test.YtllhofdgbpnkkaaPFnRookNumbersMultiplyx0
import Derived.Test.YtllhofdgbpnkkaaPFnRookNumbersMultiplyx1
import Derived.Test.YtllhofdgbpnkkaaPFnRookNumbersMultiplyx7
namespace Go.Proofs.Ytllhofdgbpnkkaa.PFnRookNumbersMultiply
open Go.RowKit Go.Proofs.YtllhofdgbpnkkaaW.PrintWords Go.Proofs.YtllhofdgbpnkkaaW.PrintLast Go.Proofs.YtllhofdgbpnkkaaW.PrintMore
attribute [local go_sem] max2_int min2_int max_two min_two max_three min_three max_four min_four   -- for this text's walks alone
set_option linter.unusedVariables false
set_option linter.unusedSimpArgs false

/-! ### spec_boCells: function 131 -/
mutual
def spec_boCells.l0 : Nat → List (List Int) → Int → Int → Int → List Int → Option ((List (List Int)))
 | 0, _, _, _, _, _ => none
 | k + 1, x3, x4, x475000, x475001, x475002 => if x4 < x475000 then (spec_boCells.l1 k x3 x4 0 x475000 x475001 x475002) else (some x3)
def spec_boCells.l1 : Nat → List (List Int) → Int → Int → Int → Int → List Int → Option ((List (List Int)))
 | 0, _, _, _, _, _, _ => none
 | k + 1, x3, x4, x5, x475000, x475001, x475002 => if x5 < x475001 then ((spec_boHas.f x475000 x475001 x475002 x4 x5).bind fun t475 => (if t475 = true then (if x3.length < 5864062014805 then (spec_boCells.l1 k (x3 ++ [(([x4, x5] : List Int))]) x4 (wrap64 (x5 + 1)) x475000 x475001 x475002) else (none)) else (spec_boCells.l1 k x3 x4 (wrap64 (x5 + 1)) x475000 x475001 x475002))) else (spec_boCells.l0 k x3 (wrap64 (x4 + 1)) x475000 x475001 x475002)
end
def spec_boCells.f (k : Nat) (a0_0 : Int) (a0_1 : Int) (l0_2 : List Int) : Option ((List (List Int))) := spec_boCells.l0 k ([] : List (List Int)) 0 a0_0 a0_1 l0_2
set_option maxHeartbeats 8000000 in
set_option maxRecDepth 100000 in
theorem spec_boCells.calls (k : Nat) (a0_0 : Int) (a0_1 : Int) (A0_2 : Option Addr) (c0_2 : Nat) (l0_2 : List Int) (r : List (List Int)) (w : World) (hr0_2 : Kd.C (Kd.int .i64) w A0_2 l0_2.length l0_2) (hc0_2 : l0_2.length ≤ c0_2) (h : spec_boCells.f k a0_0 a0_1 l0_2 = some r) :
  Calls Try.prog 131 #[.agg #[.int .i64 a0_0, .int .i64 a0_1, .slice A0_2 l0_2.length c0_2]] w fun e w' => ∃ v0_ : Value, e = .returned (v0_) ∧ Kd.S (Kd.slice 3 (Kd.int .i64)) 24 w' w.heap.size (fun _ => True) v0_ r ∧ Below w.heap.size w w' := by
 have hu26 := Try.underlying26
 have HR0_2 := Aside0.mk hr0_2
 have HC0_2 := Aside0.mk hc0_2
 clear hr0_2 hc0_2
 have HB := am (Below.refl w.heap.size w)
 have H : (spec_boCells.l0 k ([] : List (List Int)) 0 a0_0 a0_1 l0_2) = some r := h
 clear h
 have H' := Aside0.mk H
 clear H
 go_enter Try.func131, Try.ntmps131
 go_wp2_with (first | ((with_reducible refine gate_dst (N := 1) rfl ?_); refine qv 1 #[.int .i64 a0_0, .int .i64 a0_1, .slice A0_2 l0_2.length c0_2] 26 ?_; intro gb474 hg w2 hbox hb; have BK474 := am hbox; have GW474 := qw hg; have GE474 := qw hg; replace HB := qs hb; clear hb hbox hg))
 go_loopg [3, 4] k (fun kq v3 v4 w' => ∃ (x3_1 : List (List Int)) (x4_1 : Int), v4 = .int .i64 x4_1 ∧ Aside0 (spec_boCells.l0 kq x3_1 x4_1 a0_0 a0_1 l0_2 = some r) ∧ Aside0 (kq ≤ k) ∧ Aside0 (Kd.S (Kd.slice 3 (Kd.int .i64)) 24 w' w.heap.size (fun _ => True) v3 x3_1) ∧ Aside0 (w'.heap[gb474]? = some (.cells #[.int .i64 a0_0, .int .i64 a0_1, (.slice A0_2 l0_2.length c0_2)] 26 (0, 0))) ∧ Aside0 (Below w.heap.size w w'))
 case atStart => exact ⟨(([] : List (List Int))), (0), Q3, H', ⟨Nat.le_refl _⟩, ⟨by first | exact Kd.S_nil _ _ _ _ _ | exact Kd.N_nil _ _ _ _ _ | exact Kd.V_nil _ _ _ _ _ | exact Kd.Q_nil _ _ _ _ _ | exact Kd.R_nil _ _ _ _ _⟩, ⟨Q33⟩, ⟨qb⟩⟩
 case round =>
  clear H'
  obtain ⟨x3_1, x4_1, rfl, HA, HK1, Oq5, BK474, HB⟩ := hrel
  cases gk with
  | zero => exact absurd HA.out (by simp [spec_boCells.l0])
  | succ k1 =>
   have H := HA.out
   clear HA
   simp only [spec_boCells.l0] at H
   by_cases c3 : x4_1 < a0_0
   ·
    rw [if_pos c3] at H
    have c3b0 : decide (x4_1 < a0_0) = true := decide_eq_true c3
    clear c3
    have H' := Aside0.mk H
    clear H
    obtain ⟨zq21, zq22, zq23, fq21, fq22, fq23⟩ := qd BK474
    go_wp2
    go_loopg [3, 5] k1 (fun kq v3 v5 w' => ∃ (x3_2 : List (List Int)) (x5_2 : Int), v5 = .int .i64 x5_2 ∧ Aside0 (spec_boCells.l1 kq x3_2 x4_1 x5_2 a0_0 a0_1 l0_2 = some r) ∧ Aside0 (kq ≤ k1) ∧ Aside0 (Kd.S (Kd.slice 3 (Kd.int .i64)) 24 w' w.heap.size (fun _ => True) v3 x3_2) ∧ Aside0 (w'.heap[gb474]? = some (.cells #[.int .i64 a0_0, .int .i64 a0_1, (.slice A0_2 l0_2.length c0_2)] 26 (0, 0))) ∧ Aside0 (Below w.heap.size w w'))
    case atStart => exact ⟨(x3_1), (0), Q3, H', ⟨Nat.le_refl _⟩, ⟨Q30⟩, ⟨Q33⟩, ⟨qb⟩⟩
    case round =>
     clear H'
     try clear c3; try clear c3b0; try clear zq21; try clear zq22; try clear zq23; try clear fq21; try clear fq22; try clear fq23
     obtain ⟨x3_2, x5_2, rfl, HA, HK2, Oq5, BK474, HB⟩ := hrel
     cases gk with
     | zero => exact absurd HA.out (by simp [spec_boCells.l1])
     | succ k2 =>
      have H := HA.out
      clear HA
      simp only [spec_boCells.l1] at H
      by_cases c5 : x5_2 < a0_1
      ·
       rw [if_pos c5] at H
       have c5b0 : decide (x5_2 < a0_1) = true := decide_eq_true c5
       clear c5
       replace H := qE H
       obtain ⟨t475, A6, H⟩ := H
       replace H : (if t475 = true then (if x3_2.length < 5864062014805 then (spec_boCells.l1 k2 (x3_2 ++ [(([x4_1, x5_2] : List Int))]) x4_1 (wrap64 (x5_2 + 1)) a0_0 a0_1 l0_2) else (none)) else (spec_boCells.l1 k2 x3_2 x4_1 (wrap64 (x5_2 + 1)) a0_0 a0_1 l0_2)) = some r := H
       by_cases c7 : t475 = true
       ·
        subst c7
        have H1 : (if x3_2.length < 5864062014805 then (spec_boCells.l1 k2 (x3_2 ++ [(([x4_1, x5_2] : List Int))]) x4_1 (wrap64 (x5_2 + 1)) a0_0 a0_1 l0_2) else (none)) = some r := by first | (rw [if_pos rfl] at H; exact H) | rfl
        clear H
        have H := H1
        clear H1
        obtain ⟨y476, hy_⟩ : ∃ y_ : List Int, y_ = ((([x4_1, x5_2] : List Int))) := ⟨_, rfl⟩
        replace H : (if x3_2.length < 5864062014805 then (spec_boCells.l1 k2 (x3_2 ++ [y476]) x4_1 (wrap64 (x5_2 + 1)) a0_0 a0_1 l0_2) else (none)) = some r := qH
        have Ny476 := Aside0.mk hy_
        clear hy_
        by_cases c8 : x3_2.length < 5864062014805
        ·
         rw [if_pos c8] at H
         have LMc8 := Aside0.mk c8
         clear c8
         obtain ⟨y479, hy_⟩ : ∃ y_ : List (List Int), y_ = ((x3_2 ++ [y476])) := ⟨_, rfl⟩
         replace H : (spec_boCells.l1 k2 y479 x4_1 (wrap64 (x5_2 + 1)) a0_0 a0_1 l0_2) = some r := qH
         have Ny479 := Aside0.mk hy_
         clear hy_
         have H' := Aside0.mk H
         clear H
         obtain ⟨zq27, zq28, zq29, fq27, fq28, fq29⟩ := qd BK474
         go_wp2_with (first | ((with_reducible refine gate_callee (f := 133) rfl ?_); refine qg (some 21) Try.func133 #[.agg #[.int .i64 a0_0, .int .i64 a0_1, .slice A0_2 l0_2.length c0_2], .int .i64 x4_1, .int .i64 x5_2] ?_; (with_reducible refine (spec_boHas.calls a0_0 a0_1 _ _ l0_2 x4_1 x5_2 true _ ?side1 HC0_2.out A6.out).mono ?_); (case side1 => exact Q1); rintro e w10 ⟨rfl, hb⟩; refine ⟨_, rfl, ?_⟩; replace BK474 := sqB BK474 hb; replace Oq5 := am (Kd.S_below Q30 hb); replace HB := qs hb; (try clear hb)) | ((with_reducible refine gate_dst (N := 25) rfl ?_); refine Kd.R_lit (Kd.int .i64) _ 3 ?hg (N := 25) ?hd (xs := ([x4_1, x5_2] : List Int)) (inner := [.int .i64 x4_1, .int .i64 x5_2]) (ok := fun _ => True) (okp := fun _ => True) ?hr ?hp (fun _ hk => hk) trivial (Below.refl _ _) (Nat.le_refl _) (by simp) ?_; (case hd => rfl); (case hg => rfl); (case hr => first | (go_simp; done) | (go_simp; rfl)); (case hp => exact (Reps.one (show Kd.M (Kd.int .i64) _ _ _ x4_1 [.int .i64 x4_1] from rfl) (Reps.one (show Kd.M (Kd.int .i64) _ _ _ x5_2 [.int .i64 x5_2] from rfl) (Reps.none _ _)))); intro v477 w11 ho12 hb hg_ hnew_; clear hg_ hnew_; (first | rw [← Ny476.out] at ho12 | (simp only [Int.reduceToNat] at ho12; rw [← Ny476.out] at ho12)); have Oq0 := ql ho12; replace BK474 := sqB BK474 hb; replace Oq5 := am (Kd.S_elder' Q30 (Kd.R_base ho12) hb); replace HB := qs hb; clear hb ho12; obtain ⟨Ao14, co14, eo14⟩ := Kd.R_slice Oq0.out; subst eo14) | ((with_reducible refine gate_builtin (b := .append) (xs := #[.tmp 22, .tmp 26]) rfl ?_); at_builtin; refine Kd.S_append (Kd.slice 3 (Kd.int .i64)) (w0 := w) w.heap.size rfl (.tmp 22) (.tmp 26) 52 24 (.slice none 0 0) 24 rfl Try.underlying52 info24 rfl (by decide) (by omega) u3 x3_2 y476 [.slice Ao14 y476.length co14] (fun _ => True) (fun k_ => some k_ = (.slice Ao14 y476.length co14 : Value).ownBlock) rfl rfl ?aP (fun k_ hk_ => ((Kd.R_mono (ok' := fun k_ => ((fun _ => True)) k_ ∧ some k_ ≠ (u3 : Value).ownBlock) (Kd.R_apart' (Oq0.out) (Kd.S_typed Oq5.out) (by decide)) (fun k_ hk => ⟨trivial, hk.2⟩))).1 k_ hk_.symm) ?aF ?aO ?aB ?aS ?aL ?_; (case aP => exact Kd.M_row (Kd.R_mono (Kd.R_tight rfl (Kd.R_mono (ok' := fun k_ => ((fun _ => True)) k_ ∧ some k_ ≠ (u3 : Value).ownBlock) (Kd.R_apart' (Oq0.out) (Kd.S_typed Oq5.out) (by decide)) (fun k_ hk => ⟨trivial, hk.2⟩))) (fun _ h_ => h_))); (case aB => exact qb); (case aF => exact (fun _ _ => trivial)); (case aO => exact (by (with_reducible repeat (first | apply Kd.S_alloc | apply Kd.S_drewN | apply Kd.S_drew)); exact Kd.S_mono Oq5.out (fun k_ hk => ⟨trivial, fun e_ => hk.2 e_⟩))); (case aS => exact (below_size qb)); (case aL => have := LMc8.out; omega); intro v480 w13 ho hb hg hat; rw [← Ny479.out] at ho; have Oq1 := am (ho); replace BK474 := am (blk_grown (g := gb474) (o := .cells #[.int .i64 a0_0, .int .i64 a0_1, .slice A0_2 l0_2.length c0_2] 26 (0, 0)) (sqb BK474) hg (Kd.S_ne Oq5.out BK474.out (by decide))); replace HB := am hb; clear Oq5 Oq0; clear ho hb hg hat))
         go_roundg k2
         case measure => have := HK1.out; have := HK2.out; omega
         case rel => exact ⟨(y479), (wrap64 (x5_2 + 1)), Q3, H', ⟨Q40⟩, ⟨by (with_reducible repeat (first | apply Kd.S_alloc | apply Kd.S_drewN | apply Kd.S_drew)); exact Oq1.out⟩, ⟨Q33⟩, ⟨qb⟩⟩
        ·
         rw [if_neg c8] at H
         exact absurd H (by simp)
       ·
        replace c7 := Bool.eq_false_iff.mpr c7
        subst c7
        have H1 : (spec_boCells.l1 k2 x3_2 x4_1 (wrap64 (x5_2 + 1)) a0_0 a0_1 l0_2) = some r := by first | (rw [if_neg (show ¬ (false = true) by decide)] at H; exact H) | rfl
        clear H
        have H := H1
        clear H1
        have H' := Aside0.mk H
        clear H
        obtain ⟨zq6, zq7, zq8, fq6, fq7, fq8⟩ := qd BK474
        go_wp2_with (first | ((with_reducible refine gate_callee (f := 133) rfl ?_); refine qg (some 21) Try.func133 #[.agg #[.int .i64 a0_0, .int .i64 a0_1, .slice A0_2 l0_2.length c0_2], .int .i64 x4_1, .int .i64 x5_2] ?_; (with_reducible refine (spec_boHas.calls a0_0 a0_1 _ _ l0_2 x4_1 x5_2 false _ ?side1 HC0_2.out A6.out).mono ?_); (case side1 => exact Q1); rintro e w16 ⟨rfl, hb⟩; refine ⟨_, rfl, ?_⟩; replace BK474 := sqB BK474 hb; replace Oq5 := am (Kd.S_below Q30 hb); replace HB := qs hb; (try clear hb)))
        go_roundg k2
        case measure => have := HK1.out; have := HK2.out; omega
        case rel => exact ⟨(x3_2), (wrap64 (x5_2 + 1)), Q3, H', ⟨Q40⟩, ⟨Q30⟩, ⟨Q33⟩, ⟨qb⟩⟩
      ·
       rw [if_neg c5] at H
       have c5b0 : decide (x5_2 < a0_1) = false := decide_eq_false c5
       clear c5
       have H' := Aside0.mk H
       clear H
       obtain ⟨zq9, zq10, zq11, fq9, fq10, fq11⟩ := qd BK474
       go_wp2
       go_roundg k2
       case measure => have := HK1.out; have := HK2.out; omega
       case rel => exact ⟨(x3_2), (wrap64 (x4_1 + 1)), Q3, H', ⟨Q40⟩, ⟨Q30⟩, ⟨Q33⟩, ⟨qb⟩⟩
   ·
    rw [if_neg c3] at H
    have c3b0 : decide (x4_1 < a0_0) = false := decide_eq_false c3
    clear c3
    obtain rfl := Option.some.inj H
    obtain ⟨zq12, zq13, zq14, fq12, fq13, fq14⟩ := qd BK474
    go_wp2
    go_ret
    exact ⟨_, Q2, Q30, qb⟩

/-! ### spec_boTurn: function 95 -/
def spec_boTurn.l0 : Nat → List (List Int) → Int → Int → Int → Int → List Int → Option (Int × Int × List Int)
 | 0, _, _, _, _, _, _ => none
 | k + 1, x12, x13, x14, x490000, x490001, x490002 => if x14 < x13 then (if 0 ≤ x14 then (if x14 < (x12.length : Int) then (if 1 < ((rd_L2 x12 x14).length : Int) then (if 0 ≤ (rd (rd_L2 x12 x14) 1) then (if (rd (rd_L2 x12 x14) 1) < (x490002.length : Int) then (if 0 < ((rd_L2 x12 x14).length : Int) then (if 0 ≤ (rd (rd_L2 x12 x14) 0) then (spec_boTurn.l0 k x12 x13 (wrap64 (x14 + 1)) x490000 x490001 (x490002.set ((rd (rd_L2 x12 x14) 1) : Int).toNat (wrap64 ((rd x490002 (rd (rd_L2 x12 x14) 1)) + (shl .i64 1 (rd (rd_L2 x12 x14) 0)))))) else (none)) else (none)) else (none)) else (none)) else (none)) else (none)) else (none)) else (some (x490000, x490001, x490002))
def spec_boTurn.f (k : Nat) (a0_0 : Int) (a0_1 : Int) (l0_2 : List Int) : Option (Int × Int × List Int) := (spec_boEmpty.f a0_1 a0_0).bind fun bt484 => ((spec_boCells.f k a0_0 a0_1 l0_2).bind fun t490 => (spec_boTurn.l0 k t490 (t490.length : Int) 0 bt484.1 bt484.2.1 bt484.2.2))
def spec_boTurn.T5 : Bool × List (List Nat × List Nat) := (true, [([], []), ([0], [0]), ([], []), ([2], [2]), ([3], [3]), ([1, 4], [1, 4]), ([5], [5]), ([], []), ([7], [7]), ([8], [8]), ([9], [9]), ([6, 10], [6, 10]), ([1, 4, 0, 1, 2, 3, 4, 5, 6, 7, 8, 9, 10, 11], [1, 4]), ([12, 11, 0, 1, 2, 3, 4, 5, 6, 7, 8, 9, 10, 11], [11, 12])])
def spec_boTurn.B5 : List Nat := [0, 1, 0, 4, 12, 31, 63, 0, 128, 384, 896, 2047, 4095, 8191]
theorem spec_boTurn.tab5 : rtab .any (opsOf Try.f95 5) = spec_boTurn.T5 := by kernel_rfl
theorem spec_boTurn.bits5 : waitsOk spec_boTurn.T5.2 spec_boTurn.B5 = true := by kernel_rfl
set_option maxHeartbeats 8000000 in
set_option maxRecDepth 100000 in
theorem spec_boTurn.calls (k : Nat) (a0_0 : Int) (a0_1 : Int) (A0_2 : Option Addr) (c0_2 : Nat) (l0_2 : List Int) (r1 : Int) (r2 : Int) (r3 : List Int) (w : World) (hr0_2 : Kd.C (Kd.int .i64) w A0_2 l0_2.length l0_2) (hc0_2 : l0_2.length ≤ c0_2) (h : spec_boTurn.f k a0_0 a0_1 l0_2 = some (r1, r2, r3)) :
  Calls Try.prog 95 #[.agg #[.int .i64 a0_0, .int .i64 a0_1, .slice A0_2 l0_2.length c0_2]] w fun e w' => ∃ v2_ : Value, e = .returned (.agg #[.int .i64 r1, .int .i64 r2, v2_]) ∧ Kd.R (Kd.int .i64) 3 w' w.heap.size (fun _ => True) v2_ r3 ∧ Below w.heap.size w w' := by
 have hu26 := Try.underlying26
 have HR0_2 := Aside0.mk hr0_2
 have HC0_2 := Aside0.mk hc0_2
 clear hr0_2 hc0_2
 have HB := am (Below.refl w.heap.size w)
 have H : ((spec_boEmpty.f a0_1 a0_0).bind fun bt484 => ((spec_boCells.f k a0_0 a0_1 l0_2).bind fun t490 => (spec_boTurn.l0 k t490 (t490.length : Int) 0 bt484.1 bt484.2.1 bt484.2.2))) = some (r1, r2, r3) := h
 clear h
 replace H := qE H
 obtain ⟨⟨t484, t485, t486⟩, A2, H⟩ := H
 replace H : ((spec_boCells.f k a0_0 a0_1 l0_2).bind fun t490 => (spec_boTurn.l0 k t490 (t490.length : Int) 0 t484 t485 t486)) = some (r1, r2, r3) := H
 replace H := qE H
 obtain ⟨t490, A3, H⟩ := H
 replace H : (spec_boTurn.l0 k t490 (t490.length : Int) 0 t484 t485 t486) = some (r1, r2, r3) := H
 have H' := Aside0.mk H
 clear H
 go_enter Try.func95, Try.ntmps95
 go_wp2_with (first | ((with_reducible refine gate_dst (N := 1) rfl ?_); refine qv 1 #[.int .i64 a0_0, .int .i64 a0_1, .slice A0_2 l0_2.length c0_2] 26 ?_; intro gb482 hg w4 hbox hb; have BK482 := am hbox; have GW482 := qw hg; have GE482 := qw hg; replace HB := qs hb; clear hb hbox hg) | ((with_reducible refine gate_dst (N := 2) rfl ?_); refine qv 2 #[.int .i64 0, .int .i64 0, .slice none 0 0] 26 ?_; intro gb483 hg w5 hbox hb; have BK483 := am hbox; have GW483 := qw hg; have GE483 := qw hg; have Nq0 := qn hg BK482; have Nq2 := qN hg BK482; replace BK482 := sqB BK482 hb; replace HB := qs hb; clear hb hbox hg; have bq5 := Nq0.out; have cq5 := Nq2.out; obtain ⟨zq24, zq25, zq26, fq24, fq25, fq26⟩ := qd BK482) | ((with_reducible refine gate_callee (f := 124) rfl ?_); refine qg (some 10) Try.func124 #[.int .i64 a0_1, .int .i64 a0_0] ?_; (with_reducible refine (spec_boEmpty.calls a0_1 a0_0 t484 t485 t486 _ A2.out).mono ?_); rintro e w8 ⟨v487, rfl, ho0, hb⟩; refine ⟨_, rfl, ?_⟩; have Oq2 := ql ho0; replace BK482 := sqB BK482 hb; replace BK483 := sqB BK483 hb; replace HB := qs hb; (try clear hb ho0)) | ((with_reducible refine gate_dst (N := 3) rfl ?_); refine qv 3 #[.int .i64 0, .int .i64 0, .slice none 0 0] 26 ?_; intro gb489 hg w9 hbox hb; have BK489 := am hbox; have GW489 := qw hg; have GE489 := qw hg; have Nq1 := qn hg BK482; have Nq4 := qN hg BK482; have Nq3 := qn hg BK483; have Nq5 := qN hg BK483; replace Oq2 := sqR Oq2 hb; replace BK482 := sqB BK482 hb; replace BK483 := sqB BK483 hb; replace HB := qs hb; clear hb hbox hg; have bq0 := Nq4.out; have cq0 := Nq1.out; have bq1 := Nq5.out; have cq1 := Nq3.out; obtain ⟨zq0, zq1, zq2, fq0, fq1, fq2⟩ := qd BK489; obtain ⟨Ao13, co13, eo13⟩ := Kd.R_slice Oq2.out; subst eo13; obtain ⟨zq3, zq4, zq5, fq3, fq4, fq5⟩ := qd BK482) | ((with_reducible refine gate_callee (f := 131) rfl ?_); refine qg (some 12) Try.func131 #[.agg #[.int .i64 a0_0, .int .i64 a0_1, .slice A0_2 l0_2.length c0_2]] ?_; (with_reducible refine (spec_boCells.calls k a0_0 a0_1 _ _ l0_2 t490 _ ?side1 HC0_2.out A3.out).mono ?_); (case side1 => exact Kd.C_below HR0_2.out qb); rintro e w15 ⟨v491, rfl, ho0, hb⟩; refine ⟨_, rfl, ?_⟩; have Oq3 := am (Kd.S_lower (Kd.S_new' ho0 (sqv (sqo Oq2 BK489))) (below_size qb)); replace Oq2 := am (Kd.R_below (sqw (sqo Oq2 BK489)) hb); replace BK482 := sqBf BK482 Nq1 (.int .i64 t484) (.int .i64 t485) (.slice Ao13 t486.length co13) hb; replace BK483 := sqBf BK483 Nq3 (.int .i64 t484) (.int .i64 t485) (.slice Ao13 t486.length co13) hb; replace BK489 := sqBp BK489 (.int .i64 t484) (.int .i64 t485) (.slice Ao13 t486.length co13) hb; replace HB := qs hb; (try clear hb ho0); obtain ⟨Ao16, co16, eo16⟩ := Kd.S_slice Oq3.out; subst eo16))
 go_loopg [14] k (fun kq v14 w' => ∃ (x14_1 : Int) (x490002_1 : List Int) (u490002 : Value), v14 = .int .i64 x14_1 ∧ Aside0 (spec_boTurn.l0 kq t490 (t490.length : Int) x14_1 t484 t485 x490002_1 = some (r1, r2, r3)) ∧ Aside0 (kq ≤ k) ∧ Aside0 (Kd.S (Kd.slice 3 (Kd.int .i64)) 24 w' w.heap.size (fun k_ => some k_ ≠ (u490002 : Value).ownBlock) (.slice Ao16 t490.length co16) t490) ∧ Aside0 (Kd.R (Kd.int .i64) 3 w' w.heap.size (fun _ => True) u490002 x490002_1) ∧ Aside0 (w'.heap[gb482]? = some (.cells #[.int .i64 a0_0, .int .i64 a0_1, (.slice A0_2 l0_2.length c0_2)] 26 (0, 0))) ∧ Aside0 (w'.heap[gb483]? = some (.cells #[.int .i64 0, .int .i64 0, (.slice none 0 0)] 26 (0, 0))) ∧ Aside0 (w'.heap[gb489]? = some (.cells #[.int .i64 t484, .int .i64 t485, u490002] 26 (0, 0))) ∧ Aside0 (Below w.heap.size w w'))
 case atStart => exact ⟨(0), (t486), (.slice Ao13 t486.length co13), Q3, H', ⟨Nat.le_refl _⟩, ⟨by (with_reducible repeat (first | apply Kd.S_alloc | apply Kd.S_drewN | apply Kd.S_drew)); exact Kd.S_mono Oq3.out (fun _ hk => hk.2)⟩, ⟨by (with_reducible repeat (first | apply Kd.R_alloc | apply Kd.R_drewN | apply Kd.R_drew)); exact Oq2.out⟩, ⟨by (with_reducible repeat (first | refine blk_drewN ?_ _ | refine blk_drew ?_ | refine blk_alloc ?_ _)); exact BK482.out⟩, ⟨by (with_reducible repeat (first | refine blk_drewN ?_ _ | refine blk_drew ?_ | refine blk_alloc ?_ _)); exact BK483.out⟩, ⟨by (with_reducible repeat (first | refine blk_drewN ?_ _ | refine blk_drew ?_ | refine blk_alloc ?_ _)); exact BK489.out⟩, ⟨qb⟩⟩
 case round =>
  clear H'
  try clear zq0; try clear zq1; try clear zq2; try clear zq3; try clear zq4; try clear zq5; try clear zq24; try clear zq25; try clear zq26; try clear fq0; try clear fq1; try clear fq2; try clear fq3; try clear fq4; try clear fq5; try clear fq24; try clear fq25; try clear fq26
  obtain ⟨x14_1, x490002_1, u490002, rfl, HA, HK1, Oq4, Oq6, BK482, BK483, BK489, HB⟩ := hrel
  cases gk with
  | zero => exact absurd HA.out (by simp [spec_boTurn.l0])
  | succ k1 =>
   have H := HA.out
   clear HA
   simp only [spec_boTurn.l0] at H
   by_cases c17 : x14_1 < (t490.length : Int)
   ·
    rw [if_pos c17] at H
    have c17b0 : decide (x14_1 < (t490.length : Int)) = true := decide_eq_true c17
    clear c17
    by_cases c18 : 0 ≤ x14_1
    ·
     rw [if_pos c18] at H
     have c18b0 : decide (0 ≤ x14_1) = true := decide_eq_true c18
     clear c18
     by_cases c19 : x14_1 < (t490.length : Int)
     ·
      rw [if_pos c19] at H
      have c19b0 : decide (x14_1 < (t490.length : Int)) = true := decide_eq_true c19
      clear c19
      by_cases c20 : 1 < ((rd_L2 t490 x14_1).length : Int)
      ·
       rw [if_pos c20] at H
       have c20b0 : decide (1 < ((rd_L2 t490 x14_1).length : Int)) = true := decide_eq_true c20
       have c20b1 : decide (1 < (rd_L2 t490 x14_1).length) = true := decide_eq_true (by omega)
       clear c20
       by_cases c21 : 0 ≤ (rd (rd_L2 t490 x14_1) 1)
       ·
        rw [if_pos c21] at H
        have c21b0 : decide (0 ≤ (rd (rd_L2 t490 x14_1) 1)) = true := decide_eq_true c21
        clear c21
        by_cases c22 : (rd (rd_L2 t490 x14_1) 1) < (x490002_1.length : Int)
        ·
         rw [if_pos c22] at H
         have c22b0 : decide ((rd (rd_L2 t490 x14_1) 1) < (x490002_1.length : Int)) = true := decide_eq_true c22
         clear c22
         by_cases c23 : 0 < ((rd_L2 t490 x14_1).length : Int)
         ·
          rw [if_pos c23] at H
          have c23b0 : decide (0 < ((rd_L2 t490 x14_1).length : Int)) = true := decide_eq_true c23
          have c23b1 : decide (0 < (rd_L2 t490 x14_1).length) = true := decide_eq_true (by omega)
          clear c23
          by_cases c24 : 0 ≤ (rd (rd_L2 t490 x14_1) 0)
          ·
           rw [if_pos c24] at H
           have c24b0 := eq_true c24
           have c24b1 : decide (0 ≤ (rd (rd_L2 t490 x14_1) 0)) = true := decide_eq_true c24
           clear c24
           obtain ⟨ji25, hji25⟩ : ∃ j_ : Int, (shl .i64 1 (rd (rd_L2 t490 x14_1) 0)) = j_ := ⟨_, rfl⟩
           replace H : (spec_boTurn.l0 k1 t490 (t490.length : Int) (wrap64 (x14_1 + 1)) t484 t485 (x490002_1.set ((rd (rd_L2 t490 x14_1) 1) : Int).toNat (wrap64 ((rd x490002_1 (rd (rd_L2 t490 x14_1) 1)) + (ji25))))) = some (r1, r2, r3) := by first | (rw [hji25] at H; exact H) | (simp only [hji25] at H ⊢; exact H)
           have hji25_ : (IntKind.i64.wrap (1 * 2 ^ min (rd (rd_L2 t490 x14_1) 0).toNat 64)) = ji25 := hji25
           have hji25z : (rd (rd_L2 t490 x14_1) 0) ≤ 64 → (IntKind.i64.wrap (1 * 2 ^ (rd (rd_L2 t490 x14_1) 0).toNat)) = ji25 := shl_small hji25
           have hji25u : (IntKind.i64.wrap (2 ^ min (rd (rd_L2 t490 x14_1) 0).toNat 64)) = ji25 := by have h_ := hji25_; rw [Int.one_mul] at h_; exact h_
           have hji25v : (rd (rd_L2 t490 x14_1) 0) ≤ 64 → (IntKind.i64.wrap (2 ^ (rd (rd_L2 t490 x14_1) 0).toNat)) = ji25 := fun hle_ => by have h_ := hji25z hle_; rw [Int.one_mul] at h_; exact h_
           have hji25y : (wrap64 (1 * 2 ^ min (rd (rd_L2 t490 x14_1) 0).toNat 64)) = ji25 := (i64_w _).symm.trans hji25_
           have hji25x : (rd (rd_L2 t490 x14_1) 0) ≤ 64 → (wrap64 (1 * 2 ^ (rd (rd_L2 t490 x14_1) 0).toNat)) = ji25 := fun h_ => (i64_w _).symm.trans (hji25z h_)
           obtain ⟨y497, hy_⟩ : ∃ y_ : List Int, y_ = ((x490002_1.set ((rd (rd_L2 t490 x14_1) 1) : Int).toNat (wrap64 ((rd x490002_1 (rd (rd_L2 t490 x14_1) 1)) + (ji25))))) := ⟨_, rfl⟩
           replace H : (spec_boTurn.l0 k1 t490 (t490.length : Int) (wrap64 (x14_1 + 1)) t484 t485 y497) = some (r1, r2, r3) := qH
           have Ny497 := Aside0.mk hy_
           clear hy_
           have H' := Aside0.mk H
           clear H
           have p493 : 0 ≤ (x14_1 : Int) := of_decide_eq_true Q0
           have q493 : x14_1 < (t490.length : Int) := of_decide_eq_true Q0
           obtain ⟨ad493, A493_0, c493_0, e493, hx493_0, hl493_0, hi493_0⟩ := at_L2 (Kd.S_reads' Oq4.out).2.2 x14_1 p493 q493
           cases e493
           obtain ⟨ce493, hce493, hMe493, hcc493⟩ := Kd.S_get Oq4.out [] x14_1 p493 (by first | exact q493 | exact of_decide_eq_true Q0 | (have e_ := (Kd.S_reads' Oq4.out).1; omega))
           obtain ⟨ve493_0, rfl, ge493_0⟩ := hMe493
           have hv493_0 := hcc493 0 _ rfl
           rw [Nat.add_zero, show ((Kd.slice 3 (Kd.int .i64))).sz = 1 from rfl, Nat.mul_one] at hv493_0
           replace hv493_0 := Option.some.inj (hv493_0.symm.trans hx493_0)
           rw [hv493_0] at ge493_0
           have HL493_0 := am (show Kd.R (Kd.int .i64) 3 _ _ _ _ (rd_L2 t490 x14_1) from ge493_0)
           clear hv493_0 ge493_0 hcc493 hce493
           have HR493_0 := Aside0.mk hi493_0
           have HC493_0 := Aside0.mk hl493_0
           clear hi493_0 hl493_0
           replace p493 := eq_true p493
           replace q493 := eq_true q493
           try go_wp2
           replace Oq4 := am (Kd.S_drew Oq4.out)
           replace Oq6 := am (Kd.R_drew Oq6.out)
           replace HL493_0 := am (Kd.R_drew HL493_0.out)
           replace BK482 := am (blk_drew BK482.out)
           replace BK483 := am (blk_drew BK483.out)
           replace BK489 := am (blk_drew BK489.out)
           replace HR493_0 := am (Kd.C_drew HR493_0.out)
           replace HB := am (below_drew1 HB.out)
           have p494 : 0 ≤ (1 : Int) := (by omega)
           have q494 : 1 < ((rd_L2 t490 x14_1).length : Int) := of_decide_eq_true Q0
           obtain ⟨ad494, e494, hx494_0⟩ := Kd.at_int Q53 1 p494 q494
           cases e494
           (try simp only [show (1 : Int).toNat = 1 from rfl, Nat.reduceMul, Nat.reduceEqDiff, Go.Addr.add, ↓reduceIte] at hx494_0)
           have qi494 : (1 < (rd_L2 t490 x14_1).length) = True := eq_true (by omega)
           (try rw [show ((1 : Int)).toNat = 1 from rfl] at hx494_0)
           replace p494 := eq_true p494
           replace q494 := eq_true q494
           obtain ⟨Ao28, co28, eo28⟩ := Kd.R_slice Oq6.out
           (first | subst eo28 | (injection eo28 with f1_ f2_ f3_; have f4_ := f1_.symm; have f5_ := f3_.symm; clear f1_ f2_ f3_; subst f4_; subst f5_))
           have p495 : 0 ≤ ((rd (rd_L2 t490 x14_1) 1) : Int) := of_decide_eq_true Q0
           have q495 : (rd (rd_L2 t490 x14_1) 1) < (x490002_1.length : Int) := of_decide_eq_true Q0
           obtain ⟨ad495, e495, hx495_0⟩ := Kd.at_int (Kd.R_reads' Oq6.out).2.2 (rd (rd_L2 t490 x14_1) 1) p495 q495
           cases e495
           replace p495 := eq_true p495
           replace q495 := eq_true q495
           have p496 : 0 ≤ (0 : Int) := (by omega)
           have q496 : 0 < ((rd_L2 t490 x14_1).length : Int) := of_decide_eq_true Q0
           obtain ⟨ad496, e496, hx496_0⟩ := Kd.at_int Q53 0 p496 q496
           obtain rfl : ad494 = ad496 := (by injection e496)
           have qi496 : (0 < (rd_L2 t490 x14_1).length) = True := eq_true (by omega)
           (try rw [show ((0 : Int)).toNat = 0 from rfl] at hx496_0)
           (try rw [Addr.add_zero'] at hx496_0)
           replace p496 := eq_true p496
           replace q496 := eq_true q496
           have p26 : 0 ≤ ((rd (rd_L2 t490 x14_1) 1) : Int) := of_decide_eq_true Q0
           have q26 : ((rd (rd_L2 t490 x14_1) 1) : Int) < ((x490002_1.length : Int) : Int) := of_decide_eq_true Q0
           obtain ⟨go26, co26, eo26, gb26, gl26, cl26, HG26⟩ := Kd.R_form Oq6.out (by omega)
           (first | cases eo26 | (injection eo26 with ea_ en_ ec_; (first | subst ea_ | (injection ea_ with ea_; subst ea_)); subst ec_; clear en_))
           have GB26 := Aside0.mk gb26
           have GG26 := Aside0.mk HG26
           clear gb26 gl26 HG26
           (first | simp only [add_plain] at hx495_0 | skip)
           obtain ⟨hx26_0, hf26_0⟩ := Kd.R_celln 0 Oq6.out ((rd (rd_L2 t490 x14_1) 1) : Int) p26 q26
           replace p26 := eq_true p26
           replace q26 := eq_true q26
           have HP29 := Kd.R_putn Oq6.out ((rd (rd_L2 t490 x14_1) 1) : Int) (wrap64 ((rd x490002_1 (rd (rd_L2 t490 x14_1) 1)) + (ji25)))
           rw [← Ny497.out] at HP29
           have HQ29 := Aside0.mk HP29
           clear HP29
           refine start_ (n := 14) (S := fun w' => w'.cell? ⟨gb489, 0, none⟩ = some (.int .i64 t484) ∧ w'.cell? ⟨gb489, 1, none⟩ = some (.int .i64 t485) ∧ w'.cell? ⟨gb489, 2, none⟩ = some (.slice (some ⟨go26, 0, none⟩) x490002_1.length co28) ∧ w'.cell? ⟨ad494.block, ad494.off + 1, none⟩ = some (.int .i64 (rd (rd_L2 t490 x14_1) 1)) ∧ w'.cell? ⟨go26, ((rd (rd_L2 t490 x14_1) 1) : Int).toNat, none⟩ = some (.int .i64 (rd x490002_1 (rd (rd_L2 t490 x14_1) 1))) ∧ w'.cell? ad494 = some (.int .i64 (rd (rd_L2 t490 x14_1) 0))) (ds := [13]) #[false, false, false, false, false, false, false, false, false, false, false, false, false, false] (by kernel_rfl) rfl rfl ⟨sqc BK489 0, sqc BK489 1, sqc BK489 2, hx494_0, hx26_0, hx496_0⟩ (fun hHeld => ?_); refine with_tabW spec_boTurn.tab5 spec_boTurn.bits5 (fun HT_ HW_ => ?_)
           generalize wr.drew = w27 at Oq4 Oq6 HL493_0 BK482 BK483 BK489 HR493_0 HB GG26 HQ29 hf26_0 hx26_0 hx494_0 hx495_0 hx496_0 hHeld ⊢
           refine qp 0 (some 18) #[true, false, false, false, false, false, false, false, false, false, false, false, false, false] ?_
           refine qp 2 (some 20) #[true, false, true, false, false, false, false, false, false, false, false, false, false, false] ?_
           refine qp 3 (some 21) #[true, false, true, true, false, false, false, false, false, false, false, false, false, false] ?_
           refine qp 7 (some 25) #[true, false, true, true, false, false, false, true, false, false, false, false, false, false] ?_
           refine qp 8 (some 26) #[true, false, true, true, false, false, false, true, true, false, false, false, false, false] ?_
           refine take_ (i := 1) (N := some 19) (v := ?_) (a' := ?_) #[true, true, true, true, false, false, false, true, true, false, false, false, false, false] rfl rfl (take_ofW HT_.out HW_.out (by kernel_rfl)) (fun _ _ _ h => h) (Or.inl ⟨by rfl, ?_⟩) hHeld ?_ ?_
           rotate_left
           ·
            rintro w' ⟨s0, s1, s2, s3, s4, s5⟩
            go_simp
            with_reducible rfl
           rotate_left
           ·
            simp only [Act.put, List.setIfInBounds_toArray, List.set_cons_zero, List.set_cons_succ, i64_w, i32_w]
            rfl
           refine take_ (i := 4) (N := some 22) (v := ?_) (a' := ?_) #[true, true, true, true, true, false, false, true, true, false, false, false, false, false] rfl rfl (take_ofW HT_.out HW_.out (by kernel_rfl)) (fun _ _ _ h => h) (Or.inl ⟨by rfl, ?_⟩) hHeld ?_ ?_
           rotate_left
           ·
            rintro w' ⟨s0, s1, s2, s3, s4, s5⟩
            go_simp
            with_reducible rfl
           rotate_left
           ·
            simp only [Act.put, List.setIfInBounds_toArray, List.set_cons_zero, List.set_cons_succ, i64_w, i32_w]
            rfl
           refine qp 5 (some 23) #[true, true, true, true, true, true, false, true, true, false, false, false, false, false] ?_
           refine take_ (i := 6) (N := some 24) (v := ?_) (a' := ?_) #[true, true, true, true, true, true, true, true, true, false, false, false, false, false] rfl rfl (take_ofW HT_.out HW_.out (by kernel_rfl)) (fun _ _ _ h => h) (Or.inl ⟨by rfl, ?_⟩) hHeld ?_ ?_
           rotate_left
           ·
            rintro w' ⟨s0, s1, s2, s3, s4, s5⟩
            go_simp
            with_reducible rfl
           rotate_left
           ·
            simp only [Act.put, List.setIfInBounds_toArray, List.set_cons_zero, List.set_cons_succ, i64_w, i32_w]
            rfl
           refine take_ (i := 9) (N := some 27) (v := ?_) (a' := ?_) #[true, true, true, true, true, true, true, true, true, true, false, false, false, false] rfl rfl (take_ofW HT_.out HW_.out (by kernel_rfl)) (fun _ _ _ h => h) (Or.inl ⟨by rfl, ?_⟩) hHeld ?_ ?_
           rotate_left
           ·
            rintro w' ⟨s0, s1, s2, s3, s4, s5⟩
            go_simp
            with_reducible rfl
           rotate_left
           ·
            simp only [Act.put, List.setIfInBounds_toArray, List.set_cons_zero, List.set_cons_succ, i64_w, i32_w]
            rfl
           refine qp 10 (some 28) #[true, true, true, true, true, true, true, true, true, true, true, false, false, false] ?_
           refine qp 11 (some 29) #[true, true, true, true, true, true, true, true, true, true, true, true, false, false] ?_
           refine qp 12 (some 30) #[true, true, true, true, true, true, true, true, true, true, true, true, true, false] ?_
           refine last_ (i := 13) (N := none) #[true, true, true, true, true, true, true, true, true, true, true, true, true, true] rfl rfl (one_of HT_.out (by kernel_rfl)) (by decide) fun K hK => ?_
           refine skip_ (w1 := ?_) (by rfl) rfl ?_ ?_
           rotate_left
           ·
            go_simp
            rfl
           refine hK.out _ _ ?_
           clear hK K
           refine done_ (done_of HT_.out (by kernel_rfl)) ?_
           try go_wp2
           go_roundg k1
           case measure => have := HK1.out; omega
           case rel => exact ⟨(wrap64 (x14_1 + 1)), (y497), (.slice (some ⟨go26, 0, none⟩) x490002_1.length co28), Q3, H', ⟨Q49⟩, ⟨by (with_reducible repeat (first | apply Kd.S_alloc | apply Kd.S_drewN | apply Kd.S_drew)); exact Kd.S_mono (Kd.S_far (p := ⟨go26, ((rd (rd_L2 t490 x14_1) 1) : Int).toNat, none⟩) (Kd.S_mono Oq4.out (fun k_ hk => (⟨hk, fun e_ => hk (by rw [e_]; rfl)⟩ : _ ∧ k_ ≠ go26))) (fun _ hk => hk.2) (.int .i64 (wrap64 ((rd x490002_1 (rd (rd_L2 t490 x14_1) 1)) + (ji25))))) (fun _ hk => hk.1)⟩, ⟨by (with_reducible repeat (first | apply Kd.R_alloc | apply Kd.R_drewN | apply Kd.R_drew)); exact HQ29.out⟩, ⟨by (with_reducible repeat (first | refine blk_drewN ?_ _ | refine blk_drew ?_ | refine blk_alloc ?_ _)); refine blk_far ?_ (by have h_ := Kd.R_ne Oq6.out BK482.out (by decide); intro e_; exact h_ (by rw [e_]; rfl)) _; (with_reducible repeat (first | refine blk_drewN ?_ _ | refine blk_drew ?_ | refine blk_alloc ?_ _)); exact BK482.out⟩, ⟨by (with_reducible repeat (first | refine blk_drewN ?_ _ | refine blk_drew ?_ | refine blk_alloc ?_ _)); refine blk_far ?_ (by have h_ := Kd.R_ne Oq6.out BK483.out (by decide); intro e_; exact h_ (by rw [e_]; rfl)) _; (with_reducible repeat (first | refine blk_drewN ?_ _ | refine blk_drew ?_ | refine blk_alloc ?_ _)); exact BK483.out⟩, ⟨by (with_reducible repeat (first | refine blk_drewN ?_ _ | refine blk_drew ?_ | refine blk_alloc ?_ _)); refine blk_far ?_ (by have h_ := Kd.R_ne Oq6.out BK489.out (by decide); intro e_; exact h_ (by rw [e_]; rfl)) _; (with_reducible repeat (first | refine blk_drewN ?_ _ | refine blk_drew ?_ | refine blk_alloc ?_ _)); exact BK489.out⟩, ⟨by repeat (first | (with_reducible first | exact HB.out | apply below_alloc | apply pw_below_drewN | apply below_drew1 | refine below_set ?_ GB26.out | refine below_set ?_ GE482.out | refine below_set ?_ GE483.out | refine below_set ?_ GE489.out) | exact HB.out)⟩⟩
          ·
           rw [if_neg c24] at H
           exact absurd H (by simp)
         ·
          rw [if_neg c23] at H
          exact absurd H (by simp)
        ·
         rw [if_neg c22] at H
         exact absurd H (by simp)
       ·
        rw [if_neg c21] at H
        exact absurd H (by simp)
      ·
       rw [if_neg c20] at H
       exact absurd H (by simp)
     ·
      rw [if_neg c19] at H
      exact absurd H (by simp)
    ·
     rw [if_neg c18] at H
     exact absurd H (by simp)
   ·
    rw [if_neg c17] at H
    have c17b0 : decide (x14_1 < (t490.length : Int)) = false := decide_eq_false c17
    clear c17
    simp only [Option.some.injEq, Prod.mk.injEq] at H
    obtain ⟨rfl, rfl, rfl⟩ := H
    have bq2 := Nq4.out
    have cq2 := Nq1.out
    have bq3 := Nq5.out
    have cq3 := Nq3.out
    obtain ⟨zq15, zq16, zq17, fq15, fq16, fq17⟩ := qd BK489
    have bq4 := Nq2.out
    have cq4 := Nq0.out
    obtain ⟨zq18, zq19, zq20, fq18, fq19, fq20⟩ := qd BK483
    obtain ⟨Ao35, co35, eo35⟩ := Kd.R_slice Oq6.out
    subst eo35
    go_wp2
    refine bodyPost_ret (results_cell_row rfl _ _ gb483 26 #[.int .i64 t484, .int .i64 t485, .slice Ao35 x490002_1.length co35] (0, 0) _ rfl (by (with_reducible repeat (first | refine blk_drewN ?_ _ | refine blk_drew ?_ | refine blk_alloc ?_ _)); refine blk_put (cs := #[.int .i64 t484, .int .i64 t485, .slice none 0 0]) ?_ 2 _ rfl; (with_reducible repeat (first | refine blk_drewN ?_ _ | refine blk_drew ?_ | refine blk_alloc ?_ _)); refine blk_put (cs := #[.int .i64 t484, .int .i64 0, .slice none 0 0]) ?_ 1 _ rfl; (with_reducible repeat (first | refine blk_drewN ?_ _ | refine blk_drew ?_ | refine blk_alloc ?_ _)); refine blk_put (cs := #[.int .i64 0, .int .i64 0, .slice none 0 0]) ?_ 0 _ rfl; (with_reducible repeat (first | refine blk_drewN ?_ _ | refine blk_drew ?_ | refine blk_alloc ?_ _)); exact BK483.out) Try.underlying26 rfl (by kernel_rfl)) rfl ?_
    exact ⟨_, Q2, by (with_reducible repeat (first | apply Kd.R_alloc | apply Kd.R_drewN | apply Kd.R_drew)); exact Kd.R_mono (Kd.R_far (p := ⟨gb483, 2, none⟩) (Kd.R_far (p := ⟨gb483, 1, none⟩) (Kd.R_far (p := ⟨gb483, 0, none⟩) (Kd.R_types Oq6.out BK483.out (by decide)) (fun _ hk => hk.2) (.int .i64 t484)) (fun _ hk => hk.2) (.int .i64 t485)) (fun _ hk => hk.2) (.slice Ao35 x490002_1.length co35)) (fun _ hk => trivial), qb⟩

end Go.Proofs.Ytllhofdgbpnkkaa.PFnRookNumbersMultiply
