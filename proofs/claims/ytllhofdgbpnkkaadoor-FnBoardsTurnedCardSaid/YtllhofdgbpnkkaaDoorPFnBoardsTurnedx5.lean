-- Printed for this claim by wip/pp.py over the kit's printer; Lean checks it.
import Derived.Test.YtllhofdgbpnkkaaDoorPFnBoardsTurnedx0
import Derived.Test.YtllhofdgbpnkkaaDoorPFnBoardsTurnedx1
import Derived.Test.YtllhofdgbpnkkaaDoorPFnBoardsTurnedx4
namespace Go.Proofs.YtllhofdgbpnkkaaDoor.PFnBoardsTurned
open Go.RowKit Go.Proofs.YtllhofdgbpnkkaaDoorW.PrintWords Go.Proofs.YtllhofdgbpnkkaaDoorW.PrintLast Go.Proofs.YtllhofdgbpnkkaaDoorW.PrintMore
attribute [local go_sem] max2_int min2_int max_two min_two max_three min_three max_four min_four   -- for this text's walks alone
set_option linter.unusedVariables false
set_option linter.unusedSimpArgs false

/-! ### spec_boCells: function 34 -/
mutual
def spec_boCells.l0 : Nat → List (List Int) → Int → Int → Int → List Int → Option ((List (List Int)))
 | 0, _, _, _, _, _ => none
 | k + 1, x3, x4, x237000, x237001, x237002 => if x4 < x237000 then (spec_boCells.l1 k x3 x4 0 x237000 x237001 x237002) else (some x3)
def spec_boCells.l1 : Nat → List (List Int) → Int → Int → Int → Int → List Int → Option ((List (List Int)))
 | 0, _, _, _, _, _, _ => none
 | k + 1, x3, x4, x5, x237000, x237001, x237002 => if x5 < x237001 then ((spec_boHas.f x237000 x237001 x237002 x4 x5).bind fun t237 => (if t237 = true then (if x3.length < 5864062014805 then (spec_boCells.l1 k (x3 ++ [(([x4, x5] : List Int))]) x4 (wrap64 (x5 + 1)) x237000 x237001 x237002) else (none)) else (spec_boCells.l1 k x3 x4 (wrap64 (x5 + 1)) x237000 x237001 x237002))) else (spec_boCells.l0 k x3 (wrap64 (x4 + 1)) x237000 x237001 x237002)
end
def spec_boCells.f (k : Nat) (a0_0 : Int) (a0_1 : Int) (l0_2 : List Int) : Option ((List (List Int))) := spec_boCells.l0 k ([] : List (List Int)) 0 a0_0 a0_1 l0_2
set_option maxHeartbeats 8000000 in
set_option maxRecDepth 100000 in
theorem spec_boCells.calls (k : Nat) (a0_0 : Int) (a0_1 : Int) (A0_2 : Option Addr) (c0_2 : Nat) (l0_2 : List Int) (r : List (List Int)) (w : World) (hr0_2 : Kd.C (Kd.int .i64) w A0_2 l0_2.length l0_2) (hc0_2 : l0_2.length ≤ c0_2) (h : spec_boCells.f k a0_0 a0_1 l0_2 = some r) :
  Calls Tryd.prog 34 #[.agg #[.int .i64 a0_0, .int .i64 a0_1, .slice A0_2 l0_2.length c0_2]] w fun e w' => ∃ v0_ : Value, e = .returned (v0_) ∧ Kd.S (Kd.slice 3 (Kd.int .i64)) 24 w' w.heap.size (fun _ => True) v0_ r ∧ Below w.heap.size w w' := by
 have hu26 := Tryd.underlying26
 have HR0_2 := Aside0.mk hr0_2
 have HC0_2 := Aside0.mk hc0_2
 clear hr0_2 hc0_2
 have HB := am (Below.refl w.heap.size w)
 have H : (spec_boCells.l0 k ([] : List (List Int)) 0 a0_0 a0_1 l0_2) = some r := h
 clear h
 have H' := Aside0.mk H
 clear H
 go_enter Tryd.func34, Tryd.ntmps34
 go_wp2_with (first | ((with_reducible refine gate_dst (N := 1) rfl ?_); refine qv 1 #[.int .i64 a0_0, .int .i64 a0_1, .slice A0_2 l0_2.length c0_2] 26 ?_; intro gb236 hg w2 hbox hb; have BK236 := am hbox; have GW236 := qw hg; have GE236 := qw hg; replace HB := qs hb; clear hb hbox hg))
 go_loopg [3, 4] k (fun kq v3 v4 w' => ∃ (x3_1 : List (List Int)) (x4_1 : Int), v4 = .int .i64 x4_1 ∧ Aside0 (spec_boCells.l0 kq x3_1 x4_1 a0_0 a0_1 l0_2 = some r) ∧ Aside0 (kq ≤ k) ∧ Aside0 (Kd.S (Kd.slice 3 (Kd.int .i64)) 24 w' w.heap.size (fun _ => True) v3 x3_1) ∧ Aside0 (w'.heap[gb236]? = some (.cells #[.int .i64 a0_0, .int .i64 a0_1, (.slice A0_2 l0_2.length c0_2)] 26 (0, 0))) ∧ Aside0 (Below w.heap.size w w'))
 case atStart => exact ⟨(([] : List (List Int))), (0), Q2, H', ⟨Nat.le_refl _⟩, ⟨by first | exact Kd.S_nil _ _ _ _ _ | exact Kd.N_nil _ _ _ _ _ | exact Kd.V_nil _ _ _ _ _ | exact Kd.Q_nil _ _ _ _ _ | exact Kd.R_nil _ _ _ _ _⟩, ⟨Q29⟩, ⟨qb⟩⟩
 case round =>
  clear H'
  try clear p2
  obtain ⟨x3_1, x4_1, rfl, HA, HK1, Oq8, BK236, HB⟩ := hrel
  cases gk with
  | zero => exact absurd HA.out (by simp [spec_boCells.l0])
  | succ k1 =>
   have H := HA.out
   clear HA
   simp only [spec_boCells.l0] at H
   by_cases c3 : x4_1 < a0_0
   ·
    rw [if_pos c3] at H
    have c3b0 : decide (x4_1 < a0_0) = true := decide_eq_true c3
    clear c3
    have H' := Aside0.mk H
    clear H
    obtain ⟨zq27, zq28, zq29, fq27, fq28, fq29⟩ := qd BK236
    go_wp2
    go_loopg [3, 5] k1 (fun kq v3 v5 w' => ∃ (x3_2 : List (List Int)) (x5_2 : Int), v5 = .int .i64 x5_2 ∧ Aside0 (spec_boCells.l1 kq x3_2 x4_1 x5_2 a0_0 a0_1 l0_2 = some r) ∧ Aside0 (kq ≤ k1) ∧ Aside0 (Kd.S (Kd.slice 3 (Kd.int .i64)) 24 w' w.heap.size (fun _ => True) v3 x3_2) ∧ Aside0 (w'.heap[gb236]? = some (.cells #[.int .i64 a0_0, .int .i64 a0_1, (.slice A0_2 l0_2.length c0_2)] 26 (0, 0))) ∧ Aside0 (Below w.heap.size w w'))
    case atStart => exact ⟨(x3_1), (0), Q2, H', ⟨Nat.le_refl _⟩, ⟨Q23⟩, ⟨Q29⟩, ⟨qb⟩⟩
    case round =>
     clear H'
     try clear c3; try clear c3b0; try clear zq27; try clear zq28; try clear zq29; try clear fq27; try clear fq28; try clear fq29
     obtain ⟨x3_2, x5_2, rfl, HA, HK2, Oq8, BK236, HB⟩ := hrel
     cases gk with
     | zero => exact absurd HA.out (by simp [spec_boCells.l1])
     | succ k2 =>
      have H := HA.out
      clear HA
      simp only [spec_boCells.l1] at H
      by_cases c5 : x5_2 < a0_1
      ·
       rw [if_pos c5] at H
       have c5b0 : decide (x5_2 < a0_1) = true := decide_eq_true c5
       clear c5
       replace H := qE H
       obtain ⟨t237, A6, H⟩ := H
       replace H : (if t237 = true then (if x3_2.length < 5864062014805 then (spec_boCells.l1 k2 (x3_2 ++ [(([x4_1, x5_2] : List Int))]) x4_1 (wrap64 (x5_2 + 1)) a0_0 a0_1 l0_2) else (none)) else (spec_boCells.l1 k2 x3_2 x4_1 (wrap64 (x5_2 + 1)) a0_0 a0_1 l0_2)) = some r := H
       by_cases c7 : t237 = true
       ·
        subst c7
        have H1 : (if x3_2.length < 5864062014805 then (spec_boCells.l1 k2 (x3_2 ++ [(([x4_1, x5_2] : List Int))]) x4_1 (wrap64 (x5_2 + 1)) a0_0 a0_1 l0_2) else (none)) = some r := by first | (rw [if_pos rfl] at H; exact H) | rfl
        clear H
        have H := H1
        clear H1
        obtain ⟨y238, hy_⟩ : ∃ y_ : List Int, y_ = ((([x4_1, x5_2] : List Int))) := ⟨_, rfl⟩
        replace H : (if x3_2.length < 5864062014805 then (spec_boCells.l1 k2 (x3_2 ++ [y238]) x4_1 (wrap64 (x5_2 + 1)) a0_0 a0_1 l0_2) else (none)) = some r := qH
        have Ny238 := Aside0.mk hy_
        clear hy_
        by_cases c8 : x3_2.length < 5864062014805
        ·
         rw [if_pos c8] at H
         have LMc8 := Aside0.mk c8
         clear c8
         obtain ⟨y241, hy_⟩ : ∃ y_ : List (List Int), y_ = ((x3_2 ++ [y238])) := ⟨_, rfl⟩
         replace H : (spec_boCells.l1 k2 y241 x4_1 (wrap64 (x5_2 + 1)) a0_0 a0_1 l0_2) = some r := qH
         have Ny241 := Aside0.mk hy_
         clear hy_
         have H' := Aside0.mk H
         clear H
         obtain ⟨zq36, zq37, zq38, fq36, fq37, fq38⟩ := qd BK236
         go_wp2_with (first | ((with_reducible refine gate_callee (f := 64) rfl ?_); refine qg (some 21) Tryd.func64 #[.agg #[.int .i64 a0_0, .int .i64 a0_1, .slice A0_2 l0_2.length c0_2], .int .i64 x4_1, .int .i64 x5_2] ?_; (with_reducible refine (spec_boHas.calls a0_0 a0_1 _ _ l0_2 x4_1 x5_2 true _ ?side1 HC0_2.out A6.out).mono ?_); (case side1 => exact Q3); rintro e w10 ⟨rfl, hb⟩; refine ⟨_, rfl, ?_⟩; replace BK236 := sqB BK236 hb; replace Oq8 := am (Kd.S_below Q23 hb); replace HB := qs hb; (try clear hb)) | ((with_reducible refine gate_dst (N := 25) rfl ?_); refine Kd.R_lit (Kd.int .i64) _ 3 ?hg (N := 25) ?hd (xs := ([x4_1, x5_2] : List Int)) (inner := [.int .i64 x4_1, .int .i64 x5_2]) (ok := fun _ => True) (okp := fun _ => True) ?hr ?hp (fun _ hk => hk) trivial (Below.refl _ _) (Nat.le_refl _) (by simp) ?_; (case hd => rfl); (case hg => rfl); (case hr => first | (go_simp; done) | (go_simp; rfl)); (case hp => exact (Reps.one (show Kd.M (Kd.int .i64) _ _ _ x4_1 [.int .i64 x4_1] from rfl) (Reps.one (show Kd.M (Kd.int .i64) _ _ _ x5_2 [.int .i64 x5_2] from rfl) (Reps.none _ _)))); intro v239 w11 ho12 hb hg_ hnew_; clear hg_ hnew_; (first | rw [← Ny238.out] at ho12 | (simp only [Int.reduceToNat] at ho12; rw [← Ny238.out] at ho12)); have Oq0 := ql ho12; replace BK236 := sqB BK236 hb; replace Oq8 := am (Kd.S_elder' Q23 (Kd.R_base ho12) hb); replace HB := qs hb; clear hb ho12; obtain ⟨Ao14, co14, eo14⟩ := Kd.R_slice Oq0.out; subst eo14) | ((with_reducible refine gate_builtin (b := .append) (xs := #[.tmp 22, .tmp 26]) rfl ?_); at_builtin; refine Kd.S_append (Kd.slice 3 (Kd.int .i64)) (w0 := w) w.heap.size rfl (.tmp 22) (.tmp 26) 51 24 (.slice none 0 0) 24 rfl Tryd.underlying51 info24 rfl (by decide) (by omega) u3 x3_2 y238 [.slice Ao14 y238.length co14] (fun _ => True) (fun k_ => some k_ = (.slice Ao14 y238.length co14 : Value).ownBlock) rfl rfl ?aP (fun k_ hk_ => ((Kd.R_mono (ok' := fun k_ => ((fun _ => True)) k_ ∧ some k_ ≠ (u3 : Value).ownBlock) (Kd.R_apart' (Oq0.out) (Kd.S_typed Oq8.out) (by decide)) (fun k_ hk => ⟨trivial, hk.2⟩))).1 k_ hk_.symm) ?aF ?aO ?aB ?aS ?aL ?_; (case aP => exact Kd.M_row (Kd.R_mono (Kd.R_tight rfl (Kd.R_mono (ok' := fun k_ => ((fun _ => True)) k_ ∧ some k_ ≠ (u3 : Value).ownBlock) (Kd.R_apart' (Oq0.out) (Kd.S_typed Oq8.out) (by decide)) (fun k_ hk => ⟨trivial, hk.2⟩))) (fun _ h_ => h_))); (case aB => exact qb); (case aF => exact (fun _ _ => trivial)); (case aO => exact (by (with_reducible repeat (first | apply Kd.S_alloc | apply Kd.S_drewN | apply Kd.S_drew)); exact Kd.S_mono Oq8.out (fun k_ hk => ⟨trivial, fun e_ => hk.2 e_⟩))); (case aS => exact (below_size qb)); (case aL => have := LMc8.out; omega); intro v242 w13 ho hb hg hat; rw [← Ny241.out] at ho; have Oq1 := am (ho); replace BK236 := am (blk_grown (g := gb236) (o := .cells #[.int .i64 a0_0, .int .i64 a0_1, .slice A0_2 l0_2.length c0_2] 26 (0, 0)) (sqb BK236) hg (Kd.S_ne Oq8.out BK236.out (by decide))); replace HB := am hb; clear Oq8 Oq0; clear ho hb hg hat))
         go_roundg k2
         case measure => have := HK1.out; have := HK2.out; omega
         case rel => exact ⟨(y241), (wrap64 (x5_2 + 1)), Q2, H', ⟨Q32⟩, ⟨by (with_reducible repeat (first | apply Kd.S_alloc | apply Kd.S_drewN | apply Kd.S_drew)); exact Oq1.out⟩, ⟨Q29⟩, ⟨qb⟩⟩
        ·
         rw [if_neg c8] at H
         exact absurd H (by simp)
       ·
        replace c7 := Bool.eq_false_iff.mpr c7
        subst c7
        have H1 : (spec_boCells.l1 k2 x3_2 x4_1 (wrap64 (x5_2 + 1)) a0_0 a0_1 l0_2) = some r := by first | (rw [if_neg (show ¬ (false = true) by decide)] at H; exact H) | rfl
        clear H
        have H := H1
        clear H1
        have H' := Aside0.mk H
        clear H
        obtain ⟨zq9, zq10, zq11, fq9, fq10, fq11⟩ := qd BK236
        go_wp2_with (first | ((with_reducible refine gate_callee (f := 64) rfl ?_); refine qg (some 21) Tryd.func64 #[.agg #[.int .i64 a0_0, .int .i64 a0_1, .slice A0_2 l0_2.length c0_2], .int .i64 x4_1, .int .i64 x5_2] ?_; (with_reducible refine (spec_boHas.calls a0_0 a0_1 _ _ l0_2 x4_1 x5_2 false _ ?side1 HC0_2.out A6.out).mono ?_); (case side1 => exact Q3); rintro e w16 ⟨rfl, hb⟩; refine ⟨_, rfl, ?_⟩; replace BK236 := sqB BK236 hb; replace Oq8 := am (Kd.S_below Q23 hb); replace HB := qs hb; (try clear hb)))
        go_roundg k2
        case measure => have := HK1.out; have := HK2.out; omega
        case rel => exact ⟨(x3_2), (wrap64 (x5_2 + 1)), Q2, H', ⟨Q32⟩, ⟨Q23⟩, ⟨Q29⟩, ⟨qb⟩⟩
      ·
       rw [if_neg c5] at H
       have c5b0 : decide (x5_2 < a0_1) = false := decide_eq_false c5
       clear c5
       have H' := Aside0.mk H
       clear H
       obtain ⟨zq12, zq13, zq14, fq12, fq13, fq14⟩ := qd BK236
       go_wp2
       go_roundg k2
       case measure => have := HK1.out; have := HK2.out; omega
       case rel => exact ⟨(x3_2), (wrap64 (x4_1 + 1)), Q2, H', ⟨Q32⟩, ⟨Q23⟩, ⟨Q29⟩, ⟨qb⟩⟩
   ·
    rw [if_neg c3] at H
    have c3b0 : decide (x4_1 < a0_0) = false := decide_eq_false c3
    clear c3
    obtain rfl := Option.some.inj H
    obtain ⟨zq15, zq16, zq17, fq15, fq16, fq17⟩ := qd BK236
    go_wp2
    go_ret
    exact ⟨_, Q1, Q23, qb⟩

/-! ### spec_boTurn: function 29 -/
def spec_boTurn.l0 : Nat → List (List Int) → Int → Int → Int → Int → List Int → Option (Int × Int × List Int)
 | 0, _, _, _, _, _, _ => none
 | k + 1, x12, x13, x14, x252000, x252001, x252002 => if x14 < x13 then (if 0 ≤ x14 then (if x14 < (x12.length : Int) then (if 1 < ((rd_L2 x12 x14).length : Int) then (if 0 ≤ (rd (rd_L2 x12 x14) 1) then (if (rd (rd_L2 x12 x14) 1) < (x252002.length : Int) then (if 0 < ((rd_L2 x12 x14).length : Int) then (if 0 ≤ (rd (rd_L2 x12 x14) 0) then (spec_boTurn.l0 k x12 x13 (wrap64 (x14 + 1)) x252000 x252001 (x252002.set ((rd (rd_L2 x12 x14) 1) : Int).toNat (wrap64 ((rd x252002 (rd (rd_L2 x12 x14) 1)) + (shl .i64 1 (rd (rd_L2 x12 x14) 0)))))) else (none)) else (none)) else (none)) else (none)) else (none)) else (none)) else (none)) else (some (x252000, x252001, x252002))
def spec_boTurn.f (k : Nat) (a0_0 : Int) (a0_1 : Int) (l0_2 : List Int) : Option (Int × Int × List Int) := (spec_boEmpty.f a0_1 a0_0).bind fun bt246 => ((spec_boCells.f k a0_0 a0_1 l0_2).bind fun t252 => (spec_boTurn.l0 k t252 (t252.length : Int) 0 bt246.1 bt246.2.1 bt246.2.2))
def spec_boTurn.T5 : Bool × List (List Nat × List Nat) := (true, [([], []), ([0], [0]), ([], []), ([2], [2]), ([3], [3]), ([1, 4], [1, 4]), ([5], [5]), ([], []), ([7], [7]), ([8], [8]), ([9], [9]), ([6, 10], [6, 10]), ([1, 4, 0, 1, 2, 3, 4, 5, 6, 7, 8, 9, 10, 11], [1, 4]), ([12, 11, 0, 1, 2, 3, 4, 5, 6, 7, 8, 9, 10, 11], [11, 12])])
def spec_boTurn.B5 : List Nat := [0, 1, 0, 4, 12, 31, 63, 0, 128, 384, 896, 2047, 4095, 8191]
theorem spec_boTurn.tab5 : rtab .any (opsOf Tryd.f29 5) = spec_boTurn.T5 := by kernel_rfl
theorem spec_boTurn.bits5 : waitsOk spec_boTurn.T5.2 spec_boTurn.B5 = true := by kernel_rfl
set_option maxHeartbeats 8000000 in
set_option maxRecDepth 100000 in
theorem spec_boTurn.calls (k : Nat) (a0_0 : Int) (a0_1 : Int) (A0_2 : Option Addr) (c0_2 : Nat) (l0_2 : List Int) (r1 : Int) (r2 : Int) (r3 : List Int) (w : World) (hr0_2 : Kd.C (Kd.int .i64) w A0_2 l0_2.length l0_2) (hc0_2 : l0_2.length ≤ c0_2) (h : spec_boTurn.f k a0_0 a0_1 l0_2 = some (r1, r2, r3)) :
  Calls Tryd.prog 29 #[.agg #[.int .i64 a0_0, .int .i64 a0_1, .slice A0_2 l0_2.length c0_2]] w fun e w' => ∃ v2_ : Value, e = .returned (.agg #[.int .i64 r1, .int .i64 r2, v2_]) ∧ Kd.R (Kd.int .i64) 3 w' w.heap.size (fun _ => True) v2_ r3 ∧ Below w.heap.size w w' := by
 have hu26 := Tryd.underlying26
 have HR0_2 := Aside0.mk hr0_2
 have HC0_2 := Aside0.mk hc0_2
 clear hr0_2 hc0_2
 have HB := am (Below.refl w.heap.size w)
 have H : ((spec_boEmpty.f a0_1 a0_0).bind fun bt246 => ((spec_boCells.f k a0_0 a0_1 l0_2).bind fun t252 => (spec_boTurn.l0 k t252 (t252.length : Int) 0 bt246.1 bt246.2.1 bt246.2.2))) = some (r1, r2, r3) := h
 clear h
 replace H := qE H
 obtain ⟨⟨t246, t247, t248⟩, A2, H⟩ := H
 replace H : ((spec_boCells.f k a0_0 a0_1 l0_2).bind fun t252 => (spec_boTurn.l0 k t252 (t252.length : Int) 0 t246 t247 t248)) = some (r1, r2, r3) := H
 replace H := qE H
 obtain ⟨t252, A3, H⟩ := H
 replace H : (spec_boTurn.l0 k t252 (t252.length : Int) 0 t246 t247 t248) = some (r1, r2, r3) := H
 have H' := Aside0.mk H
 clear H
 go_enter Tryd.func29, Tryd.ntmps29
 go_wp2_with (first | ((with_reducible refine gate_dst (N := 1) rfl ?_); refine qv 1 #[.int .i64 a0_0, .int .i64 a0_1, .slice A0_2 l0_2.length c0_2] 26 ?_; intro gb244 hg w4 hbox hb; have BK244 := am hbox; have GW244 := qw hg; have GE244 := qw hg; replace HB := qs hb; clear hb hbox hg) | ((with_reducible refine gate_dst (N := 2) rfl ?_); refine qv 2 #[.int .i64 0, .int .i64 0, .slice none 0 0] 26 ?_; intro gb245 hg w5 hbox hb; have BK245 := am hbox; have GW245 := qw hg; have GE245 := qw hg; have Nq0 := qn hg BK244; have Nq2 := qN hg BK244; replace BK244 := sqB BK244 hb; replace HB := qs hb; clear hb hbox hg; have bq6 := Nq0.out; have cq6 := Nq2.out; obtain ⟨zq30, zq31, zq32, fq30, fq31, fq32⟩ := qd BK244) | ((with_reducible refine gate_callee (f := 33) rfl ?_); refine qg (some 10) Tryd.func33 #[.int .i64 a0_1, .int .i64 a0_0] ?_; (with_reducible refine (spec_boEmpty.calls a0_1 a0_0 t246 t247 t248 _ A2.out).mono ?_); rintro e w8 ⟨v249, rfl, ho0, hb⟩; refine ⟨_, rfl, ?_⟩; have Oq2 := ql ho0; replace BK244 := sqB BK244 hb; replace BK245 := sqB BK245 hb; replace HB := qs hb; (try clear hb ho0)) | ((with_reducible refine gate_dst (N := 3) rfl ?_); refine qv 3 #[.int .i64 0, .int .i64 0, .slice none 0 0] 26 ?_; intro gb251 hg w9 hbox hb; have BK251 := am hbox; have GW251 := qw hg; have GE251 := qw hg; have Nq1 := qn hg BK244; have Nq4 := qN hg BK244; have Nq3 := qn hg BK245; have Nq5 := qN hg BK245; replace Oq2 := sqR Oq2 hb; replace BK244 := sqB BK244 hb; replace BK245 := sqB BK245 hb; replace HB := qs hb; clear hb hbox hg; have bq0 := Nq4.out; have cq0 := Nq1.out; have bq1 := Nq5.out; have cq1 := Nq3.out; obtain ⟨zq3, zq4, zq5, fq3, fq4, fq5⟩ := qd BK251; obtain ⟨Ao13, co13, eo13⟩ := Kd.R_slice Oq2.out; subst eo13; obtain ⟨zq6, zq7, zq8, fq6, fq7, fq8⟩ := qd BK244) | ((with_reducible refine gate_callee (f := 34) rfl ?_); refine qg (some 12) Tryd.func34 #[.agg #[.int .i64 a0_0, .int .i64 a0_1, .slice A0_2 l0_2.length c0_2]] ?_; (with_reducible refine (spec_boCells.calls k a0_0 a0_1 _ _ l0_2 t252 _ ?side1 HC0_2.out A3.out).mono ?_); (case side1 => exact Kd.C_below HR0_2.out qb); rintro e w15 ⟨v253, rfl, ho0, hb⟩; refine ⟨_, rfl, ?_⟩; have Oq3 := am (Kd.S_lower (Kd.S_new' ho0 (sqv (sqo Oq2 BK251))) (below_size qb)); replace Oq2 := am (Kd.R_below (sqw (sqo Oq2 BK251)) hb); replace BK244 := sqBf BK244 Nq1 (.int .i64 t246) (.int .i64 t247) (.slice Ao13 t248.length co13) hb; replace BK245 := sqBf BK245 Nq3 (.int .i64 t246) (.int .i64 t247) (.slice Ao13 t248.length co13) hb; replace BK251 := sqBp BK251 (.int .i64 t246) (.int .i64 t247) (.slice Ao13 t248.length co13) hb; replace HB := qs hb; (try clear hb ho0); obtain ⟨Ao16, co16, eo16⟩ := Kd.S_slice Oq3.out; subst eo16))
 go_loopg [14] k (fun kq v14 w' => ∃ (x14_1 : Int) (x252002_1 : List Int) (u252002 : Value), v14 = .int .i64 x14_1 ∧ Aside0 (spec_boTurn.l0 kq t252 (t252.length : Int) x14_1 t246 t247 x252002_1 = some (r1, r2, r3)) ∧ Aside0 (kq ≤ k) ∧ Aside0 (Kd.S (Kd.slice 3 (Kd.int .i64)) 24 w' w.heap.size (fun k_ => some k_ ≠ (u252002 : Value).ownBlock) (.slice Ao16 t252.length co16) t252) ∧ Aside0 (Kd.R (Kd.int .i64) 3 w' w.heap.size (fun _ => True) u252002 x252002_1) ∧ Aside0 (w'.heap[gb244]? = some (.cells #[.int .i64 a0_0, .int .i64 a0_1, (.slice A0_2 l0_2.length c0_2)] 26 (0, 0))) ∧ Aside0 (w'.heap[gb245]? = some (.cells #[.int .i64 0, .int .i64 0, (.slice none 0 0)] 26 (0, 0))) ∧ Aside0 (w'.heap[gb251]? = some (.cells #[.int .i64 t246, .int .i64 t247, u252002] 26 (0, 0))) ∧ Aside0 (Below w.heap.size w w'))
 case atStart => exact ⟨(0), (t248), (.slice Ao13 t248.length co13), Q2, H', ⟨Nat.le_refl _⟩, ⟨by (with_reducible repeat (first | apply Kd.S_alloc | apply Kd.S_drewN | apply Kd.S_drew)); exact Kd.S_mono Oq3.out (fun _ hk => hk.2)⟩, ⟨Q27⟩, ⟨by (with_reducible repeat (first | refine blk_drewN ?_ _ | refine blk_drew ?_ | refine blk_alloc ?_ _)); exact BK244.out⟩, ⟨by (with_reducible repeat (first | refine blk_drewN ?_ _ | refine blk_drew ?_ | refine blk_alloc ?_ _)); exact BK245.out⟩, ⟨by (with_reducible repeat (first | refine blk_drewN ?_ _ | refine blk_drew ?_ | refine blk_alloc ?_ _)); exact BK251.out⟩, ⟨qb⟩⟩
 case round =>
  clear H'
  try clear zq3; try clear zq4; try clear zq5; try clear zq6; try clear zq7; try clear zq8; try clear zq30; try clear zq31; try clear zq32; try clear fq3; try clear fq4; try clear fq5; try clear fq6; try clear fq7; try clear fq8; try clear fq30; try clear fq31; try clear fq32
  obtain ⟨x14_1, x252002_1, u252002, rfl, HA, HK1, Oq6, Oq7, BK244, BK245, BK251, HB⟩ := hrel
  cases gk with
  | zero => exact absurd HA.out (by simp [spec_boTurn.l0])
  | succ k1 =>
   have H := HA.out
   clear HA
   simp only [spec_boTurn.l0] at H
   by_cases c17 : x14_1 < (t252.length : Int)
   ·
    rw [if_pos c17] at H
    have c17b0 : decide (x14_1 < (t252.length : Int)) = true := decide_eq_true c17
    clear c17
    by_cases c18 : 0 ≤ x14_1
    ·
     rw [if_pos c18] at H
     have c18b0 : decide (0 ≤ x14_1) = true := decide_eq_true c18
     clear c18
     by_cases c19 : x14_1 < (t252.length : Int)
     ·
      rw [if_pos c19] at H
      have c19b0 : decide (x14_1 < (t252.length : Int)) = true := decide_eq_true c19
      clear c19
      by_cases c20 : 1 < ((rd_L2 t252 x14_1).length : Int)
      ·
       rw [if_pos c20] at H
       have c20b0 : decide (1 < ((rd_L2 t252 x14_1).length : Int)) = true := decide_eq_true c20
       have c20b1 : decide (1 < (rd_L2 t252 x14_1).length) = true := decide_eq_true (by omega)
       clear c20
       by_cases c21 : 0 ≤ (rd (rd_L2 t252 x14_1) 1)
       ·
        rw [if_pos c21] at H
        have c21b0 : decide (0 ≤ (rd (rd_L2 t252 x14_1) 1)) = true := decide_eq_true c21
        clear c21
        by_cases c22 : (rd (rd_L2 t252 x14_1) 1) < (x252002_1.length : Int)
        ·
         rw [if_pos c22] at H
         have c22b0 : decide ((rd (rd_L2 t252 x14_1) 1) < (x252002_1.length : Int)) = true := decide_eq_true c22
         clear c22
         by_cases c23 : 0 < ((rd_L2 t252 x14_1).length : Int)
         ·
          rw [if_pos c23] at H
          have c23b0 : decide (0 < ((rd_L2 t252 x14_1).length : Int)) = true := decide_eq_true c23
          have c23b1 : decide (0 < (rd_L2 t252 x14_1).length) = true := decide_eq_true (by omega)
          clear c23
          by_cases c24 : 0 ≤ (rd (rd_L2 t252 x14_1) 0)
          ·
           rw [if_pos c24] at H
           have c24b0 := eq_true c24
           have c24b1 : decide (0 ≤ (rd (rd_L2 t252 x14_1) 0)) = true := decide_eq_true c24
           clear c24
           obtain ⟨ji25, hji25⟩ : ∃ j_ : Int, (shl .i64 1 (rd (rd_L2 t252 x14_1) 0)) = j_ := ⟨_, rfl⟩
           replace H : (spec_boTurn.l0 k1 t252 (t252.length : Int) (wrap64 (x14_1 + 1)) t246 t247 (x252002_1.set ((rd (rd_L2 t252 x14_1) 1) : Int).toNat (wrap64 ((rd x252002_1 (rd (rd_L2 t252 x14_1) 1)) + (ji25))))) = some (r1, r2, r3) := by first | (rw [hji25] at H; exact H) | (simp only [hji25] at H ⊢; exact H)
           have hji25_ : (IntKind.i64.wrap (1 * 2 ^ min (rd (rd_L2 t252 x14_1) 0).toNat 64)) = ji25 := hji25
           have hji25z : (rd (rd_L2 t252 x14_1) 0) ≤ 64 → (IntKind.i64.wrap (1 * 2 ^ (rd (rd_L2 t252 x14_1) 0).toNat)) = ji25 := shl_small hji25
           have hji25u : (IntKind.i64.wrap (2 ^ min (rd (rd_L2 t252 x14_1) 0).toNat 64)) = ji25 := by have h_ := hji25_; rw [Int.one_mul] at h_; exact h_
           have hji25v : (rd (rd_L2 t252 x14_1) 0) ≤ 64 → (IntKind.i64.wrap (2 ^ (rd (rd_L2 t252 x14_1) 0).toNat)) = ji25 := fun hle_ => by have h_ := hji25z hle_; rw [Int.one_mul] at h_; exact h_
           have hji25y : (wrap64 (1 * 2 ^ min (rd (rd_L2 t252 x14_1) 0).toNat 64)) = ji25 := (i64_w _).symm.trans hji25_
           have hji25x : (rd (rd_L2 t252 x14_1) 0) ≤ 64 → (wrap64 (1 * 2 ^ (rd (rd_L2 t252 x14_1) 0).toNat)) = ji25 := fun h_ => (i64_w _).symm.trans (hji25z h_)
           obtain ⟨y259, hy_⟩ : ∃ y_ : List Int, y_ = ((x252002_1.set ((rd (rd_L2 t252 x14_1) 1) : Int).toNat (wrap64 ((rd x252002_1 (rd (rd_L2 t252 x14_1) 1)) + (ji25))))) := ⟨_, rfl⟩
           replace H : (spec_boTurn.l0 k1 t252 (t252.length : Int) (wrap64 (x14_1 + 1)) t246 t247 y259) = some (r1, r2, r3) := qH
           have Ny259 := Aside0.mk hy_
           clear hy_
           have H' := Aside0.mk H
           clear H
           have p255 : 0 ≤ (x14_1 : Int) := of_decide_eq_true Q0
           have q255 : x14_1 < (t252.length : Int) := of_decide_eq_true Q0
           obtain ⟨ad255, A255_0, c255_0, e255, hx255_0, hl255_0, hi255_0⟩ := at_L2 (Kd.S_reads' Oq6.out).2.2 x14_1 p255 q255
           cases e255
           obtain ⟨ce255, hce255, hMe255, hcc255⟩ := Kd.S_get Oq6.out [] x14_1 p255 (by first | exact q255 | exact of_decide_eq_true Q0 | (have e_ := (Kd.S_reads' Oq6.out).1; omega))
           obtain ⟨ve255_0, rfl, ge255_0⟩ := hMe255
           have hv255_0 := hcc255 0 _ rfl
           rw [Nat.add_zero, show ((Kd.slice 3 (Kd.int .i64))).sz = 1 from rfl, Nat.mul_one] at hv255_0
           replace hv255_0 := Option.some.inj (hv255_0.symm.trans hx255_0)
           rw [hv255_0] at ge255_0
           have HL255_0 := am (show Kd.R (Kd.int .i64) 3 _ _ _ _ (rd_L2 t252 x14_1) from ge255_0)
           clear hv255_0 ge255_0 hcc255 hce255
           have HR255_0 := Aside0.mk hi255_0
           have HC255_0 := Aside0.mk hl255_0
           clear hi255_0 hl255_0
           replace p255 := eq_true p255
           replace q255 := eq_true q255
           try go_wp2
           replace Oq6 := am (Kd.S_drew Oq6.out)
           replace Oq7 := am (Kd.R_drew Oq7.out)
           replace HL255_0 := am (Kd.R_drew HL255_0.out)
           replace BK244 := am (blk_drew BK244.out)
           replace BK245 := am (blk_drew BK245.out)
           replace BK251 := am (blk_drew BK251.out)
           replace HR255_0 := am (Kd.C_drew HR255_0.out)
           replace HB := am (below_drew1 HB.out)
           have p256 : 0 ≤ (1 : Int) := (by omega)
           have q256 : 1 < ((rd_L2 t252 x14_1).length : Int) := of_decide_eq_true Q0
           obtain ⟨ad256, e256, hx256_0⟩ := Kd.at_int Q64 1 p256 q256
           cases e256
           (try simp only [show (1 : Int).toNat = 1 from rfl, Nat.reduceMul, Nat.reduceEqDiff, Go.Addr.add, ↓reduceIte] at hx256_0)
           have qi256 : (1 < (rd_L2 t252 x14_1).length) = True := eq_true (by omega)
           (try rw [show ((1 : Int)).toNat = 1 from rfl] at hx256_0)
           replace p256 := eq_true p256
           replace q256 := eq_true q256
           obtain ⟨Ao28, co28, eo28⟩ := Kd.R_slice Oq7.out
           (first | subst eo28 | (injection eo28 with f1_ f2_ f3_; have f4_ := f1_.symm; have f5_ := f3_.symm; clear f1_ f2_ f3_; subst f4_; subst f5_))
           have p257 : 0 ≤ ((rd (rd_L2 t252 x14_1) 1) : Int) := of_decide_eq_true Q0
           have q257 : (rd (rd_L2 t252 x14_1) 1) < (x252002_1.length : Int) := of_decide_eq_true Q0
           obtain ⟨ad257, e257, hx257_0⟩ := Kd.at_int (Kd.R_reads' Oq7.out).2.2 (rd (rd_L2 t252 x14_1) 1) p257 q257
           cases e257
           replace p257 := eq_true p257
           replace q257 := eq_true q257
           have p258 : 0 ≤ (0 : Int) := (by omega)
           have q258 : 0 < ((rd_L2 t252 x14_1).length : Int) := of_decide_eq_true Q0
           obtain ⟨ad258, e258, hx258_0⟩ := Kd.at_int Q64 0 p258 q258
           obtain rfl : ad256 = ad258 := (by injection e258)
           have qi258 : (0 < (rd_L2 t252 x14_1).length) = True := eq_true (by omega)
           (try rw [show ((0 : Int)).toNat = 0 from rfl] at hx258_0)
           (try rw [Addr.add_zero'] at hx258_0)
           replace p258 := eq_true p258
           replace q258 := eq_true q258
           have p26 : 0 ≤ ((rd (rd_L2 t252 x14_1) 1) : Int) := of_decide_eq_true Q0
           have q26 : ((rd (rd_L2 t252 x14_1) 1) : Int) < ((x252002_1.length : Int) : Int) := of_decide_eq_true Q0
           obtain ⟨go26, co26, eo26, gb26, gl26, cl26, HG26⟩ := Kd.R_form Oq7.out (by omega)
           (first | cases eo26 | (injection eo26 with ea_ en_ ec_; (first | subst ea_ | (injection ea_ with ea_; subst ea_)); subst ec_; clear en_))
           have GB26 := Aside0.mk gb26
           have GG26 := Aside0.mk HG26
           clear gb26 gl26 HG26
           (first | simp only [add_plain] at hx257_0 | skip)
           obtain ⟨hx26_0, hf26_0⟩ := Kd.R_celln 0 Oq7.out ((rd (rd_L2 t252 x14_1) 1) : Int) p26 q26
           replace p26 := eq_true p26
           replace q26 := eq_true q26
           have HP29 := Kd.R_putn Oq7.out ((rd (rd_L2 t252 x14_1) 1) : Int) (wrap64 ((rd x252002_1 (rd (rd_L2 t252 x14_1) 1)) + (ji25)))
           rw [← Ny259.out] at HP29
           have HQ29 := Aside0.mk HP29
           clear HP29
           refine start_ (n := 14) (S := fun w' => w'.cell? ⟨gb251, 0, none⟩ = some (.int .i64 t246) ∧ w'.cell? ⟨gb251, 1, none⟩ = some (.int .i64 t247) ∧ w'.cell? ⟨gb251, 2, none⟩ = some (.slice (some ⟨go26, 0, none⟩) x252002_1.length co28) ∧ w'.cell? ⟨ad256.block, ad256.off + 1, none⟩ = some (.int .i64 (rd (rd_L2 t252 x14_1) 1)) ∧ w'.cell? ⟨go26, ((rd (rd_L2 t252 x14_1) 1) : Int).toNat, none⟩ = some (.int .i64 (rd x252002_1 (rd (rd_L2 t252 x14_1) 1))) ∧ w'.cell? ad256 = some (.int .i64 (rd (rd_L2 t252 x14_1) 0))) (ds := [13]) #[false, false, false, false, false, false, false, false, false, false, false, false, false, false] (by kernel_rfl) rfl rfl ⟨sqc BK251 0, sqc BK251 1, sqc BK251 2, hx256_0, hx26_0, hx258_0⟩ (fun hHeld => ?_); refine with_tabW spec_boTurn.tab5 spec_boTurn.bits5 (fun HT_ HW_ => ?_)
           generalize wr.drew = w27 at Oq6 Oq7 HL255_0 BK244 BK245 BK251 HR255_0 HB GG26 HQ29 hf26_0 hx256_0 hx257_0 hx258_0 hx26_0 hHeld ⊢
           refine qp 0 (some 18) #[true, false, false, false, false, false, false, false, false, false, false, false, false, false] ?_
           refine qp 2 (some 20) #[true, false, true, false, false, false, false, false, false, false, false, false, false, false] ?_
           refine qp 3 (some 21) #[true, false, true, true, false, false, false, false, false, false, false, false, false, false] ?_
           refine qp 7 (some 25) #[true, false, true, true, false, false, false, true, false, false, false, false, false, false] ?_
           refine qp 8 (some 26) #[true, false, true, true, false, false, false, true, true, false, false, false, false, false] ?_
           refine take_ (i := 1) (N := some 19) (v := ?_) (a' := ?_) #[true, true, true, true, false, false, false, true, true, false, false, false, false, false] rfl rfl (take_ofW HT_.out HW_.out (by kernel_rfl)) (fun _ _ _ h => h) (Or.inl ⟨by rfl, ?_⟩) hHeld ?_ ?_
           rotate_left
           ·
            rintro w' ⟨s0, s1, s2, s3, s4, s5⟩
            go_simp
            with_reducible rfl
           rotate_left
           ·
            simp only [Act.put, List.setIfInBounds_toArray, List.set_cons_zero, List.set_cons_succ, i64_w, i32_w]
            rfl
           refine take_ (i := 4) (N := some 22) (v := ?_) (a' := ?_) #[true, true, true, true, true, false, false, true, true, false, false, false, false, false] rfl rfl (take_ofW HT_.out HW_.out (by kernel_rfl)) (fun _ _ _ h => h) (Or.inl ⟨by rfl, ?_⟩) hHeld ?_ ?_
           rotate_left
           ·
            rintro w' ⟨s0, s1, s2, s3, s4, s5⟩
            go_simp
            with_reducible rfl
           rotate_left
           ·
            simp only [Act.put, List.setIfInBounds_toArray, List.set_cons_zero, List.set_cons_succ, i64_w, i32_w]
            rfl
           refine qp 5 (some 23) #[true, true, true, true, true, true, false, true, true, false, false, false, false, false] ?_
           refine take_ (i := 6) (N := some 24) (v := ?_) (a' := ?_) #[true, true, true, true, true, true, true, true, true, false, false, false, false, false] rfl rfl (take_ofW HT_.out HW_.out (by kernel_rfl)) (fun _ _ _ h => h) (Or.inl ⟨by rfl, ?_⟩) hHeld ?_ ?_
           rotate_left
           ·
            rintro w' ⟨s0, s1, s2, s3, s4, s5⟩
            go_simp
            with_reducible rfl
           rotate_left
           ·
            simp only [Act.put, List.setIfInBounds_toArray, List.set_cons_zero, List.set_cons_succ, i64_w, i32_w]
            rfl
           refine take_ (i := 9) (N := some 27) (v := ?_) (a' := ?_) #[true, true, true, true, true, true, true, true, true, true, false, false, false, false] rfl rfl (take_ofW HT_.out HW_.out (by kernel_rfl)) (fun _ _ _ h => h) (Or.inl ⟨by rfl, ?_⟩) hHeld ?_ ?_
           rotate_left
           ·
            rintro w' ⟨s0, s1, s2, s3, s4, s5⟩
            go_simp
            with_reducible rfl
           rotate_left
           ·
            simp only [Act.put, List.setIfInBounds_toArray, List.set_cons_zero, List.set_cons_succ, i64_w, i32_w]
            rfl
           refine qp 10 (some 28) #[true, true, true, true, true, true, true, true, true, true, true, false, false, false] ?_
           refine qp 11 (some 29) #[true, true, true, true, true, true, true, true, true, true, true, true, false, false] ?_
           refine qp 12 (some 30) #[true, true, true, true, true, true, true, true, true, true, true, true, true, false] ?_
           refine last_ (i := 13) (N := none) #[true, true, true, true, true, true, true, true, true, true, true, true, true, true] rfl rfl (one_of HT_.out (by kernel_rfl)) (by decide) fun K hK => ?_
           refine skip_ (w1 := ?_) (by rfl) rfl ?_ ?_
           rotate_left
           ·
            go_simp
            rfl
           refine hK.out _ _ ?_
           clear hK K
           refine done_ (done_of HT_.out (by kernel_rfl)) ?_
           try go_wp2
           go_roundg k1
           case measure => have := HK1.out; omega
           case rel => exact ⟨(wrap64 (x14_1 + 1)), (y259), (.slice (some ⟨go26, 0, none⟩) x252002_1.length co28), Q2, H', ⟨Q61⟩, ⟨by (with_reducible repeat (first | apply Kd.S_alloc | apply Kd.S_drewN | apply Kd.S_drew)); exact Kd.S_mono (Kd.S_far (p := ⟨go26, ((rd (rd_L2 t252 x14_1) 1) : Int).toNat, none⟩) (Kd.S_mono Oq6.out (fun k_ hk => (⟨hk, fun e_ => hk (by rw [e_]; rfl)⟩ : _ ∧ k_ ≠ go26))) (fun _ hk => hk.2) (.int .i64 (wrap64 ((rd x252002_1 (rd (rd_L2 t252 x14_1) 1)) + (ji25))))) (fun _ hk => hk.1)⟩, ⟨by (with_reducible repeat (first | apply Kd.R_alloc | apply Kd.R_drewN | apply Kd.R_drew)); exact HQ29.out⟩, ⟨by (with_reducible repeat (first | refine blk_drewN ?_ _ | refine blk_drew ?_ | refine blk_alloc ?_ _)); refine blk_far ?_ (by have h_ := Kd.R_ne Oq7.out BK244.out (by decide); intro e_; exact h_ (by rw [e_]; rfl)) _; (with_reducible repeat (first | refine blk_drewN ?_ _ | refine blk_drew ?_ | refine blk_alloc ?_ _)); exact BK244.out⟩, ⟨by (with_reducible repeat (first | refine blk_drewN ?_ _ | refine blk_drew ?_ | refine blk_alloc ?_ _)); refine blk_far ?_ (by have h_ := Kd.R_ne Oq7.out BK245.out (by decide); intro e_; exact h_ (by rw [e_]; rfl)) _; (with_reducible repeat (first | refine blk_drewN ?_ _ | refine blk_drew ?_ | refine blk_alloc ?_ _)); exact BK245.out⟩, ⟨by (with_reducible repeat (first | refine blk_drewN ?_ _ | refine blk_drew ?_ | refine blk_alloc ?_ _)); refine blk_far ?_ (by have h_ := Kd.R_ne Oq7.out BK251.out (by decide); intro e_; exact h_ (by rw [e_]; rfl)) _; (with_reducible repeat (first | refine blk_drewN ?_ _ | refine blk_drew ?_ | refine blk_alloc ?_ _)); exact BK251.out⟩, ⟨by repeat (first | (with_reducible first | exact HB.out | apply below_alloc | apply pw_below_drewN | apply below_drew1 | refine below_set ?_ GB26.out | refine below_set ?_ GE244.out | refine below_set ?_ GE245.out | refine below_set ?_ GE251.out) | exact HB.out)⟩⟩
          ·
           rw [if_neg c24] at H
           exact absurd H (by simp)
         ·
          rw [if_neg c23] at H
          exact absurd H (by simp)
        ·
         rw [if_neg c22] at H
         exact absurd H (by simp)
       ·
        rw [if_neg c21] at H
        exact absurd H (by simp)
      ·
       rw [if_neg c20] at H
       exact absurd H (by simp)
     ·
      rw [if_neg c19] at H
      exact absurd H (by simp)
    ·
     rw [if_neg c18] at H
     exact absurd H (by simp)
   ·
    rw [if_neg c17] at H
    have c17b0 : decide (x14_1 < (t252.length : Int)) = false := decide_eq_false c17
    clear c17
    simp only [Option.some.injEq, Prod.mk.injEq] at H
    obtain ⟨rfl, rfl, rfl⟩ := H
    have bq3 := Nq4.out
    have cq3 := Nq1.out
    have bq4 := Nq5.out
    have cq4 := Nq3.out
    obtain ⟨zq21, zq22, zq23, fq21, fq22, fq23⟩ := qd BK251
    have bq5 := Nq2.out
    have cq5 := Nq0.out
    obtain ⟨zq24, zq25, zq26, fq24, fq25, fq26⟩ := qd BK245
    obtain ⟨Ao35, co35, eo35⟩ := Kd.R_slice Oq7.out
    subst eo35
    go_wp2
    refine bodyPost_ret (results_cell_row rfl _ _ gb245 26 #[.int .i64 t246, .int .i64 t247, .slice Ao35 x252002_1.length co35] (0, 0) _ rfl (by (with_reducible repeat (first | refine blk_drewN ?_ _ | refine blk_drew ?_ | refine blk_alloc ?_ _)); refine blk_put (cs := #[.int .i64 t246, .int .i64 t247, .slice none 0 0]) ?_ 2 _ rfl; (with_reducible repeat (first | refine blk_drewN ?_ _ | refine blk_drew ?_ | refine blk_alloc ?_ _)); refine blk_put (cs := #[.int .i64 t246, .int .i64 0, .slice none 0 0]) ?_ 1 _ rfl; (with_reducible repeat (first | refine blk_drewN ?_ _ | refine blk_drew ?_ | refine blk_alloc ?_ _)); refine blk_put (cs := #[.int .i64 0, .int .i64 0, .slice none 0 0]) ?_ 0 _ rfl; (with_reducible repeat (first | refine blk_drewN ?_ _ | refine blk_drew ?_ | refine blk_alloc ?_ _)); exact BK245.out) Tryd.underlying26 rfl (by kernel_rfl)) rfl ?_
    exact ⟨_, Q1, by (with_reducible repeat (first | apply Kd.R_alloc | apply Kd.R_drewN | apply Kd.R_drew)); exact Kd.R_mono (Kd.R_far (p := ⟨gb245, 2, none⟩) (Kd.R_far (p := ⟨gb245, 1, none⟩) (Kd.R_far (p := ⟨gb245, 0, none⟩) (Kd.R_types Oq7.out BK245.out (by decide)) (fun _ hk => hk.2) (.int .i64 t246)) (fun _ hk => hk.2) (.int .i64 t247)) (fun _ hk => hk.2) (.slice Ao35 x252002_1.length co35)) (fun _ hk => trivial), qb⟩

/-! ### spec_TurnBoard: function 7 -/
def spec_TurnBoard.f (k : Nat) (a0_0 : Int) (a0_1 : Int) (l0_2 : List Int) : Option (Int × Int × List Int × Bool) := (spec_boGood.f k a0_0 a0_1 l0_2).bind fun t262 => (if t262 = true then ((spec_boTurn.f k a0_0 a0_1 l0_2).bind fun bt263 => (some (bt263.1, bt263.2.1, bt263.2.2, true))) else (some (0, 0, ([] : List Int), false)))
set_option maxHeartbeats 8000000 in
set_option maxRecDepth 100000 in
theorem spec_TurnBoard.calls (k : Nat) (a0_0 : Int) (a0_1 : Int) (A0_2 : Option Addr) (c0_2 : Nat) (l0_2 : List Int) (r1 : Int) (r2 : Int) (r3 : List Int) (r4 : Bool) (w : World) (hr0_2 : Kd.C (Kd.int .i64) w A0_2 l0_2.length l0_2) (hc0_2 : l0_2.length ≤ c0_2) (h : spec_TurnBoard.f k a0_0 a0_1 l0_2 = some (r1, r2, r3, r4)) :
  Calls Tryd.prog 7 #[.agg #[.int .i64 a0_0, .int .i64 a0_1, .slice A0_2 l0_2.length c0_2]] w fun e w' => ∃ v2_ : Value, e = .returned (.tuple #[.agg #[.int .i64 r1, .int .i64 r2, v2_], .bool r4]) ∧ Kd.R (Kd.int .i64) 3 w' w.heap.size (fun _ => True) v2_ r3 ∧ Below w.heap.size w w' := by
 have hu26 := Tryd.underlying26
 have HR0_2 := Aside0.mk hr0_2
 have HC0_2 := Aside0.mk hc0_2
 clear hr0_2 hc0_2
 have HB := am (Below.refl w.heap.size w)
 have H : ((spec_boGood.f k a0_0 a0_1 l0_2).bind fun t262 => (if t262 = true then ((spec_boTurn.f k a0_0 a0_1 l0_2).bind fun bt263 => (some (bt263.1, bt263.2.1, bt263.2.2, true))) else (some (0, 0, ([] : List Int), false)))) = some (r1, r2, r3, r4) := h
 clear h
 replace H := qE H
 obtain ⟨t262, A2, H⟩ := H
 replace H : (if t262 = true then ((spec_boTurn.f k a0_0 a0_1 l0_2).bind fun bt263 => (some (bt263.1, bt263.2.1, bt263.2.2, true))) else (some (0, 0, ([] : List Int), false))) = some (r1, r2, r3, r4) := H
 by_cases c3 : t262 = true
 ·
  subst c3
  have H1 : ((spec_boTurn.f k a0_0 a0_1 l0_2).bind fun bt263 => (some (bt263.1, bt263.2.1, bt263.2.2, true))) = some (r1, r2, r3, r4) := by first | (rw [if_pos rfl] at H; exact H) | rfl
  clear H
  have H := H1
  clear H1
  replace H := qE H
  obtain ⟨⟨t263, t264, t265⟩, A4, H⟩ := H
  replace H : (some (t263, t264, t265, true)) = some (r1, r2, r3, r4) := H
  simp only [Option.some.injEq, Prod.mk.injEq] at H
  obtain ⟨rfl, rfl, rfl, rfl⟩ := H
  go_enter Tryd.func7, Tryd.ntmps7
  go_wp2_with (first | ((with_reducible refine gate_dst (N := 1) rfl ?_); refine qv 1 #[.int .i64 a0_0, .int .i64 a0_1, .slice A0_2 l0_2.length c0_2] 26 ?_; intro gb260 hg w5 hbox hb; have BK260 := am hbox; have GW260 := qw hg; have GE260 := qw hg; replace HB := qs hb; clear hb hbox hg) | ((with_reducible refine gate_dst (N := 2) rfl ?_); refine qv 2 #[.int .i64 0, .int .i64 0, .slice none 0 0] 26 ?_; intro gb261 hg w6 hbox hb; have BK261 := am hbox; have GW261 := qw hg; have GE261 := qw hg; have Nq6 := qn hg BK260; have Nq7 := qN hg BK260; replace BK260 := sqB BK260 hb; replace HB := qs hb; clear hb hbox hg; have bq7 := Nq6.out; have cq7 := Nq7.out; obtain ⟨zq33, zq34, zq35, fq33, fq34, fq35⟩ := qd BK260) | ((with_reducible refine gate_callee (f := 28) rfl ?_); refine qg (some 5) Tryd.func28 #[.agg #[.int .i64 a0_0, .int .i64 a0_1, .slice A0_2 l0_2.length c0_2]] ?_; (with_reducible refine (spec_boGood.calls k a0_0 a0_1 _ _ l0_2 true _ ?side1 HC0_2.out A2.out).mono ?_); (case side1 => exact Q3); rintro e w9 ⟨rfl, hb⟩; refine ⟨_, rfl, ?_⟩; replace BK260 := sqB BK260 hb; replace BK261 := sqB BK261 hb; replace HB := qs hb; (try clear hb); obtain ⟨zq0, zq1, zq2, fq0, fq1, fq2⟩ := qd BK260) | ((with_reducible refine gate_callee (f := 29) rfl ?_); refine qg (some 9) Tryd.func29 #[.agg #[.int .i64 a0_0, .int .i64 a0_1, .slice A0_2 l0_2.length c0_2]] ?_; (with_reducible refine (spec_boTurn.calls k a0_0 a0_1 _ _ l0_2 t263 t264 t265 _ ?side1 HC0_2.out A4.out).mono ?_); (case side1 => exact Q3); rintro e w11 ⟨v266, rfl, ho0, hb⟩; refine ⟨_, rfl, ?_⟩; have Oq4 := ql ho0; replace BK260 := sqB BK260 hb; replace BK261 := sqB BK261 hb; replace HB := qs hb; (try clear hb ho0); obtain ⟨zq3, zq4, zq5, fq3, fq4, fq5⟩ := qd BK261; obtain ⟨Ao13, co13, eo13⟩ := Kd.R_slice Oq4.out; subst eo13))
  refine bodyPost_ret (results_ct rfl _ _ gb261 26 #[.int .i64 t263, .int .i64 t264, .slice Ao13 t265.length co13] (0, 0) _ rfl (by (with_reducible repeat (first | refine blk_drewN ?_ _ | refine blk_drew ?_ | refine blk_alloc ?_ _)); refine blk_put (cs := #[.int .i64 t263, .int .i64 t264, .slice none 0 0]) ?_ 2 _ rfl; (with_reducible repeat (first | refine blk_drewN ?_ _ | refine blk_drew ?_ | refine blk_alloc ?_ _)); refine blk_put (cs := #[.int .i64 t263, .int .i64 0, .slice none 0 0]) ?_ 1 _ rfl; (with_reducible repeat (first | refine blk_drewN ?_ _ | refine blk_drew ?_ | refine blk_alloc ?_ _)); refine blk_put (cs := #[.int .i64 0, .int .i64 0, .slice none 0 0]) ?_ 0 _ rfl; (with_reducible repeat (first | refine blk_drewN ?_ _ | refine blk_drew ?_ | refine blk_alloc ?_ _)); exact BK261.out) Tryd.underlying26 rfl (by kernel_rfl)) rfl ?_
  exact ⟨_, Q1, by (with_reducible repeat (first | apply Kd.R_alloc | apply Kd.R_drewN | apply Kd.R_drew)); exact Kd.R_mono (Kd.R_far (p := ⟨gb261, 2, none⟩) (Kd.R_far (p := ⟨gb261, 1, none⟩) (Kd.R_far (p := ⟨gb261, 0, none⟩) (Kd.R_types Oq4.out BK261.out (by decide)) (fun _ hk => hk.2) (.int .i64 t263)) (fun _ hk => hk.2) (.int .i64 t264)) (fun _ hk => hk.2) (.slice Ao13 t265.length co13)) (fun _ hk => trivial), qb⟩
 ·
  replace c3 := Bool.eq_false_iff.mpr c3
  subst c3
  have H1 : (some (0, 0, ([] : List Int), false)) = some (r1, r2, r3, r4) := by first | (rw [if_neg (show ¬ (false = true) by decide)] at H; exact H) | rfl
  clear H
  have H := H1
  clear H1
  simp only [Option.some.injEq, Prod.mk.injEq] at H
  obtain ⟨rfl, rfl, rfl, rfl⟩ := H
  go_enter Tryd.func7, Tryd.ntmps7
  go_wp2_with (first | ((with_reducible refine gate_dst (N := 1) rfl ?_); refine qv 1 #[.int .i64 a0_0, .int .i64 a0_1, .slice A0_2 l0_2.length c0_2] 26 ?_; intro gb260 hg w14 hbox hb; have BK260 := am hbox; have GW260 := qw hg; have GE260 := qw hg; replace HB := qs hb; clear hb hbox hg) | ((with_reducible refine gate_dst (N := 2) rfl ?_); refine qv 2 #[.int .i64 0, .int .i64 0, .slice none 0 0] 26 ?_; intro gb261 hg w15 hbox hb; have BK261 := am hbox; have GW261 := qw hg; have GE261 := qw hg; have Nq6 := qn hg BK260; have Nq7 := qN hg BK260; replace BK260 := sqB BK260 hb; replace HB := qs hb; clear hb hbox hg; have bq2 := Nq6.out; have cq2 := Nq7.out; obtain ⟨zq12, zq13, zq14, fq12, fq13, fq14⟩ := qd BK260) | ((with_reducible refine gate_callee (f := 28) rfl ?_); refine qg (some 5) Tryd.func28 #[.agg #[.int .i64 a0_0, .int .i64 a0_1, .slice A0_2 l0_2.length c0_2]] ?_; (with_reducible refine (spec_boGood.calls k a0_0 a0_1 _ _ l0_2 false _ ?side1 HC0_2.out A2.out).mono ?_); (case side1 => exact Q3); rintro e w18 ⟨rfl, hb⟩; refine ⟨_, rfl, ?_⟩; replace BK260 := sqB BK260 hb; replace BK261 := sqB BK261 hb; replace HB := qs hb; (try clear hb); obtain ⟨zq18, zq19, zq20, fq18, fq19, fq20⟩ := qd BK261))
  refine bodyPost_ret (results_ct rfl _ _ gb261 26 #[.int .i64 0, .int .i64 0, .slice none 0 0] (0, 0) _ rfl (by (with_reducible repeat (first | refine blk_drewN ?_ _ | refine blk_drew ?_ | refine blk_alloc ?_ _)); refine blk_put (cs := #[.int .i64 0, .int .i64 0, .slice none 0 0]) ?_ 2 _ rfl; (with_reducible repeat (first | refine blk_drewN ?_ _ | refine blk_drew ?_ | refine blk_alloc ?_ _)); refine blk_put (cs := #[.int .i64 0, .int .i64 0, .slice none 0 0]) ?_ 1 _ rfl; (with_reducible repeat (first | refine blk_drewN ?_ _ | refine blk_drew ?_ | refine blk_alloc ?_ _)); refine blk_put (cs := #[.int .i64 0, .int .i64 0, .slice none 0 0]) ?_ 0 _ rfl; (with_reducible repeat (first | refine blk_drewN ?_ _ | refine blk_drew ?_ | refine blk_alloc ?_ _)); exact BK261.out) Tryd.underlying26 rfl (by kernel_rfl)) rfl ?_
  exact ⟨_, Q1, Q6, qb⟩

/-! ### impl_Board_mapped: function 30 (by hand) -/
-- (walk)
theorem mp_step {R C i g5 gr go co n : Nat} {f : Nat → Int} {w w' w9 : World} (h5 : w'.heap[g5]? = some (.cells #[.int .i64 R, .int .i64 C, .slice (some ⟨go, 0, none⟩) R co] 26 (0, 0))) (ho : Kd.R (Kd.int .i64) 3 w' w.heap.size (fun _ => True) (.slice (some ⟨go, 0, none⟩) R co) ((List.range i).map f ++ List.replicate (R - i) 0)) (hr : w'.heap[gr]? = some (.cells #[.int .i64 0, .int .i64 0, .slice none 0 0] 26 (0, 0))) (hB : Below w.heap.size w w') (hb9 : Below (w'.drewN n).heap.size (w'.drewN n) w9) (hi : i < R) :
  (w9.setCell ⟨go, i, none⟩ (.int .i64 (f i))).heap[g5]? = some (.cells #[.int .i64 R, .int .i64 C, .slice (some ⟨go, 0, none⟩) R co] 26 (0, 0)) ∧ Kd.R (Kd.int .i64) 3 (w9.setCell ⟨go, i, none⟩ (.int .i64 (f i))) w.heap.size (fun _ => True) (.slice (some ⟨go, 0, none⟩) R co) ((List.range (i + 1)).map f ++ List.replicate (R - (i + 1)) 0) ∧ (w9.setCell ⟨go, i, none⟩ (.int .i64 (f i))).heap[gr]? = some (.cells #[.int .i64 0, .int .i64 0, .slice none 0 0] 26 (0, 0)) ∧ Below w.heap.size w (w9.setCell ⟨go, i, none⟩ (.int .i64 (f i))) := by
 have o9 := Kd.R_below (Kd.R_drewN ho n) hb9
 have b5 := blk_below (blk_drewN h5 n) hb9
 have br := blk_below (blk_drewN hr n) hb9
 have hB9 := below_step (pw_below_drewN hB n) hb9
 have hl : ((List.range i).map f ++ List.replicate (R - i) 0).length = R := by simp; omega
 obtain ⟨g, cap, ev, hbase, _, cells, hcells⟩ := Kd.R_form o9 (by omega)
 injection ev with ev _ _
 injection ev with ev
 injection ev with ev _ _
 subst ev
 have hp := Kd.R_putn o9 (i : Int) (f i)
 rw [Int.toNat_natCast] at hp
 refine ⟨blk_far (p := ⟨go, i, none⟩) b5 (blk_ne b5 hcells (by decide)) _, ?_, blk_far (p := ⟨go, i, none⟩) br (blk_ne br hcells (by decide)) _, below_set hB9 hbase⟩
 have e : ((List.range i).map f ++ List.replicate (R - i) (0 : Int)).set i (f i) = (List.range (i + 1)).map f ++ List.replicate (R - (i + 1)) 0 := by
  rw [List.set_append_right _ _ (by simp), List.length_map, List.length_range, Nat.sub_self, show R - i = (R - (i + 1)) + 1 by omega, List.replicate_succ, List.set_cons_zero, List.range_succ, List.map_append, List.append_assoc]; rfl
 rw [← e]; exact hp
set_option maxHeartbeats 2000000 in
set_option maxRecDepth 4000 in
theorem mp_all {R C cp : Nat} {A : Option Addr} {l : List Int} {fid : FuncId} {caps : Array Value} {w : World} {f : Nat → Int} (hR : 0 < R) (hR6 : R ≤ 6)
  (hcall : ∀ (args : Array Value) (W : World), Sem.run Tryd.prog (callFunc fid args) W = .ok (.enter fid args) W)
  (call : ∀ w1 i, Below w.heap.size w w1 → i < R → Calls Tryd.prog fid (#[.int .i64 ((i : Nat) : Int)] ++ caps) w1 fun e w2 => e = .returned (.int .i64 (f i)) ∧ Below w1.heap.size w1 w2) :
  Calls Tryd.prog 30 #[.agg #[.int .i64 R, .int .i64 C, .slice A l.length cp], .func (.func fid) #[] caps] w fun e w' => ∃ v2 : Value, e = .returned (.agg #[.int .i64 R, .int .i64 C, v2]) ∧ Kd.R (Kd.int .i64) 3 w' w.heap.size (fun _ => True) v2 ((List.range R).map f) ∧ Below w.heap.size w w' := by
 have CALL := Aside0.mk @call
 have HB := am (Below.refl w.heap.size w)
 have HN := am (show impl_newBoard.f (R : Int) (C : Int) = some ((R : Int), (C : Int), List.replicate R 0) by
  unfold impl_newBoard.f
  first | (rw [if_pos (by omega), if_pos (by omega)]; simp) | (simp; omega))
 clear call
 go_enter Tryd.func30, Tryd.ntmps30
 go_wp2_with (first
  | ((with_reducible refine gate_dst (N := 2) rfl ?_); refine qv 2 #[.int .i64 R, .int .i64 C, .slice A l.length cp] 26 ?_; intro gb hgb w1 bb hb1; have GB := Aside0.mk hgb; have cb0 := blk_cell bb 0; have cb1 := blk_cell bb 1; have BB := Aside0.mk bb; have HB1 := Aside0.mk hb1; clear hgb bb hb1)
  | ((with_reducible refine gate_dst (N := 4) rfl ?_); refine qv 4 #[.int .i64 0, .int .i64 0, .slice none 0 0] 26 ?_; intro gr hgr w2 br hb2; have GR := Aside0.mk hgr; have BR := Aside0.mk br; have HB2 := Aside0.mk hb2; clear cb0 cb1; have cb0 := blk_cell (blk_below BB.out hb2) 0; have cb1 := blk_cell (blk_below BB.out hb2) 1; clear hgr br hb2)
  | (go_at_call 53; refine (impl_newBoard.calls _ _ _ _ _ _ HN.out).mono ?_; rintro e w3 ⟨v3, rfl, ho3, hb3⟩; obtain ⟨go, co, ev, _, _, _⟩ := Kd.R_form ho3 (by rw [List.length_replicate]; exact hR); rw [List.length_replicate] at ev; subst ev; have Oq5 := Aside0.mk ho3; have HB3 := Aside0.mk hb3; clear ho3 hb3 cb0 cb1)
  | ((with_reducible refine gate_dst (N := 5) rfl ?_); refine qv 5 #[.int .i64 0, .int .i64 0, .slice none 0 0] 26 ?_; intro g5 hg5 w5 b5 hb5; have G5 := Aside0.mk hg5; have B5 := Aside0.mk b5; have HB5 := Aside0.mk hb5; have c50 := blk_cell b5 0; have c51 := blk_cell b5 1; have c52 := blk_cell b5 2; have f50 := blk_frozen b5 0; have f51 := blk_frozen b5 1; have f52 := blk_frozen b5 2; clear hg5 b5 hb5)
  )
 obtain ⟨W5, hW5⟩ : ∃ W5 : World, W5 = ((w5.setCell ⟨g5, 0, none⟩ (.int .i64 R)).setCell ⟨g5, 1, none⟩ (.int .i64 C)).setCell ⟨g5, 2, none⟩ (.slice (some ⟨go, 0, none⟩) R co) := ⟨_, rfl⟩
 rw [← hW5]
 have INV := am (show W5.heap[g5]? = some (.cells #[.int .i64 R, .int .i64 C, .slice (some ⟨go, 0, none⟩) R co] 26 (0, 0)) ∧ Kd.R (Kd.int .i64) 3 W5 w.heap.size (fun _ => True) (.slice (some ⟨go, 0, none⟩) R co) ((List.range 0).map f ++ List.replicate (R - 0) 0) ∧ W5.heap[gr]? = some (.cells #[.int .i64 0, .int .i64 0, .slice none 0 0] 26 (0, 0)) ∧ Below w.heap.size w W5 from by
  have hB1 := HB1.out
  have hB2 := HB2.out
  have hB3 := HB3.out
  have hB5 := HB5.out
  have s1 := hB1.size
  have s2 := hB2.size
  have s3 := hB3.size
  have h5 := G5.out
  have hr := blk_lt BR.out
  have T5 : Below w.heap.size w w5 := below_step (below_step (below_step hB1 hB2) hB3) hB5
  have e0 := blk_put (cs' := #[.int .i64 R, .int .i64 0, .slice none 0 0]) B5.out 0 (.int .i64 R) rfl
  have e1 := blk_put (cs' := #[.int .i64 R, .int .i64 C, .slice none 0 0]) e0 1 (.int .i64 C) rfl
  have e2 := blk_put (cs' := #[.int .i64 R, .int .i64 C, .slice (some ⟨go, 0, none⟩) R co]) e1 2 (.slice (some ⟨go, 0, none⟩) R co) rfl
  have O5 := Kd.R_below Oq5.out hB5
  have O6 := Kd.R_set O5 B5.out Q34 0 (.int .i64 R)
  have O7 := Kd.R_set O6 e0 Q34 1 (.int .i64 C)
  have O8 := Kd.R_set O7 e1 Q34 2 (.slice (some ⟨go, 0, none⟩) R co)
  have r5 := blk_below (blk_below BR.out hB3) hB5
  have r6 := blk_far (p := ⟨g5, 0, none⟩) r5 (show gr ≠ g5 by omega) (.int .i64 R)
  have r7 := blk_far (p := ⟨g5, 1, none⟩) r6 (show gr ≠ g5 by omega) (.int .i64 C)
  have r8 := blk_far (p := ⟨g5, 2, none⟩) r7 (show gr ≠ g5 by omega) (.slice (some ⟨go, 0, none⟩) R co)
  rw [hW5]
  exact ⟨e2, by simpa using Kd.R_lower O8 (by omega), r8, below_set (below_set (below_set T5 (by omega)) (by omega)) (by omega)⟩)
 have G0 := am (show w.heap.size ≤ g5 ∧ w.heap.size ≤ gr ∧ gr ≠ g5 by
  have hB1 := HB1.out.size
  have hB2 := HB2.out.size
  have hB3 := HB3.out.size
  have h5 := G5.out
  have hgr := GR.out
  have hr := blk_lt BR.out
  omega)
 clear hW5 c50 c51 c52 f50 f51 f52
 go_loopw [15] (fun v15 w' => ∃ i : Nat, i ≤ R ∧ v15 = .int .i64 i ∧ Aside0 (w'.heap[g5]? = some (.cells #[.int .i64 R, .int .i64 C, .slice (some ⟨go, 0, none⟩) R co] 26 (0, 0)) ∧ Kd.R (Kd.int .i64) 3 w' w.heap.size (fun _ => True) (.slice (some ⟨go, 0, none⟩) R co) ((List.range i).map f ++ List.replicate (R - i) 0) ∧ w'.heap[gr]? = some (.cells #[.int .i64 0, .int .i64 0, .slice none 0 0] 26 (0, 0)) ∧ Below w.heap.size w w')) (fun v15 _ => ((R : Int) - intOf v15).toNat)
 case atStart => exact ⟨0, by omega, rfl, INV⟩
 case round =>
  clear INV
  obtain ⟨i, hi, rfl, INV⟩ := hrel
  by_cases hlt : i < R
  ·
   have hlt2 : decide ((i : Int) < (R : Int)) = true := decide_eq_true (by omega)
   have hge : decide ((0 : Int) ≤ (i : Int)) = true := decide_eq_true (by omega)
   have c52 := blk_cell INV.out.1 2
   go_wp2_with fail
   go_region_with (refine (CALL.out _ i (pw_below_drewN INV.out.2.2.2 _) hlt).mono ?_; rintro e w9 ⟨rfl, hb9⟩; have HB9 := Aside0.mk hb9; have c92 := blk_cell (blk_below (blk_drewN INV.out.1 _) hb9) 2; have hc9 := Kd.R_celln (0 : Int) (Kd.R_below (Kd.R_drewN INV.out.2.1 _) hb9) (i : Int) (by omega) (by omega); rw [Int.toNat_natCast] at hc9; obtain ⟨k91, k92⟩ := hc9; clear hb9)
   all_goals
    have inv2 := show (w9.setCell ⟨go, i, none⟩ (.int .i64 (f i))).heap[g5]? = some (.cells #[.int .i64 R, .int .i64 C, .slice (some ⟨go, 0, none⟩) R co] 26 (0, 0)) ∧ Kd.R (Kd.int .i64) 3 (w9.setCell ⟨go, i, none⟩ (.int .i64 (f i))) w.heap.size (fun _ => True) (.slice (some ⟨go, 0, none⟩) R co) ((List.range (i + 1)).map f ++ List.replicate (R - (i + 1)) 0) ∧ (w9.setCell ⟨go, i, none⟩ (.int .i64 (f i))).heap[gr]? = some (.cells #[.int .i64 0, .int .i64 0, .slice none 0 0] 26 (0, 0)) ∧ Below w.heap.size w (w9.setCell ⟨go, i, none⟩ (.int .i64 (f i))) from mp_step INV.out.1 INV.out.2.1 INV.out.2.2.1 INV.out.2.2.2 HB9.out hlt
    have INV2 := Aside0.mk inv2
    clear inv2 k91 k92 c92 c52 INV
    simp only [Exit.inBlock, Exit.then]
    go_wp2_with fail
    go_roundw
    case rel => exact ⟨i + 1, by omega, rfl, INV2⟩
    case measure => simp [intOf]; omega
  ·
   obtain rfl : i = R := by omega
   have hlt2 : decide ((i : Int) < (i : Int)) = false := decide_eq_false (by omega)
   have c50 := blk_cell INV.out.1 0
   have c51 := blk_cell INV.out.1 1
   have c52 := blk_cell INV.out.1 2
   have cr0 := blk_cell INV.out.2.2.1 0
   have cr1 := blk_cell INV.out.2.2.1 1
   have cr2 := blk_cell INV.out.2.2.1 2
   have fr0 := blk_frozen INV.out.2.2.1 0
   have fr1 := blk_frozen INV.out.2.2.1 1
   have fr2 := blk_frozen INV.out.2.2.1 2
   go_wp2
   have e0 := blk_put (cs' := #[.int .i64 i, .int .i64 0, .slice none 0 0]) INV.out.2.2.1 0 (.int .i64 i) rfl
   have e1 := blk_put (cs' := #[.int .i64 i, .int .i64 C, .slice none 0 0]) e0 1 (.int .i64 C) rfl
   have e2 := blk_put (cs' := #[.int .i64 i, .int .i64 C, .slice (some ⟨go, 0, none⟩) i co]) e1 2 (.slice (some ⟨go, 0, none⟩) i co) rfl
   refine bodyPost_ret (results_cell_row rfl _ _ gr 26 #[.int .i64 i, .int .i64 C, .slice (some ⟨go, 0, none⟩) i co] (0, 0) _ rfl e2 Tryd.underlying26 rfl rfl) rfl ?_
   have O6 := Kd.R_set INV.out.2.1 INV.out.2.2.1 Q34 0 (.int .i64 i)
   have O7 := Kd.R_set O6 e0 Q34 1 (.int .i64 C)
   have O8 := Kd.R_set O7 e1 Q34 2 (.slice (some ⟨go, 0, none⟩) i co)
   rw [Nat.sub_self, List.replicate_zero, List.append_nil] at O8
   exact ⟨_, rfl, O8, below_set (below_set (below_set INV.out.2.2.2 G0.out.2.1) G0.out.2.1) G0.out.2.1⟩
theorem mp_end {gr n : Nat} {R C : Int} {A4 : Option Addr} {c4 : Nat} {xs : List Int} {w w3 w4 : World} (br : w4.heap[gr]? = some (.cells #[.int .i64 0, .int .i64 0, .slice none 0 0] 26 (0, 0))) (T3 : Below w.heap.size w w3) (hb4 : Below w3.heap.size w3 w4) (hgr : w.heap.size ≤ gr) (ho4 : Kd.R (Kd.int .i64) 3 w4 w3.heap.size (fun _ => True) (.slice A4 n c4) xs) :
  (((w4.setCell ⟨gr, 0, none⟩ (.int .i64 R)).setCell ⟨gr, 1, none⟩ (.int .i64 C)).setCell ⟨gr, 2, none⟩ (.slice A4 n c4)).heap[gr]? = some (.cells #[.int .i64 R, .int .i64 C, .slice A4 n c4] 26 (0, 0)) ∧ Kd.R (Kd.int .i64) 3 (((w4.setCell ⟨gr, 0, none⟩ (.int .i64 R)).setCell ⟨gr, 1, none⟩ (.int .i64 C)).setCell ⟨gr, 2, none⟩ (.slice A4 n c4)) w.heap.size (fun _ => True) (.slice A4 n c4) xs ∧ Below w.heap.size w (((w4.setCell ⟨gr, 0, none⟩ (.int .i64 R)).setCell ⟨gr, 1, none⟩ (.int .i64 C)).setCell ⟨gr, 2, none⟩ (.slice A4 n c4)) := by
 have e0 := blk_put (cs' := #[.int .i64 R, .int .i64 0, .slice none 0 0]) br 0 (.int .i64 R) rfl
 have e1 := blk_put (cs' := #[.int .i64 R, .int .i64 C, .slice none 0 0]) e0 1 (.int .i64 C) rfl
 have e2 := blk_put (cs' := #[.int .i64 R, .int .i64 C, .slice A4 n c4]) e1 2 (.slice A4 n c4) rfl
 have O6 := Kd.R_set ho4 br Q34 0 (.int .i64 R)
 have O7 := Kd.R_set O6 e0 Q34 1 (.int .i64 C)
 have O8 := Kd.R_set O7 e1 Q34 2 (.slice A4 n c4)
 exact ⟨e2, Kd.R_lower O8 T3.size, below_set (below_set (below_set (below_step T3 hb4) hgr) hgr) hgr⟩
theorem range_get (g : Int → Int) : ∀ l : List Int, (List.range l.length).map (fun i => g (l.getD i 0)) = l.map g := by
 intro l
 refine List.ext_getElem (by simp) ?_
 intro i h1 h2
 have : i < l.length := by simpa using h1
 simp [List.getD, this]

end Go.Proofs.YtllhofdgbpnkkaaDoor.PFnBoardsTurned
