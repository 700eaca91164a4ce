-- Printed for this claim by wip/pp.py over the kit's printer; Lean checks it.
import Derived.Test.YtcdikbiikmhmhaaPFnExactFromCellsx0
import Derived.Test.YtcdikbiikmhmhaaPFnExactFromCellsx1
import Derived.Test.YtcdikbiikmhmhaaPFnExactFromCellsx3
import Derived.Test.YtcdikbiikmhmhaaPFnExactFromCellsx4
import Derived.Test.YtcdikbiikmhmhaaPFnExactFromCellsx5
namespace Go.Proofs.Ytcdikbiikmhmhaa.PFnExactFromCells
open Go.RowKit Go.Proofs.YtcdikbiikmhmhaaW.PrintWords Go.Proofs.YtcdikbiikmhmhaaW.PrintLast Go.Proofs.YtcdikbiikmhmhaaW.PrintMore
attribute [local go_sem] max2_int min2_int max_two min_two max_three min_three max_four min_four   -- for this text's walks alone
set_option linter.unusedVariables false
set_option linter.unusedSimpArgs false

/-! ### laws_heldIntS: function 35 -/
def laws_heldIntS.l0 : Nat → List Int → Int → Int → Option (Int)
  | 0, _, _, _ => none
  | k + 1, x0, x1, x5 => if x5 < (x0.length : Int) then (if 0 ≤ x5 then (if (rd x0 x5) = x1 then (laws_heldIntS.l0 k x0 (wrap64 (x1 + 1)) (wrap64 (x5 + 1))) else (some (-1))) else (none)) else (some x1)
def laws_heldIntS.f (k : Nat) (l0 : List Int) (a1 : Int) : Option (Int) := laws_heldIntS.l0 k l0 a1 0
theorem laws_heldIntS.mono_l : ∀ k, (∀ y0 y1 y2, LeO (laws_heldIntS.l0 k y0 y1 y2) (laws_heldIntS.l0 (k + 1) y0 y1 y2))
  | 0 => fun _ _ _ r h => by simp [laws_heldIntS.l0] at h
  | k + 1 => by
    have ih0 := laws_heldIntS.mono_l k
    · intro y0 y1 y2
      unfold laws_heldIntS.l0
      repeat' first
      | (with_reducible exact ih0 _ _ _)
      | (with_reducible exact LeO.refl _)
      | (with_reducible exact LeO.none _)
      | (with_reducible refine LeO.ite ?_ ?_)
      | (with_reducible refine LeO.bind ?_ (fun _ => ?_))
      | exact ih0 _ _ _
      | exact LeO.none _
      | refine LeO.ite ?_ ?_
      | refine LeO.bind ?_ (fun _ => ?_)
theorem laws_heldIntS.mono : ∀ a0 a1 k, LeO (laws_heldIntS.f k a0 a1) (laws_heldIntS.f (k + 1) a0 a1) := by
  intro a0 a1 k
  have ih0 := laws_heldIntS.mono_l k
  unfold laws_heldIntS.f
  repeat' first
      | (with_reducible exact ih0 _ _ _)
      | (with_reducible exact LeO.refl _)
      | (with_reducible exact LeO.none _)
      | (with_reducible refine LeO.ite ?_ ?_)
      | (with_reducible refine LeO.bind ?_ (fun _ => ?_))
      | exact ih0 _ _ _
      | exact LeO.none _
      | refine LeO.ite ?_ ?_
      | refine LeO.bind ?_ (fun _ => ?_)
set_option maxHeartbeats 8000000 in
set_option maxRecDepth 100000 in
theorem laws_heldIntS.calls (k : Nat) (A0 : Option Addr) (c0 : Nat) (l0 : List Int) (a1 : Int) (r : Int) (w : World) (hr0 : Kd.C (Kd.int .i64) w A0 l0.length l0) (hc0 : l0.length ≤ c0) (h : laws_heldIntS.f k l0 a1 = some r) :
    Calls Try.prog 35 #[.slice A0 l0.length c0, .int .i64 a1] w fun e w' => e = .returned (.int .i64 r) ∧ Drawn0 w w' := by
  have HR0 := Aside0.mk hr0
  have HC0 := Aside0.mk hc0
  clear hr0 hc0
  have H : (laws_heldIntS.l0 k l0 a1 0) = some r := h
  clear h
  have H' := Aside0.mk H
  clear H
  go_enter Try.func35, Try.ntmps35
  go_wp2
  go_loopg [1, 5] k (fun kq v1 v5 w' => ∃ (x1_1 : Int) (x5_1 : Int), v1 = .int .i64 x1_1 ∧ v5 = .int .i64 x5_1 ∧ Aside0 (laws_heldIntS.l0 kq l0 x1_1 x5_1 = some r) ∧ Aside0 (kq ≤ k) ∧ Drawn0 w w')
  case atStart => exact ⟨(a1), (0), (by first | rfl | (simp; done) | (simp [*]; done)), (by first | rfl | (simp; done) | (simp [*]; done)), H', ⟨Nat.le_refl _⟩, by repeat (first | exact Drawn0.refl _ | apply Drawn0.step)⟩
  case round =>
    clear H'
    try clear p2
    obtain ⟨x1_1, x5_1, rfl, rfl, HA, HK1, ⟨m1, rfl⟩⟩ := hrel
    cases gk with
    | zero => exact absurd HA.out (by simp [laws_heldIntS.l0])
    | succ k1 =>
      have H := HA.out
      clear HA
      simp only [laws_heldIntS.l0] at H
      by_cases c3 : x5_1 < (l0.length : Int)
      · rw [if_pos c3] at H
        have c3b0 : decide (x5_1 < (l0.length : Int)) = true := decide_eq_true c3
        clear c3
        by_cases c4 : 0 ≤ x5_1
        · rw [if_pos c4] at H
          have c4b0 : decide (0 ≤ x5_1) = true := decide_eq_true c4
          clear c4
          by_cases c5 : (rd l0 x5_1) = x1_1
          · rw [if_pos c5] at H
            have c5b0 : ((rd l0 x5_1) == x1_1) = true := beq_iff_eq.mpr c5
            have c5b1 : ((rd l0 x5_1) != x1_1) = false := bne_eq_false_iff_eq.mpr c5
            clear c5
            have H' := Aside0.mk H
            clear H
            have p186 : 0 ≤ (x5_1 : Int) := of_decide_eq_true (by first | (with_reducible assumption) | assumption)
            have q186 : x5_1 < (l0.length : Int) := of_decide_eq_true (by first | (with_reducible assumption) | assumption)
            obtain ⟨ad186, e186, hx186_0⟩ := Kd.at_int HR0.out x5_1 p186 q186
            cases e186
            replace p186 := eq_true p186
            replace q186 := eq_true q186
            go_wp2
            go_roundg k1
            case measure => have := HK1.out; omega
            case rel => exact ⟨(wrap64 (x1_1 + 1)), (wrap64 (x5_1 + 1)), (by first | rfl | (simp; done) | (simp [*]; done)), (by first | rfl | (simp; done) | (simp [*]; done)), H', ⟨by have := HK1.out; omega⟩, by repeat (first | exact Drawn0.refl _ | apply Drawn0.step)⟩
          · rw [if_neg c5] at H
            have c5b0 : ((rd l0 x5_1) == x1_1) = false := beq_eq_false_iff_ne.mpr c5
            have c5b1 : ((rd l0 x5_1) != x1_1) = true := bne_iff_ne.mpr c5
            obtain rfl := Option.some.inj H
            have p186 : 0 ≤ (x5_1 : Int) := of_decide_eq_true (by first | (with_reducible assumption) | assumption)
            have q186 : x5_1 < (l0.length : Int) := of_decide_eq_true (by first | (with_reducible assumption) | assumption)
            obtain ⟨ad186, e186, hx186_0⟩ := Kd.at_int HR0.out x5_1 p186 q186
            cases e186
            replace p186 := eq_true p186
            replace q186 := eq_true q186
            go_wp2
            go_ret
            exact ⟨by first | rfl | (simp; done) | (simp [*]; done), by repeat (first | exact Drawn0.refl _ | apply Drawn0.step)⟩
        · rw [if_neg c4] at H
          exact absurd H (by simp)
      · rw [if_neg c3] at H
        have c3b0 : decide (x5_1 < (l0.length : Int)) = false := decide_eq_false c3
        clear c3
        obtain rfl := Option.some.inj H
        go_wp2
        go_ret
        exact ⟨by first | rfl | (simp; done) | (simp [*]; done), by repeat (first | exact Drawn0.refl _ | apply Drawn0.step)⟩

/-! ### laws_heldBoard: function 22 -/
def laws_heldBoard.f (k : Nat) (a0_0 : Int) (a0_1 : Int) (l0_2 : List Int) (a1 : Int) : Option (Int) := (laws_heldIntS.f k l0_2 a1).bind fun t188 => (if t188 < 0 then (some (-1)) else (some t188))
theorem laws_heldBoard.mono : ∀ a0 a1 a2 a3 k, LeO (laws_heldBoard.f k a0 a1 a2 a3) (laws_heldBoard.f (k + 1) a0 a1 a2 a3) := by
  intro a0 a1 a2 a3 k
  unfold laws_heldBoard.f
  repeat' first
      | (with_reducible exact laws_heldIntS.mono _ _ _)
      | (with_reducible exact LeO.refl _)
      | (with_reducible exact LeO.none _)
      | (with_reducible refine LeO.ite ?_ ?_)
      | (with_reducible refine LeO.bind ?_ (fun _ => ?_))
      | exact laws_heldIntS.mono _ _ _
      | exact LeO.none _
      | refine LeO.ite ?_ ?_
      | refine LeO.bind ?_ (fun _ => ?_)
set_option maxHeartbeats 8000000 in
set_option maxRecDepth 100000 in
theorem laws_heldBoard.calls (k : Nat) (a0_0 : Int) (a0_1 : Int) (A0_2 : Option Addr) (c0_2 : Nat) (l0_2 : List Int) (a1 : Int) (r : Int) (w : World) (hr0_2 : Kd.C (Kd.int .i64) w A0_2 l0_2.length l0_2) (hc0_2 : l0_2.length ≤ c0_2) (h : laws_heldBoard.f k a0_0 a0_1 l0_2 a1 = some r) :
    Calls Try.prog 22 #[.agg #[.int .i64 a0_0, .int .i64 a0_1, .slice A0_2 l0_2.length c0_2], .int .i64 a1] w fun e w' => e = .returned (.int .i64 r) ∧ Below w.heap.size w w' := by
  have hu29 := Try.underlying29
  have HR0_2 := Aside0.mk hr0_2
  have HC0_2 := Aside0.mk hc0_2
  clear hr0_2 hc0_2
  have HB := Aside0.mk (Below.refl w.heap.size w)
  have H : ((laws_heldIntS.f k l0_2 a1).bind fun t188 => (if t188 < 0 then (some (-1)) else (some t188))) = some r := h
  clear h
  replace H := Option.bind_eq_some_iff.mp H
  obtain ⟨t188, A30, H⟩ := H
  replace H : (if t188 < 0 then (some (-1)) else (some t188)) = some r := H
  have A3 := Aside0.mk A30
  clear A30
  by_cases c4 : t188 < 0
  · rw [if_pos c4] at H
    have c4b0 : decide (t188 < 0) = true := decide_eq_true c4
    clear c4
    obtain rfl := Option.some.inj H
    go_enter Try.func22, Try.ntmps22
    go_wp2_with (first | ((with_reducible refine gate_dst (N := 2) rfl ?_); refine box_event ?hg (N := 2) ?hd (cs := #[.int .i64 a0_0, .int .i64 a0_1, .slice A0_2 l0_2.length c0_2]) (t := 29) ?hr ?_; (case hd => rfl); (case hg => rfl); (case hr => first | (go_simp; done) | (go_simp; rfl)); intro gb187 hg w5 hbox hb; have n0_ := Aside0.mk (below_step (by repeat (first | (with_reducible first | exact HB.out | apply below_alloc | apply pw_below_drewN | apply below_drew1) | exact HB.out)) hb); have n1_ := Aside0.mk (hbox); have n2_ := Aside0.mk ((by rw [hg]; exact (below_size (by repeat (first | (with_reducible first | exact HB.out | apply below_alloc | apply pw_below_drewN | apply below_drew1) | exact HB.out))) : w.heap.size ≤ gb187)); have n3_ := Aside0.mk ((by rw [hg]; exact (below_size (by repeat (first | (with_reducible first | exact HB.out | apply below_alloc | apply pw_below_drewN | apply below_drew1) | exact HB.out))) : w.heap.size ≤ gb187)); clear HB; have HB := n0_; have BK187 := n1_; have GW187 := n2_; have GE187 := n3_; clear n0_ n1_ n2_ n3_; clear hb hbox hg; have hcz6_0 : w5.cell? ⟨gb187, 0, none⟩ = some (.int .i64 a0_0) := (blk_cell BK187.out 0).trans rfl; have hcz6_1 : w5.cell? ⟨gb187, 1, none⟩ = some (.int .i64 a0_1) := (blk_cell BK187.out 1).trans rfl; have hcz6_2 : w5.cell? ⟨gb187, 2, none⟩ = some (.slice A0_2 l0_2.length c0_2) := (blk_cell BK187.out 2).trans rfl; have hfz6_0 := blk_frozen BK187.out 0; have hfz6_1 := blk_frozen BK187.out 1; have hfz6_2 := blk_frozen BK187.out 2) | ((with_reducible refine gate_callee (f := 35) rfl ?_); refine goesL_ (some 8) rfl rfl Try.func35 (by kernel_rfl) rfl #[.slice A0_2 l0_2.length c0_2, .int .i64 a1] rfl (by (try simp only [List.map_toArray, List.map_cons, List.map_nil]); first | done | rfl | (simp only [List.length_drop, List.length_take]; rfl)) ?_; (with_reducible refine (laws_heldIntS.calls k _ _ l0_2 a1 t188 _ ?side1 ?side2 A3.out).mono ?_); (case side1 => repeat (first | exact (Kd.C_below HR0_2.out HB.out) | (with_reducible refine Kd.C_alloc ?_ _) | (with_reducible refine Kd.C_drewN ?_ _) | (with_reducible refine Kd.C_drew ?_))); (case side2 => exact HC0_2.out); rintro e w' ⟨rfl, ⟨nd, rfl⟩⟩; refine ⟨_, rfl, ?_⟩))
    go_ret
    exact ⟨by first | rfl | (simp [errW_none, errW_some] <;> rfl) | (simp [*, errW_none, errW_some] <;> rfl), by repeat (first | (with_reducible first | exact HB.out | apply below_alloc | apply pw_below_drewN | apply below_drew1 | refine below_set ?_ GE187.out) | exact HB.out)⟩
  · rw [if_neg c4] at H
    have c4b0 : decide (t188 < 0) = false := decide_eq_false c4
    clear c4
    obtain rfl := Option.some.inj H
    go_enter Try.func22, Try.ntmps22
    go_wp2_with (first | ((with_reducible refine gate_dst (N := 2) rfl ?_); refine box_event ?hg (N := 2) ?hd (cs := #[.int .i64 a0_0, .int .i64 a0_1, .slice A0_2 l0_2.length c0_2]) (t := 29) ?hr ?_; (case hd => rfl); (case hg => rfl); (case hr => first | (go_simp; done) | (go_simp; rfl)); intro gb187 hg w7 hbox hb; have n0_ := Aside0.mk (below_step (by repeat (first | (with_reducible first | exact HB.out | apply below_alloc | apply pw_below_drewN | apply below_drew1) | exact HB.out)) hb); have n1_ := Aside0.mk (hbox); have n2_ := Aside0.mk ((by rw [hg]; exact (below_size (by repeat (first | (with_reducible first | exact HB.out | apply below_alloc | apply pw_below_drewN | apply below_drew1) | exact HB.out))) : w.heap.size ≤ gb187)); have n3_ := Aside0.mk ((by rw [hg]; exact (below_size (by repeat (first | (with_reducible first | exact HB.out | apply below_alloc | apply pw_below_drewN | apply below_drew1) | exact HB.out))) : w.heap.size ≤ gb187)); clear HB; have HB := n0_; have BK187 := n1_; have GW187 := n2_; have GE187 := n3_; clear n0_ n1_ n2_ n3_; clear hb hbox hg; have hcz8_0 : w7.cell? ⟨gb187, 0, none⟩ = some (.int .i64 a0_0) := (blk_cell BK187.out 0).trans rfl; have hcz8_1 : w7.cell? ⟨gb187, 1, none⟩ = some (.int .i64 a0_1) := (blk_cell BK187.out 1).trans rfl; have hcz8_2 : w7.cell? ⟨gb187, 2, none⟩ = some (.slice A0_2 l0_2.length c0_2) := (blk_cell BK187.out 2).trans rfl; have hfz8_0 := blk_frozen BK187.out 0; have hfz8_1 := blk_frozen BK187.out 1; have hfz8_2 := blk_frozen BK187.out 2) | ((with_reducible refine gate_callee (f := 35) rfl ?_); refine goesL_ (some 8) rfl rfl Try.func35 (by kernel_rfl) rfl #[.slice A0_2 l0_2.length c0_2, .int .i64 a1] rfl (by (try simp only [List.map_toArray, List.map_cons, List.map_nil]); first | done | rfl | (simp only [List.length_drop, List.length_take]; rfl)) ?_; (with_reducible refine (laws_heldIntS.calls k _ _ l0_2 a1 t188 _ ?side1 ?side2 A3.out).mono ?_); (case side1 => repeat (first | exact (Kd.C_below HR0_2.out HB.out) | (with_reducible refine Kd.C_alloc ?_ _) | (with_reducible refine Kd.C_drewN ?_ _) | (with_reducible refine Kd.C_drew ?_))); (case side2 => exact HC0_2.out); rintro e w' ⟨rfl, ⟨nd, rfl⟩⟩; refine ⟨_, rfl, ?_⟩))
    go_ret
    exact ⟨by first | rfl | (simp [errW_none, errW_some] <;> rfl) | (simp [*, errW_none, errW_some] <;> rfl), by repeat (first | (with_reducible first | exact HB.out | apply below_alloc | apply pw_below_drewN | apply below_drew1 | refine below_set ?_ GE187.out) | exact HB.out)⟩

/-! ### laws_FnExactFromCells: function 5 (by hand) -/
def laws_FnExactFromCells.f (k : Nat) (a0 : Int) (a1 : Int) (l2 : List (List Int)) : Option Bool :=
  (laws_szIntSS.f k l2 1048576).bind fun s => if s < 0 then some true else (laws_toIntSS.f k l2).bind fun a => (spec_FromCells.f k a0 a1 a).bind fun w => (impl_FromCells.f k a0 a1 a).bind fun g => (laws_eqBoard.f k g.1 g.2.1 g.2.2.1 w.1 w.2.1 w.2.2.1).bind fun e => (laws_eqIntSS.f k a a).bind fun e2 => (laws_markIntSS.f k a 1).bind fun b => (laws_markBoard.f k g.1 g.2.1 g.2.2.1 1).bind fun m => (laws_heldBoard.f k g.1 g.2.1 m.2 1).bind fun q => if e = true ∧ e2 = true ∧ 0 ≤ b.1 ∧ g.2.2.2 = w.2.2.2 ∧ 0 ≤ q ∧ q = m.1 then some true else some false
-- (walk)
set_option maxHeartbeats 2000000 in
set_option maxRecDepth 100000 in
theorem fromCells_walk (k : Nat) (a0 : Int) (a1 : Int) (A0 : Option Addr) (c0 : Nat) (l0 : List (List Int)) (w : World) (s : Int) (hr0 : Kd.C (Kd.slice 3 (Kd.int .i64)) w A0 l0.length l0) (hc0 : l0.length ≤ c0) (AS : Aside0 (laws_szIntSS.f k l0 1048576 = some s)) (a : List (List Int)) (A1 : Aside0 (laws_toIntSS.f k l0 = some a)) (b0 b1 : Int) (b : List Int) (w2 : Bool) (A2 : Aside0 (spec_FromCells.f k a0 a1 a = some (b0, b1, b, w2))) (d0 d1 : Int) (d : List Int) (A3 : Aside0 (impl_FromCells.f k a0 a1 a = some (d0, d1, d, w2))) (A4 : Aside0 (laws_eqBoard.f k d0 d1 d b0 b1 b = some true)) (A5 : Aside0 (laws_eqIntSS.f k a a = some true)) (y1 : Int) (y2 : List (List Int)) (A6 : Aside0 (laws_markIntSS.f k a 1 = some (y1, y2))) (q : Int) (m2 : List Int) (A7 : Aside0 (laws_markBoard.f k d0 d1 d 1 = some (q, m2))) (A8 : Aside0 (laws_heldBoard.f k d0 d1 m2 1 = some q)) (cs : decide (s < 0) = false) (cb : decide (y1 < 0) = false) (cq : decide (q < 0) = false) :
    Calls Try.prog 5 #[.int .i64 a0, .int .i64 a1, .slice A0 l0.length c0] w fun e w' => e = .returned (.bool true) ∧ Below w.heap.size w w' := by
  have HR0 := Aside0.mk hr0
  have HC0 := Aside0.mk hc0
  clear hr0 hc0
  go_enter Try.func5, Try.ntmps5
  go_wp2_with fail
  go_at_call 18
  refine (laws_szIntSS.calls k A0 c0 l0 1048576 s _ HR0.out HC0.out AS.out).mono ?_
  rintro e w' ⟨rfl, ⟨n0, rfl⟩⟩
  go_wp2_with fail
  go_at_call 20
  refine (laws_toIntSS.calls k A0 c0 l0 a _ (Kd.C_drewN HR0.out _) HC0.out A1.out).mono ?_
  rintro e W1 ⟨v1, rfl, ho1, hb1⟩
  obtain ⟨Aa, ca, rfl⟩ := Kd.S_slice ho1
  have O1 := Aside0.mk ho1
  have B1 := Aside0.mk (below_step (pw_below_drewN (Below.refl w.heap.size w) n0) hb1)
  clear ho1 hb1
  go_wp2_with fail
  go_at_call 19
  refine (spec_FromCells.calls k a0 a1 _ _ a b0 b1 b w2 _ (Kd.S_reads' O1.out).2.2 (Kd.S_reads' O1.out).2.1 A2.out).mono ?_
  rintro e W2 ⟨v2, rfl, ho2, hb2⟩
  obtain ⟨Aw, cw, rfl⟩ := Kd.R_slice ho2
  have RW := Aside0.mk (Kd.R_reads' ho2)
  have T2 := Aside0.mk (below_step B1.out hb2)
  clear ho2 hb2 O1 B1
  go_wp2_with fail
  have bx := blk_new W2 (.cells #[.int .i64 b0, .int .i64 b1, .slice Aw b.length cw] 29)
  have hbx := below_alloc (Below.refl W2.heap.size W2) (.cells #[.int .i64 b0, .int .i64 b1, .slice Aw b.length cw] 29)
  have T2b := Aside0.mk (below_step T2.out hbx)
  have CW := Aside0.mk (Kd.C_below RW.out.2.2 hbx)
  have hcw := Aside0.mk RW.out.2.1
  have BW := Aside0.mk bx
  clear bx hbx T2 RW
  generalize W2.heap.size = gw at BW ⊢
  generalize W2.alloc _ = W2b at BW CW T2b ⊢
  go_at_call 20
  refine (laws_toIntSS.calls k A0 c0 l0 a _ (Kd.C_below HR0.out T2b.out) HC0.out A1.out).mono ?_
  rintro e W3 ⟨v3, rfl, ho3, hb3⟩
  obtain ⟨Ax, cx, rfl⟩ := Kd.S_slice ho3
  have O3 := Aside0.mk ho3
  have B3 := Aside0.mk hb3
  clear ho3 hb3
  go_wp2_with fail
  go_at_call 21
  refine (impl_FromCells.calls k a0 a1 _ _ a d0 d1 d w2 _ (Kd.S_reads' O3.out).2.2 (Kd.S_reads' O3.out).2.1 A3.out).mono ?_
  rintro e W4 ⟨v4, rfl, ho4, hb4⟩
  obtain ⟨Ag, cg, rfl⟩ := Kd.R_slice ho4
  have bx := blk_new W4 (.cells #[.int .i64 d0, .int .i64 d1, .slice Ag d.length cg] 29)
  have hbx := below_alloc (Below.refl W4.heap.size W4) (.cells #[.int .i64 d0, .int .i64 d1, .slice Ag d.length cg] 29)
  have bw4 := blk_below BW.out (below_step (below_step B3.out hb4) hbx)
  have cw0 := blk_cell bw4 0
  have cw1 := blk_cell bw4 1
  have cw2 := blk_cell bw4 2
  have O4 := Aside0.mk (Kd.R_below ho4 hbx)
  have B4 := Aside0.mk (below_step hb4 hbx)
  have GE := Aside0.mk hb4.size
  have BW4 := Aside0.mk bw4
  have BG := Aside0.mk bx
  clear ho4 hb4 bx hbx bw4
  go_wp2_with fail
  clear cw0 cw1 cw2
  generalize W4.heap.size = gg at BG GE ⊢
  generalize W4.alloc _ = W4b at BG BW4 O4 B4 ⊢
  go_at_call 12
  refine (laws_eqBoard.calls k d0 d1 _ _ d b0 b1 _ _ b true _ (Kd.R_reads' O4.out).2.2 (Kd.R_reads' O4.out).2.1 (Kd.C_below CW.out (below_step B3.out B4.out)) hcw.out A4.out).mono ?_
  rintro e W5 ⟨rfl, hb5⟩
  have T5 := Aside0.mk (below_step B4.out hb5)
  have O5 := Aside0.mk (Kd.R_below O4.out hb5)
  have BG5 := Aside0.mk (blk_below BG.out hb5)
  clear hb5 O4 B4 BG BW4
  go_wp2_with fail
  go_at_call 20
  refine (laws_toIntSS.calls k A0 c0 l0 a _ (Kd.C_below HR0.out (below_step (below_step T2b.out B3.out) T5.out)) HC0.out A1.out).mono ?_
  rintro e W6 ⟨v6, rfl, ho6, hb6⟩
  obtain ⟨Az, cz, rfl⟩ := Kd.S_slice ho6
  have RZ := Aside0.mk (Kd.S_reads' ho6)
  have T6 := Aside0.mk (below_step T5.out hb6)
  have O6 := Aside0.mk (Kd.R_below O5.out hb6)
  have BG6 := Aside0.mk (blk_below BG5.out hb6)
  clear ho6 hb6 T5 O5 BG5
  go_wp2_with fail
  go_at_call 11
  refine (laws_eqIntSS.calls k _ _ a _ _ a true _ (Kd.C_below (Kd.S_reads' O3.out).2.2 T6.out) (Kd.S_reads' O3.out).2.1 RZ.out.2.2 RZ.out.2.1 A5.out).mono ?_
  rintro e w' ⟨rfl, ⟨n7, rfl⟩⟩
  go_wp2_with fail
  go_at_call 14
  refine (laws_markIntSS.calls k (fun k_ => k_ < W3.heap.size) _ a 1 y1 y2 W2b _ (pw_below_drewN (below_step B3.out T6.out) n7) (Kd.S_drewN (Kd.S_below (Kd.S_mono (Kd.S_bound O3.out) (fun k_ hk => hk.2.2.1)) T6.out) n7) A6.out).mono ?_
  rintro e W8 ⟨rfl, ho8, hb8, hk8⟩
  have B8 := Aside0.mk hb8
  have O8 := Aside0.mk (Kd.R_kept (Kd.R_mono (Kd.R_bound (Kd.R_drewN O6.out n7)) (ok' := fun k_ => W3.heap.size ≤ k_) (fun k_ hk => hk.2.1)) hk8 (fun k_ h1 h2 => Nat.not_le.2 h2 h1))
  have BG8 := Aside0.mk (blk_kept BG6.out hk8 (Nat.not_lt.2 GE.out))
  have BW8 := Aside0.mk (blk_below BW.out hb8)
  clear ho8 hb8 hk8 RZ T6 O6 BG6 O3
  have cw0 := blk_cell BW8.out 0
  have cw1 := blk_cell BW8.out 1
  have cw2 := blk_cell BW8.out 2
  have cg0 := blk_cell BG8.out 0
  have cg1 := blk_cell BG8.out 1
  have cg2 := blk_cell BG8.out 2
  go_wp2_with fail
  clear cw0 cw1 cw2 cg0 cg1 cg2
  go_at_call 12
  refine (laws_eqBoard.calls k d0 d1 _ _ d b0 b1 _ _ b true _ (Kd.R_reads' O8.out).2.2 (Kd.R_reads' O8.out).2.1 (Kd.C_below CW.out B8.out) hcw.out A4.out).mono ?_
  rintro e W9 ⟨rfl, hb9⟩
  have B9 := Aside0.mk (below_step B8.out hb9)
  have O9 := Aside0.mk (Kd.R_below O8.out hb9)
  have BG9 := Aside0.mk (blk_below BG8.out hb9)
  clear hb9 B8 O8 BG8 BW8
  have cg0 := blk_cell BG9.out 0
  have cg1 := blk_cell BG9.out 1
  have cg2 := blk_cell BG9.out 2
  go_wp2_with fail
  clear cg0 cg1 cg2
  go_at_call 13
  refine (laws_markBoard.calls k d0 d1 (fun k_ => some k_ = (Value.slice Ag d.length cg).ownBlock) _ d 1 q m2 W2b _ B9.out (Kd.R_tight rfl (Kd.R_lower O9.out B3.out.size)) A7.out).mono ?_
  rintro e W10 ⟨rfl, ho10, hb10, hk10⟩
  have bg10 := blk_kept BG9.out hk10 (Kd.R_ne O9.out BG9.out (by decide))
  have hl := (Kd.R_reads' ho10).1
  rw [hl]
  rw [hl] at ho10 bg10
  have O10 := Aside0.mk ho10
  have B10 := Aside0.mk hb10
  have BG10 := Aside0.mk bg10
  clear ho10 hb10 hk10 bg10 hl B9 O9 BG9
  have cg0 := blk_cell BG10.out 0
  have cg1 := blk_cell BG10.out 1
  have cg2 := blk_cell BG10.out 2
  go_wp2_with fail
  clear cg0 cg1 cg2
  go_at_call 22
  refine (laws_heldBoard.calls k d0 d1 _ _ m2 1 q _ (Kd.R_reads' O10.out).2.2 (Kd.R_reads' O10.out).2.1 A8.out).mono ?_
  rintro e W11 ⟨rfl, hb11⟩
  have B11 := Aside0.mk (below_step B10.out hb11)
  have O11 := Aside0.mk (Kd.R_below O10.out hb11)
  have BG11 := Aside0.mk (blk_below BG10.out hb11)
  clear hb11 B10 O10 BG10
  go_wp2_with fail
  go_at_call 20
  refine (laws_toIntSS.calls k A0 c0 l0 a _ (Kd.C_below HR0.out (below_step T2b.out B11.out)) HC0.out A1.out).mono ?_
  rintro e W12 ⟨v12, rfl, ho12, hb12⟩
  obtain ⟨Ay, cy, rfl⟩ := Kd.S_slice ho12
  have O12 := Aside0.mk ho12
  have B12 := Aside0.mk hb12
  clear ho12 hb12
  go_wp2_with fail
  go_at_call 21
  refine (impl_FromCells.calls k a0 a1 _ _ a d0 d1 d w2 _ (Kd.S_reads' O12.out).2.2 (Kd.S_reads' O12.out).2.1 A3.out).mono ?_
  rintro e W13 ⟨v13, rfl, ho13, hb13⟩
  obtain ⟨Ah, ch, rfl⟩ := Kd.R_slice ho13
  have hbx := below_alloc (Below.refl W13.heap.size W13) (.cells #[.int .i64 d0, .int .i64 d1, .slice Ah d.length ch] 29)
  have B13 := Aside0.mk (below_step (below_step B12.out hb13) hbx)
  have RH := Aside0.mk (Kd.R_reads' (Kd.R_below ho13 hbx))
  have BW13 := Aside0.mk (blk_below BW.out (below_step B11.out B13.out))
  clear ho13 hb13 hbx O12 B12
  have cw0 := blk_cell BW13.out 0
  have cw1 := blk_cell BW13.out 1
  have cw2 := blk_cell BW13.out 2
  go_wp2_with fail
  clear cw0 cw1 cw2
  generalize W13.alloc _ = W13b at B13 RH BW13 ⊢
  go_at_call 12
  refine (laws_eqBoard.calls k d0 d1 _ _ d b0 b1 _ _ b true _ RH.out.2.2 RH.out.2.1 (Kd.C_below CW.out (below_step B11.out B13.out)) hcw.out A4.out).mono ?_
  rintro e W14 ⟨rfl, hb14⟩
  have B14 := Aside0.mk (below_step B13.out hb14)
  clear hb14
  have BG14 := Aside0.mk (blk_below BG11.out B14.out)
  have O14 := Aside0.mk (Kd.R_below O11.out B14.out)
  have cg0 := blk_cell BG14.out 0
  have cg1 := blk_cell BG14.out 1
  have cg2 := blk_cell BG14.out 2
  go_wp2_with fail
  clear cg0 cg1 cg2
  go_at_call 22
  refine (laws_heldBoard.calls k d0 d1 _ _ m2 1 q _ (Kd.R_reads' O14.out).2.2 (Kd.R_reads' O14.out).2.1 A8.out).mono ?_
  rintro e W15 ⟨rfl, hb15⟩
  have B15 := Aside0.mk (below_step (below_step (below_step T2b.out B11.out) B14.out) hb15)
  clear hb15
  go_wp2_with fail
  go_ret
  exact ⟨rfl, B15.out⟩
set_option maxHeartbeats 2000000 in
set_option maxRecDepth 100000 in
theorem laws_FnExactFromCells.calls (k : Nat) (a0 : Int) (a1 : Int) (A0 : Option Addr) (c0 : Nat) (l0 : List (List Int)) (w : World) (hr0 : Kd.C (Kd.slice 3 (Kd.int .i64)) w A0 l0.length l0) (hc0 : l0.length ≤ c0) (h : laws_FnExactFromCells.f k a0 a1 l0 = some true) :
    Calls Try.prog 5 #[.int .i64 a0, .int .i64 a1, .slice A0 l0.length c0] w fun e w' => e = .returned (.bool true) ∧ Below w.heap.size w w' := by
  unfold laws_FnExactFromCells.f at h
  obtain ⟨s, AS, h⟩ := Option.bind_eq_some_iff.1 h
  by_cases hs : s < 0
  case pos =>
    have c1 : decide (s < 0) = true := decide_eq_true hs
    have AS := Aside0.mk AS
    have HR0 := Aside0.mk hr0
    have HC0 := Aside0.mk hc0
    clear h hs hr0 hc0
    go_enter Try.func5, Try.ntmps5
    go_wp2_with fail
    go_at_call 18
    refine (laws_szIntSS.calls k A0 c0 l0 1048576 s _ HR0.out HC0.out AS.out).mono ?_
    rintro e w' ⟨rfl, ⟨n0, rfl⟩⟩
    go_wp2_with fail
    go_ret
    exact ⟨rfl, pw_below_drewN (Below.refl _ _) _⟩
  rw [if_neg hs] at h
  obtain ⟨a, A1, h⟩ := Option.bind_eq_some_iff.1 h
  obtain ⟨⟨b0, b1, b, w2⟩, A2, h⟩ := Option.bind_eq_some_iff.1 h
  obtain ⟨⟨d0, d1, d, g2⟩, A3, h⟩ := Option.bind_eq_some_iff.1 h
  obtain ⟨e, A4, h⟩ := Option.bind_eq_some_iff.1 h
  obtain ⟨e2, A5, h⟩ := Option.bind_eq_some_iff.1 h
  obtain ⟨⟨y1, y2⟩, A6, h⟩ := Option.bind_eq_some_iff.1 h
  obtain ⟨⟨m1, m2⟩, A7, h⟩ := Option.bind_eq_some_iff.1 h
  obtain ⟨q, A8, h⟩ := Option.bind_eq_some_iff.1 h
  by_cases hc : e = true ∧ e2 = true ∧ 0 ≤ y1 ∧ g2 = w2 ∧ 0 ≤ q ∧ q = m1
  case neg => rw [if_neg hc] at h; exact absurd (Option.some.inj h) (by decide)
  obtain ⟨rfl, rfl, hb1, rfl, hq, rfl⟩ := hc
  exact fromCells_walk k a0 a1 A0 c0 l0 w s hr0 hc0 ⟨AS⟩ a ⟨A1⟩ b0 b1 b g2 ⟨A2⟩ d0 d1 d ⟨A3⟩ ⟨A4⟩ ⟨A5⟩ y1 y2 ⟨A6⟩ q m2 ⟨A7⟩ ⟨A8⟩ (decide_eq_false hs) (decide_eq_false (by omega)) (decide_eq_false (by omega))


/-- The pure statement of laws_FnExactFromCells. -/
def laws_FnExactFromCells.Pure : Prop := ∀ (a0 : Int) (a1 : Int) (l2 : List (List Int)), (Lit.int .i64 a0).wf = true → (Lit.int .i64 a1).wf = true → l2.length ≤ maxLen → (∀ y ∈ l2, y.length ≤ maxLen) → (∀ y ∈ l2, ∀ z ∈ y, (Lit.int .i64 z).wf = true) → ∃ k, laws_FnExactFromCells.f k a0 a1 l2 = some true

end Go.Proofs.Ytcdikbiikmhmhaa.PFnExactFromCells
