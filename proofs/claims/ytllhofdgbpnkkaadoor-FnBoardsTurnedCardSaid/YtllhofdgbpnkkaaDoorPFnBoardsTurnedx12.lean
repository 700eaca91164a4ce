-- Printed for this claim by wip/pp.py over the kit's printer; Lean checks it.
import Derived.Test.YtllhofdgbpnkkaaDoorPFnBoardsTurnedx0
import Derived.Test.YtllhofdgbpnkkaaDoorPFnBoardsTurnedx4
import Derived.Test.YtllhofdgbpnkkaaDoorPFnBoardsTurnedx10
namespace Go.Proofs.YtllhofdgbpnkkaaDoor.PFnBoardsTurned
open Go.RowKit Go.Proofs.YtllhofdgbpnkkaaDoorW.PrintWords Go.Proofs.YtllhofdgbpnkkaaDoorW.PrintLast Go.Proofs.YtllhofdgbpnkkaaDoorW.PrintMore
attribute [local go_sem] max2_int min2_int max_two min_two max_three min_three max_four min_four   -- for this text's walks alone
set_option linter.unusedVariables false
set_option linter.unusedSimpArgs false

/-! ### spec_l1Split: function 71 -/
def spec_l1Split.l0 : Nat → ByteArray → Int → List ByteArray → Int → Int → Option (List ByteArray)
 | 0, _, _, _, _, _ => none
 | k + 1, x0, x1, x5, x6, x7 => if x7 < (x0.size : Int) then (if 0 ≤ x7 then (if (bt x0 x7) = x1 then (if 0 ≤ x6 then (if x6 ≤ x7 then (if x7 ≤ (x0.size : Int) then (if x5.length < 8796093022208 then (spec_l1Split.l0 k x0 x1 (x5 ++ [x0.extract (x6 : Int).toNat (x7 : Int).toNat]) (wrap64 (x7 + 1)) (wrap64 (x7 + 1))) else (none)) else (none)) else (none)) else (none)) else (spec_l1Split.l0 k x0 x1 x5 x6 (wrap64 (x7 + 1)))) else (none)) else (if 0 ≤ x6 then (if x6 ≤ (x0.size : Int) then (if x5.length < 8796093022208 then (some (x5 ++ [x0.extract (x6 : Int).toNat x0.size])) else (none)) else (none)) else (none))
def spec_l1Split.f (k : Nat) (a0 : ByteArray) (a1 : Int) : Option (List ByteArray) := spec_l1Split.l0 k a0 a1 ([] : List ByteArray) 0 0
set_option maxHeartbeats 8000000 in
set_option maxRecDepth 100000 in
theorem spec_l1Split.calls (k : Nat) (a0 : ByteArray) (a1 : Int) (r : List ByteArray) (w : World) (h : spec_l1Split.f k a0 a1 = some r) :
  Calls Tryd.prog 71 #[.string a0, .int .u8 a1] w fun e w' => ∃ v0_ : Value, e = .returned (v0_) ∧ Kd.R Kd.string 9 w' w.heap.size (fun _ => True) v0_ r ∧ Below w.heap.size w w' := by
 have HB := am (Below.refl w.heap.size w)
 have H : (spec_l1Split.l0 k a0 a1 ([] : List ByteArray) 0 0) = some r := h
 clear h
 have H' := Aside0.mk H
 clear H
 go_enter Tryd.func71, Tryd.ntmps71
 go_wp2
 go_loopg [5, 6, 7] k (fun kq v5 v6 v7 w' => ∃ (x5_1 : List ByteArray) (x6_1 : Int) (x7_1 : Int), v6 = .int .i64 x6_1 ∧ v7 = .int .i64 x7_1 ∧ Aside0 (spec_l1Split.l0 kq a0 a1 x5_1 x6_1 x7_1 = some r) ∧ Aside0 (kq ≤ k) ∧ Aside0 (Kd.R Kd.string 9 w' w.heap.size (fun _ => True) v5 x5_1) ∧ Aside0 (Below w.heap.size w w'))
 case atStart => exact ⟨(([] : List ByteArray)), (0), (0), Q2, Q2, H', ⟨Nat.le_refl _⟩, ⟨Q6⟩, ⟨qb⟩⟩
 case round =>
  clear H'
  try clear p2
  obtain ⟨x5_1, x6_1, x7_1, rfl, rfl, HA, HK1, Oq7, HB⟩ := hrel
  cases gk with
  | zero => exact absurd HA.out (by simp [spec_l1Split.l0])
  | succ k1 =>
   have H := HA.out
   clear HA
   simp only [spec_l1Split.l0] at H
   by_cases c3 : x7_1 < (a0.size : Int)
   ·
    rw [if_pos c3] at H
    have c3b0 : decide (x7_1 < (a0.size : Int)) = true := decide_eq_true c3
    clear c3
    by_cases c4 : 0 ≤ x7_1
    ·
     rw [if_pos c4] at H
     have c4b0 : decide (0 ≤ x7_1) = true := decide_eq_true c4
     clear c4
     by_cases c6 : (bt a0 x7_1) = a1
     ·
      rw [if_pos c6] at H
      have c6b0 : ((bt a0 x7_1) == a1) = true := beq_iff_eq.mpr c6
      have c6b1 : ((bt a0 x7_1) != a1) = false := bne_eq_false_iff_eq.mpr c6
      clear c6
      by_cases c7 : 0 ≤ x6_1
      ·
       rw [if_pos c7] at H
       have c7b0 := eq_true c7
       have c7b1 : decide (0 ≤ x6_1) = true := decide_eq_true c7
       clear c7
       by_cases c8 : x6_1 ≤ x7_1
       ·
        rw [if_pos c8] at H
        have c8b0 := eq_true c8
        have c8b1 : decide (x6_1 ≤ x7_1) = true := decide_eq_true c8
        clear c8
        by_cases c9 : x7_1 ≤ (a0.size : Int)
        ·
         rw [if_pos c9] at H
         have c9b0 := eq_true c9
         have c9b1 : decide (x7_1 ≤ (a0.size : Int)) = true := decide_eq_true c9
         clear c9
         by_cases c10 : x5_1.length < 8796093022208
         ·
          rw [if_pos c10] at H
          have LMc10 := Aside0.mk c10
          clear c10
          obtain ⟨y446, hy_⟩ : ∃ y_ : List ByteArray, y_ = ((x5_1 ++ [a0.extract (x6_1 : Int).toNat (x7_1 : Int).toNat])) := ⟨_, rfl⟩
          replace H : (spec_l1Split.l0 k1 a0 a1 y446 (wrap64 (x7_1 + 1)) (wrap64 (x7_1 + 1))) = some r := qH
          have Ny446 := Aside0.mk hy_
          clear hy_
          have H' := Aside0.mk H
          clear H
          have p5 : 0 ≤ (x7_1 : Int) := of_decide_eq_true Q0
          have q5 : x7_1 < (a0.size : Int) := of_decide_eq_true Q0
          have hx5 := bt_at a0 x7_1
          replace p5 := eq_true p5
          replace q5 := eq_true q5
          go_wp2_with (first | ((with_reducible refine gate_builtin (b := .append) (xs := #[.tmp 19, .tmp 24]) rfl ?_); at_builtin; refine Kd.R_append Kd.string (w0 := w) w.heap.size rfl (.tmp 19) (.tmp 24) 65 9 (.string ⟨#[]⟩) 16 rfl Tryd.underlying65 info9 rfl (by decide) (by omega) u5 x5_1 (a0.extract (x6_1 : Int).toNat (x7_1 : Int).toNat) [.string (a0.extract (x6_1 : Int).toNat (x7_1 : Int).toNat)] (fun _ => True) (fun _ => False) rfl rfl ?aP (fun _ hk => hk.elim) ?aF ?aO ?aB ?aS ?aL ?_; (case aP => exact rfl); (case aB => exact qb); (case aF => exact (fun _ _ => trivial)); (case aO => exact (sqr Oq7)); (case aS => exact (below_size qb)); (case aL => have := LMc10.out; omega); intro v447 w11 ho hb hg hat; rw [← Ny446.out] at ho; have Oq0 := am (ho); replace HB := am hb; clear Oq7; clear ho hb hg hat))
          go_roundg k1
          case measure => have := HK1.out; omega
          case rel => exact ⟨(y446), (wrap64 (x7_1 + 1)), (wrap64 (x7_1 + 1)), Q2, Q2, H', ⟨Q61⟩, ⟨Q36⟩, ⟨qb⟩⟩
         ·
          rw [if_neg c10] at H
          exact absurd H (by simp)
        ·
         rw [if_neg c9] at H
         exact absurd H (by simp)
       ·
        rw [if_neg c8] at H
        exact absurd H (by simp)
      ·
       rw [if_neg c7] at H
       exact absurd H (by simp)
     ·
      rw [if_neg c6] at H
      have c6b0 : ((bt a0 x7_1) == a1) = false := beq_eq_false_iff_ne.mpr c6
      have c6b1 : ((bt a0 x7_1) != a1) = true := bne_iff_ne.mpr c6
      have H' := Aside0.mk H
      clear H
      have p5 : 0 ≤ (x7_1 : Int) := of_decide_eq_true Q0
      have q5 : x7_1 < (a0.size : Int) := of_decide_eq_true Q0
      have hx5 := bt_at a0 x7_1
      replace p5 := eq_true p5
      replace q5 := eq_true q5
      go_wp2
      go_roundg k1
      case measure => have := HK1.out; omega
      case rel => exact ⟨(x5_1), (x6_1), (wrap64 (x7_1 + 1)), Q2, Q2, H', ⟨Q61⟩, ⟨by (with_reducible repeat (first | apply Kd.R_alloc | apply Kd.R_drewN | apply Kd.R_drew)); exact Oq7.out⟩, ⟨qb⟩⟩
    ·
     rw [if_neg c4] at H
     exact absurd H (by simp)
   ·
    rw [if_neg c3] at H
    have c3b0 : decide (x7_1 < (a0.size : Int)) = false := decide_eq_false c3
    clear c3
    by_cases c12 : 0 ≤ x6_1
    ·
     rw [if_pos c12] at H
     have c12b0 := eq_true c12
     have c12b1 : decide (0 ≤ x6_1) = true := decide_eq_true c12
     clear c12
     by_cases c13 : x6_1 ≤ (a0.size : Int)
     ·
      rw [if_pos c13] at H
      have c13b0 := eq_true c13
      have c13b1 : decide (x6_1 ≤ (a0.size : Int)) = true := decide_eq_true c13
      clear c13
      by_cases c14 : x5_1.length < 8796093022208
      ·
       rw [if_pos c14] at H
       have LMc14 := Aside0.mk c14
       clear c14
       obtain ⟨y449, hy_⟩ : ∃ y_ : List ByteArray, y_ = ((x5_1 ++ [a0.extract (x6_1 : Int).toNat a0.size])) := ⟨_, rfl⟩
       replace H : (some y449) = some r := qH
       have Ny449 := Aside0.mk hy_
       clear hy_
       obtain rfl := Option.some.inj H
       go_wp2_with (first | ((with_reducible refine gate_builtin (b := .append) (xs := #[.tmp 28, .tmp 32]) rfl ?_); at_builtin; refine Kd.R_append Kd.string (w0 := w) w.heap.size rfl (.tmp 28) (.tmp 32) 65 9 (.string ⟨#[]⟩) 16 rfl Tryd.underlying65 info9 rfl (by decide) (by omega) u5 x5_1 (a0.extract (x6_1 : Int).toNat a0.size) [.string (a0.extract (x6_1 : Int).toNat a0.size)] (fun _ => True) (fun _ => False) rfl rfl ?aP (fun _ hk => hk.elim) ?aF ?aO ?aB ?aS ?aL ?_; (case aP => exact rfl); (case aB => exact qb); (case aF => exact (fun _ _ => trivial)); (case aO => exact (sqr Oq7)); (case aS => exact (below_size qb)); (case aL => have := LMc14.out; omega); intro v450 w15 ho hb hg hat; rw [← Ny449.out] at ho; have Oq1 := am (ho); replace HB := am hb; clear Oq7; clear ho hb hg hat))
       go_ret
       exact ⟨_, Q1, Q74, qb⟩
      ·
       rw [if_neg c14] at H
       exact absurd H (by simp)
     ·
      rw [if_neg c13] at H
      exact absurd H (by simp)
    ·
     rw [if_neg c12] at H
     exact absurd H (by simp)

/-! ### spec_boParse: function 54 -/
mutual
def spec_boParse.l0 : Nat → ByteArray → List ByteArray → Int → Int → Int → Int → List Int → Option (Int × Int × List Int × Bool)
 | 0, _, _, _, _, _, _, _ => none
 | k + 1, x0, x15, x16, x17, x454000, x454001, x454002 => if x17 < x16 then (if 0 ≤ x17 then (if x17 < (x15.length : Int) then (spec_boParse.l1 k x0 (rdOf ByteArray.empty x15 x17) 0 0 x15 x16 x17 x454000 x454001 x454002) else (none)) else (none)) else ((spec_boGood.f k (x454002.length : Int) x454001 x454002).bind fun t461 => (if t461 = true then ((spec_boText.f k (x454002.length : Int) x454001 x454002).bind fun t462 => (if t462.toList = x0.toList then (some ((x454002.length : Int), x454001, x454002, true)) else (some (0, 0, ([] : List Int), false)))) else (some (0, 0, ([] : List Int), false))))
def spec_boParse.l1 : Nat → ByteArray → ByteArray → Int → Int → List ByteArray → Int → Int → Int → Int → List Int → Option (Int × Int × List Int × Bool)
 | 0, _, _, _, _, _, _, _, _, _, _ => none
 | k + 1, x0, x6, x7, x8, x15, x16, x17, x454000, x454001, x454002 => if x8 < (x6.size : Int) then (if 0 ≤ x8 then (if (bt x6 x8) = 49 then (spec_boParse.l1 k x0 x6 (wrap64 (x7 + (shl .i64 1 x8))) (wrap64 (x8 + 1)) x15 x16 x17 x454000 x454001 x454002) else (spec_boParse.l1 k x0 x6 x7 (wrap64 (x8 + 1)) x15 x16 x17 x454000 x454001 x454002)) else (none)) else (if x454002.length < 17592186044416 then (spec_boParse.l0 k x0 x15 x16 (wrap64 (x17 + 1)) x454000 (x6.size : Int) (x454002 ++ [x7])) else (none))
end
def spec_boParse.f (k : Nat) (a0 : ByteArray) : Option (Int × Int × List Int × Bool) := if (a0.size : Int) > 60 then (some (0, 0, ([] : List Int), false)) else ((spec_l1Split.f k a0 47).bind fun t454 => (spec_boParse.l0 k a0 t454 (t454.length : Int) 0 0 0 ([] : List Int)))
set_option maxHeartbeats 8000000 in
set_option maxRecDepth 100000 in
theorem spec_boParse.calls (k : Nat) (a0 : ByteArray) (r1 : Int) (r2 : Int) (r3 : List Int) (r4 : Bool) (w : World) (h : spec_boParse.f k a0 = some (r1, r2, r3, r4)) :
  Calls Tryd.prog 54 #[.string a0] w fun e w' => ∃ v2_ : Value, e = .returned (.tuple #[.agg #[.int .i64 r1, .int .i64 r2, v2_], .bool r4]) ∧ Kd.R (Kd.int .i64) 3 w' w.heap.size (fun _ => True) v2_ r3 ∧ Below w.heap.size w w' := by
 have hu26 := Tryd.underlying26
 have HB := am (Below.refl w.heap.size w)
 have H : (if (a0.size : Int) > 60 then (some (0, 0, ([] : List Int), false)) else ((spec_l1Split.f k a0 47).bind fun t454 => (spec_boParse.l0 k a0 t454 (t454.length : Int) 0 0 0 ([] : List Int)))) = some (r1, r2, r3, r4) := h
 clear h
 by_cases c2 : (a0.size : Int) > 60
 ·
  rw [if_pos c2] at H
  have c2b0 : decide (60 < (a0.size : Int)) = true := decide_eq_true c2
  have c2b1 : decide (60 < a0.size) = true := decide_eq_true (by omega)
  clear c2
  simp only [Option.some.injEq, Prod.mk.injEq] at H
  obtain ⟨rfl, rfl, rfl, rfl⟩ := H
  go_enter Tryd.func54, Tryd.ntmps54
  go_wp2_with (first | ((with_reducible refine gate_dst (N := 2) rfl ?_); refine qv 2 #[.int .i64 0, .int .i64 0, .slice none 0 0] 26 ?_; intro gb452 hg w3 hbox hb; have BK452 := am hbox; have GW452 := qw hg; have GE452 := qw hg; replace HB := qs hb; clear hb hbox hg; obtain ⟨zq30, zq31, zq32, fq30, fq31, fq32⟩ := qd BK452))
  refine bodyPost_ret (results_ct rfl _ _ gb452 26 #[.int .i64 0, .int .i64 0, .slice none 0 0] (0, 0) _ rfl Q8 Tryd.underlying26 rfl (by kernel_rfl)) rfl ?_
  exact ⟨_, Q1, Q6, qb⟩
 ·
  rw [if_neg c2] at H
  have c2b0 : decide (60 < (a0.size : Int)) = false := decide_eq_false c2
  have c2b1 : decide (60 < a0.size) = false := decide_eq_false (by omega)
  clear c2
  replace H := qE H
  obtain ⟨t454, A5, H⟩ := H
  replace H : (spec_boParse.l0 k a0 t454 (t454.length : Int) 0 0 0 ([] : List Int)) = some (r1, r2, r3, r4) := H
  have H' := Aside0.mk H
  clear H
  go_enter Tryd.func54, Tryd.ntmps54
  go_wp2_with (first | ((with_reducible refine gate_dst (N := 2) rfl ?_); refine qv 2 #[.int .i64 0, .int .i64 0, .slice none 0 0] 26 ?_; intro gb452 hg w6 hbox hb; have BK452 := am hbox; have GW452 := qw hg; have GE452 := qw hg; replace HB := qs hb; clear hb hbox hg) | ((with_reducible refine gate_dst (N := 4) rfl ?_); refine qv 4 #[.int .i64 0, .int .i64 0, .slice none 0 0] 26 ?_; intro gb453 hg w7 hbox hb; have BK453 := am hbox; have GW453 := qw hg; have GE453 := qw hg; have Nq0 := qn hg BK452; have Nq1 := qN hg BK452; replace BK452 := sqB BK452 hb; replace HB := qs hb; clear hb hbox hg; have bq4 := Nq1.out; have cq4 := Nq0.out; obtain ⟨zq39, zq40, zq41, fq39, fq40, fq41⟩ := qd BK453) | ((with_reducible refine gate_callee (f := 71) rfl ?_); refine qg (some 15) Tryd.func71 #[.string a0, .int .u8 47] ?_; (with_reducible refine (spec_l1Split.calls k a0 47 t454 _ A5.out).mono ?_); rintro e w10 ⟨v455, rfl, ho0, hb⟩; refine ⟨_, rfl, ?_⟩; have Oq2 := ql ho0; replace BK452 := sqBf BK452 Nq0 (.int .i64 0) (.int .i64 0) (.slice none 0 0) hb; replace BK453 := sqBp BK453 (.int .i64 0) (.int .i64 0) (.slice none 0 0) hb; replace HB := qs hb; (try clear hb ho0); obtain ⟨Ao11, co11, eo11⟩ := Kd.R_slice Oq2.out; subst eo11))
  go_loopg [17] k (fun kq v17 w' => ∃ (x17_1 : Int) (x454001_1 : Int) (x454002_1 : List Int) (u454002 : Value), v17 = .int .i64 x17_1 ∧ Aside0 (spec_boParse.l0 kq a0 t454 (t454.length : Int) x17_1 0 x454001_1 x454002_1 = some (r1, r2, r3, r4)) ∧ Aside0 (kq ≤ k) ∧ Aside0 (Kd.R Kd.string 9 w' w.heap.size (fun _ => True) (.slice Ao11 t454.length co11) t454) ∧ Aside0 (Kd.R (Kd.int .i64) 3 w' w.heap.size (fun _ => True) u454002 x454002_1) ∧ Aside0 (w'.heap[gb452]? = some (.cells #[.int .i64 0, .int .i64 0, (.slice none 0 0)] 26 (0, 0))) ∧ Aside0 (w'.heap[gb453]? = some (.cells #[.int .i64 0, .int .i64 x454001_1, u454002] 26 (0, 0))) ∧ Aside0 (Below w.heap.size w w'))
  case atStart => exact ⟨(0), (0), (([] : List Int)), (.slice none 0 0), Q2, H', ⟨Nat.le_refl _⟩, ⟨Q27⟩, ⟨Q6⟩, ⟨Q40⟩, ⟨Q41⟩, ⟨qb⟩⟩
  case round =>
   clear H'
   try clear c2; try clear c2b0; try clear c2b1; try clear zq30; try clear zq31; try clear zq32; try clear zq39; try clear zq40; try clear zq41; try clear fq30; try clear fq31; try clear fq32; try clear fq39; try clear fq40; try clear fq41
   obtain ⟨x17_1, x454001_1, x454002_1, u454002, rfl, HA, HK1, Oq5, Oq6, BK452, BK453, HB⟩ := hrel
   cases gk with
   | zero => exact absurd HA.out (by simp [spec_boParse.l0])
   | succ k1 =>
    have H := HA.out
    clear HA
    simp only [spec_boParse.l0] at H
    by_cases c12 : x17_1 < (t454.length : Int)
    ·
     rw [if_pos c12] at H
     have c12b0 : decide (x17_1 < (t454.length : Int)) = true := decide_eq_true c12
     clear c12
     by_cases c13 : 0 ≤ x17_1
     ·
      rw [if_pos c13] at H
      have c13b0 : decide (0 ≤ x17_1) = true := decide_eq_true c13
      clear c13
      by_cases c14 : x17_1 < (t454.length : Int)
      ·
       rw [if_pos c14] at H
       have c14b0 : decide (x17_1 < (t454.length : Int)) = true := decide_eq_true c14
       clear c14
       have H' := Aside0.mk H
       clear H
       have p457 : 0 ≤ (x17_1 : Int) := of_decide_eq_true Q0
       have q457 : x17_1 < (t454.length : Int) := of_decide_eq_true Q0
       obtain ⟨ad457, e457, hx457_0⟩ := Kd.at_string (Kd.R_reads' Oq5.out).2.2 x17_1 p457 q457
       cases e457
       replace p457 := eq_true p457
       replace q457 := eq_true q457
       go_wp2
       go_loopg [7, 8] k1 (fun kq v7 v8 w' => ∃ (x7_2 : Int) (x8_2 : Int), v7 = .int .i64 x7_2 ∧ v8 = .int .i64 x8_2 ∧ Aside0 (spec_boParse.l1 kq a0 (rdOf ByteArray.empty t454 x17_1) x7_2 x8_2 t454 (t454.length : Int) x17_1 0 x454001_1 x454002_1 = some (r1, r2, r3, r4)) ∧ Aside0 (kq ≤ k1) ∧ Aside0 (Kd.R Kd.string 9 w' w.heap.size (fun _ => True) (.slice (some ad457) t454.length co11) t454) ∧ Aside0 (Kd.R (Kd.int .i64) 3 w' w.heap.size (fun _ => True) u454002 x454002_1) ∧ Aside0 (w'.heap[gb452]? = some (.cells #[.int .i64 0, .int .i64 0, (.slice none 0 0)] 26 (0, 0))) ∧ Aside0 (w'.heap[gb453]? = some (.cells #[.int .i64 0, .int .i64 x454001_1, u454002] 26 (0, 0))) ∧ Aside0 (Below w.heap.size w w'))
       case atStart => exact ⟨(0), (0), Q2, Q2, H', ⟨Nat.le_refl _⟩, ⟨Q75⟩, ⟨Q37⟩, ⟨Q40⟩, ⟨Q41⟩, ⟨qb⟩⟩
       case round =>
        clear H'
        try clear c2; try clear c2b0; try clear c2b1; try clear c12; try clear c12b0; try clear c13; try clear c13b0; try clear c14; try clear c14b0; try clear zq30; try clear zq31; try clear zq32; try clear zq39; try clear zq40; try clear zq41; try clear fq30; try clear fq31; try clear fq32; try clear fq39; try clear fq40; try clear fq41; try clear hx457_0; try clear p457; try clear q457
        obtain ⟨x7_2, x8_2, rfl, rfl, HA, HK2, Oq5, Oq6, BK452, BK453, HB⟩ := hrel
        cases gk with
        | zero => exact absurd HA.out (by simp [spec_boParse.l1])
        | succ k2 =>
         have H := HA.out
         clear HA
         simp only [spec_boParse.l1] at H
         by_cases c15 : x8_2 < ((rdOf ByteArray.empty t454 x17_1).size : Int)
         ·
          rw [if_pos c15] at H
          have c15b0 : decide (x8_2 < ((rdOf ByteArray.empty t454 x17_1).size : Int)) = true := decide_eq_true c15
          clear c15
          by_cases c16 : 0 ≤ x8_2
          ·
           rw [if_pos c16] at H
           have c16b0 : decide (0 ≤ x8_2) = true := decide_eq_true c16
           clear c16
           by_cases c18 : (bt (rdOf ByteArray.empty t454 x17_1) x8_2) = 49
           ·
            rw [if_pos c18] at H
            have c18b0 : ((bt (rdOf ByteArray.empty t454 x17_1) x8_2) == 49) = true := beq_iff_eq.mpr c18
            have c18b1 : ((bt (rdOf ByteArray.empty t454 x17_1) x8_2) != 49) = false := bne_eq_false_iff_eq.mpr c18
            clear c18
            have c19b0 := eq_true (of_decide_eq_true Q0 : 0 ≤ x8_2)
            obtain ⟨ji20, hji20⟩ : ∃ j_ : Int, (shl .i64 1 x8_2) = j_ := ⟨_, rfl⟩
            replace H : (spec_boParse.l1 k2 a0 (rdOf ByteArray.empty t454 x17_1) (wrap64 (x7_2 + (ji20))) (wrap64 (x8_2 + 1)) t454 (t454.length : Int) x17_1 0 x454001_1 x454002_1) = some (r1, r2, r3, r4) := by first | (rw [hji20] at H; exact H) | (simp only [hji20] at H ⊢; exact H)
            have hji20_ : (IntKind.i64.wrap (1 * 2 ^ min x8_2.toNat 64)) = ji20 := hji20
            have hji20z : x8_2 ≤ 64 → (IntKind.i64.wrap (1 * 2 ^ x8_2.toNat)) = ji20 := shl_small hji20
            have hji20u : (IntKind.i64.wrap (2 ^ min x8_2.toNat 64)) = ji20 := by have h_ := hji20_; rw [Int.one_mul] at h_; exact h_
            have hji20v : x8_2 ≤ 64 → (IntKind.i64.wrap (2 ^ x8_2.toNat)) = ji20 := fun hle_ => by have h_ := hji20z hle_; rw [Int.one_mul] at h_; exact h_
            have hji20y : (wrap64 (1 * 2 ^ min x8_2.toNat 64)) = ji20 := (i64_w _).symm.trans hji20_
            have hji20x : x8_2 ≤ 64 → (wrap64 (1 * 2 ^ x8_2.toNat)) = ji20 := fun h_ => (i64_w _).symm.trans (hji20z h_)
            have H' := Aside0.mk H
            clear H
            have p17 : 0 ≤ (x8_2 : Int) := of_decide_eq_true Q0
            have q17 : x8_2 < ((rdOf ByteArray.empty t454 x17_1).size : Int) := of_decide_eq_true Q0
            have hx17 := bt_at (rdOf ByteArray.empty t454 x17_1) x8_2
            replace p17 := eq_true p17
            replace q17 := eq_true q17
            go_wp2
            go_roundg k2
            case measure => have := HK1.out; have := HK2.out; omega
            case rel => exact ⟨(wrap64 (x7_2 + (ji20))), (wrap64 (x8_2 + 1)), (by first | rfl | (simp; done) | (simp only [← hji20] <;> (first | rfl | simp)) | (simp [*]; done)), Q2, H', ⟨Q32⟩, ⟨Q75⟩, ⟨Q37⟩, ⟨Q40⟩, ⟨Q41⟩, ⟨qb⟩⟩
           ·
            rw [if_neg c18] at H
            have c18b0 : ((bt (rdOf ByteArray.empty t454 x17_1) x8_2) == 49) = false := beq_eq_false_iff_ne.mpr c18
            have c18b1 : ((bt (rdOf ByteArray.empty t454 x17_1) x8_2) != 49) = true := bne_iff_ne.mpr c18
            have H' := Aside0.mk H
            clear H
            have p17 : 0 ≤ (x8_2 : Int) := of_decide_eq_true Q0
            have q17 : x8_2 < ((rdOf ByteArray.empty t454 x17_1).size : Int) := of_decide_eq_true Q0
            have hx17 := bt_at (rdOf ByteArray.empty t454 x17_1) x8_2
            replace p17 := eq_true p17
            replace q17 := eq_true q17
            go_wp2
            go_roundg k2
            case measure => have := HK1.out; have := HK2.out; omega
            case rel => exact ⟨(x7_2), (wrap64 (x8_2 + 1)), Q2, Q2, H', ⟨Q32⟩, ⟨Q75⟩, ⟨Q37⟩, ⟨Q40⟩, ⟨Q41⟩, ⟨qb⟩⟩
          ·
           rw [if_neg c16] at H
           exact absurd H (by simp)
         ·
          rw [if_neg c15] at H
          have c15b0 : decide (x8_2 < ((rdOf ByteArray.empty t454 x17_1).size : Int)) = false := decide_eq_false c15
          clear c15
          by_cases c21 : x454002_1.length < 17592186044416
          ·
           rw [if_pos c21] at H
           have LMc21 := Aside0.mk c21
           clear c21
           obtain ⟨y458, hy_⟩ : ∃ y_ : List Int, y_ = ((x454002_1 ++ [x7_2])) := ⟨_, rfl⟩
           replace H : (spec_boParse.l0 k2 a0 t454 (t454.length : Int) (wrap64 (x17_1 + 1)) 0 ((rdOf ByteArray.empty t454 x17_1).size : Int) y458) = some (r1, r2, r3, r4) := qH
           have Ny458 := Aside0.mk hy_
           clear hy_
           have H' := Aside0.mk H
           clear H
           have bq0 := Nq1.out
           have cq0 := Nq0.out
           obtain ⟨zq0, zq1, zq2, fq0, fq1, fq2⟩ := qd BK453
           go_wp2_with (first | ((with_reducible refine gate_builtin (b := .append) (xs := #[.tmp 36, .tmp 38]) rfl ?_); at_builtin; refine Kd.R_append (Kd.int .i64) (w0 := w) w.heap.size rfl (.tmp 36) (.tmp 38) 24 3 (.int .i64 0) 8 rfl Tryd.underlying24 info3 rfl (by decide) (by omega) u454002 x454002_1 x7_2 [.int .i64 x7_2] (fun _ => True) (fun _ => False) rfl rfl ?aP (fun _ hk => hk.elim) ?aF ?aO ?aB ?aS ?aL ?_; (case aP => exact rfl); (case aB => exact qb); (case aF => exact (fun _ _ => trivial)); (case aO => exact (sqr Oq6)); (case aS => exact (below_size qb)); (case aL => have := LMc21.out; omega); intro v459 w24 ho hb hg hat; rw [← Ny458.out] at ho; have Oq3 := am (ho); replace Oq5 := am (Kd.R_over' (sqr Oq5) (Kd.R_typed (sqr Oq6)) (by decide) hg); replace BK452 := am (blk_grown (g := gb452) (o := .cells #[.int .i64 0, .int .i64 0, .slice none 0 0] 26 (0, 0)) (sqb BK452) hg (Kd.R_ne Oq6.out BK452.out (by decide))); replace BK453 := am (blk_grown (g := gb453) (o := .cells #[.int .i64 0, .int .i64 x454001_1, u454002] 26 (0, 0)) (sqb BK453) hg (Kd.R_ne Oq6.out BK453.out (by decide))); replace HB := am hb; clear Oq6; clear ho hb hg hat; obtain ⟨Ao25, co25, eo25⟩ := Kd.R_slice Oq3.out; subst eo25; obtain ⟨zq3, zq4, zq5, fq3, fq4, fq5⟩ := qd BK453))
           go_roundg k2
           case measure => have := HK1.out; have := HK2.out; omega
           case rel => exact ⟨(wrap64 (x17_1 + 1)), (((rdOf ByteArray.empty t454 x17_1).size : Int)), (y458), (.slice Ao25 y458.length co25), Q2, H', ⟨Q32⟩, ⟨by (with_reducible repeat (first | apply Kd.R_alloc | apply Kd.R_drewN | apply Kd.R_drew)); exact Kd.R_mono (Kd.R_far (p := ⟨gb453, 1, none⟩) (Kd.R_far (p := ⟨gb453, 2, none⟩) (Kd.R_types Oq5.out BK453.out (by decide)) (fun _ hk => hk.2) (.slice Ao25 y458.length co25)) (fun _ hk => hk.2) (.int .i64 ((rdOf ByteArray.empty t454 x17_1).size : Int))) (fun _ hk => trivial)⟩, ⟨by (with_reducible repeat (first | apply Kd.R_alloc | apply Kd.R_drewN | apply Kd.R_drew)); exact Kd.R_mono (Kd.R_far (p := ⟨gb453, 1, none⟩) (Kd.R_far (p := ⟨gb453, 2, none⟩) (Kd.R_types Oq3.out BK453.out (by decide)) (fun _ hk => hk.2) (.slice Ao25 y458.length co25)) (fun _ hk => hk.2) (.int .i64 ((rdOf ByteArray.empty t454 x17_1).size : Int))) (fun _ hk => trivial)⟩, ⟨by (with_reducible repeat (first | refine blk_drewN ?_ _ | refine blk_drew ?_ | refine blk_alloc ?_ _)); refine blk_far ?_ Nq0.out _; (with_reducible repeat (first | refine blk_drewN ?_ _ | refine blk_drew ?_ | refine blk_alloc ?_ _)); refine blk_far ?_ Nq0.out _; (with_reducible repeat (first | refine blk_drewN ?_ _ | refine blk_drew ?_ | refine blk_alloc ?_ _)); exact BK452.out⟩, ⟨by (with_reducible repeat (first | refine blk_drewN ?_ _ | refine blk_drew ?_ | refine blk_alloc ?_ _)); refine blk_put (cs := #[.int .i64 0, .int .i64 x454001_1, .slice Ao25 y458.length co25]) ?_ 1 _ rfl; (with_reducible repeat (first | refine blk_drewN ?_ _ | refine blk_drew ?_ | refine blk_alloc ?_ _)); refine blk_put (cs := #[.int .i64 0, .int .i64 x454001_1, u454002]) ?_ 2 _ rfl; (with_reducible repeat (first | refine blk_drewN ?_ _ | refine blk_drew ?_ | refine blk_alloc ?_ _)); exact BK453.out⟩, ⟨qb⟩⟩
          ·
           rw [if_neg c21] at H
           exact absurd H (by simp)
      ·
       rw [if_neg c14] at H
       exact absurd H (by simp)
     ·
      rw [if_neg c13] at H
      exact absurd H (by simp)
    ·
     rw [if_neg c12] at H
     have c12b0 : decide (x17_1 < (t454.length : Int)) = false := decide_eq_false c12
     clear c12
     replace H := qE H
     obtain ⟨t461, A27, H⟩ := H
     replace H : (if t461 = true then ((spec_boText.f k1 (x454002_1.length : Int) x454001_1 x454002_1).bind fun t462 => (if t462.toList = a0.toList then (some ((x454002_1.length : Int), x454001_1, x454002_1, true)) else (some (0, 0, ([] : List Int), false)))) else (some (0, 0, ([] : List Int), false))) = some (r1, r2, r3, r4) := H
     by_cases c28 : t461 = true
     ·
      subst c28
      have H1 : ((spec_boText.f k1 (x454002_1.length : Int) x454001_1 x454002_1).bind fun t462 => (if t462.toList = a0.toList then (some ((x454002_1.length : Int), x454001_1, x454002_1, true)) else (some (0, 0, ([] : List Int), false)))) = some (r1, r2, r3, r4) := by first | (rw [if_pos rfl] at H; exact H) | rfl
      clear H
      have H := H1
      clear H1
      replace H := qE H
      obtain ⟨t462, A29, H⟩ := H
      replace H : (if t462.toList = a0.toList then (some ((x454002_1.length : Int), x454001_1, x454002_1, true)) else (some (0, 0, ([] : List Int), false))) = some (r1, r2, r3, r4) := H
      by_cases c30 : t462.toList = a0.toList
      ·
       rw [if_pos c30] at H
       have c30b0 : (t462.toList == a0.toList) = true := beq_iff_eq.mpr c30
       have c30b1 : (t462.toList != a0.toList) = false := bne_eq_false_iff_eq.mpr c30
       clear c30
       simp only [Option.some.injEq, Prod.mk.injEq] at H
       obtain ⟨rfl, rfl, rfl, rfl⟩ := H
       have bq1 := Nq1.out
       have cq1 := Nq0.out
       obtain ⟨zq6, zq7, zq8, fq6, fq7, fq8⟩ := qd BK453
       obtain ⟨Ao33, co33, eo33⟩ := Kd.R_slice Oq6.out
       subst eo33
       go_wp2_with (first | ((with_reducible refine gate_callee (f := 28) rfl ?_); refine qg (some 50) Tryd.func28 #[.agg #[.int .i64 (x454002_1.length : Int), .int .i64 x454001_1, .slice Ao33 x454002_1.length co33]] ?_; (with_reducible refine (spec_boGood.calls k1 (x454002_1.length : Int) x454001_1 _ _ x454002_1 true _ ?side1 ?side2 A27.out).mono ?_); (case side1 => refine (Kd.R_reads' (e := 3) (base := w.heap.size) (ok := fun k_ => True) (n := x454002_1.length) (c := co33) ?_).2.2; exact Q13); (case side2 => exact Q81); rintro e w34 ⟨rfl, hb⟩; refine ⟨_, rfl, ?_⟩; replace Oq5 := am (Kd.R_below Q20 hb); replace Oq6 := am (Kd.R_below Q13 hb); replace BK452 := am (blk_below (g := gb452) (o := .cells #[.int .i64 0, .int .i64 0, .slice none 0 0] 26 (0, 0)) Q21 hb); replace BK453 := am (blk_below (g := gb453) (o := .cells #[.int .i64 (x454002_1.length : Int), .int .i64 x454001_1, .slice Ao33 x454002_1.length co33] 26 (0, 0)) (by (with_reducible repeat (first | refine blk_drewN ?_ _ | refine blk_drew ?_ | refine blk_alloc ?_ _)); refine blk_put (cs := #[.int .i64 0, .int .i64 x454001_1, .slice Ao33 x454002_1.length co33]) ?_ 0 _ rfl; (with_reducible repeat (first | refine blk_drewN ?_ _ | refine blk_drew ?_ | refine blk_alloc ?_ _)); exact BK453.out) hb); replace HB := qs hb; (try clear hb); obtain ⟨zq9, zq10, zq11, fq9, fq10, fq11⟩ := qd BK453) | (go_at_call 47; (with_reducible refine (spec_boText.calls k1 (x454002_1.length : Int) x454001_1 _ _ x454002_1 t462 _ ?side1 ?side2 A29.out).mono ?_); (case side1 => exact Q33); (case side2 => exact Q81); rintro e w36 ⟨rfl, hb⟩; replace Oq5 := sqR Oq5 hb; replace Oq6 := sqR Oq6 hb; replace BK452 := sqB BK452 hb; replace BK453 := sqB BK453 hb; replace HB := qs hb; (try clear hb); obtain ⟨zq12, zq13, zq14, fq12, fq13, fq14⟩ := qd BK453; obtain ⟨zq15, zq16, zq17, fq15, fq16, fq17⟩ := qd BK452))
       refine bodyPost_ret (results_ct rfl _ _ gb452 26 #[.int .i64 (x454002_1.length : Int), .int .i64 x454001_1, .slice Ao33 x454002_1.length co33] (0, 0) _ rfl (by (with_reducible repeat (first | refine blk_drewN ?_ _ | refine blk_drew ?_ | refine blk_alloc ?_ _)); refine blk_put (cs := #[.int .i64 (x454002_1.length : Int), .int .i64 x454001_1, .slice none 0 0]) ?_ 2 _ rfl; (with_reducible repeat (first | refine blk_drewN ?_ _ | refine blk_drew ?_ | refine blk_alloc ?_ _)); refine blk_put (cs := #[.int .i64 (x454002_1.length : Int), .int .i64 0, .slice none 0 0]) ?_ 1 _ rfl; (with_reducible repeat (first | refine blk_drewN ?_ _ | refine blk_drew ?_ | refine blk_alloc ?_ _)); refine blk_put (cs := #[.int .i64 0, .int .i64 0, .slice none 0 0]) ?_ 0 _ rfl; (with_reducible repeat (first | refine blk_drewN ?_ _ | refine blk_drew ?_ | refine blk_alloc ?_ _)); exact BK452.out) Tryd.underlying26 rfl (by kernel_rfl)) rfl ?_
       exact ⟨_, Q1, by (with_reducible repeat (first | apply Kd.R_alloc | apply Kd.R_drewN | apply Kd.R_drew)); exact Kd.R_mono (Kd.R_far (p := ⟨gb452, 2, none⟩) (Kd.R_far (p := ⟨gb452, 1, none⟩) (Kd.R_far (p := ⟨gb452, 0, none⟩) (Kd.R_types Oq6.out BK452.out (by decide)) (fun _ hk => hk.2) (.int .i64 (x454002_1.length : Int))) (fun _ hk => hk.2) (.int .i64 x454001_1)) (fun _ hk => hk.2) (.slice Ao33 x454002_1.length co33)) (fun _ hk => trivial), qb⟩
      ·
       rw [if_neg c30] at H
       have c30b0 : (t462.toList == a0.toList) = false := beq_eq_false_iff_ne.mpr c30
       have c30b1 : (t462.toList != a0.toList) = true := bne_iff_ne.mpr c30
       simp only [Option.some.injEq, Prod.mk.injEq] at H
       obtain ⟨rfl, rfl, rfl, rfl⟩ := H
       have bq2 := Nq1.out
       have cq2 := Nq0.out
       obtain ⟨zq18, zq19, zq20, fq18, fq19, fq20⟩ := qd BK453
       obtain ⟨Ao41, co41, eo41⟩ := Kd.R_slice Oq6.out
       subst eo41
       go_wp2_with (first | ((with_reducible refine gate_callee (f := 28) rfl ?_); refine qg (some 50) Tryd.func28 #[.agg #[.int .i64 (x454002_1.length : Int), .int .i64 x454001_1, .slice Ao41 x454002_1.length co41]] ?_; (with_reducible refine (spec_boGood.calls k1 (x454002_1.length : Int) x454001_1 _ _ x454002_1 true _ ?side1 ?side2 A27.out).mono ?_); (case side1 => refine (Kd.R_reads' (e := 3) (base := w.heap.size) (ok := fun k_ => True) (n := x454002_1.length) (c := co41) ?_).2.2; exact Q13); (case side2 => exact Q81); rintro e w42 ⟨rfl, hb⟩; refine ⟨_, rfl, ?_⟩; replace Oq5 := am (Kd.R_below Q20 hb); replace Oq6 := am (Kd.R_below Q13 hb); replace BK452 := am (blk_below (g := gb452) (o := .cells #[.int .i64 0, .int .i64 0, .slice none 0 0] 26 (0, 0)) Q21 hb); replace BK453 := am (blk_below (g := gb453) (o := .cells #[.int .i64 (x454002_1.length : Int), .int .i64 x454001_1, .slice Ao41 x454002_1.length co41] 26 (0, 0)) (by (with_reducible repeat (first | refine blk_drewN ?_ _ | refine blk_drew ?_ | refine blk_alloc ?_ _)); refine blk_put (cs := #[.int .i64 0, .int .i64 x454001_1, .slice Ao41 x454002_1.length co41]) ?_ 0 _ rfl; (with_reducible repeat (first | refine blk_drewN ?_ _ | refine blk_drew ?_ | refine blk_alloc ?_ _)); exact BK453.out) hb); replace HB := qs hb; (try clear hb); obtain ⟨zq21, zq22, zq23, fq21, fq22, fq23⟩ := qd BK453) | (go_at_call 47; (with_reducible refine (spec_boText.calls k1 (x454002_1.length : Int) x454001_1 _ _ x454002_1 t462 _ ?side1 ?side2 A29.out).mono ?_); (case side1 => exact Q33); (case side2 => exact Q81); rintro e w44 ⟨rfl, hb⟩; replace Oq5 := sqR Oq5 hb; replace Oq6 := sqR Oq6 hb; replace BK452 := sqB BK452 hb; replace BK453 := sqB BK453 hb; replace HB := qs hb; (try clear hb); obtain ⟨zq24, zq25, zq26, fq24, fq25, fq26⟩ := qd BK452))
       refine bodyPost_ret (results_ct rfl _ _ gb452 26 #[.int .i64 0, .int .i64 0, .slice none 0 0] (0, 0) _ rfl Q8 Tryd.underlying26 rfl (by kernel_rfl)) rfl ?_
       exact ⟨_, Q1, Q6, qb⟩
     ·
      replace c28 := Bool.eq_false_iff.mpr c28
      subst c28
      have H1 : (some (0, 0, ([] : List Int), false)) = some (r1, r2, r3, r4) := by first | (rw [if_neg (show ¬ (false = true) by decide)] at H; exact H) | rfl
      clear H
      have H := H1
      clear H1
      simp only [Option.some.injEq, Prod.mk.injEq] at H
      obtain ⟨rfl, rfl, rfl, rfl⟩ := H
      have bq3 := Nq1.out
      have cq3 := Nq0.out
      obtain ⟨zq27, zq28, zq29, fq27, fq28, fq29⟩ := qd BK453
      obtain ⟨Ao48, co48, eo48⟩ := Kd.R_slice Oq6.out
      subst eo48
      go_wp2_with (first | ((with_reducible refine gate_callee (f := 28) rfl ?_); refine qg (some 50) Tryd.func28 #[.agg #[.int .i64 (x454002_1.length : Int), .int .i64 x454001_1, .slice Ao48 x454002_1.length co48]] ?_; (with_reducible refine (spec_boGood.calls k1 (x454002_1.length : Int) x454001_1 _ _ x454002_1 false _ ?side1 ?side2 A27.out).mono ?_); (case side1 => refine (Kd.R_reads' (e := 3) (base := w.heap.size) (ok := fun k_ => True) (n := x454002_1.length) (c := co48) ?_).2.2; exact Q13); (case side2 => exact Q81); rintro e w49 ⟨rfl, hb⟩; refine ⟨_, rfl, ?_⟩; replace Oq5 := am (Kd.R_below Q20 hb); replace Oq6 := am (Kd.R_below Q13 hb); replace BK452 := am (blk_below (g := gb452) (o := .cells #[.int .i64 0, .int .i64 0, .slice none 0 0] 26 (0, 0)) Q21 hb); replace BK453 := am (blk_below (g := gb453) (o := .cells #[.int .i64 (x454002_1.length : Int), .int .i64 x454001_1, .slice Ao48 x454002_1.length co48] 26 (0, 0)) (by (with_reducible repeat (first | refine blk_drewN ?_ _ | refine blk_drew ?_ | refine blk_alloc ?_ _)); refine blk_put (cs := #[.int .i64 0, .int .i64 x454001_1, .slice Ao48 x454002_1.length co48]) ?_ 0 _ rfl; (with_reducible repeat (first | refine blk_drewN ?_ _ | refine blk_drew ?_ | refine blk_alloc ?_ _)); exact BK453.out) hb); replace HB := qs hb; (try clear hb); obtain ⟨zq33, zq34, zq35, fq33, fq34, fq35⟩ := qd BK452))
      refine bodyPost_ret (results_ct rfl _ _ gb452 26 #[.int .i64 0, .int .i64 0, .slice none 0 0] (0, 0) _ rfl Q8 Tryd.underlying26 rfl (by kernel_rfl)) rfl ?_
      exact ⟨_, Q1, Q6, qb⟩

/-! ### spec_ParseBoard: function 18 -/
def spec_ParseBoard.f (k : Nat) (a0 : ByteArray) : Option (Int × Int × List Int × Bool) := (spec_boParse.f k a0).bind fun bt464 => (some (bt464.1, bt464.2.1, bt464.2.2.1, bt464.2.2.2))
set_option maxHeartbeats 8000000 in
set_option maxRecDepth 100000 in
theorem spec_ParseBoard.calls (k : Nat) (a0 : ByteArray) (r1 : Int) (r2 : Int) (r3 : List Int) (r4 : Bool) (w : World) (h : spec_ParseBoard.f k a0 = some (r1, r2, r3, r4)) :
  Calls Tryd.prog 18 #[.string a0] w fun e w' => ∃ v2_ : Value, e = .returned (.tuple #[.agg #[.int .i64 r1, .int .i64 r2, v2_], .bool r4]) ∧ Kd.R (Kd.int .i64) 3 w' w.heap.size (fun _ => True) v2_ r3 ∧ Below w.heap.size w w' := by
 have hu26 := Tryd.underlying26
 have HB := am (Below.refl w.heap.size w)
 have H : ((spec_boParse.f k a0).bind fun bt464 => (some (bt464.1, bt464.2.1, bt464.2.2.1, bt464.2.2.2))) = some (r1, r2, r3, r4) := h
 clear h
 replace H := qE H
 obtain ⟨⟨t464, t465, t466, t469⟩, A2, H⟩ := H
 replace H : (some (t464, t465, t466, t469)) = some (r1, r2, r3, r4) := H
 simp only [Option.some.injEq, Prod.mk.injEq] at H
 obtain ⟨rfl, rfl, rfl, rfl⟩ := H
 go_enter Tryd.func18, Tryd.ntmps18
 go_wp2_with (first | ((with_reducible refine gate_dst (N := 2) rfl ?_); refine qv 2 #[.int .i64 0, .int .i64 0, .slice none 0 0] 26 ?_; intro gb463 hg w3 hbox hb; have BK463 := am hbox; have GW463 := qw hg; have GE463 := qw hg; replace HB := qs hb; clear hb hbox hg) | ((with_reducible refine gate_callee (f := 54) rfl ?_); refine qg (some 5) Tryd.func54 #[.string a0] ?_; (with_reducible refine (spec_boParse.calls k a0 t464 t465 t466 t469 _ A2.out).mono ?_); rintro e w4 ⟨v467, rfl, ho0, hb⟩; refine ⟨_, rfl, ?_⟩; have Oq4 := ql ho0; replace BK463 := sqB BK463 hb; replace HB := qs hb; (try clear hb ho0); obtain ⟨zq36, zq37, zq38, fq36, fq37, fq38⟩ := qd BK463; obtain ⟨Ao6, co6, eo6⟩ := Kd.R_slice Oq4.out; subst eo6))
 refine bodyPost_ret (results_ct rfl _ _ gb463 26 #[.int .i64 t464, .int .i64 t465, .slice Ao6 t466.length co6] (0, 0) _ rfl (by (with_reducible repeat (first | refine blk_drewN ?_ _ | refine blk_drew ?_ | refine blk_alloc ?_ _)); refine blk_put (cs := #[.int .i64 t464, .int .i64 t465, .slice none 0 0]) ?_ 2 _ rfl; (with_reducible repeat (first | refine blk_drewN ?_ _ | refine blk_drew ?_ | refine blk_alloc ?_ _)); refine blk_put (cs := #[.int .i64 t464, .int .i64 0, .slice none 0 0]) ?_ 1 _ rfl; (with_reducible repeat (first | refine blk_drewN ?_ _ | refine blk_drew ?_ | refine blk_alloc ?_ _)); refine blk_put (cs := #[.int .i64 0, .int .i64 0, .slice none 0 0]) ?_ 0 _ rfl; (with_reducible repeat (first | refine blk_drewN ?_ _ | refine blk_drew ?_ | refine blk_alloc ?_ _)); exact BK463.out) Tryd.underlying26 rfl (by kernel_rfl)) rfl ?_
 exact ⟨_, Q1, by (with_reducible repeat (first | apply Kd.R_alloc | apply Kd.R_drewN | apply Kd.R_drew)); exact Kd.R_mono (Kd.R_far (p := ⟨gb463, 2, none⟩) (Kd.R_far (p := ⟨gb463, 1, none⟩) (Kd.R_far (p := ⟨gb463, 0, none⟩) (Kd.R_types Oq4.out BK463.out (by decide)) (fun _ hk => hk.2) (.int .i64 t464)) (fun _ hk => hk.2) (.int .i64 t465)) (fun _ hk => hk.2) (.slice Ao6 t466.length co6)) (fun _ hk => trivial), qb⟩

/-! ### strings_Join: function 72 (by hand) -/
/-- The strings of a list with one between any two. -/
def joinB (s : ByteArray) : List ByteArray → ByteArray
 | [] => ⟨#[]⟩
 | x :: t => t.foldl (fun a y => a ++ s ++ y) x
def strings_Join.f (l0 : List ByteArray) (a1 : ByteArray) : Option ByteArray := if l0.length ≤ 1000 ∧ (joinB a1 l0).size ≤ 1000000 then some (joinB a1 l0) else none
-- (walk)
def sj_lays156_ren : Go.Shelf.Ren := ⟨fun | 156 => 72 | 165 => 80 | 166 => 81 | 169 => 82 | 240 => 87 | 241 => 88 | 276 => 94 | 277 => 95 | n => n, fun | 31 => 65 | 9 => 9 | 3 => 3 | 4 => 4 | 0 => 0 | 20 => 20 | 72 => 87 | 76 => 91 | 70 => 85 | 37 => 22 | 75 => 90 | 127 => 97 | 164 => 98 | 5 => 5 | 80 => 67 | n => n, fun | n => n⟩
theorem sj_lays156 : Go.Proofs.Lays.n156 Tryd.prog sj_lays156_ren := {
 mixed := by kernel_rfl
 f156 := Tryd.func72.trans (congrArg some (by kernel_rfl))
 f165 := Tryd.func80.trans (congrArg some (by kernel_rfl))
 f166 := Tryd.func81.trans (congrArg some (by kernel_rfl))
 f169 := Tryd.func82.trans (congrArg some (by kernel_rfl))
 f240 := Tryd.func87.trans (congrArg some (by kernel_rfl))
 f241 := Tryd.func88.trans (congrArg some (by kernel_rfl))
 f276 := Tryd.func94.trans (congrArg some (by kernel_rfl))
 f277 := Tryd.func95.trans (congrArg some (by kernel_rfl))
 t0 := Tryd.underlying0
 a0 := Tryd.isAgg0
 z0 := Tryd.sizeOf0
 v0 := Tryd.zeroValue0
 t3 := Tryd.underlying3
 a3 := Tryd.isAgg3
 z3 := Tryd.sizeOf3
 v3 := Tryd.zeroValue3
 t4 := Tryd.underlying4
 a4 := Tryd.isAgg4
 z4 := Tryd.sizeOf4
 v4 := Tryd.zeroValue4
 t9 := Tryd.underlying9
 a9 := Tryd.isAgg9
 z9 := Tryd.sizeOf9
 v9 := Tryd.zeroValue9
 t20 := Tryd.underlying20
 a20 := Tryd.isAgg20
 z20 := Tryd.sizeOf20
 v20 := Tryd.zeroValue20
 t31 := Tryd.underlying65
 a31 := Tryd.isAgg65
 z31 := Tryd.sizeOf65
 v31 := Tryd.zeroValue65
 t37 := Tryd.underlying22
 a37 := Tryd.isAgg22
 z37 := Tryd.sizeOf22
 v37 := Tryd.zeroValue22
 t70 := Tryd.underlying85
 a70 := Tryd.isAgg85
 z70 := Tryd.sizeOf85
 v70 := Tryd.zeroValue85
 t72 := Tryd.underlying87
 a72 := Tryd.isAgg87
 z72 := Tryd.sizeOf87
 v72 := Tryd.zeroValue87
 t75 := Tryd.underlying90
 a75 := Tryd.isAgg90
 z75 := Tryd.sizeOf90
 v75 := Tryd.zeroValue90
 t76 := Tryd.underlying91
 a76 := Tryd.isAgg91
 z76 := Tryd.sizeOf91
 v76 := Tryd.zeroValue91
 t127 := Tryd.underlying97
 a127 := Tryd.isAgg97
 z127 := Tryd.sizeOf97
 v127 := Tryd.zeroValue97
 t164 := Tryd.underlying98
 a164 := Tryd.isAgg98
 z164 := Tryd.sizeOf98
 v164 := Tryd.zeroValue98 }
theorem sj_Builder_Extra_156 : Builder.Extra Tryd.prog sj_lays156_ren := {
 sizeBuilder := by kernel_rfl
 liesBuilder := by kernel_rfl
 t5 := Tryd.underlying5
 a5 := Tryd.isAgg5
 z5 := Tryd.sizeOf5
 v5 := Tryd.zeroValue5
 infoByte := by kernel_rfl
 cellsByte := by kernel_rfl
 sizeByte := by kernel_rfl
 neB5 := by decide }

theorem sj_spot {w : World} {a : Addr} {v : Value} (h : w.cell? a = some v) : a = ⟨a.block, a.off, none⟩ := by
 obtain ⟨b, o, s⟩ := a
 cases s with
 | none => rfl
 | some x =>
  unfold World.cell? at h
  split at h
  ·
   simp at h
  ·
   simp at h
theorem sj_fold (s : ByteArray) : ∀ (t : List ByteArray) (x : ByteArray), (t.foldl (fun a y => a ++ s ++ y) x).data.toList = x.data.toList ++ Go.Lib.joinTail s.data.toList (t.map (·.data.toList))
 | [], x => by simp [Go.Lib.joinTail]
 | y :: t, x => by
  rw [List.foldl_cons, sj_fold s t]
  simp [Go.Lib.joinTail, ByteArray.data_append]
theorem sj_join (s : ByteArray) (l : List ByteArray) : (joinB s l).data.toList = Go.Lib.join (l.map (·.data.toList)) s.data.toList := by
 cases l with
 | nil => rfl
 | cons x t =>
  rw [joinB, sj_fold, List.map_cons]
  have : ∀ (r : List (List UInt8)) (x : List UInt8), x ++ Go.Lib.joinTail s.data.toList r = Go.Lib.join (x :: r) s.data.toList := by
   intro r
   induction r with
   | nil => intro x; simp [Go.Lib.joinTail, Go.Lib.join, List.intercalate]
   | cons y r ih =>
    intro x
    have := ih y
    simp only [Go.Lib.joinTail, Go.Lib.join, List.intercalate, List.map_cons, List.flatten_cons, List.intersperse_cons_cons, List.append_assoc] at this ⊢
    rw [this]
  exact this _ _
theorem strings_Join.calls (A0 : Option Addr) (c0 : Nat) (l0 : List ByteArray) (a1 : ByteArray) (r : ByteArray) (w : World) (hr0 : Kd.C Kd.string w A0 l0.length l0) (hc0 : l0.length ≤ c0) (h : strings_Join.f l0 a1 = some r) :
  Calls Tryd.prog 72 #[.slice A0 l0.length c0, .string a1] w fun e w' => e = .returned (.string r) ∧ Below w.heap.size w w' := by
 unfold strings_Join.f at h
 by_cases hc : l0.length ≤ 1000 ∧ (joinB a1 l0).size ≤ 1000000
 case neg => rw [if_neg hc] at h; exact absurd h (by simp)
 rw [if_pos hc] at h
 obtain rfl := Option.some.inj h
 have hj := sj_join a1 l0
 have e1 : (⟨(Go.Lib.join (l0.map (·.data.toList)) a1.data.toList).toArray⟩ : ByteArray) = joinB a1 l0 := by rw [← hj]
 cases hl : l0.length with
 | zero =>
  have h0 := List.eq_nil_of_length_eq_zero hl
  subst h0
  exact (Any.strings_Join_none sj_lays156 sj_Builder_Extra_156 A0 c0 a1 w).mono fun e w' ⟨he, hw⟩ => ⟨he, by rw [hw]; exact Below.refl _ _⟩
 | succ n =>
  rw [← hl]
  obtain ⟨ad, e2, hx0⟩ := Kd.at_string hr0 0 (by omega) (by omega)
  subst e2
  have hx : ∀ (j : Nat) (x : ByteArray), l0[j]? = some x → w.cell? (ad.add j) = some (.string x) := by
   intro j x hj
   obtain ⟨hlt, rfl⟩ := List.getElem?_eq_some_iff.1 hj
   obtain ⟨ad', e', hx⟩ := Kd.at_string hr0 (j : Int) (by omega) (by omega)
   cases e'
   rw [Int.toNat_natCast] at hx
   rw [hx]
   simp [rdOf, List.getD, hlt]
  have h0 : ad = ⟨ad.block, ad.off, none⟩ := by
   have := sj_spot hx0
   obtain ⟨b, o, s⟩ := ad
   simp only [Addr.add] at this
   injection this with _ _ h3
   rw [h3]
  have hb : ad.block < w.heap.size := by
   have := World.block_lt_of_cell? w _ hx0
   rwa [add_block] at this
  obtain ⟨b, o, s⟩ := ad
  injection h0 with _ _ h3
  subst h3
  have hJ := Any.strings_Join sj_lays156 sj_Builder_Extra_156 b o c0 l0 a1 w (fun j x hj => by have h9 := hx j x hj; by_cases e9 : j = 0 <;> simpa [Addr.add, e9] using h9) hb (by omega) hc0 (by rw [← hj]; have := hc.2; exact Nat.le_trans this (by decide))
  rw [e1] at hJ
  exact hJ

end Go.Proofs.YtllhofdgbpnkkaaDoor.PFnBoardsTurned
