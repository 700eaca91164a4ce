-- Printed for this claim by wip/pp.py over the kit's printer; Lean checks it.
import Derived.Test.YtllhofdgbpnkkaaDoorPFnBoardsTurnedx0
import Derived.Test.YtllhofdgbpnkkaaDoorPFnBoardsTurnedx1
import Derived.Test.YtllhofdgbpnkkaaDoorPFnBoardsTurnedx3
import Derived.Test.YtllhofdgbpnkkaaDoorPFnBoardsTurnedx4
import Derived.Test.YtllhofdgbpnkkaaDoorPFnBoardsTurnedx12
namespace Go.Proofs.YtllhofdgbpnkkaaDoor.PFnBoardsTurned
open Go.RowKit Go.Proofs.YtllhofdgbpnkkaaDoorW.PrintWords Go.Proofs.YtllhofdgbpnkkaaDoorW.PrintLast Go.Proofs.YtllhofdgbpnkkaaDoorW.PrintMore
attribute [local go_sem] max2_int min2_int max_two min_two max_three min_three max_four min_four   -- for this text's walks alone
set_option linter.unusedVariables false
set_option linter.unusedSimpArgs false

/-! ### impl_Board_text: function 55 -/
mutual
def impl_Board_text.l0 : Nat → List ByteArray → Int → Int → Int → Int → List Int → Option (ByteArray)
 | 0, _, _, _, _, _, _ => none
 | k + 1, x3, x9, x10, x471000, x471001, x471002 => if x10 < x9 then (impl_Board_text.l1 k x3 x10 (([] : List Int)) x9 x10 x471001 0 x471000 x471001 x471002) else ((strings_Join.f x3 (⟨#[47]⟩ : ByteArray)).bind fun t474 => (some t474))
def impl_Board_text.l1 : Nat → List ByteArray → Int → List Int → Int → Int → Int → Int → Int → Int → List Int → Option (ByteArray)
 | 0, _, _, _, _, _, _, _, _, _, _ => none
 | k + 1, x3, x4, x5, x9, x10, x15, x16, x471000, x471001, x471002 => if x16 < x15 then (if 0 ≤ x4 then (if x4 < (x471002.length : Int) then (if 0 ≤ x16 then (if x5.length < 140737488355328 then (impl_Board_text.l1 k x3 x4 (x5 ++ [(48 + (Go.bits .and .i64 (shr .i64 (rd x471002 x4) x16) 1)) % 256]) x9 x10 x15 (wrap64 (x16 + 1)) x471000 x471001 x471002) else (none)) else (none)) else (none)) else (none)) else (if x3.length < 8796093022208 then (impl_Board_text.l0 k (x3 ++ [strOfNums x5]) x9 (wrap64 (x10 + 1)) x471000 x471001 x471002) else (none))
end
def impl_Board_text.f (k : Nat) (a0_0 : Int) (a0_1 : Int) (l0_2 : List Int) : Option (ByteArray) := impl_Board_text.l0 k (([] : List ByteArray)) a0_0 0 a0_0 a0_1 l0_2
set_option maxHeartbeats 8000000 in
set_option maxRecDepth 100000 in
theorem impl_Board_text.calls (k : Nat) (a0_0 : Int) (a0_1 : Int) (A0_2 : Option Addr) (c0_2 : Nat) (l0_2 : List Int) (r : ByteArray) (w : World) (hr0_2 : Kd.C (Kd.int .i64) w A0_2 l0_2.length l0_2) (hc0_2 : l0_2.length ≤ c0_2) (h : impl_Board_text.f k a0_0 a0_1 l0_2 = some r) :
  Calls Tryd.prog 55 #[.agg #[.int .i64 a0_0, .int .i64 a0_1, .slice A0_2 l0_2.length c0_2]] w fun e w' => e = .returned (.string r) ∧ Below w.heap.size w w' := by
 have hu26 := Tryd.underlying26
 have HR0_2 := Aside0.mk hr0_2
 have HC0_2 := Aside0.mk hc0_2
 clear hr0_2 hc0_2
 have HB := am (Below.refl w.heap.size w)
 have H : (impl_Board_text.l0 k (([] : List ByteArray)) a0_0 0 a0_0 a0_1 l0_2) = some r := h
 clear h
 obtain ⟨y471, hy_⟩ : ∃ y_ : List ByteArray, y_ = ((([] : List ByteArray))) := ⟨_, rfl⟩
 replace H : (impl_Board_text.l0 k y471 a0_0 0 a0_0 a0_1 l0_2) = some r := qH
 have Ny471 := Aside0.mk hy_
 clear hy_
 have H' := Aside0.mk H
 clear H
 go_enter Tryd.func55, Tryd.ntmps55
 go_wp2_with (first | ((with_reducible refine gate_dst (N := 1) rfl ?_); refine qv 1 #[.int .i64 a0_0, .int .i64 a0_1, .slice A0_2 l0_2.length c0_2] 26 ?_; intro gb470 hg w2 hbox hb; have BK470 := am hbox; have GW470 := qw hg; have GE470 := qw hg; replace HB := qs hb; clear hb hbox hg) | ((with_reducible refine gate_dst (N := 7) rfl ?_); refine Kd.R_lit Kd.string _ 9 ?hg (N := 7) ?hd (xs := ([] : List ByteArray)) (inner := []) (ok := fun _ => True) (okp := fun _ => True) ?hr ?hp (fun _ hk => hk) trivial (Below.refl _ _) (Nat.le_refl _) (by simp) ?_; (case hd => rfl); (case hg => rfl); (case hr => first | (go_simp; done) | (go_simp; rfl)); (case hp => exact (Reps.none _ _)); intro v472 w3 ho4 hb hg_ hnew_; clear hg_ hnew_; (first | rw [← Ny471.out] at ho4 | (simp only [Int.reduceToNat] at ho4; rw [← Ny471.out] at ho4)); have Oq0 := ql ho4; replace BK470 := sqB BK470 hb; replace HB := qs hb; clear hb ho4; obtain ⟨zq21, zq22, zq23, fq21, fq22, fq23⟩ := qd BK470))
 go_loopg [3, 10] k (fun kq v3 v10 w' => ∃ (x3_1 : List ByteArray) (x10_1 : Int), v10 = .int .i64 x10_1 ∧ Aside0 (impl_Board_text.l0 kq x3_1 a0_0 x10_1 a0_0 a0_1 l0_2 = some r) ∧ Aside0 (kq ≤ k) ∧ Aside0 (Kd.R Kd.string 9 w' w.heap.size (fun _ => True) v3 x3_1) ∧ Aside0 (w'.heap[gb470]? = some (.cells #[.int .i64 a0_0, .int .i64 a0_1, (.slice A0_2 l0_2.length c0_2)] 26 (0, 0))) ∧ Aside0 (Below w.heap.size w w'))
 case atStart => exact ⟨(y471), (0), Q2, H', ⟨Nat.le_refl _⟩, ⟨Q36⟩, ⟨Q42⟩, ⟨qb⟩⟩
 case round =>
  clear H'
  try clear zq21; try clear zq22; try clear zq23; try clear fq21; try clear fq22; try clear fq23
  obtain ⟨x3_1, x10_1, rfl, HA, HK1, Oq6, BK470, HB⟩ := hrel
  cases gk with
  | zero => exact absurd HA.out (by simp [impl_Board_text.l0])
  | succ k1 =>
   have H := HA.out
   clear HA
   simp only [impl_Board_text.l0] at H
   by_cases c6 : x10_1 < a0_0
   ·
    rw [if_pos c6] at H
    have c6b0 : decide (x10_1 < a0_0) = true := decide_eq_true c6
    clear c6
    obtain ⟨y475, hy_⟩ : ∃ y_ : List Int, y_ = ((([] : List Int))) := ⟨_, rfl⟩
    replace H : (impl_Board_text.l1 k1 x3_1 x10_1 y475 a0_0 x10_1 a0_1 0 a0_0 a0_1 l0_2) = some r := qH
    have Ny475 := Aside0.mk hy_
    clear hy_
    have H' := Aside0.mk H
    clear H
    go_wp2_with (first | ((with_reducible refine gate_dst (N := 13) rfl ?_); refine Kd.R_lit (Kd.int .u8) _ 5 ?hg (N := 13) ?hd (xs := ([] : List Int)) (inner := []) (ok := fun _ => True) (okp := fun _ => True) ?hr ?hp (fun _ hk => hk) trivial (Below.refl _ _) (Nat.le_refl _) (by simp) ?_; (case hd => rfl); (case hg => rfl); (case hr => first | (go_simp; done) | (go_simp; rfl)); (case hp => exact (Reps.none _ _)); intro v476 w7 ho8 hb hg_ hnew_; clear hg_ hnew_; (first | rw [← Ny475.out] at ho8 | (simp only [Int.reduceToNat] at ho8; rw [← Ny475.out] at ho8)); have Oq1 := ql ho8; replace Oq6 := sqR Oq6 hb; replace BK470 := sqB BK470 hb; replace HB := qs hb; clear hb ho8; obtain ⟨zq30, zq31, zq32, fq30, fq31, fq32⟩ := qd BK470))
    go_loopg [5, 16] k1 (fun kq v5 v16 w' => ∃ (x5_2 : List Int) (x16_2 : Int), v16 = .int .i64 x16_2 ∧ Aside0 (impl_Board_text.l1 kq x3_1 x10_1 x5_2 a0_0 x10_1 a0_1 x16_2 a0_0 a0_1 l0_2 = some r) ∧ Aside0 (kq ≤ k1) ∧ Aside0 (Kd.R Kd.string 9 w' w.heap.size (fun _ => True) u3 x3_1) ∧ Aside0 (Kd.R (Kd.int .u8) 5 w' w.heap.size (fun _ => True) v5 x5_2) ∧ Aside0 (w'.heap[gb470]? = some (.cells #[.int .i64 a0_0, .int .i64 a0_1, (.slice A0_2 l0_2.length c0_2)] 26 (0, 0))) ∧ Aside0 (Below w.heap.size w w'))
    case atStart => exact ⟨(y475), (0), Q2, H', ⟨Nat.le_refl _⟩, ⟨Q37⟩, ⟨Q74⟩, ⟨Q42⟩, ⟨qb⟩⟩
    case round =>
     clear H'
     try clear c6; try clear c6b0; try clear zq21; try clear zq22; try clear zq23; try clear zq30; try clear zq31; try clear zq32; try clear fq21; try clear fq22; try clear fq23; try clear fq30; try clear fq31; try clear fq32
     obtain ⟨x5_2, x16_2, rfl, HA, HK2, Oq6, Oq7, BK470, HB⟩ := hrel
     cases gk with
     | zero => exact absurd HA.out (by simp [impl_Board_text.l1])
     | succ k2 =>
      have H := HA.out
      clear HA
      simp only [impl_Board_text.l1] at H
      by_cases c10 : x16_2 < a0_1
      ·
       rw [if_pos c10] at H
       have c10b0 : decide (x16_2 < a0_1) = true := decide_eq_true c10
       clear c10
       by_cases c11 : 0 ≤ x10_1
       ·
        rw [if_pos c11] at H
        have c11b0 : decide (0 ≤ x10_1) = true := decide_eq_true c11
        clear c11
        by_cases c12 : x10_1 < (l0_2.length : Int)
        ·
         rw [if_pos c12] at H
         have c12b0 : decide (x10_1 < (l0_2.length : Int)) = true := decide_eq_true c12
         clear c12
         by_cases c13 : 0 ≤ x16_2
         ·
          rw [if_pos c13] at H
          have c13b0 := eq_true c13
          have c13b1 : decide (0 ≤ x16_2) = true := decide_eq_true c13
          clear c13
          obtain ⟨ji14, hji14⟩ : ∃ j_ : Int, (shr .i64 (rd l0_2 x10_1) x16_2) = j_ := ⟨_, rfl⟩
          replace H : (if x5_2.length < 140737488355328 then (impl_Board_text.l1 k2 x3_1 x10_1 (x5_2 ++ [(48 + (Go.bits .and .i64 (ji14) 1)) % 256]) a0_0 x10_1 a0_1 (wrap64 (x16_2 + 1)) a0_0 a0_1 l0_2) else (none)) = some r := by first | (rw [hji14] at H; exact H) | (simp only [hji14] at H ⊢; exact H)
          have hji14_ : ((rd l0_2 x10_1) / 2 ^ min x16_2.toNat 64) = ji14 := hji14
          have hji14z : x16_2 ≤ 64 → ((rd l0_2 x10_1) / 2 ^ x16_2.toNat) = ji14 := shr_small hji14
          by_cases c15 : x5_2.length < 140737488355328
          ·
           rw [if_pos c15] at H
           have LMc15 := Aside0.mk c15
           clear c15
           obtain ⟨y479, hy_⟩ : ∃ y_ : List Int, y_ = ((x5_2 ++ [(48 + (Go.bits .and .i64 (ji14) 1)) % 256])) := ⟨_, rfl⟩
           replace H : (impl_Board_text.l1 k2 x3_1 x10_1 y479 a0_0 x10_1 a0_1 (wrap64 (x16_2 + 1)) a0_0 a0_1 l0_2) = some r := qH
           have Ny479 := Aside0.mk hy_
           clear hy_
           have H' := Aside0.mk H
           clear H
           obtain ⟨zq6, zq7, zq8, fq6, fq7, fq8⟩ := qd BK470
           have p478 : 0 ≤ (x10_1 : Int) := of_decide_eq_true Q0
           have q478 : x10_1 < (l0_2.length : Int) := of_decide_eq_true Q0
           obtain ⟨ad478, e478, hx478_0⟩ := Kd.at_int HR0_2.out x10_1 p478 q478
           cases e478
           replace hx478_0 := (HB.out.cell (World.block_lt_of_cell? w _ hx478_0)).trans hx478_0
           replace p478 := eq_true p478
           replace q478 := eq_true q478
           go_wp2_with (first | ((with_reducible refine gate_builtin (b := .append) (xs := #[.tmp 19, .tmp 30]) rfl ?_); at_builtin; refine Kd.R_append (Kd.int .u8) (w0 := w) w.heap.size rfl (.tmp 19) (.tmp 30) 22 5 (.int .u8 0) 1 rfl Tryd.underlying22 info5 rfl (by decide) (by omega) u5 x5_2 ((48 + (Go.bits .and .i64 (ji14) 1)) % 256) [.int .u8 ((48 + (Go.bits .and .i64 (ji14) 1)) % 256)] (fun _ => True) (fun _ => False) rfl rfl ?aP (fun _ hk => hk.elim) ?aF ?aO ?aB ?aS ?aL ?_; (case aP => exact rfl); (case aB => exact qb); (case aF => exact (fun _ _ => trivial)); (case aO => exact (sqr Oq7)); (case aS => exact (below_size qb)); (case aL => have := LMc15.out; omega); intro v480 w17 ho hb hg hat; rw [← Ny479.out] at ho; have Oq2 := am (ho); replace Oq6 := am (Kd.R_over' (sqr Oq6) (Kd.R_typed (sqr Oq7)) (by decide) hg); replace BK470 := am (blk_grown (g := gb470) (o := .cells #[.int .i64 a0_0, .int .i64 a0_1, .slice (some ad478) l0_2.length c0_2] 26 (0, 0)) (sqb BK470) hg (Kd.R_ne Oq7.out BK470.out (by decide))); replace HB := am hb; clear Oq7; clear ho hb hg hat))
           go_roundg k2
           case measure => have := HK1.out; have := HK2.out; omega
           case rel => exact ⟨(y479), (wrap64 (x16_2 + 1)), Q2, H', ⟨Q32⟩, ⟨Q37⟩, ⟨Q27⟩, ⟨Q42⟩, ⟨qb⟩⟩
          ·
           rw [if_neg c15] at H
           exact absurd H (by simp)
         ·
          rw [if_neg c13] at H
          exact absurd H (by simp)
        ·
         rw [if_neg c12] at H
         exact absurd H (by simp)
       ·
        rw [if_neg c11] at H
        exact absurd H (by simp)
      ·
       rw [if_neg c10] at H
       have c10b0 : decide (x16_2 < a0_1) = false := decide_eq_false c10
       clear c10
       by_cases c18 : x3_1.length < 8796093022208
       ·
        rw [if_pos c18] at H
        have LMc18 := Aside0.mk c18
        clear c18
        obtain ⟨y482, hy_⟩ : ∃ y_ : List ByteArray, y_ = ((x3_1 ++ [strOfNums x5_2])) := ⟨_, rfl⟩
        replace H : (impl_Board_text.l0 k2 y482 a0_0 (wrap64 (x10_1 + 1)) a0_0 a0_1 l0_2) = some r := qH
        have Ny482 := Aside0.mk hy_
        clear hy_
        have H' := Aside0.mk H
        clear H
        have hcv19 := own_string (P := Tryd.prog) Tryd.underlying22 Tryd.underlying5 Tryd.underlying9 (Kd.own_of_R Oq7.out)
        go_wp2_with (first | ((with_reducible refine gate_builtin (b := .append) (xs := #[.tmp 33, .tmp 36]) rfl ?_); at_builtin; refine Kd.R_append Kd.string (w0 := w) w.heap.size rfl (.tmp 33) (.tmp 36) 65 9 (.string ⟨#[]⟩) 16 rfl Tryd.underlying65 info9 rfl (by decide) (by omega) u3 x3_1 (strOfNums x5_2) [.string (strOfNums x5_2)] (fun _ => True) (fun _ => False) rfl rfl ?aP (fun _ hk => hk.elim) ?aF ?aO ?aB ?aS ?aL ?_; (case aP => exact rfl); (case aB => exact qb); (case aF => exact (fun _ _ => trivial)); (case aO => exact (sqr Oq6)); (case aS => exact (below_size qb)); (case aL => have := LMc18.out; omega); intro v483 w20 ho hb hg hat; rw [← Ny482.out] at ho; have Oq3 := am (ho); replace Oq7 := am (Kd.R_over' (sqr Oq7) (Kd.R_typed (sqr Oq6)) (by decide) hg); replace BK470 := am (blk_grown (g := gb470) (o := .cells #[.int .i64 a0_0, .int .i64 a0_1, .slice A0_2 l0_2.length c0_2] 26 (0, 0)) (sqb BK470) hg (Kd.R_ne Oq6.out BK470.out (by decide))); replace HB := am hb; clear Oq6; clear ho hb hg hat))
        go_roundg k2
        case measure => have := HK1.out; have := HK2.out; omega
        case rel => exact ⟨(y482), (wrap64 (x10_1 + 1)), Q2, H', ⟨Q32⟩, ⟨Q38⟩, ⟨Q42⟩, ⟨qb⟩⟩
       ·
        rw [if_neg c18] at H
        exact absurd H (by simp)
   ·
    rw [if_neg c6] at H
    have c6b0 : decide (x10_1 < a0_0) = false := decide_eq_false c6
    clear c6
    replace H := qE H
    obtain ⟨t474, A21, H⟩ := H
    replace H : (some t474) = some r := H
    obtain rfl := Option.some.inj H
    obtain ⟨Ao22, co22, eo22⟩ := Kd.R_slice Oq6.out
    subst eo22
    go_wp2_with (first | ((with_reducible refine gate_callee (f := 72) rfl ?_); refine qg (some 40) Tryd.func72 #[.slice Ao22 x3_1.length co22, .string (⟨#[47]⟩ : ByteArray)] ?_; (with_reducible refine (strings_Join.calls _ _ x3_1 (⟨#[47]⟩ : ByteArray) t474 _ ?side1 ?side2 A21.out).mono ?_); (case side1 => exact Q33); (case side2 => exact Q81); rintro e w23 ⟨rfl, hb⟩; refine ⟨_, rfl, ?_⟩; replace Oq6 := sqR Oq6 hb; replace BK470 := sqB BK470 hb; replace HB := qs hb; (try clear hb)))
    go_ret
    exact ⟨Q1, qb⟩

/-! ### impl_BoardText: function 19 -/
def impl_BoardText.f (k : Nat) (a0_0 : Int) (a0_1 : Int) (l0_2 : List Int) : Option (ByteArray × Bool) := (impl_IsBoard.f a0_0 a0_1 l0_2).bind fun t486 => (if t486 = true then ((impl_Board_text.f k a0_0 a0_1 l0_2).bind fun t487 => (some (t487, true))) else (some ((⟨#[]⟩ : ByteArray), false)))
set_option maxHeartbeats 8000000 in
set_option maxRecDepth 100000 in
theorem impl_BoardText.calls (k : Nat) (a0_0 : Int) (a0_1 : Int) (A0_2 : Option Addr) (c0_2 : Nat) (l0_2 : List Int) (r1 : ByteArray) (r2 : Bool) (w : World) (hr0_2 : Kd.C (Kd.int .i64) w A0_2 l0_2.length l0_2) (hc0_2 : l0_2.length ≤ c0_2) (h : impl_BoardText.f k a0_0 a0_1 l0_2 = some (r1, r2)) :
  Calls Tryd.prog 19 #[.agg #[.int .i64 a0_0, .int .i64 a0_1, .slice A0_2 l0_2.length c0_2]] w fun e w' => e = .returned (.tuple #[.string r1, .bool r2]) ∧ Below w.heap.size w w' := by
 have hu26 := Tryd.underlying26
 have HR0_2 := Aside0.mk hr0_2
 have HC0_2 := Aside0.mk hc0_2
 clear hr0_2 hc0_2
 have HB := am (Below.refl w.heap.size w)
 have H : ((impl_IsBoard.f a0_0 a0_1 l0_2).bind fun t486 => (if t486 = true then ((impl_Board_text.f k a0_0 a0_1 l0_2).bind fun t487 => (some (t487, true))) else (some ((⟨#[]⟩ : ByteArray), false)))) = some (r1, r2) := h
 clear h
 replace H := qE H
 obtain ⟨t486, A2, H⟩ := H
 replace H : (if t486 = true then ((impl_Board_text.f k a0_0 a0_1 l0_2).bind fun t487 => (some (t487, true))) else (some ((⟨#[]⟩ : ByteArray), false))) = some (r1, r2) := H
 by_cases c3 : t486 = true
 ·
  subst c3
  have H1 : ((impl_Board_text.f k a0_0 a0_1 l0_2).bind fun t487 => (some (t487, true))) = some (r1, r2) := by first | (rw [if_pos rfl] at H; exact H) | rfl
  clear H
  have H := H1
  clear H1
  replace H := qE H
  obtain ⟨t487, A4, H⟩ := H
  replace H : (some (t487, true)) = some (r1, r2) := H
  simp only [Option.some.injEq, Prod.mk.injEq] at H
  obtain ⟨rfl, rfl⟩ := H
  go_enter Tryd.func19, Tryd.ntmps19
  go_wp2_with (first | ((with_reducible refine gate_dst (N := 1) rfl ?_); refine qv 1 #[.int .i64 a0_0, .int .i64 a0_1, .slice A0_2 l0_2.length c0_2] 26 ?_; intro gb485 hg w5 hbox hb; have BK485 := am hbox; have GW485 := qw hg; have GE485 := qw hg; replace HB := qs hb; clear hb hbox hg; obtain ⟨zq24, zq25, zq26, fq24, fq25, fq26⟩ := qd BK485) | ((with_reducible refine gate_callee (f := 26) rfl ?_); refine qg (some 5) Tryd.func26 #[.agg #[.int .i64 a0_0, .int .i64 a0_1, .slice A0_2 l0_2.length c0_2]] ?_; (with_reducible refine (impl_IsBoard.calls a0_0 a0_1 _ _ l0_2 true _ ?side1 HC0_2.out A2.out).mono ?_); (case side1 => exact Q3); rintro e w7 ⟨rfl, hb⟩; refine ⟨_, rfl, ?_⟩; replace BK485 := sqB BK485 hb; replace HB := qs hb; (try clear hb); obtain ⟨zq27, zq28, zq29, fq27, fq28, fq29⟩ := qd BK485) | ((with_reducible refine gate_callee (f := 55) rfl ?_); refine qg (some 8) Tryd.func55 #[.agg #[.int .i64 a0_0, .int .i64 a0_1, .slice A0_2 l0_2.length c0_2]] ?_; (with_reducible refine (impl_Board_text.calls k a0_0 a0_1 _ _ l0_2 t487 _ ?side1 HC0_2.out A4.out).mono ?_); (case side1 => exact Q3); rintro e w9 ⟨rfl, hb⟩; refine ⟨_, rfl, ?_⟩; replace BK485 := sqB BK485 hb; replace HB := qs hb; (try clear hb)))
  go_ret2
  exact ⟨Q1, qb⟩
 ·
  replace c3 := Bool.eq_false_iff.mpr c3
  subst c3
  have H1 : (some ((⟨#[]⟩ : ByteArray), false)) = some (r1, r2) := by first | (rw [if_neg (show ¬ (false = true) by decide)] at H; exact H) | rfl
  clear H
  have H := H1
  clear H1
  simp only [Option.some.injEq, Prod.mk.injEq] at H
  obtain ⟨rfl, rfl⟩ := H
  go_enter Tryd.func19, Tryd.ntmps19
  go_wp2_with (first | ((with_reducible refine gate_dst (N := 1) rfl ?_); refine qv 1 #[.int .i64 a0_0, .int .i64 a0_1, .slice A0_2 l0_2.length c0_2] 26 ?_; intro gb485 hg w10 hbox hb; have BK485 := am hbox; have GW485 := qw hg; have GE485 := qw hg; replace HB := qs hb; clear hb hbox hg; obtain ⟨zq0, zq1, zq2, fq0, fq1, fq2⟩ := qd BK485) | ((with_reducible refine gate_callee (f := 26) rfl ?_); refine qg (some 5) Tryd.func26 #[.agg #[.int .i64 a0_0, .int .i64 a0_1, .slice A0_2 l0_2.length c0_2]] ?_; (with_reducible refine (impl_IsBoard.calls a0_0 a0_1 _ _ l0_2 false _ ?side1 HC0_2.out A2.out).mono ?_); (case side1 => exact Q3); rintro e w12 ⟨rfl, hb⟩; refine ⟨_, rfl, ?_⟩; replace BK485 := sqB BK485 hb; replace HB := qs hb; (try clear hb)))
  go_ret2
  exact ⟨Q1, qb⟩

/-! ### spec_DrawFullBoard: function 20 -/
def spec_DrawFullBoard.f (l0 : List Int) : Option (Int × Int) := (spec_l1Cur_pick.f l0 0 0 9).bind fun bt489 => ((spec_l1Cur_pick.f l0 bt489.2.1 bt489.2.2 9).bind fun bt492 => (some (wrap64 (bt489.1 - 1), wrap64 (bt492.1 - 1))))
set_option maxHeartbeats 8000000 in
set_option maxRecDepth 100000 in
theorem spec_DrawFullBoard.calls (A0 : Option Addr) (c0 : Nat) (l0 : List Int) (r1 : Int) (r2 : Int) (w : World) (hr0 : Kd.C (Kd.int .u8) w A0 l0.length l0) (hc0 : l0.length ≤ c0) (h : spec_DrawFullBoard.f l0 = some (r1, r2)) :
  Calls Tryd.prog 20 #[.slice A0 l0.length c0] w fun e w' => e = .returned (.tuple #[.int .i64 r1, .int .i64 r2]) ∧ Below w.heap.size w w' := by
 have hu57 := Tryd.underlying57
 have HR0 := Aside0.mk hr0
 have HC0 := Aside0.mk hc0
 clear hr0 hc0
 have HB := am (Below.refl w.heap.size w)
 have H : ((spec_l1Cur_pick.f l0 0 0 9).bind fun bt489 => ((spec_l1Cur_pick.f l0 bt489.2.1 bt489.2.2 9).bind fun bt492 => (some (wrap64 (bt489.1 - 1), wrap64 (bt492.1 - 1))))) = some (r1, r2) := h
 clear h
 replace H := qE H
 obtain ⟨⟨t489, t490, t491⟩, A2, H⟩ := H
 replace H : ((spec_l1Cur_pick.f l0 t490 t491 9).bind fun bt492 => (some (wrap64 (t489 - 1), wrap64 (bt492.1 - 1)))) = some (r1, r2) := H
 replace H := qE H
 obtain ⟨⟨t492, t493, t494⟩, A3, H⟩ := H
 replace H : (some (wrap64 (t489 - 1), wrap64 (t492 - 1))) = some (r1, r2) := H
 simp only [Option.some.injEq, Prod.mk.injEq] at H
 obtain ⟨rfl, rfl⟩ := H
 go_enter Tryd.func20, Tryd.ntmps20
 go_wp2_with (first | ((with_reducible refine gate_dst (N := 7) rfl ?_); refine qv 7 #[.slice A0 l0.length c0, .int .i64 0, .int .u64 0] 57 ?_; intro gb488 hg w4 hbox hb; have HI488 := am ((show IsS57 w w4 gb488 l0 0 0 from ⟨_, _, hbox, (by rw [hg]; exact (below_size qb) : w.heap.size ≤ gb488), HR0.out⟩)); have GW488 := qw hg; have GE488 := qw hg; replace HB := qs hb; clear hb hbox hg) | ((with_reducible refine gate_callee (f := 40) rfl ?_); refine qg (some 9) Tryd.func40 #[.pointer (some ⟨gb488, 0, none⟩), .int .i64 9] ?_; (with_reducible refine (spec_l1Cur_pick.calls gb488 l0 0 0 9 t489 t490 t491 w _ ?side1 ?side2 A2.out).mono ?_); (case side1 => exact qi); (case side2 => exact qc); rintro e w5 ⟨rfl, hi, hb, hk⟩; refine ⟨_, rfl, ?_⟩; replace HB := am hb; replace HI488 := am hi; (try clear hb hk hi)) | ((with_reducible refine gate_callee (f := 40) rfl ?_); refine qg (some 12) Tryd.func40 #[.pointer (some ⟨gb488, 0, none⟩), .int .i64 9] ?_; (with_reducible refine (spec_l1Cur_pick.calls gb488 l0 t490 t491 9 t492 t493 t494 w _ ?side1 ?side2 A3.out).mono ?_); (case side1 => exact qi); (case side2 => exact qc); rintro e w6 ⟨rfl, hi, hb, hk⟩; refine ⟨_, rfl, ?_⟩; replace HB := am hb; replace HI488 := am hi; (try clear hb hk hi)))
 go_ret2
 exact ⟨Q1, qc⟩

/-! ### impl_FullBoard: function 21 -/
mutual
def impl_FullBoard.j0 : Nat → Int → Int → Bool → Option (Int × Int × List Int × Bool)
 | 0, _, _, _ => none
 | k + 1, x0, x1, x15 => if x15 = true then (some (0, 0, ([] : List Int), false)) else ((impl_newBoard.f x0 x1).bind fun bt498 => (impl_FullBoard.l0 k x1 (bt498.2.2.length : Int) 0 bt498.1 bt498.2.1 bt498.2.2))
def impl_FullBoard.l0 : Nat → Int → Int → Int → Int → Int → List Int → Option (Int × Int × List Int × Bool)
 | 0, _, _, _, _, _, _ => none
 | k + 1, x1, x22, x23, x504000, x504001, x504002 => if x23 < x22 then (if 0 ≤ x1 then (if 0 ≤ x23 then (if x23 < (x504002.length : Int) then (impl_FullBoard.l0 k x1 x22 (wrap64 (x23 + 1)) x504000 x504001 (x504002.set (x23 : Int).toNat (wrap64 ((shl .i64 1 x1) - 1)))) else (none)) else (none)) else (none)) else (some (x504000, x504001, x504002, true))
end
def impl_FullBoard.f (k : Nat) (a0 : Int) (a1 : Int) : Option (Int × Int × List Int × Bool) := (impl_isSide.f a0).bind fun t496 => (if t496 = true then ((impl_isSide.f a1).bind fun t497 => (impl_FullBoard.j0 k a0 a1 (!t497))) else (impl_FullBoard.j0 k a0 a1 true))
def impl_FullBoard.T7 : Bool × List (List Nat × List Nat) := (true, [([], []), ([0], [0]), ([], []), ([], []), ([3], [3]), ([4], [4]), ([1, 2, 0, 1, 2, 3, 4, 5], [1, 2]), ([6, 5, 0, 1, 2, 3, 4, 5], [5, 6])])
def impl_FullBoard.B7 : List Nat := [0, 1, 0, 0, 8, 24, 63, 127]
theorem impl_FullBoard.tab7 : rtab .any (opsOf Tryd.f21 7) = impl_FullBoard.T7 := by kernel_rfl
theorem impl_FullBoard.bits7 : waitsOk impl_FullBoard.T7.2 impl_FullBoard.B7 = true := by kernel_rfl
set_option maxHeartbeats 8000000 in
set_option maxRecDepth 100000 in
theorem impl_FullBoard.calls (k : Nat) (a0 : Int) (a1 : Int) (r1 : Int) (r2 : Int) (r3 : List Int) (r4 : Bool) (w : World) (h : impl_FullBoard.f k a0 a1 = some (r1, r2, r3, r4)) :
  Calls Tryd.prog 21 #[.int .i64 a0, .int .i64 a1] w fun e w' => ∃ v2_ : Value, e = .returned (.tuple #[.agg #[.int .i64 r1, .int .i64 r2, v2_], .bool r4]) ∧ Kd.R (Kd.int .i64) 3 w' w.heap.size (fun _ => True) v2_ r3 ∧ Below w.heap.size w w' := by
 have hu26 := Tryd.underlying26
 have HB := am (Below.refl w.heap.size w)
 have H : ((impl_isSide.f a0).bind fun t496 => (if t496 = true then ((impl_isSide.f a1).bind fun t497 => (impl_FullBoard.j0 k a0 a1 (!t497))) else (impl_FullBoard.j0 k a0 a1 true))) = some (r1, r2, r3, r4) := h
 clear h
 have HC3 := Aside0.mk H
 clear H
 go_enter Tryd.func21, Tryd.ntmps21
 go_upto_region 1 with (first | ((with_reducible refine gate_dst (N := 4) rfl ?_); refine qv 4 #[.int .i64 0, .int .i64 0, .slice none 0 0] 26 ?_; intro gb495 hg w4 hbox hb; have BK495 := am hbox; have GW495 := qw hg; have GE495 := qw hg; replace HB := qs hb; clear hb hbox hg))
 (try simp only [Act.put, List.setIfInBounds_toArray, List.set_cons_zero, List.set_cons_succ])
 go_cut [15] (fun v15 wc => ∃ (kq : Nat) (x15_2 : Bool), v15 = .bool x15_2 ∧ Aside0 (impl_FullBoard.j0 kq a0 a1 x15_2 = some (r1, r2, r3, r4)) ∧ Aside0 (kq ≤ k) ∧ Aside0 (wc.heap[gb495]? = some (.cells #[.int .i64 0, .int .i64 0, (.slice none 0 0)] 26 (0, 0))) ∧ Aside0 (Below w.heap.size w wc))
 case first =>
  have H := HC3.out
  clear HC3
  replace H := qE H
  obtain ⟨t496, A5, H⟩ := H
  replace H : (if t496 = true then ((impl_isSide.f a1).bind fun t497 => (impl_FullBoard.j0 k a0 a1 (!t497))) else (impl_FullBoard.j0 k a0 a1 true)) = some (r1, r2, r3, r4) := H
  by_cases c6 : t496 = true
  ·
   subst c6
   have H1 : ((impl_isSide.f a1).bind fun t497 => (impl_FullBoard.j0 k a0 a1 (!t497))) = some (r1, r2, r3, r4) := by first | (rw [if_pos rfl] at H; exact H) | rfl
   clear H
   have H := H1
   clear H1
   replace H := qE H
   obtain ⟨t497, A7, H⟩ := H
   replace H : (impl_FullBoard.j0 k a0 a1 (!t497)) = some (r1, r2, r3, r4) := H
   have H' := Aside0.mk H
   clear H
   go_wp2_with (first | ((with_reducible refine gate_callee (f := 52) rfl ?_); refine qg (some 9) Tryd.func52 #[.int .i64 a0] ?_; (with_reducible refine (impl_isSide.calls a0 true _ A5.out).mono ?_); rintro e w' ⟨rfl, ⟨nd, rfl⟩⟩; refine ⟨_, rfl, ?_⟩) | (go_at_call 52; (with_reducible refine (impl_isSide.calls a1 t497 _ A7.out).mono ?_); rintro e w' ⟨rfl, ⟨nd, rfl⟩⟩))
   go_meet
   case rel => exact ⟨_, (!t497), Q2, H', ⟨Q63⟩, ⟨by (with_reducible repeat (first | refine blk_drewN ?_ _ | refine blk_drew ?_ | refine blk_alloc ?_ _)); exact BK495.out⟩, ⟨qb⟩⟩
  ·
   replace c6 := Bool.eq_false_iff.mpr c6
   subst c6
   have H1 : (impl_FullBoard.j0 k a0 a1 true) = some (r1, r2, r3, r4) := by first | (rw [if_neg (show ¬ (false = true) by decide)] at H; exact H) | rfl
   clear H
   have H := H1
   clear H1
   have H' := Aside0.mk H
   clear H
   go_wp2_with (first | ((with_reducible refine gate_callee (f := 52) rfl ?_); refine qg (some 9) Tryd.func52 #[.int .i64 a0] ?_; (with_reducible refine (impl_isSide.calls a0 false _ A5.out).mono ?_); rintro e w' ⟨rfl, ⟨nd, rfl⟩⟩; refine ⟨_, rfl, ?_⟩))
   go_meet
   case rel => exact ⟨_, (true), Q2, H', ⟨Q63⟩, ⟨by (with_reducible repeat (first | refine blk_drewN ?_ _ | refine blk_drew ?_ | refine blk_alloc ?_ _)); exact BK495.out⟩, ⟨qb⟩⟩
 case rest =>
  clear HC3
  try clear c6
  obtain ⟨kq, x15_2, rfl, HA, HJ2, BK495, HB⟩ := hcut
  cases kq with
  | zero => exact absurd HA.out (by simp [impl_FullBoard.j0])
  | succ kj2 =>
   have H := HA.out
   clear HA
   simp only [impl_FullBoard.j0] at H
   by_cases c8 : x15_2 = true
   ·
    subst c8
    have H1 : (some (0, 0, ([] : List Int), false)) = some (r1, r2, r3, r4) := by first | (rw [if_pos rfl] at H; exact H) | rfl
    clear H
    have H := H1
    clear H1
    simp only [Option.some.injEq, Prod.mk.injEq] at H
    obtain ⟨rfl, rfl, rfl, rfl⟩ := H
    obtain ⟨zq30, zq31, zq32, fq30, fq31, fq32⟩ := qd BK495
    go_wp2
    refine bodyPost_ret (results_ct rfl _ _ gb495 26 #[.int .i64 0, .int .i64 0, .slice none 0 0] (0, 0) _ rfl (by (with_reducible repeat (first | refine blk_drewN ?_ _ | refine blk_drew ?_ | refine blk_alloc ?_ _)); refine blk_put (cs := #[.int .i64 0, .int .i64 0, .slice none 0 0]) ?_ 2 _ rfl; (with_reducible repeat (first | refine blk_drewN ?_ _ | refine blk_drew ?_ | refine blk_alloc ?_ _)); refine blk_put (cs := #[.int .i64 0, .int .i64 0, .slice none 0 0]) ?_ 1 _ rfl; (with_reducible repeat (first | refine blk_drewN ?_ _ | refine blk_drew ?_ | refine blk_alloc ?_ _)); refine blk_put (cs := #[.int .i64 0, .int .i64 0, .slice none 0 0]) ?_ 0 _ rfl; (with_reducible repeat (first | refine blk_drewN ?_ _ | refine blk_drew ?_ | refine blk_alloc ?_ _)); exact BK495.out) Tryd.underlying26 rfl (by kernel_rfl)) rfl ?_
    exact ⟨_, Q1, Q6, qb⟩
   ·
    replace c8 := Bool.eq_false_iff.mpr c8
    subst c8
    have H1 : ((impl_newBoard.f a0 a1).bind fun bt498 => (impl_FullBoard.l0 kj2 a1 (bt498.2.2.length : Int) 0 bt498.1 bt498.2.1 bt498.2.2)) = some (r1, r2, r3, r4) := by first | (rw [if_neg (show ¬ (false = true) by decide)] at H; exact H) | rfl
    clear H
    have H := H1
    clear H1
    replace H := qE H
    obtain ⟨⟨t498, t499, t500⟩, A10, H⟩ := H
    replace H : (impl_FullBoard.l0 kj2 a1 (t500.length : Int) 0 t498 t499 t500) = some (r1, r2, r3, r4) := H
    have H' := Aside0.mk H
    clear H
    go_wp2_with (first | ((with_reducible refine gate_callee (f := 53) rfl ?_); refine qg (some 19) Tryd.func53 #[.int .i64 a0, .int .i64 a1] ?_; (with_reducible refine (impl_newBoard.calls a0 a1 t498 t499 t500 _ A10.out).mono ?_); rintro e w11 ⟨v501, rfl, ho0, hb⟩; refine ⟨_, rfl, ?_⟩; have Oq4 := ql ho0; replace BK495 := sqB BK495 hb; replace HB := qs hb; (try clear hb ho0)) | ((with_reducible refine gate_dst (N := 6) rfl ?_); refine qv 6 #[.int .i64 0, .int .i64 0, .slice none 0 0] 26 ?_; intro gb503 hg w12 hbox hb; have BK503 := am hbox; have GW503 := qw hg; have GE503 := qw hg; have Nq0 := qn hg BK495; have Nq1 := qN hg BK495; replace Oq4 := sqR Oq4 hb; replace BK495 := sqB BK495 hb; replace HB := qs hb; clear hb hbox hg; have bq0 := Nq1.out; have cq0 := Nq0.out; obtain ⟨zq3, zq4, zq5, fq3, fq4, fq5⟩ := qd BK503; obtain ⟨Ao15, co15, eo15⟩ := Kd.R_slice Oq4.out; subst eo15))
    go_loopg [23] kj2 (fun kq v23 w' => ∃ (x23_2 : Int) (x504002_2 : List Int) (u504002 : Value), v23 = .int .i64 x23_2 ∧ Aside0 (impl_FullBoard.l0 kq a1 (t500.length : Int) x23_2 t498 t499 x504002_2 = some (r1, r2, r3, r4)) ∧ Aside0 (kq ≤ kj2) ∧ Aside0 (Kd.R (Kd.int .i64) 3 w' w.heap.size (fun _ => True) u504002 x504002_2) ∧ Aside0 (w'.heap[gb495]? = some (.cells #[.int .i64 0, .int .i64 0, (.slice none 0 0)] 26 (0, 0))) ∧ Aside0 (w'.heap[gb503]? = some (.cells #[.int .i64 t498, .int .i64 t499, u504002] 26 (0, 0))) ∧ Aside0 (Below w.heap.size w w'))
    case atStart => exact ⟨(0), (t500), (.slice Ao15 t500.length co15), Q2, H', ⟨Nat.le_refl _⟩, ⟨by (with_reducible repeat (first | apply Kd.R_alloc | apply Kd.R_drewN | apply Kd.R_drew)); exact Kd.R_mono (Kd.R_far (p := ⟨gb503, 2, none⟩) (Kd.R_far (p := ⟨gb503, 1, none⟩) (Kd.R_far (p := ⟨gb503, 0, none⟩) (Kd.R_types Oq4.out BK503.out (by decide)) (fun _ hk => hk.2) (.int .i64 t498)) (fun _ hk => hk.2) (.int .i64 t499)) (fun _ hk => hk.2) (.slice Ao15 t500.length co15)) (fun _ hk => trivial)⟩, ⟨by (with_reducible repeat (first | refine blk_drewN ?_ _ | refine blk_drew ?_ | refine blk_alloc ?_ _)); refine blk_far ?_ Nq0.out _; (with_reducible repeat (first | refine blk_drewN ?_ _ | refine blk_drew ?_ | refine blk_alloc ?_ _)); refine blk_far ?_ Nq0.out _; (with_reducible repeat (first | refine blk_drewN ?_ _ | refine blk_drew ?_ | refine blk_alloc ?_ _)); refine blk_far ?_ Nq0.out _; (with_reducible repeat (first | refine blk_drewN ?_ _ | refine blk_drew ?_ | refine blk_alloc ?_ _)); exact BK495.out⟩, ⟨by (with_reducible repeat (first | refine blk_drewN ?_ _ | refine blk_drew ?_ | refine blk_alloc ?_ _)); refine blk_put (cs := #[.int .i64 t498, .int .i64 t499, .slice none 0 0]) ?_ 2 _ rfl; (with_reducible repeat (first | refine blk_drewN ?_ _ | refine blk_drew ?_ | refine blk_alloc ?_ _)); refine blk_put (cs := #[.int .i64 t498, .int .i64 0, .slice none 0 0]) ?_ 1 _ rfl; (with_reducible repeat (first | refine blk_drewN ?_ _ | refine blk_drew ?_ | refine blk_alloc ?_ _)); refine blk_put (cs := #[.int .i64 0, .int .i64 0, .slice none 0 0]) ?_ 0 _ rfl; (with_reducible repeat (first | refine blk_drewN ?_ _ | refine blk_drew ?_ | refine blk_alloc ?_ _)); exact BK503.out⟩, ⟨qb⟩⟩
    case round =>
     clear H'
     try clear c6; try clear c8; try clear zq3; try clear zq4; try clear zq5; try clear zq30; try clear zq31; try clear zq32; try clear fq3; try clear fq4; try clear fq5; try clear fq30; try clear fq31; try clear fq32
     obtain ⟨x23_2, x504002_2, u504002, rfl, HA, HK2, Oq8, BK495, BK503, HB⟩ := hrel
     cases gk with
     | zero => exact absurd HA.out (by simp [impl_FullBoard.l0])
     | succ k2 =>
      have H := HA.out
      clear HA
      simp only [impl_FullBoard.l0] at H
      by_cases c16 : x23_2 < (t500.length : Int)
      ·
       rw [if_pos c16] at H
       have c16b0 : decide (x23_2 < (t500.length : Int)) = true := decide_eq_true c16
       clear c16
       by_cases c17 : 0 ≤ a1
       ·
        rw [if_pos c17] at H
        have c17b0 := eq_true c17
        have c17b1 : decide (0 ≤ a1) = true := decide_eq_true c17
        clear c17
        obtain ⟨ji18, hji18⟩ : ∃ j_ : Int, (shl .i64 1 a1) = j_ := ⟨_, rfl⟩
        replace H : (if 0 ≤ x23_2 then (if x23_2 < (x504002_2.length : Int) then (impl_FullBoard.l0 k2 a1 (t500.length : Int) (wrap64 (x23_2 + 1)) t498 t499 (x504002_2.set (x23_2 : Int).toNat (wrap64 ((ji18) - 1)))) else (none)) else (none)) = some (r1, r2, r3, r4) := by first | (rw [hji18] at H; exact H) | (simp only [hji18] at H ⊢; exact H)
        have hji18_ : (IntKind.i64.wrap (1 * 2 ^ min a1.toNat 64)) = ji18 := hji18
        have hji18z : a1 ≤ 64 → (IntKind.i64.wrap (1 * 2 ^ a1.toNat)) = ji18 := shl_small hji18
        have hji18u : (IntKind.i64.wrap (2 ^ min a1.toNat 64)) = ji18 := by have h_ := hji18_; rw [Int.one_mul] at h_; exact h_
        have hji18v : a1 ≤ 64 → (IntKind.i64.wrap (2 ^ a1.toNat)) = ji18 := fun hle_ => by have h_ := hji18z hle_; rw [Int.one_mul] at h_; exact h_
        have hji18y : (wrap64 (1 * 2 ^ min a1.toNat 64)) = ji18 := (i64_w _).symm.trans hji18_
        have hji18x : a1 ≤ 64 → (wrap64 (1 * 2 ^ a1.toNat)) = ji18 := fun h_ => (i64_w _).symm.trans (hji18z h_)
        by_cases c19 : 0 ≤ x23_2
        ·
         rw [if_pos c19] at H
         have c19b0 : decide (0 ≤ x23_2) = true := decide_eq_true c19
         clear c19
         by_cases c20 : x23_2 < (x504002_2.length : Int)
         ·
          rw [if_pos c20] at H
          have c20b0 : decide (x23_2 < (x504002_2.length : Int)) = true := decide_eq_true c20
          clear c20
          obtain ⟨y504, hy_⟩ : ∃ y_ : List Int, y_ = ((x504002_2.set (x23_2 : Int).toNat (wrap64 ((ji18) - 1)))) := ⟨_, rfl⟩
          replace H : (impl_FullBoard.l0 k2 a1 (t500.length : Int) (wrap64 (x23_2 + 1)) t498 t499 y504) = some (r1, r2, r3, r4) := qH
          have Ny504 := Aside0.mk hy_
          clear hy_
          have H' := Aside0.mk H
          clear H
          try go_wp2
          replace Oq8 := am (Kd.R_drew Oq8.out)
          replace BK495 := am (blk_drew BK495.out)
          replace BK503 := am (blk_drew BK503.out)
          replace HB := am (below_drew1 HB.out)
          have p21 : 0 ≤ (x23_2 : Int) := of_decide_eq_true Q0
          have q21 : (x23_2 : Int) < ((x504002_2.length : Int) : Int) := of_decide_eq_true Q0
          obtain ⟨go21, co21, eo21, gb21, gl21, cl21, HG21⟩ := Kd.R_form Oq8.out (by omega)
          (first | cases eo21 | (injection eo21 with ea_ en_ ec_; (first | subst ea_ | (injection ea_ with ea_; subst ea_)); subst ec_; clear en_))
          have GB21 := Aside0.mk gb21
          have GG21 := Aside0.mk HG21
          clear gb21 gl21 HG21
          obtain ⟨hx21_0, hf21_0⟩ := Kd.R_celln 0 Oq8.out (x23_2 : Int) p21 q21
          replace p21 := eq_true p21
          replace q21 := eq_true q21
          have HP23 := Kd.R_putn Oq8.out (x23_2 : Int) (wrap64 ((ji18) - 1))
          rw [← Ny504.out] at HP23
          have HQ23 := Aside0.mk HP23
          clear HP23
          refine start_ (n := 8) (S := fun w' => w'.cell? ⟨gb503, 0, none⟩ = some (.int .i64 t498) ∧ w'.cell? ⟨gb503, 1, none⟩ = some (.int .i64 t499) ∧ w'.cell? ⟨gb503, 2, none⟩ = some (.slice (some ⟨go21, 0, none⟩) x504002_2.length co21)) (ds := [7]) #[false, false, false, false, false, false, false, false] (by kernel_rfl) rfl rfl ⟨sqc BK503 0, sqc BK503 1, sqc BK503 2⟩ (fun hHeld => ?_); refine with_tabW impl_FullBoard.tab7 impl_FullBoard.bits7 (fun HT_ HW_ => ?_)
          generalize wr.drew = w22 at Oq8 BK495 BK503 HB GG21 HQ23 hf21_0 hx21_0 hHeld ⊢
          refine qp 0 (some 26) #[true, false, false, false, false, false, false, false] ?_
          refine qp 2 (some 28) #[true, false, true, false, false, false, false, false] ?_
          refine qp 3 (some 29) #[true, false, true, true, false, false, false, false] ?_
          refine qp 4 (some 30) #[true, false, true, true, true, false, false, false] ?_
          refine qp 5 (some 31) #[true, false, true, true, true, true, false, false] ?_
          refine take_ (i := 1) (N := some 27) (v := ?_) (a' := ?_) #[true, true, true, true, true, true, false, false] rfl rfl (take_ofW HT_.out HW_.out (by kernel_rfl)) (fun _ _ _ h => h) (Or.inl ⟨by rfl, ?_⟩) hHeld ?_ ?_
          rotate_left
          ·
           rintro w' ⟨s0, s1, s2⟩
           go_simp
           with_reducible rfl
          rotate_left
          ·
           simp only [Act.put, List.setIfInBounds_toArray, List.set_cons_zero, List.set_cons_succ, i64_w, i32_w]
           rfl
          refine qp 6 (some 32) #[true, true, true, true, true, true, true, false] ?_
          refine last_ (i := 7) (N := none) #[true, true, true, true, true, true, true, true] rfl rfl (one_of HT_.out (by kernel_rfl)) (by decide) fun K hK => ?_
          refine skip_ (w1 := ?_) (by rfl) rfl ?_ ?_
          rotate_left
          ·
           go_simp
           rfl
          refine hK.out _ _ ?_
          clear hK K
          refine done_ (done_of HT_.out (by kernel_rfl)) ?_
          try go_wp2
          go_roundg k2
          case measure => have := HJ2.out; have := HK2.out; omega
          case rel => exact ⟨(wrap64 (x23_2 + 1)), (y504), (.slice (some ⟨go21, 0, none⟩) x504002_2.length co21), Q2, H', ⟨by have := HJ2.out; have := HK2.out; omega⟩, ⟨by (with_reducible repeat (first | apply Kd.R_alloc | apply Kd.R_drewN | apply Kd.R_drew)); exact HQ23.out⟩, ⟨by (with_reducible repeat (first | refine blk_drewN ?_ _ | refine blk_drew ?_ | refine blk_alloc ?_ _)); refine blk_far ?_ (by have h_ := Kd.R_ne Oq8.out BK495.out (by decide); intro e_; exact h_ (by rw [e_]; rfl)) _; (with_reducible repeat (first | refine blk_drewN ?_ _ | refine blk_drew ?_ | refine blk_alloc ?_ _)); exact BK495.out⟩, ⟨by (with_reducible repeat (first | refine blk_drewN ?_ _ | refine blk_drew ?_ | refine blk_alloc ?_ _)); refine blk_far ?_ (by have h_ := Kd.R_ne Oq8.out BK503.out (by decide); intro e_; exact h_ (by rw [e_]; rfl)) _; (with_reducible repeat (first | refine blk_drewN ?_ _ | refine blk_drew ?_ | refine blk_alloc ?_ _)); exact BK503.out⟩, ⟨by repeat (first | (with_reducible first | exact HB.out | apply below_alloc | apply pw_below_drewN | apply below_drew1 | refine below_set ?_ GB21.out | refine below_set ?_ GE495.out | refine below_set ?_ GE503.out) | exact HB.out)⟩⟩
         ·
          rw [if_neg c20] at H
          exact absurd H (by simp)
        ·
         rw [if_neg c19] at H
         exact absurd H (by simp)
       ·
        rw [if_neg c17] at H
        exact absurd H (by simp)
      ·
       rw [if_neg c16] at H
       have c16b0 : decide (x23_2 < (t500.length : Int)) = false := decide_eq_false c16
       clear c16
       simp only [Option.some.injEq, Prod.mk.injEq] at H
       obtain ⟨rfl, rfl, rfl, rfl⟩ := H
       have bq2 := Nq1.out
       have cq2 := Nq0.out
       obtain ⟨zq15, zq16, zq17, fq15, fq16, fq17⟩ := qd BK503
       obtain ⟨zq18, zq19, zq20, fq18, fq19, fq20⟩ := qd BK495
       obtain ⟨Ao27, co27, eo27⟩ := Kd.R_slice Oq8.out
       subst eo27
       go_wp2
       refine bodyPost_ret (results_ct rfl _ _ gb495 26 #[.int .i64 t498, .int .i64 t499, .slice Ao27 x504002_2.length co27] (0, 0) _ rfl (by (with_reducible repeat (first | refine blk_drewN ?_ _ | refine blk_drew ?_ | refine blk_alloc ?_ _)); refine blk_put (cs := #[.int .i64 t498, .int .i64 t499, .slice none 0 0]) ?_ 2 _ rfl; (with_reducible repeat (first | refine blk_drewN ?_ _ | refine blk_drew ?_ | refine blk_alloc ?_ _)); refine blk_put (cs := #[.int .i64 t498, .int .i64 0, .slice none 0 0]) ?_ 1 _ rfl; (with_reducible repeat (first | refine blk_drewN ?_ _ | refine blk_drew ?_ | refine blk_alloc ?_ _)); refine blk_put (cs := #[.int .i64 0, .int .i64 0, .slice none 0 0]) ?_ 0 _ rfl; (with_reducible repeat (first | refine blk_drewN ?_ _ | refine blk_drew ?_ | refine blk_alloc ?_ _)); exact BK495.out) Tryd.underlying26 rfl (by kernel_rfl)) rfl ?_
       exact ⟨_, Q1, by (with_reducible repeat (first | apply Kd.R_alloc | apply Kd.R_drewN | apply Kd.R_drew)); exact Kd.R_mono (Kd.R_far (p := ⟨gb495, 2, none⟩) (Kd.R_far (p := ⟨gb495, 1, none⟩) (Kd.R_far (p := ⟨gb495, 0, none⟩) (Kd.R_types Oq8.out BK495.out (by decide)) (fun _ hk => hk.2) (.int .i64 t498)) (fun _ hk => hk.2) (.int .i64 t499)) (fun _ hk => hk.2) (.slice Ao27 x504002_2.length co27)) (fun _ hk => trivial), qb⟩

/-! ### spec_boFull: function 57 -/
def spec_boFull.l0 : Nat → Int → Int → Int → Int → Int → List Int → Option (Int × Int × List Int)
 | 0, _, _, _, _, _, _ => none
 | k + 1, x1, x12, x13, x512000, x512001, x512002 => if x13 < x12 then (if 0 ≤ x1 then (if 0 ≤ x13 then (if x13 < (x512002.length : Int) then (spec_boFull.l0 k x1 x12 (wrap64 (x13 + 1)) x512000 x512001 (x512002.set (x13 : Int).toNat (wrap64 ((shl .i64 1 x1) - 1)))) else (none)) else (none)) else (none)) else (some (x512000, x512001, x512002))
def spec_boFull.f (k : Nat) (a0 : Int) (a1 : Int) : Option (Int × Int × List Int) := (spec_boEmpty.f a0 a1).bind fun bt506 => (spec_boFull.l0 k a1 (bt506.2.2.length : Int) 0 bt506.1 bt506.2.1 bt506.2.2)
def spec_boFull.T5 : Bool × List (List Nat × List Nat) := (true, [([], []), ([0], [0]), ([], []), ([], []), ([3], [3]), ([4], [4]), ([1, 2, 0, 1, 2, 3, 4, 5], [1, 2]), ([6, 5, 0, 1, 2, 3, 4, 5], [5, 6])])
def spec_boFull.B5 : List Nat := [0, 1, 0, 0, 8, 24, 63, 127]
theorem spec_boFull.tab5 : rtab .any (opsOf Tryd.f57 5) = spec_boFull.T5 := by kernel_rfl
theorem spec_boFull.bits5 : waitsOk spec_boFull.T5.2 spec_boFull.B5 = true := by kernel_rfl
set_option maxHeartbeats 8000000 in
set_option maxRecDepth 100000 in
theorem spec_boFull.calls (k : Nat) (a0 : Int) (a1 : Int) (r1 : Int) (r2 : Int) (r3 : List Int) (w : World) (h : spec_boFull.f k a0 a1 = some (r1, r2, r3)) :
  Calls Tryd.prog 57 #[.int .i64 a0, .int .i64 a1] w fun e w' => ∃ v2_ : Value, e = .returned (.agg #[.int .i64 r1, .int .i64 r2, v2_]) ∧ Kd.R (Kd.int .i64) 3 w' w.heap.size (fun _ => True) v2_ r3 ∧ Below w.heap.size w w' := by
 have hu26 := Tryd.underlying26
 have HB := am (Below.refl w.heap.size w)
 have H : ((spec_boEmpty.f a0 a1).bind fun bt506 => (spec_boFull.l0 k a1 (bt506.2.2.length : Int) 0 bt506.1 bt506.2.1 bt506.2.2)) = some (r1, r2, r3) := h
 clear h
 replace H := qE H
 obtain ⟨⟨t506, t507, t508⟩, A3, H⟩ := H
 replace H : (spec_boFull.l0 k a1 (t508.length : Int) 0 t506 t507 t508) = some (r1, r2, r3) := H
 have H' := Aside0.mk H
 clear H
 go_enter Tryd.func57, Tryd.ntmps57
 go_wp2_with (first | ((with_reducible refine gate_dst (N := 4) rfl ?_); refine qv 4 #[.int .i64 0, .int .i64 0, .slice none 0 0] 26 ?_; intro gb505 hg w4 hbox hb; have BK505 := am hbox; have GW505 := qw hg; have GE505 := qw hg; replace HB := qs hb; clear hb hbox hg) | ((with_reducible refine gate_callee (f := 33) rfl ?_); refine qg (some 9) Tryd.func33 #[.int .i64 a0, .int .i64 a1] ?_; (with_reducible refine (spec_boEmpty.calls a0 a1 t506 t507 t508 _ A3.out).mono ?_); rintro e w5 ⟨v509, rfl, ho0, hb⟩; refine ⟨_, rfl, ?_⟩; have Oq5 := ql ho0; replace BK505 := sqB BK505 hb; replace HB := qs hb; (try clear hb ho0)) | ((with_reducible refine gate_dst (N := 5) rfl ?_); refine qv 5 #[.int .i64 0, .int .i64 0, .slice none 0 0] 26 ?_; intro gb511 hg w6 hbox hb; have BK511 := am hbox; have GW511 := qw hg; have GE511 := qw hg; have Nq2 := qn hg BK505; have Nq3 := qN hg BK505; replace Oq5 := sqR Oq5 hb; replace BK505 := sqB BK505 hb; replace HB := qs hb; clear hb hbox hg; have bq3 := Nq3.out; have cq3 := Nq2.out; obtain ⟨zq27, zq28, zq29, fq27, fq28, fq29⟩ := qd BK511; obtain ⟨Ao9, co9, eo9⟩ := Kd.R_slice Oq5.out; subst eo9))
 go_loopg [13] k (fun kq v13 w' => ∃ (x13_1 : Int) (x512002_1 : List Int) (u512002 : Value), v13 = .int .i64 x13_1 ∧ Aside0 (spec_boFull.l0 kq a1 (t508.length : Int) x13_1 t506 t507 x512002_1 = some (r1, r2, r3)) ∧ Aside0 (kq ≤ k) ∧ Aside0 (Kd.R (Kd.int .i64) 3 w' w.heap.size (fun _ => True) u512002 x512002_1) ∧ Aside0 (w'.heap[gb505]? = some (.cells #[.int .i64 0, .int .i64 0, (.slice none 0 0)] 26 (0, 0))) ∧ Aside0 (w'.heap[gb511]? = some (.cells #[.int .i64 t506, .int .i64 t507, u512002] 26 (0, 0))) ∧ Aside0 (Below w.heap.size w w'))
 case atStart => exact ⟨(0), (t508), (.slice Ao9 t508.length co9), Q2, H', ⟨Nat.le_refl _⟩, ⟨by (with_reducible repeat (first | apply Kd.R_alloc | apply Kd.R_drewN | apply Kd.R_drew)); exact Kd.R_mono (Kd.R_far (p := ⟨gb511, 2, none⟩) (Kd.R_far (p := ⟨gb511, 1, none⟩) (Kd.R_far (p := ⟨gb511, 0, none⟩) (Kd.R_types Oq5.out BK511.out (by decide)) (fun _ hk => hk.2) (.int .i64 t506)) (fun _ hk => hk.2) (.int .i64 t507)) (fun _ hk => hk.2) (.slice Ao9 t508.length co9)) (fun _ hk => trivial)⟩, ⟨by (with_reducible repeat (first | refine blk_drewN ?_ _ | refine blk_drew ?_ | refine blk_alloc ?_ _)); refine blk_far ?_ Nq2.out _; (with_reducible repeat (first | refine blk_drewN ?_ _ | refine blk_drew ?_ | refine blk_alloc ?_ _)); refine blk_far ?_ Nq2.out _; (with_reducible repeat (first | refine blk_drewN ?_ _ | refine blk_drew ?_ | refine blk_alloc ?_ _)); refine blk_far ?_ Nq2.out _; (with_reducible repeat (first | refine blk_drewN ?_ _ | refine blk_drew ?_ | refine blk_alloc ?_ _)); exact BK505.out⟩, ⟨by (with_reducible repeat (first | refine blk_drewN ?_ _ | refine blk_drew ?_ | refine blk_alloc ?_ _)); refine blk_put (cs := #[.int .i64 t506, .int .i64 t507, .slice none 0 0]) ?_ 2 _ rfl; (with_reducible repeat (first | refine blk_drewN ?_ _ | refine blk_drew ?_ | refine blk_alloc ?_ _)); refine blk_put (cs := #[.int .i64 t506, .int .i64 0, .slice none 0 0]) ?_ 1 _ rfl; (with_reducible repeat (first | refine blk_drewN ?_ _ | refine blk_drew ?_ | refine blk_alloc ?_ _)); refine blk_put (cs := #[.int .i64 0, .int .i64 0, .slice none 0 0]) ?_ 0 _ rfl; (with_reducible repeat (first | refine blk_drewN ?_ _ | refine blk_drew ?_ | refine blk_alloc ?_ _)); exact BK511.out⟩, ⟨qb⟩⟩
 case round =>
  clear H'
  try clear zq27; try clear zq28; try clear zq29; try clear fq27; try clear fq28; try clear fq29
  obtain ⟨x13_1, x512002_1, u512002, rfl, HA, HK1, Oq9, BK505, BK511, HB⟩ := hrel
  cases gk with
  | zero => exact absurd HA.out (by simp [spec_boFull.l0])
  | succ k1 =>
   have H := HA.out
   clear HA
   simp only [spec_boFull.l0] at H
   by_cases c10 : x13_1 < (t508.length : Int)
   ·
    rw [if_pos c10] at H
    have c10b0 : decide (x13_1 < (t508.length : Int)) = true := decide_eq_true c10
    clear c10
    by_cases c11 : 0 ≤ a1
    ·
     rw [if_pos c11] at H
     have c11b0 := eq_true c11
     have c11b1 : decide (0 ≤ a1) = true := decide_eq_true c11
     clear c11
     obtain ⟨ji12, hji12⟩ : ∃ j_ : Int, (shl .i64 1 a1) = j_ := ⟨_, rfl⟩
     replace H : (if 0 ≤ x13_1 then (if x13_1 < (x512002_1.length : Int) then (spec_boFull.l0 k1 a1 (t508.length : Int) (wrap64 (x13_1 + 1)) t506 t507 (x512002_1.set (x13_1 : Int).toNat (wrap64 ((ji12) - 1)))) else (none)) else (none)) = some (r1, r2, r3) := by first | (rw [hji12] at H; exact H) | (simp only [hji12] at H ⊢; exact H)
     have hji12_ : (IntKind.i64.wrap (1 * 2 ^ min a1.toNat 64)) = ji12 := hji12
     have hji12z : a1 ≤ 64 → (IntKind.i64.wrap (1 * 2 ^ a1.toNat)) = ji12 := shl_small hji12
     have hji12u : (IntKind.i64.wrap (2 ^ min a1.toNat 64)) = ji12 := by have h_ := hji12_; rw [Int.one_mul] at h_; exact h_
     have hji12v : a1 ≤ 64 → (IntKind.i64.wrap (2 ^ a1.toNat)) = ji12 := fun hle_ => by have h_ := hji12z hle_; rw [Int.one_mul] at h_; exact h_
     have hji12y : (wrap64 (1 * 2 ^ min a1.toNat 64)) = ji12 := (i64_w _).symm.trans hji12_
     have hji12x : a1 ≤ 64 → (wrap64 (1 * 2 ^ a1.toNat)) = ji12 := fun h_ => (i64_w _).symm.trans (hji12z h_)
     by_cases c13 : 0 ≤ x13_1
     ·
      rw [if_pos c13] at H
      have c13b0 : decide (0 ≤ x13_1) = true := decide_eq_true c13
      clear c13
      by_cases c14 : x13_1 < (x512002_1.length : Int)
      ·
       rw [if_pos c14] at H
       have c14b0 : decide (x13_1 < (x512002_1.length : Int)) = true := decide_eq_true c14
       clear c14
       obtain ⟨y512, hy_⟩ : ∃ y_ : List Int, y_ = ((x512002_1.set (x13_1 : Int).toNat (wrap64 ((ji12) - 1)))) := ⟨_, rfl⟩
       replace H : (spec_boFull.l0 k1 a1 (t508.length : Int) (wrap64 (x13_1 + 1)) t506 t507 y512) = some (r1, r2, r3) := qH
       have Ny512 := Aside0.mk hy_
       clear hy_
       have H' := Aside0.mk H
       clear H
       try go_wp2
       replace Oq9 := am (Kd.R_drew Oq9.out)
       replace BK505 := am (blk_drew BK505.out)
       replace BK511 := am (blk_drew BK511.out)
       replace HB := am (below_drew1 HB.out)
       have p15 : 0 ≤ (x13_1 : Int) := of_decide_eq_true Q0
       have q15 : (x13_1 : Int) < ((x512002_1.length : Int) : Int) := of_decide_eq_true Q0
       obtain ⟨go15, co15, eo15, gb15, gl15, cl15, HG15⟩ := Kd.R_form Oq9.out (by omega)
       (first | cases eo15 | (injection eo15 with ea_ en_ ec_; (first | subst ea_ | (injection ea_ with ea_; subst ea_)); subst ec_; clear en_))
       have GB15 := Aside0.mk gb15
       have GG15 := Aside0.mk HG15
       clear gb15 gl15 HG15
       obtain ⟨hx15_0, hf15_0⟩ := Kd.R_celln 0 Oq9.out (x13_1 : Int) p15 q15
       replace p15 := eq_true p15
       replace q15 := eq_true q15
       have HP17 := Kd.R_putn Oq9.out (x13_1 : Int) (wrap64 ((ji12) - 1))
       rw [← Ny512.out] at HP17
       have HQ17 := Aside0.mk HP17
       clear HP17
       refine start_ (n := 8) (S := fun w' => w'.cell? ⟨gb511, 0, none⟩ = some (.int .i64 t506) ∧ w'.cell? ⟨gb511, 1, none⟩ = some (.int .i64 t507) ∧ w'.cell? ⟨gb511, 2, none⟩ = some (.slice (some ⟨go15, 0, none⟩) x512002_1.length co15)) (ds := [7]) #[false, false, false, false, false, false, false, false] (by kernel_rfl) rfl rfl ⟨sqc BK511 0, sqc BK511 1, sqc BK511 2⟩ (fun hHeld => ?_); refine with_tabW spec_boFull.tab5 spec_boFull.bits5 (fun HT_ HW_ => ?_)
       generalize wr.drew = w16 at Oq9 BK505 BK511 HB GG15 HQ17 hf15_0 hx15_0 hHeld ⊢
       refine qp 0 (some 16) #[true, false, false, false, false, false, false, false] ?_
       refine qp 2 (some 18) #[true, false, true, false, false, false, false, false] ?_
       refine qp 3 (some 19) #[true, false, true, true, false, false, false, false] ?_
       refine qp 4 (some 20) #[true, false, true, true, true, false, false, false] ?_
       refine qp 5 (some 21) #[true, false, true, true, true, true, false, false] ?_
       refine take_ (i := 1) (N := some 17) (v := ?_) (a' := ?_) #[true, true, true, true, true, true, false, false] rfl rfl (take_ofW HT_.out HW_.out (by kernel_rfl)) (fun _ _ _ h => h) (Or.inl ⟨by rfl, ?_⟩) hHeld ?_ ?_
       rotate_left
       ·
        rintro w' ⟨s0, s1, s2⟩
        go_simp
        with_reducible rfl
       rotate_left
       ·
        simp only [Act.put, List.setIfInBounds_toArray, List.set_cons_zero, List.set_cons_succ, i64_w, i32_w]
        rfl
       refine qp 6 (some 22) #[true, true, true, true, true, true, true, false] ?_
       refine last_ (i := 7) (N := none) #[true, true, true, true, true, true, true, true] rfl rfl (one_of HT_.out (by kernel_rfl)) (by decide) fun K hK => ?_
       refine skip_ (w1 := ?_) (by rfl) rfl ?_ ?_
       rotate_left
       ·
        go_simp
        rfl
       refine hK.out _ _ ?_
       clear hK K
       refine done_ (done_of HT_.out (by kernel_rfl)) ?_
       try go_wp2
       go_roundg k1
       case measure => have := HK1.out; omega
       case rel => exact ⟨(wrap64 (x13_1 + 1)), (y512), (.slice (some ⟨go15, 0, none⟩) x512002_1.length co15), Q2, H', ⟨Q61⟩, ⟨by (with_reducible repeat (first | apply Kd.R_alloc | apply Kd.R_drewN | apply Kd.R_drew)); exact HQ17.out⟩, ⟨by (with_reducible repeat (first | refine blk_drewN ?_ _ | refine blk_drew ?_ | refine blk_alloc ?_ _)); refine blk_far ?_ (by have h_ := Kd.R_ne Oq9.out BK505.out (by decide); intro e_; exact h_ (by rw [e_]; rfl)) _; (with_reducible repeat (first | refine blk_drewN ?_ _ | refine blk_drew ?_ | refine blk_alloc ?_ _)); exact BK505.out⟩, ⟨by (with_reducible repeat (first | refine blk_drewN ?_ _ | refine blk_drew ?_ | refine blk_alloc ?_ _)); refine blk_far ?_ (by have h_ := Kd.R_ne Oq9.out BK511.out (by decide); intro e_; exact h_ (by rw [e_]; rfl)) _; (with_reducible repeat (first | refine blk_drewN ?_ _ | refine blk_drew ?_ | refine blk_alloc ?_ _)); exact BK511.out⟩, ⟨by repeat (first | (with_reducible first | exact HB.out | apply below_alloc | apply pw_below_drewN | apply below_drew1 | refine below_set ?_ GB15.out | refine below_set ?_ GE505.out | refine below_set ?_ GE511.out) | exact HB.out)⟩⟩
      ·
       rw [if_neg c14] at H
       exact absurd H (by simp)
     ·
      rw [if_neg c13] at H
      exact absurd H (by simp)
    ·
     rw [if_neg c11] at H
     exact absurd H (by simp)
   ·
    rw [if_neg c10] at H
    have c10b0 : decide (x13_1 < (t508.length : Int)) = false := decide_eq_false c10
    clear c10
    simp only [Option.some.injEq, Prod.mk.injEq] at H
    obtain ⟨rfl, rfl, rfl⟩ := H
    have bq1 := Nq3.out
    have cq1 := Nq2.out
    obtain ⟨zq9, zq10, zq11, fq9, fq10, fq11⟩ := qd BK511
    obtain ⟨zq12, zq13, zq14, fq12, fq13, fq14⟩ := qd BK505
    obtain ⟨Ao21, co21, eo21⟩ := Kd.R_slice Oq9.out
    subst eo21
    go_wp2
    refine bodyPost_ret (results_cell_row rfl _ _ gb505 26 #[.int .i64 t506, .int .i64 t507, .slice Ao21 x512002_1.length co21] (0, 0) _ rfl (by (with_reducible repeat (first | refine blk_drewN ?_ _ | refine blk_drew ?_ | refine blk_alloc ?_ _)); refine blk_put (cs := #[.int .i64 t506, .int .i64 t507, .slice none 0 0]) ?_ 2 _ rfl; (with_reducible repeat (first | refine blk_drewN ?_ _ | refine blk_drew ?_ | refine blk_alloc ?_ _)); refine blk_put (cs := #[.int .i64 t506, .int .i64 0, .slice none 0 0]) ?_ 1 _ rfl; (with_reducible repeat (first | refine blk_drewN ?_ _ | refine blk_drew ?_ | refine blk_alloc ?_ _)); refine blk_put (cs := #[.int .i64 0, .int .i64 0, .slice none 0 0]) ?_ 0 _ rfl; (with_reducible repeat (first | refine blk_drewN ?_ _ | refine blk_drew ?_ | refine blk_alloc ?_ _)); exact BK505.out) Tryd.underlying26 rfl (by kernel_rfl)) rfl ?_
    exact ⟨_, Q1, by (with_reducible repeat (first | apply Kd.R_alloc | apply Kd.R_drewN | apply Kd.R_drew)); exact Kd.R_mono (Kd.R_far (p := ⟨gb505, 2, none⟩) (Kd.R_far (p := ⟨gb505, 1, none⟩) (Kd.R_far (p := ⟨gb505, 0, none⟩) (Kd.R_types Oq9.out BK505.out (by decide)) (fun _ hk => hk.2) (.int .i64 t506)) (fun _ hk => hk.2) (.int .i64 t507)) (fun _ hk => hk.2) (.slice Ao21 x512002_1.length co21)) (fun _ hk => trivial), qb⟩

end Go.Proofs.YtllhofdgbpnkkaaDoor.PFnBoardsTurned
