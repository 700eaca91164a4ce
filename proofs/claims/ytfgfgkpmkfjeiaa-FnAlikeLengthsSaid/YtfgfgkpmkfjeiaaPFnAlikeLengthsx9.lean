-- Printed for this claim by wip/pp.py over the kit's printer; Lean checks it.
import Derived.Test.YtfgfgkpmkfjeiaaPFnAlikeLengthsx0
import Derived.Test.YtfgfgkpmkfjeiaaPFnAlikeLengthsx1
import Derived.Test.YtfgfgkpmkfjeiaaPFnAlikeLengthsx4
import Derived.Test.YtfgfgkpmkfjeiaaPFnAlikeLengthsx6
namespace Go.Proofs.Ytfgfgkpmkfjeiaa.PFnAlikeLengths
open Go.RowKit Go.Proofs.YtfgfgkpmkfjeiaaW.PrintWords Go.Proofs.YtfgfgkpmkfjeiaaW.PrintLast Go.Proofs.YtfgfgkpmkfjeiaaW.PrintMore
attribute [local go_sem] max2_int min2_int max_two min_two max_three min_three max_four min_four   -- for this text's walks alone
set_option linter.unusedVariables false
set_option linter.unusedSimpArgs false

/-! ### slices_Index_int_int: function 131 -/
def slices_Index_int_int.l0 : Nat → List Int → Int → Int → Int → Option (Int)
 | 0, _, _, _, _ => none
 | k + 1, x0, x1, x7, x8 => if x8 < x7 then (if 0 ≤ x8 then (if x8 < (x0.length : Int) then (if x1 = (rd x0 x8) then (some x8) else (slices_Index_int_int.l0 k x0 x1 x7 (wrap64 (x8 + 1)))) else (none)) else (none)) else (some (-1))
def slices_Index_int_int.f (k : Nat) (l0 : List Int) (a1 : Int) : Option (Int) := slices_Index_int_int.l0 k l0 a1 (l0.length : Int) 0
theorem slices_Index_int_int.mono_l : ∀ k, (∀ y0 y1 y2 y3, LeO (slices_Index_int_int.l0 k y0 y1 y2 y3) (slices_Index_int_int.l0 (k + 1) y0 y1 y2 y3))
 | 0 => fun _ _ _ _ r h => by simp [slices_Index_int_int.l0] at h
 | k + 1 => by
  have ih0 := slices_Index_int_int.mono_l k
  ·
   intro y0 y1 y2 y3
   unfold slices_Index_int_int.l0
   repeat' first
   | (with_reducible exact ih0 _ _ _ _)
   | (with_reducible exact LeO.refl _)
   | (with_reducible exact LeO.none _)
   | (with_reducible refine LeO.ite ?_ ?_)
   | (with_reducible refine LeO.bind ?_ (fun _ => ?_))
   | exact ih0 _ _ _ _
   | exact LeO.none _
   | refine LeO.ite ?_ ?_
   | refine LeO.bind ?_ (fun _ => ?_)
theorem slices_Index_int_int.mono : ∀ a0 a1 k, LeO (slices_Index_int_int.f k a0 a1) (slices_Index_int_int.f (k + 1) a0 a1) := by
 intro a0 a1 k
 have ih0 := slices_Index_int_int.mono_l k
 unfold slices_Index_int_int.f
 repeat' first
   | (with_reducible exact ih0 _ _ _ _)
   | (with_reducible exact LeO.refl _)
   | (with_reducible exact LeO.none _)
   | (with_reducible refine LeO.ite ?_ ?_)
   | (with_reducible refine LeO.bind ?_ (fun _ => ?_))
   | exact ih0 _ _ _ _
   | exact LeO.none _
   | refine LeO.ite ?_ ?_
   | refine LeO.bind ?_ (fun _ => ?_)
set_option maxHeartbeats 8000000 in
set_option maxRecDepth 100000 in
theorem slices_Index_int_int.calls (k : Nat) (A0 : Option Addr) (c0 : Nat) (l0 : List Int) (a1 : Int) (r : Int) (w : World) (hr0 : Kd.C (Kd.int .i64) w A0 l0.length l0) (hc0 : l0.length ≤ c0) (h : slices_Index_int_int.f k l0 a1 = some r) :
  Calls Try.prog 131 #[.slice A0 l0.length c0, .int .i64 a1] w fun e w' => e = .returned (.int .i64 r) ∧ Drawn0 w w' := by
 have HR0 := Aside0.mk hr0
 have HC0 := Aside0.mk hc0
 clear hr0 hc0
 have H : (slices_Index_int_int.l0 k l0 a1 (l0.length : Int) 0) = some r := h
 clear h
 have H' := Aside0.mk H
 clear H
 go_enter Try.func131, Try.ntmps131
 go_wp2
 go_loopg [8] k (fun kq v8 w' => ∃ (x8_1 : Int), v8 = .int .i64 x8_1 ∧ Aside0 (slices_Index_int_int.l0 kq l0 a1 (l0.length : Int) x8_1 = some r) ∧ Aside0 (kq ≤ k) ∧ Drawn0 w w')
 case atStart => exact ⟨(0), (by first | rfl | (simp; done) | (simp [*]; done)), H', ⟨Nat.le_refl _⟩, by repeat (first | exact Drawn0.refl _ | apply Drawn0.step)⟩
 case round =>
  clear H'
  try clear c1; try clear p2
  obtain ⟨x8_1, rfl, HA, HK1, ⟨m1, rfl⟩⟩ := hrel
  cases gk with
  | zero => exact absurd HA.out (by simp [slices_Index_int_int.l0])
  | succ k1 =>
   have H := HA.out
   clear HA
   simp only [slices_Index_int_int.l0] at H
   by_cases c3 : x8_1 < (l0.length : Int)
   ·
    rw [if_pos c3] at H
    have c3b0 : decide (x8_1 < (l0.length : Int)) = true := decide_eq_true c3
    clear c3
    by_cases c4 : 0 ≤ x8_1
    ·
     rw [if_pos c4] at H
     have c4b0 : decide (0 ≤ x8_1) = true := decide_eq_true c4
     clear c4
     by_cases c5 : x8_1 < (l0.length : Int)
     ·
      rw [if_pos c5] at H
      have c5b0 : decide (x8_1 < (l0.length : Int)) = true := decide_eq_true c5
      clear c5
      by_cases c6 : a1 = (rd l0 x8_1)
      ·
       rw [if_pos c6] at H
       have c6b0 : (a1 == (rd l0 x8_1)) = true := beq_iff_eq.mpr c6
       have c6b1 : (a1 != (rd l0 x8_1)) = false := bne_eq_false_iff_eq.mpr c6
       clear c6
       obtain rfl := Option.some.inj H
       have p376 : 0 ≤ (x8_1 : Int) := of_decide_eq_true (by first | (with_reducible assumption) | assumption)
       have q376 : x8_1 < (l0.length : Int) := of_decide_eq_true (by first | (with_reducible assumption) | assumption)
       obtain ⟨ad376, e376, hx376_0⟩ := Kd.at_int HR0.out x8_1 p376 q376
       cases e376
       replace p376 := eq_true p376
       replace q376 := eq_true q376
       go_wp2
       go_ret
       exact ⟨by first | rfl | (simp; done) | (simp [*]; done), by repeat (first | exact Drawn0.refl _ | apply Drawn0.step)⟩
      ·
       rw [if_neg c6] at H
       have c6b0 : (a1 == (rd l0 x8_1)) = false := beq_eq_false_iff_ne.mpr c6
       have c6b1 : (a1 != (rd l0 x8_1)) = true := bne_iff_ne.mpr c6
       have H' := Aside0.mk H
       clear H
       have p376 : 0 ≤ (x8_1 : Int) := of_decide_eq_true (by first | (with_reducible assumption) | assumption)
       have q376 : x8_1 < (l0.length : Int) := of_decide_eq_true (by first | (with_reducible assumption) | assumption)
       obtain ⟨ad376, e376, hx376_0⟩ := Kd.at_int HR0.out x8_1 p376 q376
       cases e376
       replace p376 := eq_true p376
       replace q376 := eq_true q376
       go_wp2
       go_roundg k1
       case measure => have := HK1.out; omega
       case rel => exact ⟨(wrap64 (x8_1 + 1)), (by first | rfl | (simp; done) | (simp [*]; done)), H', ⟨by have := HK1.out; omega⟩, by repeat (first | exact Drawn0.refl _ | apply Drawn0.step)⟩
     ·
      rw [if_neg c5] at H
      exact absurd H (by simp)
    ·
     rw [if_neg c4] at H
     exact absurd H (by simp)
   ·
    rw [if_neg c3] at H
    have c3b0 : decide (x8_1 < (l0.length : Int)) = false := decide_eq_false c3
    clear c3
    obtain rfl := Option.some.inj H
    go_wp2
    go_ret
    exact ⟨by first | rfl | (simp; done) | (simp [*]; done), by repeat (first | exact Drawn0.refl _ | apply Drawn0.step)⟩

/-! ### slices_Delete_int_int: function 132 (by hand) -/
/-- One number is taken out. -/
def slices_Delete_int_int.f (l0 : List Int) (a1 : Int) (a2 : Int) : Option (List Int) := if 0 ≤ a1 ∧ a2 = a1 + 1 ∧ a2 ≤ (l0.length : Int) then some (l0.eraseIdx a1.toNat) else none
-- (walk)
def dl_ren : Go.Shelf.Ren := ⟨fun | 23 => 132 | n => n, fun | 22 => 24 | 3 => 3 | 4 => 4 | 0 => 0 | n => n, fun | n => n⟩
theorem dl_lays : Go.Proofs.Lays2.n23 Try.prog dl_ren := {
 mixed := by kernel_rfl
 f23 := Try.func132.trans (congrArg some (by kernel_rfl))
 t0 := Try.underlying0
 a0 := Try.isAgg0
 z0 := Try.sizeOf0
 v0 := Try.zeroValue0
 t3 := Try.underlying3
 a3 := Try.isAgg3
 z3 := Try.sizeOf3
 v3 := Try.zeroValue3
 t4 := Try.underlying4
 a4 := Try.isAgg4
 z4 := Try.sizeOf4
 v4 := Try.zeroValue4
 t22 := Try.underlying24
 a22 := Try.isAgg24
 z22 := Try.sizeOf24
 v22 := Try.zeroValue24
 i3 := by kernel_rfl }
theorem dl_cells {g n cap base e : Nat} {ok : Nat → Prop} : ∀ (vs : List Int) (o : Nat) (W : World) (xs : List Int), Kd.R (Kd.int .i64) e W base ok (.slice (some ⟨g, 0, none⟩) n cap) xs → o + vs.length ≤ xs.length →
  Kd.R (Kd.int .i64) e (W.setCells g o (vs.map (Value.int .i64))) base ok (.slice (some ⟨g, 0, none⟩) n cap) (xs.take o ++ vs ++ xs.drop (o + vs.length))
 | [], o, W, xs, h, _ => by simpa [World.setCells] using h
 | v :: vs, o, W, xs, h, hl => by
  simp only [List.length_cons] at hl
  have h1 := Kd.R_putn h (o : Int) v
  rw [Int.toNat_natCast] at h1
  have h2 := dl_cells vs (o + 1) _ _ h1 (by simp; omega)
  rw [List.map_cons, World.setCells]
  have e1 : (xs.set o v).take (o + 1) ++ vs ++ (xs.set o v).drop (o + 1 + vs.length) = xs.take o ++ (v :: vs) ++ xs.drop (o + (v :: vs).length) := by
   rw [List.take_succ_eq_append_getElem (by simp; omega), List.take_set_of_le (Nat.le_refl _), List.getElem_set_self, List.drop_set, if_pos (by omega), List.length_cons]
   simp [Nat.add_comm, Nat.add_left_comm]
  rwa [e1] at h2
theorem dl_below {w0 : World} {g : Nat} (hg : w0.heap.size ≤ g) : ∀ (vs : List Value) (o : Nat) (W : World), Below w0.heap.size w0 W → Below w0.heap.size w0 (W.setCells g o vs)
 | [], _, _, h => h
 | v :: vs, o, W, h => by rw [World.setCells]; exact dl_below hg vs (o + 1) _ (below_set h hg)
theorem dl_kept {w : World} {g : Nat} {S : Nat → Prop} (hg : S g) : ∀ (vs : List Value) (o : Nat) (W : World), Kept w W S → Kept w (W.setCells g o vs) S
 | [], _, _, h => h
 | v :: vs, o, W, h => by rw [World.setCells]; exact dl_kept hg vs (o + 1) _ (Kept.setCell h (.inl hg) _)
theorem slices_Delete_int_int.calls (P0_ : Nat → Prop) (u9000_ : Value) (l0 : List Int) (a1 : Int) (a2 : Int) (r : List Int) (w0 w : World) (hB : Below w0.heap.size w0 w) (ho0 : Kd.R (Kd.int .i64) 3 w w0.heap.size P0_ u9000_ l0) (h : slices_Delete_int_int.f l0 a1 a2 = some r) :
  Calls Try.prog 132 #[u9000_, .int .i64 a1, .int .i64 a2] w fun e w' => ∃ v0_ : Value, e = .returned v0_ ∧ Kd.R (Kd.int .i64) 3 w' w0.heap.size (fun k_ => (P0_ k_ ∨ w.heap.size ≤ k_)) v0_ r ∧ Below w0.heap.size w0 w' ∧ Kept w w' (fun k_ => P0_ k_) := by
 unfold slices_Delete_int_int.f at h
 by_cases hc : 0 ≤ a1 ∧ a2 = a1 + 1 ∧ a2 ≤ (l0.length : Int)
 case neg => rw [if_neg hc] at h; exact absurd h (by simp)
 rw [if_pos hc] at h
 obtain rfl := Option.some.inj h
 obtain ⟨h1, rfl, h2⟩ := hc
 obtain ⟨i, rfl⟩ := Int.eq_ofNat_of_zero_le h1
 obtain ⟨g, cap, rfl, hg, hgs, _⟩ := Kd.R_form ho0 (by omega)
 have hrd := Kd.R_reads' ho0
 have hcap : cap ≤ 9223372036854775807 := by
  obtain ⟨inner, _, h5⟩ := Kd.R_own ho0
  rcases h5 with ⟨h6, _⟩ | ⟨g2, cap2, cur, h6, _, _, _, h7, _⟩
  ·
   cases h6
  ·
   injection h6 with _ _ h8; subst h8; exact h7
 have hel : ∀ j, j < l0.length → w.cell? ⟨g, 0 + j, none⟩ = some (.int .i64 (l0.getD j 0)) ∧ w.frozen? ⟨g, 0 + j, none⟩ = false := by
  intro j hj
  obtain ⟨c, hc1, hM, hc2, hf⟩ := Kd.R_elem ho0 0 (j : Int) (by omega) (by omega)
  rw [Int.toNat_natCast] at hM hc2 hf
  have e1 : c = [.int .i64 (l0.getD j 0)] := hM
  subst e1
  have h3 := hc2 0 _ rfl
  have h4 := hf 0
  rw [show j * (Kd.int .i64).sz + 0 = 0 + j by simp [Kd.int, Kd.scalar]] at h3 h4
  exact ⟨h3, h4⟩
 have hP : P0_ g := ho0.1 g rfl
 have hD := Any.slices_Delete_int_cells dl_lays g 0 l0.length cap i (i + 1) l0 w (Nat.le_refl _) hrd.2.1 hcap (by omega) (by omega) (fun j hj => (hel j hj).1) (fun j hj => (hel j hj).2)
 refine (show Calls Try.prog 132 #[.slice (some ⟨g, 0, none⟩) l0.length cap, .int .i64 (i : Nat), .int .i64 ((i : Int) + 1)] w _ from hD).mono ?_
 rintro e w' ⟨rfl, q, rfl⟩
 rw [List.take_length]
 have hvl : (l0.take i ++ l0.drop (i + 1) ++ List.replicate (i + 1 - i) 0).length = l0.length := by simp; omega
 have hR := dl_cells (l0.take i ++ l0.drop (i + 1) ++ List.replicate (i + 1 - i) 0) 0 (w.drewN q) l0 (Kd.R_drewN ho0 q) (by omega)
 rw [hvl, List.take_zero, List.nil_append, Nat.zero_add, List.drop_length, List.append_nil] at hR
 have hT := Kd.R_take hR (m := l0.length - 1) (by omega)
 have he : (l0.take i ++ l0.drop (i + 1) ++ List.replicate (i + 1 - i) (0 : Int)).take (l0.length - 1) = l0.eraseIdx i := by
  rw [List.take_append_of_le_length (by simp; omega), List.take_of_length_le (by simp; omega), List.eraseIdx_eq_take_drop_succ]
 rw [he] at hT
 refine ⟨_, rfl, ?_, dl_below hg _ _ _ (pw_below_drewN hB q), dl_kept hP _ _ _ (Kept.drewN (Kept.refl w _) q)⟩
 rw [show l0.length - (i + 1 - i) = l0.length - 1 by omega, Int.toNat_natCast]
 exact Kd.R_mono hT (fun _ hk => .inl hk)

/-! ### impl_StrictOf: function 39 -/
mutual
def impl_StrictOf.l0 : Nat → List Int → List Int → Int → Int → Option (List Int × Bool)
 | 0, _, _, _, _ => none
 | k + 1, x4, x5, x6, x7 => if x7 ≥ x6 then ((slices_Index_int_int.f k x4 x7).bind fun t385 => ((slices_Delete_int_int.f x4 t385 (wrap64 (t385 + 1))).bind fun t386 => (if x5.length < 17592186044416 then (impl_StrictOf.l0 k t386 (x5 ++ [0]) x6 (wrap64 (x7 - 1))) else (none)))) else (impl_StrictOf.l1 k x5 x4 (x4.length : Int) 0)
def impl_StrictOf.l1 : Nat → List Int → List Int → Int → Int → Option (List Int × Bool)
 | 0, _, _, _, _ => none
 | k + 1, x5, x36, x37, x38 => if x38 < x37 then (if 0 ≤ x38 then (if x38 < (x36.length : Int) then (if x5.length < 17592186044416 then (impl_StrictOf.l1 k (x5 ++ [wrap64 ((rd x36 x38) + (x5.length : Int))]) x36 x37 (wrap64 (x38 + 1))) else (none)) else (none)) else (none)) else (some (x5, true))
end
def impl_StrictOf.f (k : Nat) (l0 : List Int) : Option (List Int × Bool) := (impl_AreLengths.f k l0).bind fun t377 => (if t377 = true then ((impl_factors.f k l0).bind fun t378 => (if 0 < (t378.length : Int) then (impl_StrictOf.l0 k t378 (([] : List Int)) (rd t378 0) 0) else (none))) else (some (([] : List Int), false)))
theorem impl_StrictOf.mono_l : ∀ k, (∀ y0 y1 y2 y3, LeO (impl_StrictOf.l0 k y0 y1 y2 y3) (impl_StrictOf.l0 (k + 1) y0 y1 y2 y3)) ∧ (∀ y0 y1 y2 y3, LeO (impl_StrictOf.l1 k y0 y1 y2 y3) (impl_StrictOf.l1 (k + 1) y0 y1 y2 y3))
 | 0 => ⟨fun _ _ _ _ r h => by simp [impl_StrictOf.l0] at h, fun _ _ _ _ r h => by simp [impl_StrictOf.l1] at h⟩
 | k + 1 => by
  obtain ⟨ih0, ih1⟩ := impl_StrictOf.mono_l k
  refine ⟨?_, ?_⟩
  ·
   intro y0 y1 y2 y3
   unfold impl_StrictOf.l0
   repeat' first
   | (with_reducible exact ih0 _ _ _ _)
   | (with_reducible exact ih1 _ _ _ _)
   | (with_reducible exact impl_AreLengths.mono _ _)
   | (with_reducible exact impl_factors.mono _ _)
   | (with_reducible exact slices_Index_int_int.mono _ _ _)
   | (with_reducible exact LeO.refl _)
   | (with_reducible exact LeO.none _)
   | (with_reducible refine LeO.ite ?_ ?_)
   | (with_reducible refine LeO.bind ?_ (fun _ => ?_))
   | exact ih0 _ _ _ _
   | exact ih1 _ _ _ _
   | exact impl_AreLengths.mono _ _
   | exact impl_factors.mono _ _
   | exact slices_Index_int_int.mono _ _ _
   | exact LeO.none _
   | refine LeO.ite ?_ ?_
   | refine LeO.bind ?_ (fun _ => ?_)
  ·
   intro y0 y1 y2 y3
   unfold impl_StrictOf.l1
   repeat' first
   | (with_reducible exact ih0 _ _ _ _)
   | (with_reducible exact ih1 _ _ _ _)
   | (with_reducible exact impl_AreLengths.mono _ _)
   | (with_reducible exact impl_factors.mono _ _)
   | (with_reducible exact slices_Index_int_int.mono _ _ _)
   | (with_reducible exact LeO.refl _)
   | (with_reducible exact LeO.none _)
   | (with_reducible refine LeO.ite ?_ ?_)
   | (with_reducible refine LeO.bind ?_ (fun _ => ?_))
   | exact ih0 _ _ _ _
   | exact ih1 _ _ _ _
   | exact impl_AreLengths.mono _ _
   | exact impl_factors.mono _ _
   | exact slices_Index_int_int.mono _ _ _
   | exact LeO.none _
   | refine LeO.ite ?_ ?_
   | refine LeO.bind ?_ (fun _ => ?_)
theorem impl_StrictOf.mono : ∀ a0 k, LeO (impl_StrictOf.f k a0) (impl_StrictOf.f (k + 1) a0) := by
 intro a0 k
 obtain ⟨ih0, ih1⟩ := impl_StrictOf.mono_l k
 unfold impl_StrictOf.f
 repeat' first
   | (with_reducible exact ih0 _ _ _ _)
   | (with_reducible exact ih1 _ _ _ _)
   | (with_reducible exact impl_AreLengths.mono _ _)
   | (with_reducible exact impl_factors.mono _ _)
   | (with_reducible exact slices_Index_int_int.mono _ _ _)
   | (with_reducible exact LeO.refl _)
   | (with_reducible exact LeO.none _)
   | (with_reducible refine LeO.ite ?_ ?_)
   | (with_reducible refine LeO.bind ?_ (fun _ => ?_))
   | exact ih0 _ _ _ _
   | exact ih1 _ _ _ _
   | exact impl_AreLengths.mono _ _
   | exact impl_factors.mono _ _
   | exact slices_Index_int_int.mono _ _ _
   | exact LeO.none _
   | refine LeO.ite ?_ ?_
   | refine LeO.bind ?_ (fun _ => ?_)
set_option maxHeartbeats 8000000 in
set_option maxRecDepth 100000 in
theorem impl_StrictOf.calls (k : Nat) (A0 : Option Addr) (c0 : Nat) (l0 : List Int) (r1 : List Int) (r2 : Bool) (w : World) (hr0 : Kd.C (Kd.int .i64) w A0 l0.length l0) (hc0 : l0.length ≤ c0) (h : impl_StrictOf.f k l0 = some (r1, r2)) :
  Calls Try.prog 39 #[.slice A0 l0.length c0] w fun e w' => ∃ v0_ : Value, e = .returned (.tuple #[v0_, .bool r2]) ∧ Kd.R (Kd.int .i64) 3 w' w.heap.size (fun _ => True) v0_ r1 ∧ Below w.heap.size w w' := by
 have HR0 := Aside0.mk hr0
 have HC0 := Aside0.mk hc0
 clear hr0 hc0
 have HB := am (Below.refl w.heap.size w)
 have H : ((impl_AreLengths.f k l0).bind fun t377 => (if t377 = true then ((impl_factors.f k l0).bind fun t378 => (if 0 < (t378.length : Int) then (impl_StrictOf.l0 k t378 (([] : List Int)) (rd t378 0) 0) else (none))) else (some (([] : List Int), false)))) = some (r1, r2) := h
 clear h
 replace H := Option.bind_eq_some_iff.mp H
 obtain ⟨t377, A20, H⟩ := H
 replace H : (if t377 = true then ((impl_factors.f k l0).bind fun t378 => (if 0 < (t378.length : Int) then (impl_StrictOf.l0 k t378 (([] : List Int)) (rd t378 0) 0) else (none))) else (some (([] : List Int), false))) = some (r1, r2) := H
 have A2 := Aside0.mk A20
 clear A20
 by_cases c3 : t377 = true
 ·
  subst c3
  have H1 : ((impl_factors.f k l0).bind fun t378 => (if 0 < (t378.length : Int) then (impl_StrictOf.l0 k t378 (([] : List Int)) (rd t378 0) 0) else (none))) = some (r1, r2) := by first | (rw [if_pos rfl] at H; exact H) | rfl
  clear H
  have H := H1
  clear H1
  replace H := Option.bind_eq_some_iff.mp H
  obtain ⟨t378, A40, H⟩ := H
  replace H : (if 0 < (t378.length : Int) then (impl_StrictOf.l0 k t378 (([] : List Int)) (rd t378 0) 0) else (none)) = some (r1, r2) := H
  have A4 := Aside0.mk A40
  clear A40
  obtain ⟨y381, hy381⟩ : ∃ y_ : List Int, y_ = (([] : List Int)) := ⟨_, rfl⟩
  replace H : (if 0 < (t378.length : Int) then (impl_StrictOf.l0 k t378 y381 (rd t378 0) 0) else (none)) = some (r1, r2) := by first | (rw [hy381]; with_reducible exact H) | (have H2_ := (Option.bind_some _ _).symm.trans H; rw [hy381]; with_reducible exact H2_) | (have H2_ := (Option.bind_some _ _).symm.trans H; with_reducible exact H2_) | with_reducible exact H | (rw [hy381]; exact H) | exact H
  have Ny381 := Aside0.mk hy381
  clear hy381
  by_cases c5 : 0 < (t378.length : Int)
  ·
   rw [if_pos c5] at H
   have c5b0 : decide (0 < (t378.length : Int)) = true := decide_eq_true c5
   have c5b1 : decide (0 < t378.length) = true := decide_eq_true (by omega)
   clear c5
   have H' := Aside0.mk H
   clear H
   go_enter Try.func39, Try.ntmps39
   go_wp2_with (first | ((with_reducible refine gate_callee (f := 25) rfl ?_); refine goesL_ (some 12) rfl rfl Try.func25 (by kernel_rfl) rfl #[.slice A0 l0.length c0] rfl (by (try simp only [List.map_toArray, List.map_cons, List.map_nil]); try rfl) ?_; (with_reducible refine (impl_AreLengths.calls k _ _ l0 true _ ?side1 ?side2 A2.out).mono ?_); (case side1 => repeat (first | exact HR0.out | (with_reducible first | refine Kd.C_alloc ?_ _ | refine Kd.C_drewN ?_ _ | refine Kd.C_drew ?_))); (case side2 => exact HC0.out); rintro e w' ⟨rfl, ⟨nd, rfl⟩⟩; refine ⟨_, rfl, ?_⟩) | ((with_reducible refine gate_callee (f := 108) rfl ?_); refine goesL_ (some 15) rfl rfl Try.func108 (by kernel_rfl) rfl #[.slice A0 l0.length c0] rfl (by (try simp only [List.map_toArray, List.map_cons, List.map_nil]); try rfl) ?_; (with_reducible refine (impl_factors.calls k _ _ l0 t378 _ ?side1 ?side2 A4.out).mono ?_); (case side1 => repeat (first | exact HR0.out | (with_reducible first | refine Kd.C_alloc ?_ _ | refine Kd.C_drewN ?_ _ | refine Kd.C_drew ?_))); (case side2 => exact HC0.out); rintro e w6 ⟨v379, rfl, ho0, hb⟩; refine ⟨_, rfl, ?_⟩; have n0_ := am (Kd.R_lower ho0 (below_size (by repeat with_reducible first | exact HB.out | apply pw_below_drewN | apply below_drew1))); have n1_ := am (below_step (by repeat with_reducible first | exact HB.out | apply pw_below_drewN | apply below_drew1) hb); clear HB; have Oq0 := n0_; have HB := n1_; clear n0_ n1_; (try clear hb); (try clear hb2); (try clear hk); (try clear hi); (try clear ho0)) | ((with_reducible refine gate_dst (N := 16) rfl ?_); refine Kd.R_lit (Kd.int .i64) _ 3 ?hg (N := 16) ?hd (xs := ([] : List Int)) (inner := []) (ok := fun _ => True) (okp := fun _ => True) ?hr ?hp (fun _ hk => hk) trivial (Below.refl _ _) (Nat.le_refl _) (by simp) ?_; (case hd => rfl); (case hg => rfl); (case hr => first | (go_simp; done) | (go_simp; rfl)); (case hp => exact (Reps.none _ _)); intro v382 w7 ho8 hb hg_ hnew_; clear hg_ hnew_; (first | rw [← Ny381.out] at ho8 | (simp only [Int.reduceToNat] at ho8; rw [← Ny381.out] at ho8)); have n0_ := am (Kd.R_elder' (sqr Oq0) (Kd.R_base ho8) hb); have n1_ := am (Kd.R_lower (Kd.R_new' ho8 (sqL Oq0)) (below_size (by repeat with_reducible first | exact HB.out | apply pw_below_drewN | apply below_drew1))); have n2_ := am (below_step (by repeat with_reducible first | exact HB.out | apply pw_below_drewN | apply below_drew1) hb); clear Oq0; clear HB; have Oq0 := n0_; have Oq1 := n1_; have HB := n2_; clear n0_ n1_ n2_; clear hb ho8; obtain ⟨Ao9, co9, eo9⟩ := Kd.R_slice Oq0.out; subst eo9; have p384 : 0 ≤ (0 : Int) := (by omega); have q384 : 0 < (t378.length : Int) := of_decide_eq_true (by first | (with_reducible assumption) | assumption); obtain ⟨ad384, e384, hx384_0⟩ := Kd.at_int (Kd.R_reads' Oq0.out).2.2 0 p384 q384; cases e384; have qi384 : (0 < t378.length) = True := eq_true (by omega); (try rw [show ((0 : Int)).toNat = 0 from rfl] at hx384_0); (try rw [Addr.add_zero'] at hx384_0); replace p384 := eq_true p384; replace q384 := eq_true q384))
   go_loopg [4, 5, 7] k (fun kq v4 v5 v7 w' => ∃ (x4_1 : List Int) (x5_1 : List Int) (x7_1 : Int), v7 = .int .i64 x7_1 ∧ Aside0 (impl_StrictOf.l0 kq x4_1 x5_1 (rd t378 0) x7_1 = some (r1, r2)) ∧ Aside0 (kq ≤ k) ∧ Aside0 (Kd.R (Kd.int .i64) 3 w' w.heap.size (fun k_ => some k_ ≠ (v5 : Value).ownBlock) v4 x4_1) ∧ Aside0 (Kd.R (Kd.int .i64) 3 w' w.heap.size (fun k_ => some k_ ≠ (v4 : Value).ownBlock) v5 x5_1) ∧ Aside0 (Below w.heap.size w w'))
   case atStart => exact ⟨(t378), (y381), (0), (by first | rfl | (simp; done) | (simp [*]; done)), H', ⟨Nat.le_refl _⟩, ⟨by exact sqm Oq0 (fun _ hk => hk.2)⟩, ⟨by exact sqm Oq1 (fun _ hk => hk.2)⟩, ⟨by repeat with_reducible first | exact HB.out | apply pw_below_drewN | apply below_drew1⟩⟩
   case round =>
    clear H'
    try clear c1; try clear c2; try clear p2; try clear c3; try clear p3; try clear q3; try clear hx3; try clear qi3; try clear c5; try clear c5b0; try clear c5b1; try clear hx384_0; try clear p384; try clear q384
    obtain ⟨x4_1, x5_1, x7_1, rfl, HA, HK1, Oq11, Oq12, HB⟩ := hrel
    cases gk with
    | zero => exact absurd HA.out (by simp [impl_StrictOf.l0])
    | succ k1 =>
     have H := HA.out
     clear HA
     simp only [impl_StrictOf.l0] at H
     by_cases c10 : x7_1 ≥ (rd t378 0)
     ·
      rw [if_pos c10] at H
      have c10b0 : decide ((rd t378 0) ≤ x7_1) = true := decide_eq_true c10
      clear c10
      replace H := Option.bind_eq_some_iff.mp H
      obtain ⟨t385, A110, H⟩ := H
      replace H : ((slices_Delete_int_int.f x4_1 t385 (wrap64 (t385 + 1))).bind fun t386 => (if x5_1.length < 17592186044416 then (impl_StrictOf.l0 k1 t386 (x5_1 ++ [0]) (rd t378 0) (wrap64 (x7_1 - 1))) else (none))) = some (r1, r2) := H
      have A11 := Aside0.mk A110
      clear A110
      replace H := Option.bind_eq_some_iff.mp H
      obtain ⟨t386, A120, H⟩ := H
      replace H : (if x5_1.length < 17592186044416 then (impl_StrictOf.l0 k1 t386 (x5_1 ++ [0]) (rd t378 0) (wrap64 (x7_1 - 1))) else (none)) = some (r1, r2) := H
      have A12 := Aside0.mk A120
      clear A120
      by_cases c13 : x5_1.length < 17592186044416
      ·
       rw [if_pos c13] at H
       have LMc13 := Aside0.mk c13
       clear c13
       obtain ⟨y389, hy389⟩ : ∃ y_ : List Int, y_ = (x5_1 ++ [0]) := ⟨_, rfl⟩
       replace H : (impl_StrictOf.l0 k1 t386 y389 (rd t378 0) (wrap64 (x7_1 - 1))) = some (r1, r2) := by first | (rw [hy389]; with_reducible exact H) | (have H2_ := (Option.bind_some _ _).symm.trans H; rw [hy389]; with_reducible exact H2_) | (have H2_ := (Option.bind_some _ _).symm.trans H; with_reducible exact H2_) | with_reducible exact H | (rw [hy389]; exact H) | exact H
       have Ny389 := Aside0.mk hy389
       clear hy389
       have H' := Aside0.mk H
       clear H
       obtain ⟨Ao14, co14, eo14⟩ := Kd.R_slice Oq11.out
       subst eo14
       go_wp2_with (first | ((with_reducible refine gate_callee (f := 131) rfl ?_); refine goesL_ (some 27) rfl rfl Try.func131 (by kernel_rfl) rfl #[.slice Ao14 x4_1.length co14, .int .i64 x7_1] rfl (by (try simp only [List.map_toArray, List.map_cons, List.map_nil]); try rfl) ?_; (with_reducible refine (slices_Index_int_int.calls k1 _ _ x4_1 x7_1 t385 _ ?side1 ?side2 A11.out).mono ?_); (case side1 => repeat (first | exact (Kd.R_reads' Oq11.out).2.2 | (with_reducible first | refine Kd.C_alloc ?_ _ | refine Kd.C_drewN ?_ _ | refine Kd.C_drew ?_))); (case side2 => exact (Kd.R_reads' Oq11.out).2.1); rintro e w' ⟨rfl, ⟨nd, rfl⟩⟩; refine ⟨_, rfl, ?_⟩) | ((with_reducible refine gate_callee (f := 132) rfl ?_); refine goesL_ (some 32) rfl rfl Try.func132 (by kernel_rfl) rfl #[.slice Ao14 x4_1.length co14, .int .i64 t385, .int .i64 (wrap64 (t385 + 1))] rfl (by (try simp only [List.map_toArray, List.map_cons, List.map_nil]); try rfl) ?_; (with_reducible refine (slices_Delete_int_int.calls (fun k_ => some k_ = (.slice Ao14 x4_1.length co14 : Value).ownBlock) (.slice Ao14 x4_1.length co14) x4_1 t385 (wrap64 (t385 + 1)) t386 w _ ?side1 ?side2 A12.out).mono ?_); (case side1 => repeat (first | (with_reducible first | exact HB.out | apply below_alloc | apply pw_below_drewN | apply below_drew1) | exact HB.out)); (case side2 => exact Kd.R_tight rfl Oq11.out); rintro e w15 ⟨v387, rfl, ho0, hb, hkp⟩; refine ⟨_, rfl, ?_⟩; have n0_ := am (Kd.R_mono (ok' := fun k_ => some k_ ≠ (v387 : Value).ownBlock) (Kd.R_keptB (Oq12.out) hkp (fun k_ hk_ hs_ => (hk_) hs_)) (fun k_ hk_ => fun e_ => Or.elim (ho0.1 k_ e_.symm) (fun hs_ => hk_.2.1 hs_) (fun hn_ => Nat.not_le.2 hk_.2.2 hn_))); have n1_ := am (Kd.R_mono (ok' := fun k_ => some k_ ≠ (u5 : Value).ownBlock) ho0 (fun k_ hk_ => Or.elim hk_ (fun hs_ => fun e_ => (((Oq12.out).1 k_ e_.symm)) hs_) (fun hn_ => (Kd.fresh' (sqL Oq12) k_ hn_)))); have n2_ := am (hb); clear Oq12; clear HB; clear Oq11; have Oq12 := n0_; have Oq2 := n1_; have HB := n2_; clear n0_ n1_ n2_; (try clear hb); (try clear hkp); (try clear ho0)) | ((with_reducible refine gate_builtin (b := .append) (xs := #[.tmp 33, .tmp 34]) rfl ?_); at_builtin; refine Kd.R_append (Kd.int .i64) (w0 := w) w.heap.size rfl (.tmp 33) (.tmp 34) 24 3 (.int .i64 0) 8 rfl Try.underlying24 info3 rfl (by decide) (by omega) u5 x5_1 0 [.int .i64 0] (fun k_ => some k_ ≠ (v387 : Value).ownBlock) (fun _ => False) rfl rfl ?aP (fun _ hk => hk.elim) ?aF ?aO ?aB ?aS ?aL ?_; (case aP => exact rfl); (case aB => exact (by repeat with_reducible first | exact HB.out | apply pw_below_drewN | apply below_drew1)); (case aF => exact (fun k_ hk => Kd.fresh' (sqL Oq2) k_ hk)); (case aO => exact (sqr Oq12)); (case aS => exact (below_size (by repeat with_reducible first | exact HB.out | apply pw_below_drewN | apply below_drew1))); (case aL => have := LMc13.out; omega); intro v390 w16 ho hb hg hat; rw [← Ny389.out] at ho; have n0_ := am (Kd.R_after (ok := (fun _ => True)) (by exact sqm Oq2 (fun _ hk => ⟨trivial, hk⟩)) hg hat); have n1_ := am (hb); have n2_ := am (ho); clear Oq2; clear HB; clear Oq12; have Oq2 := n0_; have HB := n1_; have Oq3 := n2_; clear n0_ n1_ n2_; clear ho hb hg hat))
       go_roundg k1
       case measure => have := HK1.out; omega
       case rel => exact ⟨(t386), (y389), (wrap64 (x7_1 - 1)), (by first | rfl | (simp; done) | (simp [*]; done)), H', ⟨by have := HK1.out; omega⟩, ⟨by exact sqm Oq2 (fun _ hk => hk.2)⟩, ⟨by (with_reducible repeat (first | apply Kd.R_alloc | apply Kd.R_drewN | apply Kd.R_drew)); exact Oq3.out⟩, ⟨by repeat with_reducible first | exact HB.out | apply pw_below_drewN | apply below_drew1⟩⟩
      ·
       rw [if_neg c13] at H
       exact absurd H (by simp)
     ·
      rw [if_neg c10] at H
      have c10b0 : decide ((rd t378 0) ≤ x7_1) = false := decide_eq_false c10
      clear c10
      have H' := Aside0.mk H
      clear H
      obtain ⟨Ao17, co17, eo17⟩ := Kd.R_slice Oq11.out
      subst eo17
      go_wp2
      go_loopg [5, 38] k1 (fun kq v5 v38 w' => ∃ (x5_2 : List Int) (x38_2 : Int), v38 = .int .i64 x38_2 ∧ Aside0 (impl_StrictOf.l1 kq x5_2 x4_1 (x4_1.length : Int) x38_2 = some (r1, r2)) ∧ Aside0 (kq ≤ k1) ∧ Aside0 (Kd.R (Kd.int .i64) 3 w' w.heap.size (fun k_ => some k_ ≠ ((.slice Ao17 x4_1.length co17) : Value).ownBlock) v5 x5_2) ∧ Aside0 (Kd.R (Kd.int .i64) 3 w' w.heap.size (fun k_ => some k_ ≠ (v5 : Value).ownBlock) (.slice Ao17 x4_1.length co17) x4_1) ∧ Aside0 (Below w.heap.size w w'))
      case atStart => exact ⟨(x5_1), (0), (by first | rfl | (simp; done) | (simp [*]; done)), H', ⟨Nat.le_refl _⟩, ⟨by (with_reducible repeat (first | apply Kd.R_alloc | apply Kd.R_drewN | apply Kd.R_drew)); exact Oq12.out⟩, ⟨by (with_reducible repeat (first | apply Kd.R_alloc | apply Kd.R_drewN | apply Kd.R_drew)); exact Oq11.out⟩, ⟨by repeat with_reducible first | exact HB.out | apply pw_below_drewN | apply below_drew1⟩⟩
      case round =>
       clear H'
       try clear c1; try clear c2; try clear p2; try clear c3; try clear p3; try clear q3; try clear hx3; try clear qi3; try clear c5; try clear c5b0; try clear c5b1; try clear p6; try clear c10; try clear c10b0; try clear c13; try clear hx384_0; try clear p2; try clear p3; try clear p384; try clear q3; try clear q384
       obtain ⟨x5_2, x38_2, rfl, HA, HK2, Oq12, Oq10, HB⟩ := hrel
       cases gk with
       | zero => exact absurd HA.out (by simp [impl_StrictOf.l1])
       | succ k2 =>
        have H := HA.out
        clear HA
        simp only [impl_StrictOf.l1] at H
        by_cases c18 : x38_2 < (x4_1.length : Int)
        ·
         rw [if_pos c18] at H
         have c18b0 : decide (x38_2 < (x4_1.length : Int)) = true := decide_eq_true c18
         clear c18
         by_cases c19 : 0 ≤ x38_2
         ·
          rw [if_pos c19] at H
          have c19b0 : decide (0 ≤ x38_2) = true := decide_eq_true c19
          clear c19
          by_cases c20 : x38_2 < (x4_1.length : Int)
          ·
           rw [if_pos c20] at H
           have c20b0 : decide (x38_2 < (x4_1.length : Int)) = true := decide_eq_true c20
           clear c20
           by_cases c21 : x5_2.length < 17592186044416
           ·
            rw [if_pos c21] at H
            have LMc21 := Aside0.mk c21
            clear c21
            obtain ⟨y393, hy393⟩ : ∃ y_ : List Int, y_ = (x5_2 ++ [wrap64 ((rd x4_1 x38_2) + (x5_2.length : Int))]) := ⟨_, rfl⟩
            replace H : (impl_StrictOf.l1 k2 y393 x4_1 (x4_1.length : Int) (wrap64 (x38_2 + 1))) = some (r1, r2) := by first | (rw [hy393]; with_reducible exact H) | (have H2_ := (Option.bind_some _ _).symm.trans H; rw [hy393]; with_reducible exact H2_) | (have H2_ := (Option.bind_some _ _).symm.trans H; with_reducible exact H2_) | with_reducible exact H | (rw [hy393]; exact H) | exact H
            have Ny393 := Aside0.mk hy393
            clear hy393
            have H' := Aside0.mk H
            clear H
            have p392 : 0 ≤ (x38_2 : Int) := of_decide_eq_true (by first | (with_reducible assumption) | assumption)
            have q392 : x38_2 < (x4_1.length : Int) := of_decide_eq_true (by first | (with_reducible assumption) | assumption)
            obtain ⟨ad392, e392, hx392_0⟩ := Kd.at_int (Kd.R_reads' Oq10.out).2.2 x38_2 p392 q392
            cases e392
            replace p392 := eq_true p392
            replace q392 := eq_true q392
            obtain ⟨Ao22, co22, eo22⟩ := Kd.R_slice Oq12.out
            subst eo22
            go_wp2_with (first | ((with_reducible refine gate_builtin (b := .append) (xs := #[.tmp 42, .tmp 47]) rfl ?_); at_builtin; refine Kd.R_append (Kd.int .i64) (w0 := w) w.heap.size rfl (.tmp 42) (.tmp 47) 24 3 (.int .i64 0) 8 rfl Try.underlying24 info3 rfl (by decide) (by omega) (.slice Ao22 x5_2.length co22) x5_2 (wrap64 ((rd x4_1 x38_2) + (x5_2.length : Int))) [.int .i64 (wrap64 ((rd x4_1 x38_2) + (x5_2.length : Int)))] (fun k_ => some k_ ≠ (.slice (some ad392) x4_1.length co17 : Value).ownBlock) (fun _ => False) rfl rfl ?aP (fun _ hk => hk.elim) ?aF ?aO ?aB ?aS ?aL ?_; (case aP => exact rfl); (case aB => exact (by repeat with_reducible first | exact HB.out | apply pw_below_drewN | apply below_drew1)); (case aF => exact (fun k_ hk => Kd.fresh' (sqL Oq10) k_ hk)); (case aO => exact (sqr Oq12)); (case aS => exact (below_size (by repeat with_reducible first | exact HB.out | apply pw_below_drewN | apply below_drew1))); (case aL => have := LMc21.out; omega); intro v394 w23 ho hb hg hat; rw [← Ny393.out] at ho; have n0_ := am (Kd.R_after (ok := (fun _ => True)) (by exact sqm Oq10 (fun _ hk => ⟨trivial, hk⟩)) hg hat); have n1_ := am (hb); have n2_ := am (ho); clear Oq10; clear HB; clear Oq12; have Oq10 := n0_; have HB := n1_; have Oq4 := n2_; clear n0_ n1_ n2_; clear ho hb hg hat))
            go_roundg k2
            case measure => have := HK1.out; have := HK2.out; omega
            case rel => exact ⟨(y393), (wrap64 (x38_2 + 1)), (by first | rfl | (simp; done) | (simp [*]; done)), H', ⟨by have := HK1.out; have := HK2.out; omega⟩, ⟨by (with_reducible repeat (first | apply Kd.R_alloc | apply Kd.R_drewN | apply Kd.R_drew)); exact Oq4.out⟩, ⟨by exact sqm Oq10 (fun _ hk => hk.2)⟩, ⟨by repeat with_reducible first | exact HB.out | apply pw_below_drewN | apply below_drew1⟩⟩
           ·
            rw [if_neg c21] at H
            exact absurd H (by simp)
          ·
           rw [if_neg c20] at H
           exact absurd H (by simp)
         ·
          rw [if_neg c19] at H
          exact absurd H (by simp)
        ·
         rw [if_neg c18] at H
         have c18b0 : decide (x38_2 < (x4_1.length : Int)) = false := decide_eq_false c18
         clear c18
         simp only [Option.some.injEq, Prod.mk.injEq] at H
         obtain ⟨rfl, rfl⟩ := H
         go_wp2
         go_ret2
         exact ⟨_, by first | rfl | (simp [errW_none, errW_some] <;> rfl) | (simp [*, errW_none, errW_some] <;> rfl), by exact sqm Oq12 (fun _ hk => trivial), by repeat with_reducible first | exact HB.out | apply pw_below_drewN | apply below_drew1⟩
  ·
   rw [if_neg c5] at H
   exact absurd H (by simp)
 ·
  replace c3 := Bool.eq_false_iff.mpr c3
  subst c3
  have H1 : (some (([] : List Int), false)) = some (r1, r2) := by first | (rw [if_neg (show ¬ (false = true) by decide)] at H; exact H) | rfl
  clear H
  have H := H1
  clear H1
  simp only [Option.some.injEq, Prod.mk.injEq] at H
  obtain ⟨rfl, rfl⟩ := H
  go_enter Try.func39, Try.ntmps39
  go_wp2_with (first | ((with_reducible refine gate_callee (f := 25) rfl ?_); refine goesL_ (some 12) rfl rfl Try.func25 (by kernel_rfl) rfl #[.slice A0 l0.length c0] rfl (by (try simp only [List.map_toArray, List.map_cons, List.map_nil]); try rfl) ?_; (with_reducible refine (impl_AreLengths.calls k _ _ l0 false _ ?side1 ?side2 A2.out).mono ?_); (case side1 => repeat (first | exact HR0.out | (with_reducible first | refine Kd.C_alloc ?_ _ | refine Kd.C_drewN ?_ _ | refine Kd.C_drew ?_))); (case side2 => exact HC0.out); rintro e w' ⟨rfl, ⟨nd, rfl⟩⟩; refine ⟨_, rfl, ?_⟩))
  go_ret2
  exact ⟨_, by first | rfl | (simp [errW_none, errW_some] <;> rfl) | (simp [*, errW_none, errW_some] <;> rfl), by first | exact Kd.R_nil _ _ _ _ _ | exact Kd.N_nil _ _ _ _ _ | exact Kd.V_nil _ _ _ _ _ | exact Kd.Q_nil _ _ _ _ _ | exact Kd.S_nil _ _ _ _ _, by repeat with_reducible first | exact HB.out | apply pw_below_drewN | apply below_drew1⟩

/-! ### spec_l1Most: function 116 -/
def spec_l1Most.f (a0 : Int) (a1 : Int) : Option (Int) := if a0 > a1 then (some a0) else (some a1)
set_option maxHeartbeats 8000000 in
set_option maxRecDepth 100000 in
theorem spec_l1Most.calls (a0 : Int) (a1 : Int) (r : Int) (w : World) (h : spec_l1Most.f a0 a1 = some r) :
  Calls Try.prog 116 #[.int .i64 a0, .int .i64 a1] w fun e w' => e = .returned (.int .i64 r) ∧ Drawn0 w w' := by
 have H : (if a0 > a1 then (some a0) else (some a1)) = some r := h
 clear h
 by_cases c3 : a0 > a1
 ·
  rw [if_pos c3] at H
  have c3b0 : decide (a1 < a0) = true := decide_eq_true c3
  clear c3
  obtain rfl := Option.some.inj H
  go_enter Try.func116, Try.ntmps116
  go_wp2
  go_ret
  exact ⟨by first | rfl | (simp; done) | (simp [*]; done), by repeat (first | exact Drawn0.refl _ | apply Drawn0.step)⟩
 ·
  rw [if_neg c3] at H
  have c3b0 : decide (a1 < a0) = false := decide_eq_false c3
  clear c3
  obtain rfl := Option.some.inj H
  go_enter Try.func116, Try.ntmps116
  go_wp2
  go_ret
  exact ⟨by first | rfl | (simp; done) | (simp [*]; done), by repeat (first | exact Drawn0.refl _ | apply Drawn0.step)⟩

/-! ### spec_StrictOf: function 40 -/
def spec_StrictOf.l0 : Nat → Int → List Int → Int → List Int → Int → Int → Option (List Int × Bool)
 | 0, _, _, _, _, _, _ => none
 | k + 1, x5, x6, x7, x22, x23, x24 => if x24 < x23 then (if 0 ≤ x24 then (if x24 < (x22.length : Int) then (if x7 < x5 then (if (rd x22 x24) = (wrap64 ((wrap64 (1 - x5)) + x7)) then (spec_StrictOf.l0 k x5 x6 (wrap64 (x7 + 1)) x22 x23 (wrap64 (x24 + 1))) else (if x6.length < 17592186044416 then (spec_StrictOf.l0 k x5 (x6 ++ [wrap64 ((rd x22 x24) + (x6.length : Int))]) x7 x22 x23 (wrap64 (x24 + 1))) else (none))) else (if x6.length < 17592186044416 then (spec_StrictOf.l0 k x5 (x6 ++ [wrap64 ((rd x22 x24) + (x6.length : Int))]) x7 x22 x23 (wrap64 (x24 + 1))) else (none))) else (none)) else (none)) else (some (x6, true))
def spec_StrictOf.f (k : Nat) (l0 : List Int) : Option (List Int × Bool) := (spec_feGood.f k l0).bind fun t396 => (if t396 = true then ((spec_feFactors.f k l0).bind fun t397 => (if 0 < (t397.length : Int) then ((spec_l1Most.f 0 (wrap64 (1 - (rd t397 0)))).bind fun t401 => (if 0 ≤ t401 then (if (t401 : Int).toNat ≤ 35184372088832 then (spec_StrictOf.l0 k t401 (List.replicate (t401 : Int).toNat 0) 0 t397 (t397.length : Int) 0) else (none)) else (none))) else (none))) else (some (([] : List Int), false)))
theorem spec_StrictOf.mono_l : ∀ k, (∀ y0 y1 y2 y3 y4 y5, LeO (spec_StrictOf.l0 k y0 y1 y2 y3 y4 y5) (spec_StrictOf.l0 (k + 1) y0 y1 y2 y3 y4 y5))
 | 0 => fun _ _ _ _ _ _ r h => by simp [spec_StrictOf.l0] at h
 | k + 1 => by
  have ih0 := spec_StrictOf.mono_l k
  ·
   intro y0 y1 y2 y3 y4 y5
   unfold spec_StrictOf.l0
   repeat' first
   | (with_reducible exact ih0 _ _ _ _ _ _)
   | (with_reducible exact spec_feFactors.mono _ _)
   | (with_reducible exact spec_feGood.mono _ _)
   | (with_reducible exact LeO.refl _)
   | (with_reducible exact LeO.none _)
   | (with_reducible refine LeO.ite ?_ ?_)
   | (with_reducible refine LeO.bind ?_ (fun _ => ?_))
   | exact ih0 _ _ _ _ _ _
   | exact spec_feFactors.mono _ _
   | exact spec_feGood.mono _ _
   | exact LeO.none _
   | refine LeO.ite ?_ ?_
   | refine LeO.bind ?_ (fun _ => ?_)
theorem spec_StrictOf.mono : ∀ a0 k, LeO (spec_StrictOf.f k a0) (spec_StrictOf.f (k + 1) a0) := by
 intro a0 k
 have ih0 := spec_StrictOf.mono_l k
 unfold spec_StrictOf.f
 repeat' first
   | (with_reducible exact ih0 _ _ _ _ _ _)
   | (with_reducible exact spec_feFactors.mono _ _)
   | (with_reducible exact spec_feGood.mono _ _)
   | (with_reducible exact LeO.refl _)
   | (with_reducible exact LeO.none _)
   | (with_reducible refine LeO.ite ?_ ?_)
   | (with_reducible refine LeO.bind ?_ (fun _ => ?_))
   | exact ih0 _ _ _ _ _ _
   | exact spec_feFactors.mono _ _
   | exact spec_feGood.mono _ _
   | exact LeO.none _
   | refine LeO.ite ?_ ?_
   | refine LeO.bind ?_ (fun _ => ?_)
set_option maxHeartbeats 8000000 in
set_option maxRecDepth 100000 in
theorem spec_StrictOf.calls (k : Nat) (A0 : Option Addr) (c0 : Nat) (l0 : List Int) (r1 : List Int) (r2 : Bool) (w : World) (hr0 : Kd.C (Kd.int .i64) w A0 l0.length l0) (hc0 : l0.length ≤ c0) (h : spec_StrictOf.f k l0 = some (r1, r2)) :
  Calls Try.prog 40 #[.slice A0 l0.length c0] w fun e w' => ∃ v0_ : Value, e = .returned (.tuple #[v0_, .bool r2]) ∧ Kd.R (Kd.int .i64) 3 w' w.heap.size (fun _ => True) v0_ r1 ∧ Below w.heap.size w w' := by
 have HR0 := Aside0.mk hr0
 have HC0 := Aside0.mk hc0
 clear hr0 hc0
 have HB := am (Below.refl w.heap.size w)
 have H : ((spec_feGood.f k l0).bind fun t396 => (if t396 = true then ((spec_feFactors.f k l0).bind fun t397 => (if 0 < (t397.length : Int) then ((spec_l1Most.f 0 (wrap64 (1 - (rd t397 0)))).bind fun t401 => (if 0 ≤ t401 then (if (t401 : Int).toNat ≤ 35184372088832 then (spec_StrictOf.l0 k t401 (List.replicate (t401 : Int).toNat 0) 0 t397 (t397.length : Int) 0) else (none)) else (none))) else (none))) else (some (([] : List Int), false)))) = some (r1, r2) := h
 clear h
 replace H := Option.bind_eq_some_iff.mp H
 obtain ⟨t396, A20, H⟩ := H
 replace H : (if t396 = true then ((spec_feFactors.f k l0).bind fun t397 => (if 0 < (t397.length : Int) then ((spec_l1Most.f 0 (wrap64 (1 - (rd t397 0)))).bind fun t401 => (if 0 ≤ t401 then (if (t401 : Int).toNat ≤ 35184372088832 then (spec_StrictOf.l0 k t401 (List.replicate (t401 : Int).toNat 0) 0 t397 (t397.length : Int) 0) else (none)) else (none))) else (none))) else (some (([] : List Int), false))) = some (r1, r2) := H
 have A2 := Aside0.mk A20
 clear A20
 by_cases c3 : t396 = true
 ·
  subst c3
  have H1 : ((spec_feFactors.f k l0).bind fun t397 => (if 0 < (t397.length : Int) then ((spec_l1Most.f 0 (wrap64 (1 - (rd t397 0)))).bind fun t401 => (if 0 ≤ t401 then (if (t401 : Int).toNat ≤ 35184372088832 then (spec_StrictOf.l0 k t401 (List.replicate (t401 : Int).toNat 0) 0 t397 (t397.length : Int) 0) else (none)) else (none))) else (none))) = some (r1, r2) := by first | (rw [if_pos rfl] at H; exact H) | rfl
  clear H
  have H := H1
  clear H1
  replace H := Option.bind_eq_some_iff.mp H
  obtain ⟨t397, A40, H⟩ := H
  replace H : (if 0 < (t397.length : Int) then ((spec_l1Most.f 0 (wrap64 (1 - (rd t397 0)))).bind fun t401 => (if 0 ≤ t401 then (if (t401 : Int).toNat ≤ 35184372088832 then (spec_StrictOf.l0 k t401 (List.replicate (t401 : Int).toNat 0) 0 t397 (t397.length : Int) 0) else (none)) else (none))) else (none)) = some (r1, r2) := H
  have A4 := Aside0.mk A40
  clear A40
  by_cases c5 : 0 < (t397.length : Int)
  ·
   rw [if_pos c5] at H
   have c5b0 : decide (0 < (t397.length : Int)) = true := decide_eq_true c5
   have c5b1 : decide (0 < t397.length) = true := decide_eq_true (by omega)
   clear c5
   replace H := Option.bind_eq_some_iff.mp H
   obtain ⟨t401, A60, H⟩ := H
   replace H : (if 0 ≤ t401 then (if (t401 : Int).toNat ≤ 35184372088832 then (spec_StrictOf.l0 k t401 (List.replicate (t401 : Int).toNat 0) 0 t397 (t397.length : Int) 0) else (none)) else (none)) = some (r1, r2) := H
   have A6 := Aside0.mk A60
   clear A60
   by_cases c7 : 0 ≤ t401
   ·
    rw [if_pos c7] at H
    have c7b0 := eq_true c7
    have c7b1 : decide (0 ≤ t401) = true := decide_eq_true c7
    clear c7
    by_cases c8 : (t401 : Int).toNat ≤ 35184372088832
    ·
     rw [if_pos c8] at H
     have c8b0 := eq_true c8
     have c8b1 : decide ((t401 : Int).toNat ≤ 35184372088832) = true := decide_eq_true c8
     clear c8
     obtain ⟨y402, hy402⟩ : ∃ y_ : List Int, y_ = (List.replicate (t401 : Int).toNat 0) := ⟨_, rfl⟩
     replace H : (spec_StrictOf.l0 k t401 y402 0 t397 (t397.length : Int) 0) = some (r1, r2) := by first | (rw [hy402]; with_reducible exact H) | (have H2_ := (Option.bind_some _ _).symm.trans H; rw [hy402]; with_reducible exact H2_) | (have H2_ := (Option.bind_some _ _).symm.trans H; with_reducible exact H2_) | with_reducible exact H | (rw [hy402]; exact H) | exact H
     have Ny402 := Aside0.mk hy402
     clear hy402
     have H' := Aside0.mk H
     clear H
     go_enter Try.func40, Try.ntmps40
     go_wp2_with (first | ((with_reducible refine gate_callee (f := 109) rfl ?_); refine goesL_ (some 11) rfl rfl Try.func109 (by kernel_rfl) rfl #[.slice A0 l0.length c0] rfl (by (try simp only [List.map_toArray, List.map_cons, List.map_nil]); try rfl) ?_; (with_reducible refine (spec_feGood.calls k _ _ l0 true _ ?side1 ?side2 A2.out).mono ?_); (case side1 => repeat (first | exact HR0.out | (with_reducible first | refine Kd.C_alloc ?_ _ | refine Kd.C_drewN ?_ _ | refine Kd.C_drew ?_))); (case side2 => exact HC0.out); rintro e w' ⟨rfl, ⟨nd, rfl⟩⟩; refine ⟨_, rfl, ?_⟩) | ((with_reducible refine gate_callee (f := 111) rfl ?_); refine goesL_ (some 14) rfl rfl Try.func111 (by kernel_rfl) rfl #[.slice A0 l0.length c0] rfl (by (try simp only [List.map_toArray, List.map_cons, List.map_nil]); try rfl) ?_; (with_reducible refine (spec_feFactors.calls k _ _ l0 t397 _ ?side1 ?side2 A4.out).mono ?_); (case side1 => repeat (first | exact HR0.out | (with_reducible first | refine Kd.C_alloc ?_ _ | refine Kd.C_drewN ?_ _ | refine Kd.C_drew ?_))); (case side2 => exact HC0.out); rintro e w9 ⟨v398, rfl, ho0, hb⟩; refine ⟨_, rfl, ?_⟩; have n0_ := am (Kd.R_lower ho0 (below_size (by repeat with_reducible first | exact HB.out | apply pw_below_drewN | apply below_drew1))); have n1_ := am (below_step (by repeat with_reducible first | exact HB.out | apply pw_below_drewN | apply below_drew1) hb); clear HB; have Oq5 := n0_; have HB := n1_; clear n0_ n1_; (try clear hb); (try clear hb2); (try clear hk); (try clear hi); (try clear ho0); obtain ⟨Ao10, co10, eo10⟩ := Kd.R_slice Oq5.out; subst eo10; have p400 : 0 ≤ (0 : Int) := (by omega); have q400 : 0 < (t397.length : Int) := of_decide_eq_true (by first | (with_reducible assumption) | assumption); obtain ⟨ad400, e400, hx400_0⟩ := Kd.at_int (Kd.R_reads' Oq5.out).2.2 0 p400 q400; cases e400; have qi400 : (0 < t397.length) = True := eq_true (by omega); (try rw [show ((0 : Int)).toNat = 0 from rfl] at hx400_0); (try rw [Addr.add_zero'] at hx400_0); replace p400 := eq_true p400; replace q400 := eq_true q400) | ((with_reducible refine gate_callee (f := 116) rfl ?_); refine goesL_ (some 19) rfl rfl Try.func116 (by kernel_rfl) rfl #[.int .i64 0, .int .i64 (wrap64 (1 - (rd t397 0)))] rfl (by (try simp only [List.map_toArray, List.map_cons, List.map_nil]); try rfl) ?_; (with_reducible refine (spec_l1Most.calls 0 (wrap64 (1 - (rd t397 0))) t401 _ A6.out).mono ?_); rintro e w' ⟨rfl, ⟨nd, rfl⟩⟩; refine ⟨_, rfl, ?_⟩) | ((with_reducible refine gate_dst (N := 21) rfl ?_); refine Kd.R_make (Kd.int .i64) _ 3 rfl (N := 21) rfl 24 _ _ rfl t401 rfl rfl Try.underlying24 (.int .i64 0) 8 info3 rfl (by decide) (by omega) 0 (ok := fun _ => True) (okp := fun _ => True) rfl (fun _ hk => hk) trivial (of_decide_eq_true (by first | (with_reducible assumption) | assumption)) (Nat.le_trans (Nat.mul_le_mul_right _ (of_decide_eq_true (by first | (with_reducible assumption) | assumption) : t401.toNat ≤ 35184372088832)) (by omega)) (Below.refl _ _) (Nat.le_refl _) ?_; intro v403 w11 ho12 hb hg_ hnew_; clear hg_ hnew_; (first | rw [← Ny402.out] at ho12 | (simp only [Int.reduceToNat] at ho12; rw [← Ny402.out] at ho12)); have n0_ := am (Kd.R_elder' (sqr Oq5) (Kd.R_base ho12) hb); have n1_ := am (Kd.R_lower (Kd.R_new' ho12 (sqL Oq5)) (below_size (by repeat with_reducible first | exact HB.out | apply pw_below_drewN | apply below_drew1))); have n2_ := am (below_step (by repeat with_reducible first | exact HB.out | apply pw_below_drewN | apply below_drew1) hb); clear Oq5; clear HB; have Oq5 := n0_; have Oq6 := n1_; have HB := n2_; clear n0_ n1_ n2_; clear hb ho12))
     go_loopg [6, 7, 24] k (fun kq v6 v7 v24 w' => ∃ (x6_1 : List Int) (x7_1 : Int) (x24_1 : Int), v7 = .int .i64 x7_1 ∧ v24 = .int .i64 x24_1 ∧ Aside0 (spec_StrictOf.l0 kq t401 x6_1 x7_1 t397 (t397.length : Int) x24_1 = some (r1, r2)) ∧ Aside0 (kq ≤ k) ∧ Aside0 (Kd.R (Kd.int .i64) 3 w' w.heap.size (fun k_ => some k_ ≠ ((.slice (some ad400) t397.length co10) : Value).ownBlock) v6 x6_1) ∧ Aside0 (Kd.R (Kd.int .i64) 3 w' w.heap.size (fun k_ => some k_ ≠ (v6 : Value).ownBlock) (.slice (some ad400) t397.length co10) t397) ∧ Aside0 (Below w.heap.size w w'))
     case atStart => exact ⟨(y402), (0), (0), (by first | rfl | (simp; done) | (simp [*]; done)), (by first | rfl | (simp; done) | (simp [*]; done)), H', ⟨Nat.le_refl _⟩, ⟨by exact sqm Oq6 (fun _ hk => hk.2)⟩, ⟨by exact sqm Oq5 (fun _ hk => hk.2)⟩, ⟨by repeat with_reducible first | exact HB.out | apply pw_below_drewN | apply below_drew1⟩⟩
     case round =>
      clear H'
      try clear c1; try clear p2; try clear c3; try clear c4; try clear p4; try clear q4; try clear hx4; try clear qi4; try clear c5; try clear c5b0; try clear c5b1; try clear p6; try clear c7; try clear c7b0; try clear c7b1; try clear c8; try clear c8b0; try clear c8b1; try clear c10; try clear c11; try clear hx400_0; try clear p400; try clear q400
      obtain ⟨x6_1, x7_1, x24_1, rfl, rfl, HA, HK1, Oq13, Oq9, HB⟩ := hrel
      cases gk with
      | zero => exact absurd HA.out (by simp [spec_StrictOf.l0])
      | succ k1 =>
       have H := HA.out
       clear HA
       simp only [spec_StrictOf.l0] at H
       by_cases c13 : x24_1 < (t397.length : Int)
       ·
        rw [if_pos c13] at H
        have c13b0 : decide (x24_1 < (t397.length : Int)) = true := decide_eq_true c13
        clear c13
        by_cases c14 : 0 ≤ x24_1
        ·
         rw [if_pos c14] at H
         have c14b0 : decide (0 ≤ x24_1) = true := decide_eq_true c14
         clear c14
         by_cases c15 : x24_1 < (t397.length : Int)
         ·
          rw [if_pos c15] at H
          have c15b0 : decide (x24_1 < (t397.length : Int)) = true := decide_eq_true c15
          clear c15
          by_cases c16 : x7_1 < t401
          ·
           rw [if_pos c16] at H
           have c16b0 : decide (x7_1 < t401) = true := decide_eq_true c16
           clear c16
           by_cases c17 : (rd t397 x24_1) = (wrap64 ((wrap64 (1 - t401)) + x7_1))
           ·
            rw [if_pos c17] at H
            have c17b0 : ((rd t397 x24_1) == (wrap64 ((wrap64 (1 - t401)) + x7_1))) = true := beq_iff_eq.mpr c17
            have c17b1 : ((rd t397 x24_1) != (wrap64 ((wrap64 (1 - t401)) + x7_1))) = false := bne_eq_false_iff_eq.mpr c17
            clear c17
            have H' := Aside0.mk H
            clear H
            have p405 : 0 ≤ (x24_1 : Int) := of_decide_eq_true (by first | (with_reducible assumption) | assumption)
            have q405 : x24_1 < (t397.length : Int) := of_decide_eq_true (by first | (with_reducible assumption) | assumption)
            obtain ⟨ad405, e405, hx405_0⟩ := Kd.at_int (Kd.R_reads' Oq9.out).2.2 x24_1 p405 q405
            obtain rfl : ad400 = ad405 := (by injection e405)
            replace p405 := eq_true p405
            replace q405 := eq_true q405
            go_wp2
            go_roundg k1
            case measure => have := HK1.out; omega
            case rel => exact ⟨(x6_1), (wrap64 (x7_1 + 1)), (wrap64 (x24_1 + 1)), (by first | rfl | (simp; done) | (simp [*]; done)), (by first | rfl | (simp; done) | (simp [*]; done)), H', ⟨by have := HK1.out; omega⟩, ⟨by (with_reducible repeat (first | apply Kd.R_alloc | apply Kd.R_drewN | apply Kd.R_drew)); exact Oq13.out⟩, ⟨by (with_reducible repeat (first | apply Kd.R_alloc | apply Kd.R_drewN | apply Kd.R_drew)); exact Oq9.out⟩, ⟨by repeat with_reducible first | exact HB.out | apply pw_below_drewN | apply below_drew1⟩⟩
           ·
            rw [if_neg c17] at H
            have c17b0 : ((rd t397 x24_1) == (wrap64 ((wrap64 (1 - t401)) + x7_1))) = false := beq_eq_false_iff_ne.mpr c17
            have c17b1 : ((rd t397 x24_1) != (wrap64 ((wrap64 (1 - t401)) + x7_1))) = true := bne_iff_ne.mpr c17
            by_cases c18 : x6_1.length < 17592186044416
            ·
             rw [if_pos c18] at H
             have LMc18 := Aside0.mk c18
             clear c18
             obtain ⟨y406, hy406⟩ : ∃ y_ : List Int, y_ = (x6_1 ++ [wrap64 ((rd t397 x24_1) + (x6_1.length : Int))]) := ⟨_, rfl⟩
             replace H : (spec_StrictOf.l0 k1 t401 y406 x7_1 t397 (t397.length : Int) (wrap64 (x24_1 + 1))) = some (r1, r2) := by first | (rw [hy406]; with_reducible exact H) | (have H2_ := (Option.bind_some _ _).symm.trans H; rw [hy406]; with_reducible exact H2_) | (have H2_ := (Option.bind_some _ _).symm.trans H; with_reducible exact H2_) | with_reducible exact H | (rw [hy406]; exact H) | exact H
             have Ny406 := Aside0.mk hy406
             clear hy406
             have H' := Aside0.mk H
             clear H
             have p405 : 0 ≤ (x24_1 : Int) := of_decide_eq_true (by first | (with_reducible assumption) | assumption)
             have q405 : x24_1 < (t397.length : Int) := of_decide_eq_true (by first | (with_reducible assumption) | assumption)
             obtain ⟨ad405, e405, hx405_0⟩ := Kd.at_int (Kd.R_reads' Oq9.out).2.2 x24_1 p405 q405
             obtain rfl : ad400 = ad405 := (by injection e405)
             replace p405 := eq_true p405
             replace q405 := eq_true q405
             obtain ⟨Ao19, co19, eo19⟩ := Kd.R_slice Oq13.out
             subst eo19
             go_wp2_with (first | ((with_reducible refine gate_builtin (b := .append) (xs := #[.tmp 41, .tmp 46]) rfl ?_); at_builtin; refine Kd.R_append (Kd.int .i64) (w0 := w) w.heap.size rfl (.tmp 41) (.tmp 46) 24 3 (.int .i64 0) 8 rfl Try.underlying24 info3 rfl (by decide) (by omega) (.slice Ao19 x6_1.length co19) x6_1 (wrap64 ((rd t397 x24_1) + (x6_1.length : Int))) [.int .i64 (wrap64 ((rd t397 x24_1) + (x6_1.length : Int)))] (fun k_ => some k_ ≠ (.slice (some ad400) t397.length co10 : Value).ownBlock) (fun _ => False) rfl rfl ?aP (fun _ hk => hk.elim) ?aF ?aO ?aB ?aS ?aL ?_; (case aP => exact rfl); (case aB => exact (by repeat with_reducible first | exact HB.out | apply pw_below_drewN | apply below_drew1)); (case aF => exact (fun k_ hk => Kd.fresh' (sqL Oq9) k_ hk)); (case aO => exact (sqr Oq13)); (case aS => exact (below_size (by repeat with_reducible first | exact HB.out | apply pw_below_drewN | apply below_drew1))); (case aL => have := LMc18.out; omega); intro v407 w20 ho hb hg hat; rw [← Ny406.out] at ho; have n0_ := am (Kd.R_after (ok := (fun _ => True)) (by exact sqm Oq9 (fun _ hk => ⟨trivial, hk⟩)) hg hat); have n1_ := am (hb); have n2_ := am (ho); clear Oq9; clear HB; clear Oq13; have Oq9 := n0_; have HB := n1_; have Oq7 := n2_; clear n0_ n1_ n2_; clear ho hb hg hat))
             go_roundg k1
             case measure => have := HK1.out; omega
             case rel => exact ⟨(y406), (x7_1), (wrap64 (x24_1 + 1)), (by first | rfl | (simp; done) | (simp [*]; done)), (by first | rfl | (simp; done) | (simp [*]; done)), H', ⟨by have := HK1.out; omega⟩, ⟨by (with_reducible repeat (first | apply Kd.R_alloc | apply Kd.R_drewN | apply Kd.R_drew)); exact Oq7.out⟩, ⟨by exact sqm Oq9 (fun _ hk => hk.2)⟩, ⟨by repeat with_reducible first | exact HB.out | apply pw_below_drewN | apply below_drew1⟩⟩
            ·
             rw [if_neg c18] at H
             exact absurd H (by simp)
          ·
           rw [if_neg c16] at H
           have c16b0 : decide (x7_1 < t401) = false := decide_eq_false c16
           clear c16
           by_cases c21 : x6_1.length < 17592186044416
           ·
            rw [if_pos c21] at H
            have LMc21 := Aside0.mk c21
            clear c21
            obtain ⟨y409, hy409⟩ : ∃ y_ : List Int, y_ = (x6_1 ++ [wrap64 ((rd t397 x24_1) + (x6_1.length : Int))]) := ⟨_, rfl⟩
            replace H : (spec_StrictOf.l0 k1 t401 y409 x7_1 t397 (t397.length : Int) (wrap64 (x24_1 + 1))) = some (r1, r2) := by first | (rw [hy409]; with_reducible exact H) | (have H2_ := (Option.bind_some _ _).symm.trans H; rw [hy409]; with_reducible exact H2_) | (have H2_ := (Option.bind_some _ _).symm.trans H; with_reducible exact H2_) | with_reducible exact H | (rw [hy409]; exact H) | exact H
            have Ny409 := Aside0.mk hy409
            clear hy409
            have H' := Aside0.mk H
            clear H
            have p405 : 0 ≤ (x24_1 : Int) := of_decide_eq_true (by first | (with_reducible assumption) | assumption)
            have q405 : x24_1 < (t397.length : Int) := of_decide_eq_true (by first | (with_reducible assumption) | assumption)
            obtain ⟨ad405, e405, hx405_0⟩ := Kd.at_int (Kd.R_reads' Oq9.out).2.2 x24_1 p405 q405
            obtain rfl : ad400 = ad405 := (by injection e405)
            replace p405 := eq_true p405
            replace q405 := eq_true q405
            obtain ⟨Ao22, co22, eo22⟩ := Kd.R_slice Oq13.out
            subst eo22
            go_wp2_with (first | ((with_reducible refine gate_builtin (b := .append) (xs := #[.tmp 41, .tmp 46]) rfl ?_); at_builtin; refine Kd.R_append (Kd.int .i64) (w0 := w) w.heap.size rfl (.tmp 41) (.tmp 46) 24 3 (.int .i64 0) 8 rfl Try.underlying24 info3 rfl (by decide) (by omega) (.slice Ao22 x6_1.length co22) x6_1 (wrap64 ((rd t397 x24_1) + (x6_1.length : Int))) [.int .i64 (wrap64 ((rd t397 x24_1) + (x6_1.length : Int)))] (fun k_ => some k_ ≠ (.slice (some ad400) t397.length co10 : Value).ownBlock) (fun _ => False) rfl rfl ?aP (fun _ hk => hk.elim) ?aF ?aO ?aB ?aS ?aL ?_; (case aP => exact rfl); (case aB => exact (by repeat with_reducible first | exact HB.out | apply pw_below_drewN | apply below_drew1)); (case aF => exact (fun k_ hk => Kd.fresh' (sqL Oq9) k_ hk)); (case aO => exact (sqr Oq13)); (case aS => exact (below_size (by repeat with_reducible first | exact HB.out | apply pw_below_drewN | apply below_drew1))); (case aL => have := LMc21.out; omega); intro v410 w23 ho hb hg hat; rw [← Ny409.out] at ho; have n0_ := am (Kd.R_after (ok := (fun _ => True)) (by exact sqm Oq9 (fun _ hk => ⟨trivial, hk⟩)) hg hat); have n1_ := am (hb); have n2_ := am (ho); clear Oq9; clear HB; clear Oq13; have Oq9 := n0_; have HB := n1_; have Oq8 := n2_; clear n0_ n1_ n2_; clear ho hb hg hat))
            go_roundg k1
            case measure => have := HK1.out; omega
            case rel => exact ⟨(y409), (x7_1), (wrap64 (x24_1 + 1)), (by first | rfl | (simp; done) | (simp [*]; done)), (by first | rfl | (simp; done) | (simp [*]; done)), H', ⟨by have := HK1.out; omega⟩, ⟨by (with_reducible repeat (first | apply Kd.R_alloc | apply Kd.R_drewN | apply Kd.R_drew)); exact Oq8.out⟩, ⟨by exact sqm Oq9 (fun _ hk => hk.2)⟩, ⟨by repeat with_reducible first | exact HB.out | apply pw_below_drewN | apply below_drew1⟩⟩
           ·
            rw [if_neg c21] at H
            exact absurd H (by simp)
         ·
          rw [if_neg c15] at H
          exact absurd H (by simp)
        ·
         rw [if_neg c14] at H
         exact absurd H (by simp)
       ·
        rw [if_neg c13] at H
        have c13b0 : decide (x24_1 < (t397.length : Int)) = false := decide_eq_false c13
        clear c13
        simp only [Option.some.injEq, Prod.mk.injEq] at H
        obtain ⟨rfl, rfl⟩ := H
        go_wp2
        go_ret2
        exact ⟨_, by first | rfl | (simp [errW_none, errW_some] <;> rfl) | (simp [*, errW_none, errW_some] <;> rfl), by exact sqm Oq13 (fun _ hk => trivial), by repeat with_reducible first | exact HB.out | apply pw_below_drewN | apply below_drew1⟩
    ·
     rw [if_neg c8] at H
     exact absurd H (by simp)
   ·
    rw [if_neg c7] at H
    exact absurd H (by simp)
  ·
   rw [if_neg c5] at H
   exact absurd H (by simp)
 ·
  replace c3 := Bool.eq_false_iff.mpr c3
  subst c3
  have H1 : (some (([] : List Int), false)) = some (r1, r2) := by first | (rw [if_neg (show ¬ (false = true) by decide)] at H; exact H) | rfl
  clear H
  have H := H1
  clear H1
  simp only [Option.some.injEq, Prod.mk.injEq] at H
  obtain ⟨rfl, rfl⟩ := H
  go_enter Try.func40, Try.ntmps40
  go_wp2_with (first | ((with_reducible refine gate_callee (f := 109) rfl ?_); refine goesL_ (some 11) rfl rfl Try.func109 (by kernel_rfl) rfl #[.slice A0 l0.length c0] rfl (by (try simp only [List.map_toArray, List.map_cons, List.map_nil]); try rfl) ?_; (with_reducible refine (spec_feGood.calls k _ _ l0 false _ ?side1 ?side2 A2.out).mono ?_); (case side1 => repeat (first | exact HR0.out | (with_reducible first | refine Kd.C_alloc ?_ _ | refine Kd.C_drewN ?_ _ | refine Kd.C_drew ?_))); (case side2 => exact HC0.out); rintro e w' ⟨rfl, ⟨nd, rfl⟩⟩; refine ⟨_, rfl, ?_⟩))
  go_ret2
  exact ⟨_, by first | rfl | (simp [errW_none, errW_some] <;> rfl) | (simp [*, errW_none, errW_some] <;> rfl), by first | exact Kd.R_nil _ _ _ _ _ | exact Kd.N_nil _ _ _ _ _ | exact Kd.V_nil _ _ _ _ _ | exact Kd.Q_nil _ _ _ _ _ | exact Kd.S_nil _ _ _ _ _, by repeat with_reducible first | exact HB.out | apply pw_below_drewN | apply below_drew1⟩

end Go.Proofs.Ytfgfgkpmkfjeiaa.PFnAlikeLengths
