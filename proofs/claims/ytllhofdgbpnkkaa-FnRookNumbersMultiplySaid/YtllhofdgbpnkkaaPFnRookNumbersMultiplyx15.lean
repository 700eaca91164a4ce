-- Printed for this claim by wip/pp.py over the kit's printer; Lean checks it.
import Derived.Test.YtllhofdgbpnkkaaPFnRookNumbersMultiplyx0
import Derived.Test.YtllhofdgbpnkkaaPFnRookNumbersMultiplyx3
import Derived.Test.YtllhofdgbpnkkaaPFnRookNumbersMultiplyx6
import Derived.Test.YtllhofdgbpnkkaaPFnRookNumbersMultiplyx14
namespace Go.Proofs.Ytllhofdgbpnkkaa.PFnRookNumbersMultiply
open Go.RowKit Go.Proofs.YtllhofdgbpnkkaaW.PrintWords Go.Proofs.YtllhofdgbpnkkaaW.PrintLast Go.Proofs.YtllhofdgbpnkkaaW.PrintMore
attribute [local go_sem] max2_int min2_int max_two min_two max_three min_three max_four min_four   -- for this text's walks alone
set_option linter.unusedVariables false
set_option linter.unusedSimpArgs false

/-! ### impl_AreAlike: function 34 -/
def impl_AreAlike.j0 : Nat → Bool → Int → Int → List Int → Int → Int → List Int → Option (Bool × Bool)
 | 0, _, _, _, _, _, _, _ => none
 | k + 1, x13, x533000, x533001, x533002, x534000, x534001, x534002 => if x13 = true then (some (false, false)) else ((impl_Board_numbers.f x533000 x533001 x533002).bind fun t536 => ((impl_trimmed.f k t536).bind fun t539 => ((impl_Board_numbers.f x534000 x534001 x534002).bind fun t542 => ((impl_trimmed.f k t542).bind fun t545 => ((slices_Equal_int_int.f k t539 t545).bind fun t548 => (some (t548, true)))))))
def impl_AreAlike.f (k : Nat) (a0_0 : Int) (a0_1 : Int) (l0_2 : List Int) (a1_0 : Int) (a1_1 : Int) (l1_2 : List Int) : Option (Bool × Bool) := (impl_IsBoard.f a0_0 a0_1 l0_2).bind fun t534 => (if t534 = true then ((impl_IsBoard.f a1_0 a1_1 l1_2).bind fun t535 => (impl_AreAlike.j0 k (!t535) a0_0 a0_1 l0_2 a1_0 a1_1 l1_2)) else (impl_AreAlike.j0 k true a0_0 a0_1 l0_2 a1_0 a1_1 l1_2))
def impl_AreAlike.T3 : Bool × List (List Nat × List Nat) := (true, [([], []), ([0], [0]), ([1, 1], [1]), ([], []), ([3, 2], [3]), ([4, 4], [4]), ([2, 5, 5], [2, 5]), ([6, 6, 0, 1, 2, 3, 4, 5, 6], [6]), ([7, 0, 1, 2, 3, 4, 5, 6, 7], [])])
def impl_AreAlike.B3 : List Nat := [0, 1, 3, 0, 15, 31, 63, 127, 255]
theorem impl_AreAlike.tab3 : rtab .any (opsOf Try.f34 3) = impl_AreAlike.T3 := by kernel_rfl
theorem impl_AreAlike.bits3 : waitsOk impl_AreAlike.T3.2 impl_AreAlike.B3 = true := by kernel_rfl
set_option maxHeartbeats 8000000 in
set_option maxRecDepth 100000 in
theorem impl_AreAlike.calls (k : Nat) (a0_0 : Int) (a0_1 : Int) (A0_2 : Option Addr) (c0_2 : Nat) (l0_2 : List Int) (a1_0 : Int) (a1_1 : Int) (A1_2 : Option Addr) (c1_2 : Nat) (l1_2 : List Int) (r1 : Bool) (r2 : Bool) (w : World) (hr0_2 : Kd.C (Kd.int .i64) w A0_2 l0_2.length l0_2) (hc0_2 : l0_2.length ≤ c0_2) (hr1_2 : Kd.C (Kd.int .i64) w A1_2 l1_2.length l1_2) (hc1_2 : l1_2.length ≤ c1_2) (h : impl_AreAlike.f k a0_0 a0_1 l0_2 a1_0 a1_1 l1_2 = some (r1, r2)) :
  Calls Try.prog 34 #[.agg #[.int .i64 a0_0, .int .i64 a0_1, .slice A0_2 l0_2.length c0_2], .agg #[.int .i64 a1_0, .int .i64 a1_1, .slice A1_2 l1_2.length c1_2]] w fun e w' => e = .returned (.tuple #[.bool r1, .bool r2]) ∧ Below w.heap.size w w' := by
 have hu26 := Try.underlying26
 have HR0_2 := Aside0.mk hr0_2
 have HC0_2 := Aside0.mk hc0_2
 clear hr0_2 hc0_2
 have HR1_2 := Aside0.mk hr1_2
 have HC1_2 := Aside0.mk hc1_2
 clear hr1_2 hc1_2
 have HB := am (Below.refl w.heap.size w)
 have H : ((impl_IsBoard.f a0_0 a0_1 l0_2).bind fun t534 => (if t534 = true then ((impl_IsBoard.f a1_0 a1_1 l1_2).bind fun t535 => (impl_AreAlike.j0 k (!t535) a0_0 a0_1 l0_2 a1_0 a1_1 l1_2)) else (impl_AreAlike.j0 k true a0_0 a0_1 l0_2 a1_0 a1_1 l1_2))) = some (r1, r2) := h
 clear h
 have HC3 := Aside0.mk H
 clear H
 go_enter Try.func34, Try.ntmps34
 go_upto_region 1 with (first | ((with_reducible refine gate_dst (N := 2) rfl ?_); refine qv 2 #[.int .i64 a0_0, .int .i64 a0_1, .slice A0_2 l0_2.length c0_2] 26 ?_; intro gb532 hg w4 hbox hb; have BK532 := am hbox; have GW532 := qw hg; have GE532 := qw hg; replace HB := qs hb; clear hb hbox hg) | ((with_reducible refine gate_dst (N := 3) rfl ?_); refine qv 3 #[.int .i64 a1_0, .int .i64 a1_1, .slice A1_2 l1_2.length c1_2] 26 ?_; intro gb533 hg w5 hbox hb; have BK533 := am hbox; have GW533 := qw hg; have GE533 := qw hg; have Nq0 := qn hg BK532; have Nq1 := qN hg BK532; replace BK532 := sqB BK532 hb; replace HB := qs hb; clear hb hbox hg))
 (try simp only [Act.put, List.setIfInBounds_toArray, List.set_cons_zero, List.set_cons_succ])
 go_cut [13] (fun v13 wc => ∃ (kq : Nat) (x13_2 : Bool), v13 = .bool x13_2 ∧ Aside0 (impl_AreAlike.j0 kq x13_2 a0_0 a0_1 l0_2 a1_0 a1_1 l1_2 = some (r1, r2)) ∧ Aside0 (kq ≤ k) ∧ Aside0 (wc.heap[gb532]? = some (.cells #[.int .i64 a0_0, .int .i64 a0_1, (.slice A0_2 l0_2.length c0_2)] 26 (0, 0))) ∧ Aside0 (wc.heap[gb533]? = some (.cells #[.int .i64 a1_0, .int .i64 a1_1, (.slice A1_2 l1_2.length c1_2)] 26 (0, 0))) ∧ Aside0 (Below w.heap.size w wc))
 case first =>
  have H := HC3.out
  clear HC3
  replace H := qE H
  obtain ⟨t534, A6, H⟩ := H
  replace H : (if t534 = true then ((impl_IsBoard.f a1_0 a1_1 l1_2).bind fun t535 => (impl_AreAlike.j0 k (!t535) a0_0 a0_1 l0_2 a1_0 a1_1 l1_2)) else (impl_AreAlike.j0 k true a0_0 a0_1 l0_2 a1_0 a1_1 l1_2)) = some (r1, r2) := H
  by_cases c7 : t534 = true
  ·
   subst c7
   have H1 : ((impl_IsBoard.f a1_0 a1_1 l1_2).bind fun t535 => (impl_AreAlike.j0 k (!t535) a0_0 a0_1 l0_2 a1_0 a1_1 l1_2)) = some (r1, r2) := by first | (rw [if_pos rfl] at H; exact H) | rfl
   clear H
   have H := H1
   clear H1
   replace H := qE H
   obtain ⟨t535, A8, H⟩ := H
   replace H : (impl_AreAlike.j0 k (!t535) a0_0 a0_1 l0_2 a1_0 a1_1 l1_2) = some (r1, r2) := H
   have H' := Aside0.mk H
   clear H
   have bq1 := Nq0.out
   have cq1 := Nq1.out
   obtain ⟨zq0, zq1, zq2, fq0, fq1, fq2⟩ := qd BK532
   go_wp2_with (first | ((with_reducible refine gate_callee (f := 66) rfl ?_); refine qg (some 7) Try.func66 #[.agg #[.int .i64 a0_0, .int .i64 a0_1, .slice A0_2 l0_2.length c0_2]] ?_; (with_reducible refine (impl_IsBoard.calls a0_0 a0_1 _ _ l0_2 true _ ?side1 HC0_2.out A6.out).mono ?_); (case side1 => exact Q1); rintro e w11 ⟨rfl, hb⟩; refine ⟨_, rfl, ?_⟩; replace BK532 := sqB BK532 hb; replace BK533 := sqB BK533 hb; replace HB := qs hb; (try clear hb); obtain ⟨zq3, zq4, zq5, fq3, fq4, fq5⟩ := qd BK533) | (go_at_call 66; (with_reducible refine (impl_IsBoard.calls a1_0 a1_1 _ _ l1_2 t535 _ ?side1 HC1_2.out A8.out).mono ?_); (case side1 => exact Q18); rintro e w13 ⟨rfl, hb⟩; replace BK532 := sqB BK532 hb; replace BK533 := sqB BK533 hb; replace HB := qs hb; (try clear hb)))
   go_meet
   case rel => exact ⟨_, (!t535), Q3, H', ⟨Q41⟩, ⟨by (with_reducible repeat (first | refine blk_drewN ?_ _ | refine blk_drew ?_ | refine blk_alloc ?_ _)); exact BK532.out⟩, ⟨by (with_reducible repeat (first | refine blk_drewN ?_ _ | refine blk_drew ?_ | refine blk_alloc ?_ _)); exact BK533.out⟩, ⟨qb⟩⟩
  ·
   replace c7 := Bool.eq_false_iff.mpr c7
   subst c7
   have H1 : (impl_AreAlike.j0 k true a0_0 a0_1 l0_2 a1_0 a1_1 l1_2) = some (r1, r2) := by first | (rw [if_neg (show ¬ (false = true) by decide)] at H; exact H) | rfl
   clear H
   have H := H1
   clear H1
   have H' := Aside0.mk H
   clear H
   have bq0 := Nq0.out
   have cq0 := Nq1.out
   obtain ⟨zq6, zq7, zq8, fq6, fq7, fq8⟩ := qd BK532
   go_wp2_with (first | ((with_reducible refine gate_callee (f := 66) rfl ?_); refine qg (some 7) Try.func66 #[.agg #[.int .i64 a0_0, .int .i64 a0_1, .slice A0_2 l0_2.length c0_2]] ?_; (with_reducible refine (impl_IsBoard.calls a0_0 a0_1 _ _ l0_2 false _ ?side1 HC0_2.out A6.out).mono ?_); (case side1 => exact Q1); rintro e w16 ⟨rfl, hb⟩; refine ⟨_, rfl, ?_⟩; replace BK532 := sqB BK532 hb; replace BK533 := sqB BK533 hb; replace HB := qs hb; (try clear hb)))
   go_meet
   case rel => exact ⟨_, (true), Q3, H', ⟨Q41⟩, ⟨by (with_reducible repeat (first | refine blk_drewN ?_ _ | refine blk_drew ?_ | refine blk_alloc ?_ _)); exact BK532.out⟩, ⟨by (with_reducible repeat (first | refine blk_drewN ?_ _ | refine blk_drew ?_ | refine blk_alloc ?_ _)); exact BK533.out⟩, ⟨qb⟩⟩
 case rest =>
  clear HC3
  try clear c7; try clear zq0; try clear zq1; try clear zq2; try clear zq3; try clear zq4; try clear zq5; try clear zq6; try clear zq7; try clear zq8; try clear fq0; try clear fq1; try clear fq2; try clear fq3; try clear fq4; try clear fq5; try clear fq6; try clear fq7; try clear fq8
  obtain ⟨kq, x13_2, rfl, HA, HJ2, BK532, BK533, HB⟩ := hcut
  cases kq with
  | zero => exact absurd HA.out (by simp [impl_AreAlike.j0])
  | succ kj2 =>
   have H := HA.out
   clear HA
   simp only [impl_AreAlike.j0] at H
   by_cases c17 : x13_2 = true
   ·
    subst c17
    have H1 : (some (false, false)) = some (r1, r2) := by first | (rw [if_pos rfl] at H; exact H) | rfl
    clear H
    have H := H1
    clear H1
    simp only [Option.some.injEq, Prod.mk.injEq] at H
    obtain ⟨rfl, rfl⟩ := H
    go_wp2
    go_ret2
    exact ⟨Q2, qb⟩
   ·
    replace c17 := Bool.eq_false_iff.mpr c17
    subst c17
    have H1 : ((impl_Board_numbers.f a0_0 a0_1 l0_2).bind fun t536 => ((impl_trimmed.f kj2 t536).bind fun t539 => ((impl_Board_numbers.f a1_0 a1_1 l1_2).bind fun t542 => ((impl_trimmed.f kj2 t542).bind fun t545 => ((slices_Equal_int_int.f kj2 t539 t545).bind fun t548 => (some (t548, true))))))) = some (r1, r2) := by first | (rw [if_neg (show ¬ (false = true) by decide)] at H; exact H) | rfl
    clear H
    have H := H1
    clear H1
    replace H := qE H
    obtain ⟨t536, A18, H⟩ := H
    replace H : ((impl_trimmed.f kj2 t536).bind fun t539 => ((impl_Board_numbers.f a1_0 a1_1 l1_2).bind fun t542 => ((impl_trimmed.f kj2 t542).bind fun t545 => ((slices_Equal_int_int.f kj2 t539 t545).bind fun t548 => (some (t548, true)))))) = some (r1, r2) := H
    replace H := qE H
    obtain ⟨t539, A19, H⟩ := H
    replace H : ((impl_Board_numbers.f a1_0 a1_1 l1_2).bind fun t542 => ((impl_trimmed.f kj2 t542).bind fun t545 => ((slices_Equal_int_int.f kj2 t539 t545).bind fun t548 => (some (t548, true))))) = some (r1, r2) := H
    replace H := qE H
    obtain ⟨t542, A20, H⟩ := H
    replace H : ((impl_trimmed.f kj2 t542).bind fun t545 => ((slices_Equal_int_int.f kj2 t539 t545).bind fun t548 => (some (t548, true)))) = some (r1, r2) := H
    replace H := qE H
    obtain ⟨t545, A21, H⟩ := H
    replace H : ((slices_Equal_int_int.f kj2 t539 t545).bind fun t548 => (some (t548, true))) = some (r1, r2) := H
    replace H := qE H
    obtain ⟨t548, A22, H⟩ := H
    replace H : (some (t548, true)) = some (r1, r2) := H
    simp only [Option.some.injEq, Prod.mk.injEq] at H
    obtain ⟨rfl, rfl⟩ := H
    try go_wp2
    replace BK532 := am (blk_drew BK532.out)
    replace BK533 := am (blk_drew BK533.out)
    replace HB := am (below_drew1 HB.out)
    refine start_ (n := 9) (S := fun w' => w'.cell? ⟨gb532, 0, none⟩ = some (.int .i64 a0_0) ∧ w'.cell? ⟨gb532, 1, none⟩ = some (.int .i64 a0_1) ∧ w'.cell? ⟨gb532, 2, none⟩ = some (.slice A0_2 l0_2.length c0_2) ∧ w'.cell? ⟨gb533, 0, none⟩ = some (.int .i64 a1_0) ∧ w'.cell? ⟨gb533, 1, none⟩ = some (.int .i64 a1_1) ∧ w'.cell? ⟨gb533, 2, none⟩ = some (.slice A1_2 l1_2.length c1_2)) (ds := []) #[false, false, false, false, false, false, false, false, false] (by kernel_rfl) rfl rfl ⟨sqc BK532 0, sqc BK532 1, sqc BK532 2, sqc BK533 0, sqc BK533 1, sqc BK533 2⟩ (fun hHeld => ?_); refine with_tabW impl_AreAlike.tab3 impl_AreAlike.bits3 (fun HT_ HW_ => ?_)
    generalize wc.drew = w23 at BK532 BK533 HB hHeld ⊢
    refine take_ (i := 0) (N := some 14) (v := ?_) (a' := ?_) #[true, false, false, false, false, false, false, false, false] rfl rfl (take_ofW HT_.out HW_.out (by kernel_rfl)) (fun _ _ _ h => h) (Or.inl ⟨by rfl, ?_⟩) hHeld ?_ ?_
    rotate_left
    ·
     rintro w' ⟨s0, s1, s2, s3, s4, s5⟩
     go_simp
     with_reducible rfl
    rotate_left
    ·
     simp only [Act.put, List.setIfInBounds_toArray, List.set_cons_zero, List.set_cons_succ, i64_w, i32_w]
     rfl
    refine take_ (i := 3) (N := some 17) (v := ?_) (a' := ?_) #[true, false, false, true, false, false, false, false, false] rfl rfl (take_ofW HT_.out HW_.out (by kernel_rfl)) (fun _ _ _ h => h) (Or.inl ⟨by rfl, ?_⟩) hHeld ?_ ?_
    rotate_left
    ·
     rintro w' ⟨s0, s1, s2, s3, s4, s5⟩
     go_simp
     with_reducible rfl
    rotate_left
    ·
     simp only [Act.put, List.setIfInBounds_toArray, List.set_cons_zero, List.set_cons_succ, i64_w, i32_w]
     rfl
    refine one_ (i := 1) (N := some 15) #[true, true, false, true, false, false, false, false, false] rfl rfl (one_of HT_.out (by kernel_rfl)) (by decide) fun K hK => ?_
    refine qG Try.func78 #[.agg #[.int .i64 a0_0, .int .i64 a0_1, .slice A0_2 l0_2.length c0_2]] ?_
    with_reducible refine (impl_Board_numbers.calls a0_0 a0_1 _ _ l0_2 t536 _ ?side1 ?side2 A18.out).mono ?_
    (case side1 => exact Q1)
    (case side2 => exact HC0_2.out)
    rintro e w24 ⟨v537, rfl, ho0, hb⟩
    refine ⟨_, rfl, ?_⟩
    have Oq1 := ql ho0
    replace BK532 := sqB BK532 hb
    replace BK533 := sqB BK533 hb
    replace HB := qs hb
    (try clear hb ho0)
    obtain ⟨Ao25, co25, eo25⟩ := Kd.R_slice Oq1.out
    (first | subst eo25 | (injection eo25 with f1_ f2_ f3_; have f4_ := f1_.symm; have f5_ := f3_.symm; clear f1_ f2_ f3_; subst f4_; subst f5_))
    refine hK.out _ _ ⟨sqc BK532 0, sqc BK532 1, sqc BK532 2, sqc BK533 0, sqc BK533 1, sqc BK533 2⟩ (fun hHeld => ?_)
    clear hK K
    refine qq (some 15) ?_
    refine one_ (i := 2) (N := some 16) #[true, true, true, true, false, false, false, false, false] rfl rfl (one_of HT_.out (by kernel_rfl)) (by decide) fun K hK => ?_
    refine qG Try.func97 #[.slice Ao25 t536.length co25] ?_
    with_reducible refine (impl_trimmed.calls kj2 (fun k_ => some k_ = (.slice Ao25 t536.length co25 : Value).ownBlock) _ _ t536 t539 _ ?side1 A19.out).mono ?_
    (case side1 => exact Kd.R_V (Kd.R_tight rfl (Kd.R_types (Kd.R_types (Oq1.out) BK532.out (by decide)) BK533.out (by decide))))
    rintro e w26 ⟨v540, rfl, ho0, hb⟩
    refine ⟨_, rfl, ?_⟩
    have Oq2 := am (Kd.V_lower (Kd.V_mono (ok' := fun k_ => k_ ≠ gb532 ∧ k_ ≠ gb533) ho0 (fun k_ hk_ => ⟨Or.elim hk_ (fun hs_ => ((Kd.R_types (Kd.R_types (Oq1.out) BK532.out (by decide)) BK533.out (by decide)).1 k_ hs_.symm).1.2) (fun hn_ => (Kd.freshB (g := gb532) (o := .cells #[.int .i64 a0_0, .int .i64 a0_1, .slice A0_2 l0_2.length c0_2] 26 (0, 0)) (sqb BK532) k_ hn_)), Or.elim hk_ (fun hs_ => ((Kd.R_types (Kd.R_types (Oq1.out) BK532.out (by decide)) BK533.out (by decide)).1 k_ hs_.symm).2) (fun hn_ => (Kd.freshB (g := gb533) (o := .cells #[.int .i64 a1_0, .int .i64 a1_1, .slice A1_2 l1_2.length c1_2] 26 (0, 0)) (sqb BK533) k_ hn_))⟩)) (below_size qb))
    replace Oq1 := sqR Oq1 hb
    replace BK532 := sqB BK532 hb
    replace BK533 := sqB BK533 hb
    replace HB := qs hb
    (try clear hb ho0)
    refine hK.out _ _ ⟨sqc BK532 0, sqc BK532 1, sqc BK532 2, sqc BK533 0, sqc BK533 1, sqc BK533 2⟩ (fun hHeld => ?_)
    clear hK K
    refine qq (some 16) ?_
    refine one_ (i := 4) (N := some 18) #[true, true, true, true, true, false, false, false, false] rfl rfl (one_of HT_.out (by kernel_rfl)) (by decide) fun K hK => ?_
    refine qG Try.func78 #[.agg #[.int .i64 a1_0, .int .i64 a1_1, .slice A1_2 l1_2.length c1_2]] ?_
    with_reducible refine (impl_Board_numbers.calls a1_0 a1_1 _ _ l1_2 t542 _ ?side1 ?side2 A20.out).mono ?_
    (case side1 => exact Q18)
    (case side2 => exact HC1_2.out)
    rintro e w27 ⟨v543, rfl, ho0, hb⟩
    refine ⟨_, rfl, ?_⟩
    have Oq3 := am (Kd.R_lower (Kd.R_new' ho0 (sqL Oq1)) (below_size qb))
    replace Oq1 := sqE Oq1 ho0 hb
    replace BK532 := sqB BK532 hb
    replace BK533 := sqB BK533 hb
    replace Oq2 := am (Kd.V_elder' (by (with_reducible repeat (first | apply Kd.V_alloc | apply Kd.V_drewN | apply Kd.V_drew)); exact Oq2.out) (Kd.R_base ho0) hb)
    replace HB := qs hb
    (try clear hb ho0)
    obtain ⟨Ao28, co28, eo28⟩ := Kd.R_slice Oq3.out
    (first | subst eo28 | (injection eo28 with f1_ f2_ f3_; have f4_ := f1_.symm; have f5_ := f3_.symm; clear f1_ f2_ f3_; subst f4_; subst f5_))
    refine hK.out _ _ ⟨sqc BK532 0, sqc BK532 1, sqc BK532 2, sqc BK533 0, sqc BK533 1, sqc BK533 2⟩ (fun hHeld => ?_)
    clear hK K
    refine qq (some 18) ?_
    refine one_ (i := 5) (N := some 19) #[true, true, true, true, true, true, false, false, false] rfl rfl (one_of HT_.out (by kernel_rfl)) (by decide) fun K hK => ?_
    refine qG Try.func97 #[.slice Ao28 t542.length co28] ?_
    with_reducible refine (impl_trimmed.calls kj2 (fun k_ => some k_ = (.slice Ao28 t542.length co28 : Value).ownBlock) _ _ t542 t545 _ ?side1 A21.out).mono ?_
    (case side1 => exact Kd.R_V (Kd.R_tight rfl (Kd.R_types (Kd.R_types (Oq3.out) BK532.out (by decide)) BK533.out (by decide))))
    rintro e w29 ⟨v546, rfl, ho0, hb⟩
    refine ⟨_, rfl, ?_⟩
    have Oq4 := am (Kd.V_lower (Kd.V_mono (ok' := fun k_ => some k_ ≠ (.slice Ao25 t536.length co25 : Value).ownBlock ∧ k_ ≠ gb532 ∧ k_ ≠ gb533) ho0 (fun k_ hk_ => ⟨Or.elim hk_ (fun hs_ => ((Kd.R_types (Kd.R_types (Oq3.out) BK532.out (by decide)) BK533.out (by decide)).1 k_ hs_.symm).1.1.2) (fun hn_ => (Kd.fresh' (sqL Oq1) k_ hn_)), Or.elim hk_ (fun hs_ => ((Kd.R_types (Kd.R_types (Oq3.out) BK532.out (by decide)) BK533.out (by decide)).1 k_ hs_.symm).1.2) (fun hn_ => (Kd.freshB (g := gb532) (o := .cells #[.int .i64 a0_0, .int .i64 a0_1, .slice A0_2 l0_2.length c0_2] 26 (0, 0)) (sqb BK532) k_ hn_)), Or.elim hk_ (fun hs_ => ((Kd.R_types (Kd.R_types (Oq3.out) BK532.out (by decide)) BK533.out (by decide)).1 k_ hs_.symm).2) (fun hn_ => (Kd.freshB (g := gb533) (o := .cells #[.int .i64 a1_0, .int .i64 a1_1, .slice A1_2 l1_2.length c1_2] 26 (0, 0)) (sqb BK533) k_ hn_))⟩)) (below_size qb))
    replace Oq1 := sqR Oq1 hb
    replace Oq3 := sqR Oq3 hb
    replace BK532 := sqB BK532 hb
    replace BK533 := sqB BK533 hb
    replace Oq2 := am (Kd.V_below (by (with_reducible repeat (first | apply Kd.V_alloc | apply Kd.V_drewN | apply Kd.V_drew)); exact Oq2.out) hb)
    replace HB := qs hb
    (try clear hb ho0)
    obtain ⟨Ao30, co30, eo30⟩ := Kd.V_slice Oq2.out
    (first | subst eo30 | (injection eo30 with f1_ f2_ f3_; have f4_ := f1_.symm; have f5_ := f3_.symm; clear f1_ f2_ f3_; subst f4_; subst f5_))
    obtain ⟨Ao31, co31, eo31⟩ := Kd.V_slice Oq4.out
    (first | subst eo31 | (injection eo31 with f1_ f2_ f3_; have f4_ := f1_.symm; have f5_ := f3_.symm; clear f1_ f2_ f3_; subst f4_; subst f5_))
    refine hK.out _ _ ⟨sqc BK532 0, sqc BK532 1, sqc BK532 2, sqc BK533 0, sqc BK533 1, sqc BK533 2⟩ (fun hHeld => ?_)
    clear hK K
    refine qq (some 19) ?_
    refine one_ (i := 6) (N := some 20) #[true, true, true, true, true, true, true, false, false] rfl rfl (one_of HT_.out (by kernel_rfl)) (by decide) fun K hK => ?_
    refine qG Try.func96 #[.slice Ao30 t539.length co30, .slice Ao31 t545.length co31] ?_
    with_reducible refine (slices_Equal_int_int.calls kj2 _ _ t539 _ _ t545 t548 _ ?side1 ?side2 ?side3 ?side4 A22.out).mono ?_
    (case side1 => repeat (first | exact (Kd.V_reads' Oq2.out).2.2 | (with_reducible first | refine Kd.C_alloc ?_ _ | refine Kd.C_drewN ?_ _ | refine Kd.C_drew ?_)))
    (case side2 => exact (Kd.V_reads' Oq2.out).2.1)
    (case side3 => repeat (first | exact (Kd.V_reads' Oq4.out).2.2 | (with_reducible first | refine Kd.C_alloc ?_ _ | refine Kd.C_drewN ?_ _ | refine Kd.C_drew ?_)))
    (case side4 => exact (Kd.V_reads' Oq4.out).2.1)
    rintro e w' ⟨rfl, ⟨nd, rfl⟩⟩
    refine ⟨_, rfl, ?_⟩
    refine hK.out _ _ ⟨sqc BK532 0, sqc BK532 1, sqc BK532 2, sqc BK533 0, sqc BK533 1, sqc BK533 2⟩ (fun hHeld => ?_)
    clear hK K
    refine qq (some 20) ?_
    refine qp 7 (some 4) #[true, true, true, true, true, true, true, true, false] ?_
    refine qp 8 (some 5) #[true, true, true, true, true, true, true, true, true] ?_
    refine done_ (done_of HT_.out (by kernel_rfl)) ?_
    try go_wp2
    go_ret2
    exact ⟨Q2, qb⟩

/-! ### spec_l1Same: function 98 -/
def spec_l1Same.l0 : Nat → List Int → List Int → Int → Int → Option (Bool)
 | 0, _, _, _, _ => none
 | k + 1, x0, x1, x12, x13 => if x13 < x12 then (if 0 ≤ x13 then (if x13 < (x0.length : Int) then (if x13 < (x1.length : Int) then (if (rd x0 x13) = (rd x1 x13) then (spec_l1Same.l0 k x0 x1 x12 (wrap64 (x13 + 1))) else (some false)) else (none)) else (none)) else (none)) else (some true)
def spec_l1Same.f (k : Nat) (l0 : List Int) (l1 : List Int) : Option (Bool) := if (l0.length : Int) = (l1.length : Int) then (spec_l1Same.l0 k l0 l1 (l0.length : Int) 0) else (some false)
set_option maxHeartbeats 8000000 in
set_option maxRecDepth 100000 in
theorem spec_l1Same.calls (k : Nat) (A0 : Option Addr) (c0 : Nat) (l0 : List Int) (A1 : Option Addr) (c1 : Nat) (l1 : List Int) (r : Bool) (w : World) (hr0 : Kd.C (Kd.int .i64) w A0 l0.length l0) (hc0 : l0.length ≤ c0) (hr1 : Kd.C (Kd.int .i64) w A1 l1.length l1) (hc1 : l1.length ≤ c1) (h : spec_l1Same.f k l0 l1 = some r) :
  Calls Try.prog 98 #[.slice A0 l0.length c0, .slice A1 l1.length c1] w fun e w' => e = .returned (.bool r) ∧ Drawn0 w w' := by
 have HR0 := Aside0.mk hr0
 have HC0 := Aside0.mk hc0
 clear hr0 hc0
 have HR1 := Aside0.mk hr1
 have HC1 := Aside0.mk hc1
 clear hr1 hc1
 have H : (if (l0.length : Int) = (l1.length : Int) then (spec_l1Same.l0 k l0 l1 (l0.length : Int) 0) else (some false)) = some r := h
 clear h
 by_cases c3 : (l0.length : Int) = (l1.length : Int)
 ·
  rw [if_pos c3] at H
  have c3b0 : ((l0.length : Int) == (l1.length : Int)) = true := beq_iff_eq.mpr c3
  have c3b1 : ((l0.length : Int) != (l1.length : Int)) = false := bne_eq_false_iff_eq.mpr c3
  have c3b2 : (l0.length == l1.length) = true := by first | simpa using c3 | (simp at c3 ⊢; omega)
  clear c3
  have H' := Aside0.mk H
  clear H
  go_enter Try.func98, Try.ntmps98
  go_wp2
  repeat (go_quiet (fail); try go_wp2)
  go_loopg [13] k (fun kq v13 w' => ∃ (x13_1 : Int), v13 = .int .i64 x13_1 ∧ Aside0 (spec_l1Same.l0 kq l0 l1 (l0.length : Int) x13_1 = some r) ∧ Aside0 (kq ≤ k) ∧ Drawn0 w w')
  case atStart => exact ⟨(0), Q3, H', ⟨Nat.le_refl _⟩, Q7⟩
  case round =>
   clear H'
   try clear c3; try clear c3b0; try clear c3b1; try clear c3b2
   obtain ⟨x13_1, rfl, HA, HK1, ⟨m1, rfl⟩⟩ := hrel
   cases gk with
   | zero => exact absurd HA.out (by simp [spec_l1Same.l0])
   | succ k1 =>
    have H := HA.out
    clear HA
    simp only [spec_l1Same.l0] at H
    by_cases c4 : x13_1 < (l0.length : Int)
    ·
     rw [if_pos c4] at H
     have c4b0 : decide (x13_1 < (l0.length : Int)) = true := decide_eq_true c4
     clear c4
     by_cases c5 : 0 ≤ x13_1
     ·
      rw [if_pos c5] at H
      have c5b0 : decide (0 ≤ x13_1) = true := decide_eq_true c5
      clear c5
      by_cases c6 : x13_1 < (l0.length : Int)
      ·
       rw [if_pos c6] at H
       have c6b0 : decide (x13_1 < (l0.length : Int)) = true := decide_eq_true c6
       clear c6
       by_cases c7 : x13_1 < (l1.length : Int)
       ·
        rw [if_pos c7] at H
        have c7b0 : decide (x13_1 < (l1.length : Int)) = true := decide_eq_true c7
        clear c7
        by_cases c8 : (rd l0 x13_1) = (rd l1 x13_1)
        ·
         rw [if_pos c8] at H
         have c8b0 : ((rd l0 x13_1) == (rd l1 x13_1)) = true := beq_iff_eq.mpr c8
         have c8b1 : ((rd l0 x13_1) != (rd l1 x13_1)) = false := bne_eq_false_iff_eq.mpr c8
         clear c8
         have H' := Aside0.mk H
         clear H
         have p549 : 0 ≤ (x13_1 : Int) := of_decide_eq_true Q0
         have q549 : x13_1 < (l0.length : Int) := of_decide_eq_true Q0
         obtain ⟨ad549, e549, hx549_0⟩ := Kd.at_int HR0.out x13_1 p549 q549
         cases e549
         replace p549 := eq_true p549
         replace q549 := eq_true q549
         have p550 : 0 ≤ (x13_1 : Int) := of_decide_eq_true Q0
         have q550 : x13_1 < (l1.length : Int) := of_decide_eq_true Q0
         obtain ⟨ad550, e550, hx550_0⟩ := Kd.at_int HR1.out x13_1 p550 q550
         cases e550
         replace p550 := eq_true p550
         replace q550 := eq_true q550
         go_wp2
         repeat (go_quiet (fail); try go_wp2)
         go_roundg k1
         case measure => have := HK1.out; omega
         case rel => exact ⟨(wrap64 (x13_1 + 1)), Q3, H', ⟨Q49⟩, Q7⟩
        ·
         rw [if_neg c8] at H
         have c8b0 : ((rd l0 x13_1) == (rd l1 x13_1)) = false := beq_eq_false_iff_ne.mpr c8
         have c8b1 : ((rd l0 x13_1) != (rd l1 x13_1)) = true := bne_iff_ne.mpr c8
         obtain rfl := Option.some.inj H
         have p549 : 0 ≤ (x13_1 : Int) := of_decide_eq_true Q0
         have q549 : x13_1 < (l0.length : Int) := of_decide_eq_true Q0
         obtain ⟨ad549, e549, hx549_0⟩ := Kd.at_int HR0.out x13_1 p549 q549
         cases e549
         replace p549 := eq_true p549
         replace q549 := eq_true q549
         have p550 : 0 ≤ (x13_1 : Int) := of_decide_eq_true Q0
         have q550 : x13_1 < (l1.length : Int) := of_decide_eq_true Q0
         obtain ⟨ad550, e550, hx550_0⟩ := Kd.at_int HR1.out x13_1 p550 q550
         cases e550
         replace p550 := eq_true p550
         replace q550 := eq_true q550
         go_wp2
         repeat (go_quiet (fail); try go_wp2)
         go_ret
         exact ⟨Q3, Q7⟩
       ·
        rw [if_neg c7] at H
        exact absurd H (by simp)
      ·
       rw [if_neg c6] at H
       exact absurd H (by simp)
     ·
      rw [if_neg c5] at H
      exact absurd H (by simp)
    ·
     rw [if_neg c4] at H
     have c4b0 : decide (x13_1 < (l0.length : Int)) = false := decide_eq_false c4
     clear c4
     obtain rfl := Option.some.inj H
     go_wp2
     repeat (go_quiet (fail); try go_wp2)
     go_ret
     exact ⟨Q3, Q7⟩
 ·
  rw [if_neg c3] at H
  have c3b0 : ((l0.length : Int) == (l1.length : Int)) = false := beq_eq_false_iff_ne.mpr c3
  have c3b1 : ((l0.length : Int) != (l1.length : Int)) = true := bne_iff_ne.mpr c3
  have c3b2 : (l0.length == l1.length) = false := by first | simpa using c3 | (simp at c3 ⊢; omega)
  obtain rfl := Option.some.inj H
  go_enter Try.func98, Try.ntmps98
  go_wp2
  repeat (go_quiet (fail); try go_wp2)
  go_ret
  exact ⟨Q3, Q7⟩

/-! ### spec_roShort: function 99 -/
def spec_roShort.l0 : Nat → List Int → Int → Option (List Int)
 | 0, _, _ => none
 | k + 1, x0, x3 => if x3 > 0 then (if 0 ≤ (wrap64 (x3 - 1)) then (if (wrap64 (x3 - 1)) < (x0.length : Int) then (if (rd x0 (wrap64 (x3 - 1))) = 0 then (spec_roShort.l0 k x0 (wrap64 (x3 - 1))) else (if 0 ≤ x3 then (if x3 ≤ (x0.length : Int) then (some (x0.take (x3 : Int).toNat)) else (none)) else (none))) else (none)) else (none)) else (if 0 ≤ x3 then (if x3 ≤ (x0.length : Int) then (some (x0.take (x3 : Int).toNat)) else (none)) else (none))
def spec_roShort.f (k : Nat) (l0 : List Int) : Option (List Int) := spec_roShort.l0 k l0 (l0.length : Int)
set_option maxHeartbeats 8000000 in
set_option maxRecDepth 100000 in
theorem spec_roShort.calls (k : Nat) (P0_ : Nat → Prop) (u9000_ : Value) (l0 : List Int) (r : List Int) (w0 w : World) (hB : Below w0.heap.size w0 w) (ho0 : Kd.R (Kd.int .i64) 3 w w0.heap.size P0_ u9000_ l0) (h : spec_roShort.f k l0 = some r) :
  Calls Try.prog 99 #[u9000_] w fun e w' => ∃ v0_ : Value, e = .returned (v0_) ∧ Kd.R (Kd.int .i64) 3 w' w0.heap.size (fun k_ => (P0_ k_ ∨ w.heap.size ≤ k_)) v0_ r ∧ Below w0.heap.size w0 w' ∧ Kept w w' (fun k_ => P0_ k_) := by
 have Oq0 := am (show Kd.R (Kd.int .i64) 3 w w0.heap.size (fun k_ => (P0_ k_ ∨ w.heap.size ≤ k_)) u9000_ l0 from Kd.R_mono ho0 (fun k_ hk => (.inl hk)))
 have HK := am (Kept.refl w (fun k_ => P0_ k_))
 have HW0 := Aside0.mk hB.size
 have HB := Aside0.mk hB
 clear hB
 have H : (spec_roShort.l0 k l0 (l0.length : Int)) = some r := h
 clear h
 have H' := Aside0.mk H
 clear H
 obtain ⟨Ao2, co2, eo2⟩ := Kd.R_slice Oq0.out
 subst eo2
 go_enter Try.func99, Try.ntmps99
 go_wp2
 go_loopg [3] k (fun kq v3 w' => ∃ (x3_1 : Int), v3 = .int .i64 x3_1 ∧ Aside0 (spec_roShort.l0 kq l0 x3_1 = some r) ∧ Aside0 (kq ≤ k) ∧ Aside0 (Kd.R (Kd.int .i64) 3 w' w0.heap.size (fun k_ => (P0_ k_ ∨ w.heap.size ≤ k_)) (.slice Ao2 l0.length co2) l0) ∧ Aside0 (Kept w w' (fun k_ => P0_ k_)) ∧ Aside0 (Below w0.heap.size w0 w'))
 case atStart => exact ⟨((l0.length : Int)), Q3, H', ⟨Nat.le_refl _⟩, ⟨Q31⟩, ⟨Q26⟩, ⟨qb⟩⟩
 case round =>
  clear H'
  try clear p2
  obtain ⟨x3_1, rfl, HA, HK1, Oq7, HK, HB⟩ := hrel
  cases gk with
  | zero => exact absurd HA.out (by simp [spec_roShort.l0])
  | succ k1 =>
   have H := HA.out
   clear HA
   simp only [spec_roShort.l0] at H
   by_cases c3 : x3_1 > 0
   ·
    rw [if_pos c3] at H
    have c3b0 : decide (0 < x3_1) = true := decide_eq_true c3
    clear c3
    obtain ⟨ji4, hji4⟩ : ∃ j_ : Int, (wrap64 (x3_1 - 1)) = j_ := ⟨_, rfl⟩
    replace H : (if 0 ≤ (ji4) then (if (ji4) < (l0.length : Int) then (if (rd l0 (ji4)) = 0 then (spec_roShort.l0 k1 l0 ji4) else (if 0 ≤ x3_1 then (if x3_1 ≤ (l0.length : Int) then (some (l0.take (x3_1 : Int).toNat)) else (none)) else (none))) else (none)) else (none)) = some r := by first | (rw [hji4] at H; exact H) | (simp only [hji4] at H ⊢; exact H)
    have hji4w : (IntKind.i64.wrap (x3_1 - 1)) = ji4 := (i64_w _).trans hji4
    by_cases c5 : 0 ≤ (ji4)
    ·
     rw [if_pos c5] at H
     have c5b0 : decide (0 ≤ (ji4)) = true := decide_eq_true c5
     clear c5
     by_cases c6 : (ji4) < (l0.length : Int)
     ·
      rw [if_pos c6] at H
      have c6b0 : decide ((ji4) < (l0.length : Int)) = true := decide_eq_true c6
      clear c6
      by_cases c7 : (rd l0 (ji4)) = 0
      ·
       rw [if_pos c7] at H
       have c7b0 : ((rd l0 (ji4)) == 0) = true := beq_iff_eq.mpr c7
       have c7b1 : ((rd l0 (ji4)) != 0) = false := bne_eq_false_iff_eq.mpr c7
       clear c7
       have H' := Aside0.mk H
       clear H
       have p551 : 0 ≤ ((ji4) : Int) := of_decide_eq_true Q0
       have q551 : (ji4) < (l0.length : Int) := of_decide_eq_true Q0
       obtain ⟨ad551, e551, hx551_0⟩ := Kd.at_int (Kd.R_reads' Oq7.out).2.2 (ji4) p551 q551
       cases e551
       replace p551 := eq_true p551
       replace q551 := eq_true q551
       go_wp2
       go_roundg k1
       case measure => have := HK1.out; omega
       case rel => exact ⟨(ji4), (by first | rfl | (simp; done) | (simp only [← hji4] <;> (first | rfl | simp)) | (simp [*]; done)), H', ⟨Q49⟩, ⟨by (with_reducible repeat (first | apply Kd.R_alloc | apply Kd.R_drewN | apply Kd.R_drew)); exact Oq7.out⟩, ⟨Q26⟩, ⟨qb⟩⟩
      ·
       rw [if_neg c7] at H
       have c7b0 : ((rd l0 (ji4)) == 0) = false := beq_eq_false_iff_ne.mpr c7
       have c7b1 : ((rd l0 (ji4)) != 0) = true := bne_iff_ne.mpr c7
       by_cases c8 : 0 ≤ x3_1
       ·
        rw [if_pos c8] at H
        have c8b0 := eq_true c8
        have c8b1 : decide (0 ≤ x3_1) = true := decide_eq_true c8
        clear c8
        by_cases c9 : x3_1 ≤ (l0.length : Int)
        ·
         rw [if_pos c9] at H
         have c9b0 := eq_true c9
         have c9b1 : decide (x3_1 ≤ (l0.length : Int)) = true := decide_eq_true c9
         clear c9
         obtain ⟨y552, hy_⟩ : ∃ y_ : List Int, y_ = ((l0.take (x3_1 : Int).toNat)) := ⟨_, rfl⟩
         replace H : (some y552) = some r := qH
         have Ny552 := Aside0.mk hy_
         clear hy_
         obtain rfl := Option.some.inj H
         have p551 : 0 ≤ ((ji4) : Int) := of_decide_eq_true Q0
         have q551 : (ji4) < (l0.length : Int) := of_decide_eq_true Q0
         obtain ⟨ad551, e551, hx551_0⟩ := Kd.at_int (Kd.R_reads' Oq7.out).2.2 (ji4) p551 q551
         cases e551
         replace p551 := eq_true p551
         replace q551 := eq_true q551
         have q10 : (x3_1 : Int) ≤ ((l0.length : Int) : Int) := of_decide_eq_true Q0
         obtain ⟨i010, hi010, _, hsz10, _⟩ := info_parts info3
         have hcut10 := cut_to (P := Try.prog) 24 3 .i64 Try.underlying24 hi010 (some ad551) l0.length co2 x3_1 (of_decide_eq_true Q0) q10 (Kd.R_reads' Oq7.out).2.1
         have hr10 := Kd.R_take (m := (x3_1 : Int).toNat) Oq7.out (by omega)
         have hy10 : y552.length = (x3_1 : Int).toNat := (by rw [Ny552.out, List.length_take]; omega)
         rw [← Ny552.out] at hr10
         rw [← hy10] at hr10 hcut10
         clear hy10 hi010 hsz10 Oq7
         have Oq5 := Aside0.mk hr10
         clear hr10
         replace q10 := eq_true q10
         go_wp2
         go_ret
         exact ⟨_, Q50, Q19, qb, Q26⟩
        ·
         rw [if_neg c9] at H
         exact absurd H (by simp)
       ·
        rw [if_neg c8] at H
        exact absurd H (by simp)
     ·
      rw [if_neg c6] at H
      exact absurd H (by simp)
    ·
     rw [if_neg c5] at H
     exact absurd H (by simp)
   ·
    rw [if_neg c3] at H
    have c3b0 : decide (0 < x3_1) = false := decide_eq_false c3
    clear c3
    by_cases c11 : 0 ≤ x3_1
    ·
     rw [if_pos c11] at H
     have c11b0 := eq_true c11
     have c11b1 : decide (0 ≤ x3_1) = true := decide_eq_true c11
     clear c11
     by_cases c12 : x3_1 ≤ (l0.length : Int)
     ·
      rw [if_pos c12] at H
      have c12b0 := eq_true c12
      have c12b1 : decide (x3_1 ≤ (l0.length : Int)) = true := decide_eq_true c12
      clear c12
      obtain ⟨y555, hy_⟩ : ∃ y_ : List Int, y_ = ((l0.take (x3_1 : Int).toNat)) := ⟨_, rfl⟩
      replace H : (some y555) = some r := qH
      have Ny555 := Aside0.mk hy_
      clear hy_
      obtain rfl := Option.some.inj H
      have q13 : (x3_1 : Int) ≤ ((l0.length : Int) : Int) := of_decide_eq_true Q0
      obtain ⟨i013, hi013, _, hsz13, _⟩ := info_parts info3
      have hcut13 := cut_to (P := Try.prog) 24 3 .i64 Try.underlying24 hi013 Ao2 l0.length co2 x3_1 (of_decide_eq_true Q0) q13 (Kd.R_reads' Oq7.out).2.1
      have hr13 := Kd.R_take (m := (x3_1 : Int).toNat) Oq7.out (by omega)
      have hy13 : y555.length = (x3_1 : Int).toNat := (by rw [Ny555.out, List.length_take]; omega)
      rw [← Ny555.out] at hr13
      rw [← hy13] at hr13 hcut13
      clear hy13 hi013 hsz13 Oq7
      have Oq6 := Aside0.mk hr13
      clear hr13
      replace q13 := eq_true q13
      go_wp2
      go_ret
      exact ⟨_, Q2, Q55, qb, Q26⟩
     ·
      rw [if_neg c12] at H
      exact absurd H (by simp)
    ·
     rw [if_neg c11] at H
     exact absurd H (by simp)

end Go.Proofs.Ytllhofdgbpnkkaa.PFnRookNumbersMultiply
