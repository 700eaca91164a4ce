-- Printed for this claim by wip/pp.py over the kit's printer; Lean checks it.
import Derived.Test.YtllhofdgbpnkkaaPFnPlacementsListedx0
import Derived.Test.YtllhofdgbpnkkaaPFnPlacementsListedx5
namespace Go.Proofs.Ytllhofdgbpnkkaa.PFnPlacementsListed
open Go.RowKit Go.Proofs.YtllhofdgbpnkkaaW.PrintWords Go.Proofs.YtllhofdgbpnkkaaW.PrintLast Go.Proofs.YtllhofdgbpnkkaaW.PrintMore
attribute [local go_sem] max2_int min2_int max_two min_two max_three min_three max_four min_four   -- for this text's walks alone
set_option linter.unusedVariables false
set_option linter.unusedSimpArgs false

/-! ### spec_roWays: function 128 -/
mutual
def spec_roWays.l0 : Nat → Int → Int → List Int → List Int → Int → Int → Int → Int → List Int → Option (List Int)
 | 0, _, _, _, _, _, _, _, _, _ => none
 | k + 1, x1, x2, x7, x31, x32, x33, x221000, x221001, x221002 => if x33 < x32 then (if 0 ≤ x33 then (if x33 < (x31.length : Int) then (if x33 < (x7.length : Int) then (spec_roWays.l0 k x1 x2 (x7.set (x33 : Int).toNat (wrap64 ((rd x7 x33) + (rd x31 x33)))) x31 x32 (wrap64 (x33 + 1)) x221000 x221001 x221002) else (none)) else (none)) else (none)) else (spec_roWays.l1 k x1 x2 x7 0 x221000 x221001 x221002)
def spec_roWays.l1 : Nat → Int → Int → List Int → Int → Int → Int → List Int → Option (List Int)
 | 0, _, _, _, _, _, _, _ => none
 | k + 1, x1, x2, x7, x10, x221000, x221001, x221002 => if x10 < x221001 then ((spec_boHas.f x221000 x221001 x221002 x1 x10).bind fun t232 => (if t232 = true then (if 0 ≤ x10 then (spec_roWays.j2 k x1 x2 x7 x10 ((Int.tmod (shr .i64 x2 x10) 2) == 1) x221000 x221001 x221002) else (none)) else (spec_roWays.j2 k x1 x2 x7 x10 true x221000 x221001 x221002))) else (some x7)
def spec_roWays.j2 : Nat → Int → Int → List Int → Int → Bool → Int → Int → List Int → Option (List Int)
 | 0, _, _, _, _, _, _, _, _ => none
 | k + 1, x1, x2, x7, x10, x63, x221000, x221001, x221002 => if x63 = true then (spec_roWays.l1 k x1 x2 x7 (wrap64 (x10 + 1)) x221000 x221001 x221002) else (if 0 ≤ x10 then ((spec_roWays.f k x221000 x221001 x221002 (wrap64 (x1 + 1)) (Go.bits .or .i64 x2 (shl .i64 1 x10))).bind fun t233 => (spec_roWays.l2 k x1 x2 x7 x10 t233 (t233.length : Int) 0 x221000 x221001 x221002)) else (none))
def spec_roWays.l2 : Nat → Int → Int → List Int → Int → List Int → Int → Int → Int → Int → List Int → Option (List Int)
 | 0, _, _, _, _, _, _, _, _, _, _ => none
 | k + 1, x1, x2, x7, x10, x71, x72, x73, x221000, x221001, x221002 => if x73 < x72 then (if 0 ≤ x73 then (if x73 < (x71.length : Int) then (if (rd x71 x73) > 0 then (if 0 ≤ (wrap64 (x73 + 1)) then (if (wrap64 (x73 + 1)) < (x7.length : Int) then (spec_roWays.l2 k x1 x2 (x7.set ((wrap64 (x73 + 1)) : Int).toNat (wrap64 ((rd x7 (wrap64 (x73 + 1))) + (rd x71 x73)))) x10 x71 x72 (wrap64 (x73 + 1)) x221000 x221001 x221002) else (none)) else (none)) else (spec_roWays.l2 k x1 x2 x7 x10 x71 x72 (wrap64 (x73 + 1)) x221000 x221001 x221002)) else (none)) else (none)) else (spec_roWays.l1 k x1 x2 x7 (wrap64 (x10 + 1)) x221000 x221001 x221002)
def spec_roWays.f : Nat → Int → Int → List Int → Int → Int → Option (List Int)
 | 0, _, _, _, _, _ => none
 | k + 1, a0_0, a0_1, l0_2, a1, a2 => (spec_l1Least.f a0_0 a0_1).bind fun t221 => (if 0 ≤ (wrap64 (t221 + 1)) then (if (wrap64 (t221 + 1) : Int).toNat ≤ 35184372088832 then ((some (List.replicate (wrap64 (t221 + 1) : Int).toNat 0 : List Int)).bind fun y222 => (if a1 = a0_0 then (if 0 < (y222.length : Int) then (some (y222.set (0 : Int).toNat 1)) else (none)) else ((spec_roWays.f k a0_0 a0_1 l0_2 (wrap64 (a1 + 1)) a2).bind fun t226 => (spec_roWays.l0 k a1 a2 y222 t226 (t226.length : Int) 0 a0_0 a0_1 l0_2)))) else (none)) else (none))
end
def spec_roWays.T14 : Bool × List (List Nat × List Nat) := (true, [([], []), ([], []), ([1], [1]), ([], []), ([], []), ([4], [4]), ([3, 5], [3, 5]), ([0, 2, 6], [0, 2, 6]), ([7], [7]), ([], [])])
def spec_roWays.B14 : List Nat := [0, 0, 2, 0, 0, 16, 56, 127, 255, 0]
theorem spec_roWays.tab14 : rtab .any (opsOf Try.f128 14) = spec_roWays.T14 := by kernel_rfl
theorem spec_roWays.bits14 : waitsOk spec_roWays.T14.2 spec_roWays.B14 = true := by kernel_rfl
set_option maxHeartbeats 8000000 in
set_option maxRecDepth 100000 in
theorem spec_roWays.calls (k : Nat) : ∀ (a0_0 : Int) (a0_1 : Int) (A0_2 : Option Addr) (c0_2 : Nat) (l0_2 : List Int) (a1 : Int) (a2 : Int) (r : List Int) (w : World) (hr0_2 : Kd.C (Kd.int .i64) w A0_2 l0_2.length l0_2) (hc0_2 : l0_2.length ≤ c0_2) (h : spec_roWays.f k a0_0 a0_1 l0_2 a1 a2 = some r),
  Calls Try.prog 128 #[.agg #[.int .i64 a0_0, .int .i64 a0_1, .slice A0_2 l0_2.length c0_2], .int .i64 a1, .int .i64 a2] w fun e w' => ∃ v0_ : Value, e = .returned (v0_) ∧ Kd.R (Kd.int .i64) 3 w' w.heap.size (fun _ => True) v0_ r ∧ Below w.heap.size w w' := by
 induction k using Nat.strongRecOn with
 | _ k ih =>
 intro a0_0 a0_1 A0_2 c0_2 l0_2 a1 a2 r w hr0_2 hc0_2 h
 cases k with
 | zero => exact absurd h (by simp [spec_roWays.f])
 | succ k =>
 simp only [spec_roWays.f] at h
 have hu26 := Try.underlying26
 have HR0_2 := Aside0.mk hr0_2
 have HC0_2 := Aside0.mk hc0_2
 clear hr0_2 hc0_2
 have HB := am (Below.refl w.heap.size w)
 have H : ((spec_l1Least.f a0_0 a0_1).bind fun t221 => (if 0 ≤ (wrap64 (t221 + 1)) then (if (wrap64 (t221 + 1) : Int).toNat ≤ 35184372088832 then ((some (List.replicate (wrap64 (t221 + 1) : Int).toNat 0 : List Int)).bind fun y222 => (if a1 = a0_0 then (if 0 < (y222.length : Int) then (some (y222.set (0 : Int).toNat 1)) else (none)) else ((spec_roWays.f k a0_0 a0_1 l0_2 (wrap64 (a1 + 1)) a2).bind fun t226 => (spec_roWays.l0 k a1 a2 y222 t226 (t226.length : Int) 0 a0_0 a0_1 l0_2)))) else (none)) else (none))) = some r := h
 clear h
 replace H := qE H
 obtain ⟨t221, A4, H⟩ := H
 replace H : (if 0 ≤ (wrap64 (t221 + 1)) then (if (wrap64 (t221 + 1) : Int).toNat ≤ 35184372088832 then ((some (List.replicate (wrap64 (t221 + 1) : Int).toNat 0 : List Int)).bind fun y222 => (if a1 = a0_0 then (if 0 < (y222.length : Int) then (some (y222.set (0 : Int).toNat 1)) else (none)) else ((spec_roWays.f k a0_0 a0_1 l0_2 (wrap64 (a1 + 1)) a2).bind fun t226 => (spec_roWays.l0 k a1 a2 y222 t226 (t226.length : Int) 0 a0_0 a0_1 l0_2)))) else (none)) else (none)) = some r := H
 obtain ⟨ji5, hji5⟩ : ∃ j_ : Int, (wrap64 (t221 + 1)) = j_ := ⟨_, rfl⟩
 replace H : (if 0 ≤ (ji5) then (if (ji5 : Int).toNat ≤ 35184372088832 then ((some (List.replicate (ji5 : Int).toNat 0 : List Int)).bind fun y222 => (if a1 = a0_0 then (if 0 < (y222.length : Int) then (some (y222.set (0 : Int).toNat 1)) else (none)) else ((spec_roWays.f k a0_0 a0_1 l0_2 (wrap64 (a1 + 1)) a2).bind fun t226 => (spec_roWays.l0 k a1 a2 y222 t226 (t226.length : Int) 0 a0_0 a0_1 l0_2)))) else (none)) else (none)) = some r := by first | (rw [hji5] at H; exact H) | (simp only [hji5] at H ⊢; exact H)
 (try rw [hji5] at A4)
 have hji5w : (IntKind.i64.wrap (t221 + 1)) = ji5 := (i64_w _).trans hji5
 by_cases c6 : 0 ≤ (ji5)
 ·
  rw [if_pos c6] at H
  have c6b0 := eq_true c6
  have c6b1 : decide (0 ≤ (ji5)) = true := decide_eq_true c6
  clear c6
  by_cases c7 : (ji5 : Int).toNat ≤ 35184372088832
  ·
   rw [if_pos c7] at H
   have c7b0 := eq_true c7
   have c7b1 : decide ((ji5 : Int).toNat ≤ 35184372088832) = true := decide_eq_true c7
   clear c7
   obtain ⟨y222, hy_⟩ : ∃ y_ : List Int, y_ = ((List.replicate (ji5 : Int).toNat 0)) := ⟨_, rfl⟩
   replace H : (if a1 = a0_0 then (if 0 < (y222.length : Int) then (some (y222.set (0 : Int).toNat 1)) else (none)) else ((spec_roWays.f k a0_0 a0_1 l0_2 (wrap64 (a1 + 1)) a2).bind fun t226 => (spec_roWays.l0 k a1 a2 y222 t226 (t226.length : Int) 0 a0_0 a0_1 l0_2))) = some r := qH
   have Ny222 := Aside0.mk hy_
   clear hy_
   by_cases c8 : a1 = a0_0
   ·
    rw [if_pos c8] at H
    have c8b0 : (a1 == a0_0) = true := beq_iff_eq.mpr c8
    have c8b1 : (a1 != a0_0) = false := bne_eq_false_iff_eq.mpr c8
    clear c8
    by_cases c9 : 0 < (y222.length : Int)
    ·
     rw [if_pos c9] at H
     have c9b0 : decide (0 < (y222.length : Int)) = true := decide_eq_true c9
     have c9b1 : decide (0 < y222.length) = true := decide_eq_true (by omega)
     clear c9
     obtain ⟨y225, hy_⟩ : ∃ y_ : List Int, y_ = ((y222.set (0 : Int).toNat 1)) := ⟨_, rfl⟩
     replace H : (some y225) = some r := qH
     have Ny225 := Aside0.mk hy_
     clear hy_
     obtain rfl := Option.some.inj H
     go_enter Try.func128, Try.ntmps128
     go_wp2_with (first | ((with_reducible refine gate_dst (N := 3) rfl ?_); refine qv 3 #[.int .i64 a0_0, .int .i64 a0_1, .slice A0_2 l0_2.length c0_2] 26 ?_; intro gb220 hg w11 hbox hb; have BK220 := am hbox; have GW220 := qw hg; have GE220 := qw hg; replace HB := qs hb; clear hb hbox hg; obtain ⟨zq0, zq1, zq2, fq0, fq1, fq2⟩ := qd BK220) | ((with_reducible refine gate_callee (f := 65) rfl ?_); refine qg (some 17) Try.func65 #[.int .i64 a0_0, .int .i64 a0_1] ?_; (with_reducible refine (spec_l1Least.calls a0_0 a0_1 t221 _ A4.out).mono ?_); rintro e w' ⟨rfl, ⟨nd, rfl⟩⟩; refine ⟨_, rfl, ?_⟩; (try (rw [drewN_self w11]; generalize hq_ : World.drewN w11 _ = w11; have n0_ : Aside0 (w11.heap[gb220]? = some (.cells #[.int .i64 a0_0, .int .i64 a0_1, .slice A0_2 l0_2.length c0_2] 26 (0, 0))) := ⟨by rw [← hq_]; exact (sqb BK220)⟩; have n1_ : Aside0 (Below w.heap.size w w11) := ⟨by rw [← hq_]; exact qb⟩; clear BK220 HB hq_; have BK220 := n0_; have HB := n1_; clear n0_ n1_))) | ((with_reducible refine gate_dst (N := 19) rfl ?_); refine Kd.R_make (Kd.int .i64) _ 3 rfl (N := 19) rfl 24 _ _ rfl ji5 rfl rfl Try.underlying24 (.int .i64 0) 8 info3 rfl (by decide) (by omega) 0 (ok := fun _ => True) (okp := fun _ => True) rfl (fun _ hk => hk) trivial (of_decide_eq_true Q1) (Nat.le_trans (Nat.mul_le_mul_right _ (of_decide_eq_true Q1 : ji5.toNat ≤ 35184372088832)) (by omega)) (Below.refl _ _) (Nat.le_refl _) ?_; intro v223 w13 ho14 hb hg_ hnew_; clear hg_ hnew_; (first | rw [← Ny222.out] at ho14 | (simp only [Int.reduceToNat] at ho14; rw [← Ny222.out] at ho14)); have Oq0 := ql ho14; replace BK220 := sqB BK220 hb; replace HB := qs hb; clear hb ho14; obtain ⟨zq3, zq4, zq5, fq3, fq4, fq5⟩ := qd BK220; have p10 : 0 ≤ (0 : Int) := (by omega); have q10 : (0 : Int) < ((y222.length : Int) : Int) := of_decide_eq_true Q1; have qi10 : (0 < y222.length) = True := eq_true (by omega); obtain ⟨go10, co10, eo10, gb10, gl10, cl10, HG10⟩ := Kd.R_form Oq0.out (by omega); (first | cases eo10 | (injection eo10 with ea_ en_ ec_; (first | subst ea_ | (injection ea_ with ea_; subst ea_)); subst ec_; clear en_)); have GB10 := Aside0.mk gb10; have GG10 := Aside0.mk HG10; clear gb10 gl10 HG10; obtain ⟨hx10_0, hf10_0⟩ := Kd.R_celln 0 Oq0.out (0 : Int) p10 q10; (try rw [show ((0 : Int)).toNat = 0 from rfl] at hx10_0); (try simp only [Nat.reduceMul, Nat.zero_mul, Nat.zero_add, Nat.reduceAdd] at hx10_0); (try rw [show ((0 : Int)).toNat = 0 from rfl] at hf10_0); (try simp only [Nat.reduceMul, Nat.zero_mul, Nat.zero_add, Nat.reduceAdd] at hf10_0); replace p10 := eq_true p10; replace q10 := eq_true q10; obtain ⟨hy16_, hz16_⟩ := Kd.R_celln 0 Oq0.out (0 : Int) (by omega) (of_decide_eq_true Q1); (try simp only [Int.reduceToNat, Int.toNat_zero, Int.toNat_ofNat, Nat.reduceMul, Nat.zero_mul, Nat.zero_add] at hy16_ hz16_); (try rw [show ((0 : Int)).toNat = 0 from rfl] at hy16_); (try rw [show ((0 : Int)).toNat = 0 from rfl] at hz16_); have HP16 := Kd.R_putg Oq0.out (0 : Int) 1) | ((with_reducible refine gate_store (t := 3) (p := 25) rfl ?_); refine store_event (t := 3) (p := 25) (v := ?vo_w17) (w1 := (w13.setCell ⟨go10, (0 : Int).toNat, none⟩ (.int .i64 1))) ?hg ?ho ?hn ?hr ?_; (case ho => rfl); (case hg => rfl); (case hn => rfl); (case hr => first | (go_simp; done) | (go_simp; rfl)); intro w17 hw; have hg : w13.grownBy w17 (some go10) := (by rw [hw]; exact HP16.2); have hp_ : Kd.R (Kd.int .i64) 3 w17 w.heap.size (fun _ => True) (.slice (some ⟨go10, 0, none⟩) y222.length co10) y225 := (by rw [hw, Ny225.out]; exact HP16.1); clear HP16; replace BK220 := am (blk_grown (g := gb220) (o := .cells #[.int .i64 a0_0, .int .i64 a0_1, .slice A0_2 l0_2.length c0_2] 26 (0, 0)) (sqb BK220) hg (Kd.R_ne Oq0.out BK220.out (by decide))); replace Oq0 := am (hp_); replace HB := am ((by rw [hw]; exact below_set (HB.out) GB10.out : Below w.heap.size w w17)); clear hg hw hp_))
     go_ret
     exact ⟨_, Q56, Q62, qb⟩
    ·
     rw [if_neg c9] at H
     exact absurd H (by simp)
   ·
    rw [if_neg c8] at H
    have c8b0 : (a1 == a0_0) = false := beq_eq_false_iff_ne.mpr c8
    have c8b1 : (a1 != a0_0) = true := bne_iff_ne.mpr c8
    replace H := qE H
    obtain ⟨t226, A18, H⟩ := H
    replace H : (spec_roWays.l0 k a1 a2 y222 t226 (t226.length : Int) 0 a0_0 a0_1 l0_2) = some r := H
    have H' := Aside0.mk H
    clear H
    go_enter Try.func128, Try.ntmps128
    go_wp2_with (first | ((with_reducible refine gate_dst (N := 3) rfl ?_); refine qv 3 #[.int .i64 a0_0, .int .i64 a0_1, .slice A0_2 l0_2.length c0_2] 26 ?_; intro gb220 hg w19 hbox hb; have BK220 := am hbox; have GW220 := qw hg; have GE220 := qw hg; replace HB := qs hb; clear hb hbox hg; obtain ⟨zq6, zq7, zq8, fq6, fq7, fq8⟩ := qd BK220) | ((with_reducible refine gate_callee (f := 65) rfl ?_); refine qg (some 17) Try.func65 #[.int .i64 a0_0, .int .i64 a0_1] ?_; (with_reducible refine (spec_l1Least.calls a0_0 a0_1 t221 _ A4.out).mono ?_); rintro e w' ⟨rfl, ⟨nd, rfl⟩⟩; refine ⟨_, rfl, ?_⟩) | ((with_reducible refine gate_dst (N := 19) rfl ?_); refine Kd.R_make (Kd.int .i64) _ 3 rfl (N := 19) rfl 24 _ _ rfl ji5 rfl rfl Try.underlying24 (.int .i64 0) 8 info3 rfl (by decide) (by omega) 0 (ok := fun _ => True) (okp := fun _ => True) rfl (fun _ hk => hk) trivial (of_decide_eq_true Q1) (Nat.le_trans (Nat.mul_le_mul_right _ (of_decide_eq_true Q1 : ji5.toNat ≤ 35184372088832)) (by omega)) (Below.refl _ _) (Nat.le_refl _) ?_; intro v223 w21 ho22 hb hg_ hnew_; clear hg_ hnew_; (first | rw [← Ny222.out] at ho22 | (simp only [Int.reduceToNat] at ho22; rw [← Ny222.out] at ho22)); have Oq0 := ql ho22; replace BK220 := sqB BK220 hb; replace HB := qs hb; clear hb ho22; obtain ⟨zq9, zq10, zq11, fq9, fq10, fq11⟩ := qd BK220) | ((with_reducible refine gate_callee (f := 128) rfl ?_); refine qg (some 31) Try.func128 #[.agg #[.int .i64 a0_0, .int .i64 a0_1, .slice A0_2 l0_2.length c0_2], .int .i64 (wrap64 (a1 + 1)), .int .i64 a2] ?_; (with_reducible refine (ih k (by omega) a0_0 a0_1 _ _ l0_2 (wrap64 (a1 + 1)) a2 t226 _ ?side1 ?side2 A18.out).mono ?_); (case side1 => exact Q0); (case side2 => exact HC0_2.out); rintro e w24 ⟨v227, rfl, ho0, hb⟩; refine ⟨_, rfl, ?_⟩; have Oq1 := am (Kd.R_lower (Kd.R_new' ho0 (sqL Oq0)) (below_size qb)); replace Oq0 := sqE Oq0 ho0 hb; replace BK220 := sqB BK220 hb; replace HB := qs hb; (try clear hb ho0); obtain ⟨Ao25, co25, eo25⟩ := Kd.R_slice Oq1.out; subst eo25))
    go_loopg [33] k (fun kq v33 w' => ∃ (x7_1 : List Int) (x33_1 : Int), v33 = .int .i64 x33_1 ∧ Aside0 (spec_roWays.l0 kq a1 a2 x7_1 t226 (t226.length : Int) x33_1 a0_0 a0_1 l0_2 = some r) ∧ Aside0 (kq ≤ k) ∧ Aside0 (Kd.R (Kd.int .i64) 3 w' w.heap.size (fun k_ => some k_ ≠ ((.slice Ao25 t226.length co25) : Value).ownBlock) v223 x7_1) ∧ Aside0 (Kd.R (Kd.int .i64) 3 w' w.heap.size (fun k_ => some k_ ≠ (v223 : Value).ownBlock) (.slice Ao25 t226.length co25) t226) ∧ Aside0 (w'.heap[gb220]? = some (.cells #[.int .i64 a0_0, .int .i64 a0_1, (.slice A0_2 l0_2.length c0_2)] 26 (0, 0))) ∧ Aside0 (Below w.heap.size w w'))
    case atStart => exact ⟨(y222), (0), Q3, H', ⟨Nat.le_refl _⟩, ⟨by exact sqm Oq0 (fun _ hk => hk.2)⟩, ⟨by exact sqm Oq1 (fun _ hk => hk.2)⟩, ⟨Q16⟩, ⟨qb⟩⟩
    case round =>
     clear H'
     try clear c6; try clear c6b0; try clear c6b1; try clear c7; try clear c7b0; try clear c7b1; try clear c8; try clear c8b0; try clear c8b1; try clear c9; try clear c9b0; try clear c9b1; try clear p10; try clear q10; try clear qi10; try clear zq0; try clear zq1; try clear zq2; try clear zq3; try clear zq4; try clear zq5; try clear zq6; try clear zq7; try clear zq8; try clear zq9; try clear zq10; try clear zq11; try clear fq0; try clear fq1; try clear fq2; try clear fq3; try clear fq4; try clear fq5; try clear fq6; try clear fq7; try clear fq8; try clear fq9; try clear fq10; try clear fq11; try clear hx10_0; try clear p10; try clear q10
     obtain ⟨x7_1, x33_1, rfl, HA, HK1, Oq4, Oq3, BK220, HB⟩ := hrel
     cases gk with
     | zero => exact absurd HA.out (by simp [spec_roWays.l0])
     | succ k1 =>
      have H := HA.out
      clear HA
      simp only [spec_roWays.l0] at H
      by_cases c26 : x33_1 < (t226.length : Int)
      ·
       rw [if_pos c26] at H
       have c26b0 : decide (x33_1 < (t226.length : Int)) = true := decide_eq_true c26
       clear c26
       by_cases c27 : 0 ≤ x33_1
       ·
        rw [if_pos c27] at H
        have c27b0 : decide (0 ≤ x33_1) = true := decide_eq_true c27
        clear c27
        by_cases c28 : x33_1 < (t226.length : Int)
        ·
         rw [if_pos c28] at H
         have c28b0 : decide (x33_1 < (t226.length : Int)) = true := decide_eq_true c28
         clear c28
         by_cases c29 : x33_1 < (x7_1.length : Int)
         ·
          rw [if_pos c29] at H
          have c29b0 : decide (x33_1 < (x7_1.length : Int)) = true := decide_eq_true c29
          clear c29
          obtain ⟨y231, hy_⟩ : ∃ y_ : List Int, y_ = ((x7_1.set (x33_1 : Int).toNat (wrap64 ((rd x7_1 x33_1) + (rd t226 x33_1))))) := ⟨_, rfl⟩
          replace H : (spec_roWays.l0 k1 a1 a2 y231 t226 (t226.length : Int) (wrap64 (x33_1 + 1)) a0_0 a0_1 l0_2) = some r := qH
          have Ny231 := Aside0.mk hy_
          clear hy_
          have H' := Aside0.mk H
          clear H
          have p229 : 0 ≤ (x33_1 : Int) := of_decide_eq_true Q1
          have q229 : x33_1 < (t226.length : Int) := of_decide_eq_true Q1
          obtain ⟨ad229, e229, hx229_0⟩ := Kd.at_int (Kd.R_reads' Oq3.out).2.2 x33_1 p229 q229
          cases e229
          replace p229 := eq_true p229
          replace q229 := eq_true q229
          obtain ⟨Ao31, co31, eo31⟩ := Kd.R_slice Oq4.out
          subst eo31
          have p230 : 0 ≤ (x33_1 : Int) := of_decide_eq_true Q1
          have q230 : x33_1 < (x7_1.length : Int) := of_decide_eq_true Q1
          obtain ⟨ad230, e230, hx230_0⟩ := Kd.at_int (Kd.R_reads' Oq4.out).2.2 x33_1 p230 q230
          cases e230
          replace p230 := eq_true p230
          replace q230 := eq_true q230
          have p30 : 0 ≤ (x33_1 : Int) := of_decide_eq_true Q1
          have q30 : (x33_1 : Int) < ((x7_1.length : Int) : Int) := of_decide_eq_true Q1
          obtain ⟨go30, co30, eo30, gb30, gl30, cl30, HG30⟩ := Kd.R_form Oq4.out (by omega)
          (first | cases eo30 | (injection eo30 with ea_ en_ ec_; (first | subst ea_ | (injection ea_ with ea_; subst ea_)); subst ec_; clear en_))
          have GB30 := Aside0.mk gb30
          have GG30 := Aside0.mk HG30
          clear gb30 gl30 HG30
          (first | simp only [add_plain] at hx230_0 | skip)
          obtain ⟨hx30_0, hf30_0⟩ := Kd.R_celln 0 Oq4.out (x33_1 : Int) p30 q30
          replace p30 := eq_true p30
          replace q30 := eq_true q30
          have HP32 := Kd.R_putg Oq4.out (x33_1 : Int) (wrap64 ((rd x7_1 x33_1) + (rd t226 x33_1)))
          go_wp2_with (first | ((with_reducible refine gate_store (t := 3) (p := 44) rfl ?_); refine store_event (t := 3) (p := 44) (v := ?vo_w33) (w1 := (wr.setCell ⟨go30, (x33_1 : Int).toNat, none⟩ (.int .i64 (wrap64 ((rd x7_1 x33_1) + (rd t226 x33_1)))))) ?hg ?ho ?hn ?hr ?_; (case ho => rfl); (case hg => rfl); (case hn => rfl); (case hr => first | (go_simp; done) | (go_simp; rfl)); intro w33 hw; have hg : wr.grownBy w33 (some go30) := (by rw [hw]; exact HP32.2); have hp_ : Kd.R (Kd.int .i64) 3 w33 w.heap.size (fun k_ => some k_ ≠ (.slice (some ad229) t226.length co25 : Value).ownBlock) (.slice (some ⟨go30, 0, none⟩) x7_1.length co31) y231 := (by rw [hw, Ny231.out]; exact HP32.1); clear HP32; replace Oq3 := am (Kd.R_after (v := (.slice (some ⟨go30, 0, none⟩) x7_1.length co31)) (v1 := (.slice (some ⟨go30, 0, none⟩) x7_1.length co31)) (ok := (fun _ => True)) (by exact sqm Oq3 (fun _ hk => ⟨trivial, hk⟩)) hg (.inl rfl)); replace BK220 := am (blk_grown (g := gb220) (o := .cells #[.int .i64 a0_0, .int .i64 a0_1, .slice A0_2 l0_2.length c0_2] 26 (0, 0)) (sqb BK220) hg (Kd.R_ne Oq4.out BK220.out (by decide))); replace Oq4 := am (hp_); replace HB := am ((by rw [hw]; exact below_set (HB.out) GB30.out : Below w.heap.size w w33)); clear hg hw hp_))
          go_roundg k1
          case measure => have := HK1.out; omega
          case rel => exact ⟨(y231), (wrap64 (x33_1 + 1)), Q3, H', ⟨Q42⟩, ⟨Q13⟩, ⟨by exact sqm Oq3 (fun _ hk => hk.2)⟩, ⟨Q16⟩, ⟨qb⟩⟩
         ·
          rw [if_neg c29] at H
          exact absurd H (by simp)
        ·
         rw [if_neg c28] at H
         exact absurd H (by simp)
       ·
        rw [if_neg c27] at H
        exact absurd H (by simp)
      ·
       rw [if_neg c26] at H
       have c26b0 : decide (x33_1 < (t226.length : Int)) = false := decide_eq_false c26
       clear c26
       have H' := Aside0.mk H
       clear H
       go_wp2
       go_loopg [10] k1 (fun kq v10 w' => ∃ (x7_2 : List Int) (x10_2 : Int), v10 = .int .i64 x10_2 ∧ Aside0 (spec_roWays.l1 kq a1 a2 x7_2 x10_2 a0_0 a0_1 l0_2 = some r) ∧ Aside0 (kq ≤ k1) ∧ Aside0 (Kd.R (Kd.int .i64) 3 w' w.heap.size (fun _ => True) v223 x7_2) ∧ Aside0 (w'.heap[gb220]? = some (.cells #[.int .i64 a0_0, .int .i64 a0_1, (.slice A0_2 l0_2.length c0_2)] 26 (0, 0))) ∧ Aside0 (Below w.heap.size w w'))
       case atStart => exact ⟨(x7_1), (0), Q3, H', ⟨Nat.le_refl _⟩, ⟨by exact sqm Oq4 (fun _ hk => trivial)⟩, ⟨Q16⟩, ⟨qb⟩⟩
       case round =>
        clear H'
        try clear c6; try clear c6b0; try clear c6b1; try clear c7; try clear c7b0; try clear c7b1; try clear c8; try clear c8b0; try clear c8b1; try clear c9; try clear c9b0; try clear c9b1; try clear p10; try clear q10; try clear qi10; try clear c26; try clear c26b0; try clear c27; try clear c27b0; try clear c28; try clear c28b0; try clear c29; try clear c29b0; try clear p30; try clear q30; try clear zq0; try clear zq1; try clear zq2; try clear zq3; try clear zq4; try clear zq5; try clear zq6; try clear zq7; try clear zq8; try clear zq9; try clear zq10; try clear zq11; try clear fq0; try clear fq1; try clear fq2; try clear fq3; try clear fq4; try clear fq5; try clear fq6; try clear fq7; try clear fq8; try clear fq9; try clear fq10; try clear fq11; try clear hx10_0; try clear hx229_0; try clear hx230_0; try clear hx30_0; try clear p10; try clear p229; try clear p230; try clear p30; try clear q10; try clear q229; try clear q230; try clear q30
        obtain ⟨x7_2, x10_2, rfl, HA, HK2, Oq4, BK220, HB⟩ := hrel
        cases gk with
        | zero => exact absurd HA.out (by simp [spec_roWays.l1])
        | succ k2 =>
         have H := HA.out
         clear HA
         simp only [spec_roWays.l1] at H
         by_cases c34 : x10_2 < a0_1
         ·
          rw [if_pos c34] at H
          have c34b0 : decide (x10_2 < a0_1) = true := decide_eq_true c34
          clear c34
          have HC35 := Aside0.mk H
          clear H
          obtain ⟨zq12, zq13, zq14, fq12, fq13, fq14⟩ := qd BK220
          go_upto_region 13 with (fail)
          go_cut [63] (fun v63 wc => ∃ (kq : Nat) (x63_34 : Bool), v63 = .bool x63_34 ∧ Aside0 (spec_roWays.j2 kq a1 a2 x7_2 x10_2 x63_34 a0_0 a0_1 l0_2 = some r) ∧ Aside0 (kq ≤ k2) ∧ Aside0 (Kd.R (Kd.int .i64) 3 wc w.heap.size (fun _ => True) v223 x7_2) ∧ Aside0 (wc.heap[gb220]? = some (.cells #[.int .i64 a0_0, .int .i64 a0_1, (.slice A0_2 l0_2.length c0_2)] 26 (0, 0))) ∧ Aside0 (Below w.heap.size w wc))
          case first =>
           have H := HC35.out
           clear HC35
           replace H := qE H
           obtain ⟨t232, A37, H⟩ := H
           replace H : (if t232 = true then (if 0 ≤ x10_2 then (spec_roWays.j2 k2 a1 a2 x7_2 x10_2 ((Int.tmod (shr .i64 a2 x10_2) 2) == 1) a0_0 a0_1 l0_2) else (none)) else (spec_roWays.j2 k2 a1 a2 x7_2 x10_2 true a0_0 a0_1 l0_2)) = some r := H
           by_cases c38 : t232 = true
           ·
            subst c38
            have H1 : (if 0 ≤ x10_2 then (spec_roWays.j2 k2 a1 a2 x7_2 x10_2 ((Int.tmod (shr .i64 a2 x10_2) 2) == 1) a0_0 a0_1 l0_2) else (none)) = some r := by first | (rw [if_pos rfl] at H; exact H) | rfl
            clear H
            have H := H1
            clear H1
            by_cases c39 : 0 ≤ x10_2
            ·
             rw [if_pos c39] at H
             have c39b0 := eq_true c39
             have c39b1 : decide (0 ≤ x10_2) = true := decide_eq_true c39
             clear c39
             obtain ⟨ji40, hji40⟩ : ∃ j_ : Int, (shr .i64 a2 x10_2) = j_ := ⟨_, rfl⟩
             replace H : (spec_roWays.j2 k2 a1 a2 x7_2 x10_2 ((Int.tmod (ji40) 2) == 1) a0_0 a0_1 l0_2) = some r := by first | (rw [hji40] at H; exact H) | (simp only [hji40] at H ⊢; exact H)
             (try rw [hji40] at A37)
             have hji40_ : (a2 / 2 ^ min x10_2.toNat 64) = ji40 := hji40
             have hji40z : x10_2 ≤ 64 → (a2 / 2 ^ x10_2.toNat) = ji40 := shr_small hji40
             have H' := Aside0.mk H
             clear H
             obtain ⟨zq15, zq16, zq17, fq15, fq16, fq17⟩ := qd BK220
             go_wp2_with (first | ((with_reducible refine gate_callee (f := 133) rfl ?_); refine qg (some 55) Try.func133 #[.agg #[.int .i64 a0_0, .int .i64 a0_1, .slice A0_2 l0_2.length c0_2], .int .i64 a1, .int .i64 x10_2] ?_; (with_reducible refine (spec_boHas.calls a0_0 a0_1 _ _ l0_2 a1 x10_2 true _ ?side1 HC0_2.out A37.out).mono ?_); (case side1 => exact Q0); rintro e w42 ⟨rfl, hb⟩; refine ⟨_, rfl, ?_⟩; replace Oq4 := sqR Oq4 hb; replace BK220 := sqB BK220 hb; replace HB := qs hb; (try clear hb)))
             go_meet
             case rel => exact ⟨_, (((Int.tmod (ji40) 2) == 1)), (by first | rfl | (simp; done) | (simp only [← hji40] <;> (first | rfl | simp)) | (simp [*]; done)), H', ⟨by have := HK1.out; have := HK2.out; first | omega | exact Nat.le_refl _⟩, ⟨Q13⟩, ⟨Q16⟩, ⟨qb⟩⟩
            ·
             rw [if_neg c39] at H
             exact absurd H (by simp)
           ·
            replace c38 := Bool.eq_false_iff.mpr c38
            subst c38
            have H1 : (spec_roWays.j2 k2 a1 a2 x7_2 x10_2 true a0_0 a0_1 l0_2) = some r := by first | (rw [if_neg (show ¬ (false = true) by decide)] at H; exact H) | rfl
            clear H
            have H := H1
            clear H1
            have H' := Aside0.mk H
            clear H
            obtain ⟨zq18, zq19, zq20, fq18, fq19, fq20⟩ := qd BK220
            go_wp2_with (first | ((with_reducible refine gate_callee (f := 133) rfl ?_); refine qg (some 55) Try.func133 #[.agg #[.int .i64 a0_0, .int .i64 a0_1, .slice A0_2 l0_2.length c0_2], .int .i64 a1, .int .i64 x10_2] ?_; (with_reducible refine (spec_boHas.calls a0_0 a0_1 _ _ l0_2 a1 x10_2 false _ ?side1 HC0_2.out A37.out).mono ?_); (case side1 => exact Q0); rintro e w44 ⟨rfl, hb⟩; refine ⟨_, rfl, ?_⟩; replace Oq4 := sqR Oq4 hb; replace BK220 := sqB BK220 hb; replace HB := qs hb; (try clear hb)))
            go_meet
            case rel => exact ⟨_, (true), Q3, H', ⟨by have := HK1.out; have := HK2.out; first | omega | exact Nat.le_refl _⟩, ⟨Q13⟩, ⟨Q16⟩, ⟨qb⟩⟩
          case rest =>
           clear HC35
           try clear c6; try clear c6b0; try clear c6b1; try clear c7; try clear c7b0; try clear c7b1; try clear c8; try clear c8b0; try clear c8b1; try clear c9; try clear c9b0; try clear c9b1; try clear p10; try clear q10; try clear qi10; try clear c26; try clear c26b0; try clear c27; try clear c27b0; try clear c28; try clear c28b0; try clear c29; try clear c29b0; try clear p30; try clear q30; try clear c34; try clear c34b0; try clear c38; try clear c39; try clear c39b0; try clear c39b1; try clear zq0; try clear zq1; try clear zq2; try clear zq3; try clear zq4; try clear zq5; try clear zq6; try clear zq7; try clear zq8; try clear zq9; try clear zq10; try clear zq11; try clear zq12; try clear zq13; try clear zq14; try clear zq15; try clear zq16; try clear zq17; try clear zq18; try clear zq19; try clear zq20; try clear fq0; try clear fq1; try clear fq2; try clear fq3; try clear fq4; try clear fq5; try clear fq6; try clear fq7; try clear fq8; try clear fq9; try clear fq10; try clear fq11; try clear fq12; try clear fq13; try clear fq14; try clear fq15; try clear fq16; try clear fq17; try clear fq18; try clear fq19; try clear fq20; try clear hx10_0; try clear hx229_0; try clear hx230_0; try clear hx30_0; try clear p10; try clear p229; try clear p230; try clear p30; try clear q10; try clear q229; try clear q230; try clear q30
           obtain ⟨kq, x63_34, rfl, HA, HJ34, Oq4, BK220, HB⟩ := hcut
           cases kq with
           | zero => exact absurd HA.out (by simp [spec_roWays.j2])
           | succ kj34 =>
            have H := HA.out
            clear HA
            simp only [spec_roWays.j2] at H
            by_cases c45 : x63_34 = true
            ·
             subst c45
             have H1 : (spec_roWays.l1 kj34 a1 a2 x7_2 (wrap64 (x10_2 + 1)) a0_0 a0_1 l0_2) = some r := by first | (rw [if_pos rfl] at H; exact H) | rfl
             clear H
             have H := H1
             clear H1
             have H' := Aside0.mk H
             clear H
             go_wp2
             go_roundg kj34
             case measure => have := HK1.out; have := HK2.out; have := HJ34.out; omega
             case rel => exact ⟨(x7_2), (wrap64 (x10_2 + 1)), Q3, H', ⟨by have := HK1.out; have := HK2.out; have := HJ34.out; omega⟩, ⟨Q13⟩, ⟨Q16⟩, ⟨qb⟩⟩
            ·
             replace c45 := Bool.eq_false_iff.mpr c45
             subst c45
             have H1 : (if 0 ≤ x10_2 then ((spec_roWays.f kj34 a0_0 a0_1 l0_2 (wrap64 (a1 + 1)) (Go.bits .or .i64 a2 (shl .i64 1 x10_2))).bind fun t233 => (spec_roWays.l2 kj34 a1 a2 x7_2 x10_2 t233 (t233.length : Int) 0 a0_0 a0_1 l0_2)) else (none)) = some r := by first | (rw [if_neg (show ¬ (false = true) by decide)] at H; exact H) | rfl
             clear H
             have H := H1
             clear H1
             by_cases c46 : 0 ≤ x10_2
             ·
              rw [if_pos c46] at H
              have c46b0 := eq_true c46
              have c46b1 : decide (0 ≤ x10_2) = true := decide_eq_true c46
              clear c46
              obtain ⟨ji47, hji47⟩ : ∃ j_ : Int, (shl .i64 1 x10_2) = j_ := ⟨_, rfl⟩
              replace H : ((spec_roWays.f kj34 a0_0 a0_1 l0_2 (wrap64 (a1 + 1)) (Go.bits .or .i64 a2 (ji47))).bind fun t233 => (spec_roWays.l2 kj34 a1 a2 x7_2 x10_2 t233 (t233.length : Int) 0 a0_0 a0_1 l0_2)) = some r := by first | (rw [hji47] at H; exact H) | (simp only [hji47] at H ⊢; exact H)
              have hji47_ : (IntKind.i64.wrap (1 * 2 ^ min x10_2.toNat 64)) = ji47 := hji47
              have hji47z : x10_2 ≤ 64 → (IntKind.i64.wrap (1 * 2 ^ x10_2.toNat)) = ji47 := shl_small hji47
              have hji47u : (IntKind.i64.wrap (2 ^ min x10_2.toNat 64)) = ji47 := by have h_ := hji47_; rw [Int.one_mul] at h_; exact h_
              have hji47v : x10_2 ≤ 64 → (IntKind.i64.wrap (2 ^ x10_2.toNat)) = ji47 := fun hle_ => by have h_ := hji47z hle_; rw [Int.one_mul] at h_; exact h_
              have hji47y : (wrap64 (1 * 2 ^ min x10_2.toNat 64)) = ji47 := (i64_w _).symm.trans hji47_
              have hji47x : x10_2 ≤ 64 → (wrap64 (1 * 2 ^ x10_2.toNat)) = ji47 := fun h_ => (i64_w _).symm.trans (hji47z h_)
              replace H := qE H
              obtain ⟨t233, A48, H⟩ := H
              replace H : (spec_roWays.l2 kj34 a1 a2 x7_2 x10_2 t233 (t233.length : Int) 0 a0_0 a0_1 l0_2) = some r := H
              have H' := Aside0.mk H
              clear H
              try go_wp2
              replace Oq4 := am (Kd.R_drew Oq4.out)
              replace BK220 := am (blk_drew BK220.out)
              replace HB := am (below_drew1 HB.out)
              refine start_ (n := 10) (S := fun w' => w'.cell? ⟨gb220, 0, none⟩ = some (.int .i64 a0_0) ∧ w'.cell? ⟨gb220, 1, none⟩ = some (.int .i64 a0_1) ∧ w'.cell? ⟨gb220, 2, none⟩ = some (.slice A0_2 l0_2.length c0_2)) (ds := []) #[false, false, false, false, false, false, false, false, false, false] (by kernel_rfl) rfl rfl ⟨sqc BK220 0, sqc BK220 1, sqc BK220 2⟩ (fun hHeld => ?_); refine with_tabW spec_roWays.tab14 spec_roWays.bits14 (fun HT_ HW_ => ?_)
              generalize wc.drew = w49 at Oq4 BK220 HB hHeld ⊢
              refine qp 1 (some 65) #[false, true, false, false, false, false, false, false, false, false] ?_
              refine qp 2 (some 66) #[false, true, true, false, false, false, false, false, false, false] ?_
              refine qp 3 (some 67) #[false, true, true, true, false, false, false, false, false, false] ?_
              refine qp 4 (some 68) #[false, true, true, true, true, false, false, false, false, false] ?_
              refine qp 5 (some 69) #[false, true, true, true, true, true, false, false, false, false] ?_
              refine qp 6 (some 70) #[false, true, true, true, true, true, true, false, false, false] ?_
              refine qp 9 (some 73) #[false, true, true, true, true, true, true, false, false, true] ?_
              refine take_ (i := 0) (N := some 64) (v := ?_) (a' := ?_) #[true, true, true, true, true, true, true, false, false, true] rfl rfl (take_ofW HT_.out HW_.out (by kernel_rfl)) (fun _ _ _ h => h) (Or.inl ⟨by rfl, ?_⟩) hHeld ?_ ?_
              rotate_left
              ·
               rintro w' ⟨s0, s1, s2⟩
               go_simp
               with_reducible rfl
              rotate_left
              ·
               simp only [Act.put, List.setIfInBounds_toArray, List.set_cons_zero, List.set_cons_succ, i64_w, i32_w]
               rfl
              refine one_ (i := 7) (N := some 71) #[true, true, true, true, true, true, true, true, false, true] rfl rfl (one_of HT_.out (by kernel_rfl)) (by decide) fun K hK => ?_
              refine goes_ Try.func128 (by kernel_rfl) rfl #[.agg #[.int .i64 a0_0, .int .i64 a0_1, .slice A0_2 l0_2.length c0_2], .int .i64 (wrap64 (a1 + 1)), .int .i64 (Go.bits .or .i64 a2 (ji47))] (by rfl) rfl rfl (by (try simp only [List.map_toArray, List.map_cons, List.map_nil]); first | done | (simp only [hji47]; rfl) | rfl | (simp only [List.length_drop, List.length_take]; rfl)) ?_
              with_reducible refine (ih kj34 (by have := HK1.out; have := HK2.out; have := HJ34.out; omega) a0_0 a0_1 _ _ l0_2 (wrap64 (a1 + 1)) (Go.bits .or .i64 a2 (ji47)) t233 _ ?side1 ?side2 A48.out).mono ?_
              (case side1 => exact Q0)
              (case side2 => exact HC0_2.out)
              rintro e w50 ⟨v234, rfl, ho0, hb⟩
              refine ⟨_, rfl, ?_⟩
              have Oq2 := am (Kd.R_lower (Kd.R_new' ho0 (sqL Oq4)) (below_size qb))
              replace Oq4 := sqE Oq4 ho0 hb
              replace BK220 := sqB BK220 hb
              replace HB := qs hb
              (try clear hb ho0)
              obtain ⟨Ao51, co51, eo51⟩ := Kd.R_slice Oq2.out
              (first | subst eo51 | (injection eo51 with f1_ f2_ f3_; have f4_ := f1_.symm; have f5_ := f3_.symm; clear f1_ f2_ f3_; subst f4_; subst f5_))
              refine hK.out _ _ ⟨sqc BK220 0, sqc BK220 1, sqc BK220 2⟩ (fun hHeld => ?_)
              clear hK K
              refine qq (some 71) ?_
              refine qp 8 (some 72) #[true, true, true, true, true, true, true, true, true, true] ?_
              refine done_ (done_of HT_.out (by kernel_rfl)) ?_
              try go_wp2
              go_loopg [73] kj34 (fun kq v73 w' => ∃ (x7_4 : List Int) (x73_4 : Int), v73 = .int .i64 x73_4 ∧ Aside0 (spec_roWays.l2 kq a1 a2 x7_4 x10_2 t233 (t233.length : Int) x73_4 a0_0 a0_1 l0_2 = some r) ∧ Aside0 (kq ≤ kj34) ∧ Aside0 (Kd.R (Kd.int .i64) 3 w' w.heap.size (fun k_ => some k_ ≠ ((.slice Ao51 t233.length co51) : Value).ownBlock) v223 x7_4) ∧ Aside0 (Kd.R (Kd.int .i64) 3 w' w.heap.size (fun k_ => some k_ ≠ (v223 : Value).ownBlock) (.slice Ao51 t233.length co51) t233) ∧ Aside0 (w'.heap[gb220]? = some (.cells #[.int .i64 a0_0, .int .i64 a0_1, (.slice A0_2 l0_2.length c0_2)] 26 (0, 0))) ∧ Aside0 (Below w.heap.size w w'))
              case atStart => exact ⟨(x7_2), (0), Q3, H', ⟨Nat.le_refl _⟩, ⟨by exact sqm Oq4 (fun _ hk => hk.2)⟩, ⟨by exact sqm Oq2 (fun _ hk => hk.2)⟩, ⟨Q16⟩, ⟨qb⟩⟩
              case round =>
               clear H'
               try clear c6; try clear c6b0; try clear c6b1; try clear c7; try clear c7b0; try clear c7b1; try clear c8; try clear c8b0; try clear c8b1; try clear c9; try clear c9b0; try clear c9b1; try clear p10; try clear q10; try clear qi10; try clear c26; try clear c26b0; try clear c27; try clear c27b0; try clear c28; try clear c28b0; try clear c29; try clear c29b0; try clear p30; try clear q30; try clear c34; try clear c34b0; try clear c38; try clear c39; try clear c39b0; try clear c39b1; try clear c45; try clear c46; try clear c46b0; try clear c46b1; try clear zq0; try clear zq1; try clear zq2; try clear zq3; try clear zq4; try clear zq5; try clear zq6; try clear zq7; try clear zq8; try clear zq9; try clear zq10; try clear zq11; try clear zq12; try clear zq13; try clear zq14; try clear zq15; try clear zq16; try clear zq17; try clear zq18; try clear zq19; try clear zq20; try clear fq0; try clear fq1; try clear fq2; try clear fq3; try clear fq4; try clear fq5; try clear fq6; try clear fq7; try clear fq8; try clear fq9; try clear fq10; try clear fq11; try clear fq12; try clear fq13; try clear fq14; try clear fq15; try clear fq16; try clear fq17; try clear fq18; try clear fq19; try clear fq20; try clear hx10_0; try clear hx229_0; try clear hx230_0; try clear hx30_0; try clear p10; try clear p229; try clear p230; try clear p30; try clear q10; try clear q229; try clear q230; try clear q30
               obtain ⟨x7_4, x73_4, rfl, HA, HK4, Oq4, Oq5, BK220, HB⟩ := hrel
               cases gk with
               | zero => exact absurd HA.out (by simp [spec_roWays.l2])
               | succ k4 =>
                have H := HA.out
                clear HA
                simp only [spec_roWays.l2] at H
                by_cases c52 : x73_4 < (t233.length : Int)
                ·
                 rw [if_pos c52] at H
                 have c52b0 : decide (x73_4 < (t233.length : Int)) = true := decide_eq_true c52
                 clear c52
                 by_cases c53 : 0 ≤ x73_4
                 ·
                  rw [if_pos c53] at H
                  have c53b0 : decide (0 ≤ x73_4) = true := decide_eq_true c53
                  clear c53
                  by_cases c54 : x73_4 < (t233.length : Int)
                  ·
                   rw [if_pos c54] at H
                   have c54b0 : decide (x73_4 < (t233.length : Int)) = true := decide_eq_true c54
                   clear c54
                   by_cases c55 : (rd t233 x73_4) > 0
                   ·
                    rw [if_pos c55] at H
                    have c55b0 : decide (0 < (rd t233 x73_4)) = true := decide_eq_true c55
                    clear c55
                    obtain ⟨ji56, hji56⟩ : ∃ j_ : Int, (wrap64 (x73_4 + 1)) = j_ := ⟨_, rfl⟩
                    replace H : (if 0 ≤ (ji56) then (if (ji56) < (x7_4.length : Int) then (spec_roWays.l2 k4 a1 a2 (x7_4.set ((ji56) : Int).toNat (wrap64 ((rd x7_4 (ji56)) + (rd t233 x73_4)))) x10_2 t233 (t233.length : Int) ji56 a0_0 a0_1 l0_2) else (none)) else (none)) = some r := by first | (rw [hji56] at H; exact H) | (simp only [hji56] at H ⊢; exact H)
                    have hji56w : (IntKind.i64.wrap (x73_4 + 1)) = ji56 := (i64_w _).trans hji56
                    by_cases c57 : 0 ≤ (ji56)
                    ·
                     rw [if_pos c57] at H
                     have c57b0 : decide (0 ≤ (ji56)) = true := decide_eq_true c57
                     clear c57
                     by_cases c58 : (ji56) < (x7_4.length : Int)
                     ·
                      rw [if_pos c58] at H
                      have c58b0 : decide ((ji56) < (x7_4.length : Int)) = true := decide_eq_true c58
                      clear c58
                      obtain ⟨y238, hy_⟩ : ∃ y_ : List Int, y_ = ((x7_4.set ((ji56) : Int).toNat (wrap64 ((rd x7_4 (ji56)) + (rd t233 x73_4))))) := ⟨_, rfl⟩
                      replace H : (spec_roWays.l2 k4 a1 a2 y238 x10_2 t233 (t233.length : Int) ji56 a0_0 a0_1 l0_2) = some r := qH
                      have Ny238 := Aside0.mk hy_
                      clear hy_
                      have H' := Aside0.mk H
                      clear H
                      have p236 : 0 ≤ (x73_4 : Int) := of_decide_eq_true Q1
                      have q236 : x73_4 < (t233.length : Int) := of_decide_eq_true Q1
                      obtain ⟨ad236, e236, hx236_0⟩ := Kd.at_int (Kd.R_reads' Oq5.out).2.2 x73_4 p236 q236
                      cases e236
                      replace p236 := eq_true p236
                      replace q236 := eq_true q236
                      obtain ⟨Ao60, co60, eo60⟩ := Kd.R_slice Oq4.out
                      subst eo60
                      have p237 : 0 ≤ ((ji56) : Int) := of_decide_eq_true Q1
                      have q237 : (ji56) < (x7_4.length : Int) := of_decide_eq_true Q1
                      obtain ⟨ad237, e237, hx237_0⟩ := Kd.at_int (Kd.R_reads' Oq4.out).2.2 (ji56) p237 q237
                      cases e237
                      replace p237 := eq_true p237
                      replace q237 := eq_true q237
                      have p59 : 0 ≤ ((ji56) : Int) := of_decide_eq_true Q1
                      have q59 : ((ji56) : Int) < ((x7_4.length : Int) : Int) := of_decide_eq_true Q1
                      obtain ⟨go59, co59, eo59, gb59, gl59, cl59, HG59⟩ := Kd.R_form Oq4.out (by omega)
                      (first | cases eo59 | (injection eo59 with ea_ en_ ec_; (first | subst ea_ | (injection ea_ with ea_; subst ea_)); subst ec_; clear en_))
                      have GB59 := Aside0.mk gb59
                      have GG59 := Aside0.mk HG59
                      clear gb59 gl59 HG59
                      (first | simp only [add_plain] at hx237_0 | skip)
                      obtain ⟨hx59_0, hf59_0⟩ := Kd.R_celln 0 Oq4.out ((ji56) : Int) p59 q59
                      replace p59 := eq_true p59
                      replace q59 := eq_true q59
                      have HP61 := Kd.R_putg Oq4.out ((ji56) : Int) (wrap64 ((rd x7_4 (ji56)) + (rd t233 x73_4)))
                      go_wp2_with (first | ((with_reducible refine gate_store (t := 3) (p := 87) rfl ?_); refine store_event (t := 3) (p := 87) (v := ?vo_w62) (w1 := (wr.setCell ⟨go59, ((ji56) : Int).toNat, none⟩ (.int .i64 (wrap64 ((rd x7_4 (ji56)) + (rd t233 x73_4)))))) ?hg ?ho ?hn ?hr ?_; (case ho => rfl); (case hg => rfl); (case hn => rfl); (case hr => first | (go_simp; done) | (go_simp; rfl)); intro w62 hw; have hg : wr.grownBy w62 (some go59) := (by rw [hw]; exact HP61.2); have hp_ : Kd.R (Kd.int .i64) 3 w62 w.heap.size (fun k_ => some k_ ≠ (.slice (some ad236) t233.length co51 : Value).ownBlock) (.slice (some ⟨go59, 0, none⟩) x7_4.length co60) y238 := (by rw [hw, Ny238.out]; exact HP61.1); clear HP61; replace Oq5 := am (Kd.R_after (v := (.slice (some ⟨go59, 0, none⟩) x7_4.length co60)) (v1 := (.slice (some ⟨go59, 0, none⟩) x7_4.length co60)) (ok := (fun _ => True)) (by exact sqm Oq5 (fun _ hk => ⟨trivial, hk⟩)) hg (.inl rfl)); replace BK220 := am (blk_grown (g := gb220) (o := .cells #[.int .i64 a0_0, .int .i64 a0_1, .slice A0_2 l0_2.length c0_2] 26 (0, 0)) (sqb BK220) hg (Kd.R_ne Oq4.out BK220.out (by decide))); replace Oq4 := am (hp_); replace HB := am ((by rw [hw]; exact below_set (HB.out) GB59.out : Below w.heap.size w w62)); clear hg hw hp_))
                      go_roundg k4
                      case measure => have := HK1.out; have := HK2.out; have := HJ34.out; have := HK4.out; omega
                      case rel => exact ⟨(y238), (ji56), (by first | rfl | (simp; done) | (simp only [← hji56] <;> (first | rfl | simp)) | (simp [*]; done)), H', ⟨by have := HK1.out; have := HK2.out; have := HJ34.out; have := HK4.out; omega⟩, ⟨Q13⟩, ⟨by exact sqm Oq5 (fun _ hk => hk.2)⟩, ⟨Q16⟩, ⟨qb⟩⟩
                     ·
                      rw [if_neg c58] at H
                      exact absurd H (by simp)
                    ·
                     rw [if_neg c57] at H
                     exact absurd H (by simp)
                   ·
                    rw [if_neg c55] at H
                    have c55b0 : decide (0 < (rd t233 x73_4)) = false := decide_eq_false c55
                    clear c55
                    have H' := Aside0.mk H
                    clear H
                    have p236 : 0 ≤ (x73_4 : Int) := of_decide_eq_true Q1
                    have q236 : x73_4 < (t233.length : Int) := of_decide_eq_true Q1
                    obtain ⟨ad236, e236, hx236_0⟩ := Kd.at_int (Kd.R_reads' Oq5.out).2.2 x73_4 p236 q236
                    cases e236
                    replace p236 := eq_true p236
                    replace q236 := eq_true q236
                    go_wp2
                    go_roundg k4
                    case measure => have := HK1.out; have := HK2.out; have := HJ34.out; have := HK4.out; omega
                    case rel => exact ⟨(x7_4), (wrap64 (x73_4 + 1)), Q3, H', ⟨by have := HK1.out; have := HK2.out; have := HJ34.out; have := HK4.out; omega⟩, ⟨Q13⟩, ⟨by (with_reducible repeat (first | apply Kd.R_alloc | apply Kd.R_drewN | apply Kd.R_drew)); exact Oq5.out⟩, ⟨Q16⟩, ⟨qb⟩⟩
                  ·
                   rw [if_neg c54] at H
                   exact absurd H (by simp)
                 ·
                  rw [if_neg c53] at H
                  exact absurd H (by simp)
                ·
                 rw [if_neg c52] at H
                 have c52b0 : decide (x73_4 < (t233.length : Int)) = false := decide_eq_false c52
                 clear c52
                 have H' := Aside0.mk H
                 clear H
                 go_wp2
                 go_roundg k4
                 case measure => have := HK1.out; have := HK2.out; have := HJ34.out; have := HK4.out; omega
                 case rel => exact ⟨(x7_4), (wrap64 (x10_2 + 1)), Q3, H', ⟨by have := HK1.out; have := HK2.out; have := HJ34.out; have := HK4.out; omega⟩, ⟨by exact sqm Oq4 (fun _ hk => trivial)⟩, ⟨Q16⟩, ⟨qb⟩⟩
             ·
              rw [if_neg c46] at H
              exact absurd H (by simp)
         ·
          rw [if_neg c34] at H
          have c34b0 : decide (x10_2 < a0_1) = false := decide_eq_false c34
          clear c34
          obtain rfl := Option.some.inj H
          obtain ⟨zq21, zq22, zq23, fq21, fq22, fq23⟩ := qd BK220
          go_wp2
          go_ret
          exact ⟨_, Q56, Q13, qb⟩
  ·
   rw [if_neg c7] at H
   exact absurd H (by simp)
 ·
  rw [if_neg c6] at H
  exact absurd H (by simp)

end Go.Proofs.Ytllhofdgbpnkkaa.PFnPlacementsListed
