-- Printed for this claim by wip/pp.py over the kit's printer; Lean checks it.
import Derived.Test.YtllhofdgbpnkkaaPFnPlacementsListedx0
import Derived.Test.YtllhofdgbpnkkaaPFnPlacementsListedx2
import Derived.Test.YtllhofdgbpnkkaaPFnPlacementsListedx3
import Derived.Test.YtllhofdgbpnkkaaPFnPlacementsListedx4
import Derived.Test.YtllhofdgbpnkkaaPFnPlacementsListedx5
import Derived.Test.YtllhofdgbpnkkaaPFnPlacementsListedx6
namespace Go.Proofs.Ytllhofdgbpnkkaa.PFnPlacementsListed
open Go.RowKit Go.Proofs.YtllhofdgbpnkkaaW.PrintWords Go.Proofs.YtllhofdgbpnkkaaW.PrintLast Go.Proofs.YtllhofdgbpnkkaaW.PrintMore
attribute [local go_sem] max2_int min2_int max_two min_two max_three min_three max_four min_four   -- for this text's walks alone
set_option linter.unusedVariables false
set_option linter.unusedSimpArgs false

/-! ### spec_roNumbers: function 83 -/
def spec_roNumbers.f (k : Nat) (a0_0 : Int) (a0_1 : Int) (l0_2 : List Int) : Option (List Int) := (spec_roWays.f k a0_0 a0_1 l0_2 0 0).bind fun t240 => (some t240)
set_option maxHeartbeats 8000000 in
set_option maxRecDepth 100000 in
theorem spec_roNumbers.calls (k : Nat) (a0_0 : Int) (a0_1 : Int) (A0_2 : Option Addr) (c0_2 : Nat) (l0_2 : List Int) (r : List Int) (w : World) (hr0_2 : Kd.C (Kd.int .i64) w A0_2 l0_2.length l0_2) (hc0_2 : l0_2.length ≤ c0_2) (h : spec_roNumbers.f k a0_0 a0_1 l0_2 = some r) :
  Calls Try.prog 83 #[.agg #[.int .i64 a0_0, .int .i64 a0_1, .slice A0_2 l0_2.length c0_2]] w fun e w' => ∃ v0_ : Value, e = .returned (v0_) ∧ Kd.R (Kd.int .i64) 3 w' w.heap.size (fun _ => True) v0_ r ∧ Below w.heap.size w w' := by
 have hu26 := Try.underlying26
 have HR0_2 := Aside0.mk hr0_2
 have HC0_2 := Aside0.mk hc0_2
 clear hr0_2 hc0_2
 have HB := am (Below.refl w.heap.size w)
 have H : ((spec_roWays.f k a0_0 a0_1 l0_2 0 0).bind fun t240 => (some t240)) = some r := h
 clear h
 replace H := qE H
 obtain ⟨t240, A2, H⟩ := H
 replace H : (some t240) = some r := H
 obtain rfl := Option.some.inj H
 go_enter Try.func83, Try.ntmps83
 go_wp2_with (first | ((with_reducible refine gate_dst (N := 1) rfl ?_); refine qv 1 #[.int .i64 a0_0, .int .i64 a0_1, .slice A0_2 l0_2.length c0_2] 26 ?_; intro gb239 hg w3 hbox hb; have BK239 := am hbox; have GW239 := qw hg; have GE239 := qw hg; replace HB := qs hb; clear hb hbox hg; obtain ⟨zq12, zq13, zq14, fq12, fq13, fq14⟩ := qd BK239) | ((with_reducible refine gate_callee (f := 128) rfl ?_); refine qg (some 4) Try.func128 #[.agg #[.int .i64 a0_0, .int .i64 a0_1, .slice A0_2 l0_2.length c0_2], .int .i64 0, .int .i64 0] ?_; (with_reducible refine (spec_roWays.calls k a0_0 a0_1 _ _ l0_2 0 0 t240 _ ?side1 HC0_2.out A2.out).mono ?_); (case side1 => exact Q0); rintro e w5 ⟨v241, rfl, ho0, hb⟩; refine ⟨_, rfl, ?_⟩; have Oq2 := ql ho0; replace BK239 := sqB BK239 hb; replace HB := qs hb; (try clear hb ho0)))
 go_ret
 exact ⟨_, Q2, Q46, qb⟩

/-! ### spec_roOf: function 102 -/
def spec_roOf.f (k : Nat) (a0_0 : Int) (a0_1 : Int) (l0_2 : List Int) (a1 : Int) : Option (Int) := (spec_roNumbers.f k a0_0 a0_1 l0_2).bind fun t244 => (if a1 ≥ (t244.length : Int) then (some 0) else (if 0 ≤ a1 then (if a1 < (t244.length : Int) then (some (rd t244 a1)) else (none)) else (none)))
set_option maxHeartbeats 8000000 in
set_option maxRecDepth 100000 in
theorem spec_roOf.calls (k : Nat) (a0_0 : Int) (a0_1 : Int) (A0_2 : Option Addr) (c0_2 : Nat) (l0_2 : List Int) (a1 : Int) (r : Int) (w : World) (hr0_2 : Kd.C (Kd.int .i64) w A0_2 l0_2.length l0_2) (hc0_2 : l0_2.length ≤ c0_2) (h : spec_roOf.f k a0_0 a0_1 l0_2 a1 = some r) :
  Calls Try.prog 102 #[.agg #[.int .i64 a0_0, .int .i64 a0_1, .slice A0_2 l0_2.length c0_2], .int .i64 a1] w fun e w' => e = .returned (.int .i64 r) ∧ Below w.heap.size w w' := by
 have hu26 := Try.underlying26
 have HR0_2 := Aside0.mk hr0_2
 have HC0_2 := Aside0.mk hc0_2
 clear hr0_2 hc0_2
 have HB := am (Below.refl w.heap.size w)
 have H : ((spec_roNumbers.f k a0_0 a0_1 l0_2).bind fun t244 => (if a1 ≥ (t244.length : Int) then (some 0) else (if 0 ≤ a1 then (if a1 < (t244.length : Int) then (some (rd t244 a1)) else (none)) else (none)))) = some r := h
 clear h
 replace H := qE H
 obtain ⟨t244, A3, H⟩ := H
 replace H : (if a1 ≥ (t244.length : Int) then (some 0) else (if 0 ≤ a1 then (if a1 < (t244.length : Int) then (some (rd t244 a1)) else (none)) else (none))) = some r := H
 by_cases c4 : a1 ≥ (t244.length : Int)
 ·
  rw [if_pos c4] at H
  have c4b0 : decide ((t244.length : Int) ≤ a1) = true := decide_eq_true c4
  clear c4
  obtain rfl := Option.some.inj H
  go_enter Try.func102, Try.ntmps102
  go_wp2_with (first | ((with_reducible refine gate_dst (N := 2) rfl ?_); refine qv 2 #[.int .i64 a0_0, .int .i64 a0_1, .slice A0_2 l0_2.length c0_2] 26 ?_; intro gb243 hg w5 hbox hb; have BK243 := am hbox; have GW243 := qw hg; have GE243 := qw hg; replace HB := qs hb; clear hb hbox hg; obtain ⟨zq15, zq16, zq17, fq15, fq16, fq17⟩ := qd BK243) | ((with_reducible refine gate_callee (f := 83) rfl ?_); refine qg (some 7) Try.func83 #[.agg #[.int .i64 a0_0, .int .i64 a0_1, .slice A0_2 l0_2.length c0_2]] ?_; (with_reducible refine (spec_roNumbers.calls k a0_0 a0_1 _ _ l0_2 t244 _ ?side1 HC0_2.out A3.out).mono ?_); (case side1 => exact Q0); rintro e w7 ⟨v245, rfl, ho0, hb⟩; refine ⟨_, rfl, ?_⟩; have Oq3 := ql ho0; replace BK243 := sqB BK243 hb; replace HB := qs hb; (try clear hb ho0); obtain ⟨Ao8, co8, eo8⟩ := Kd.R_slice Oq3.out; subst eo8))
  go_ret
  exact ⟨Q2, qb⟩
 ·
  rw [if_neg c4] at H
  have c4b0 : decide ((t244.length : Int) ≤ a1) = false := decide_eq_false c4
  clear c4
  by_cases c9 : 0 ≤ a1
  ·
   rw [if_pos c9] at H
   have c9b0 : decide (0 ≤ a1) = true := decide_eq_true c9
   clear c9
   by_cases c10 : a1 < (t244.length : Int)
   ·
    rw [if_pos c10] at H
    have c10b0 : decide (a1 < (t244.length : Int)) = true := decide_eq_true c10
    clear c10
    obtain rfl := Option.some.inj H
    go_enter Try.func102, Try.ntmps102
    go_wp2_with (first | ((with_reducible refine gate_dst (N := 2) rfl ?_); refine qv 2 #[.int .i64 a0_0, .int .i64 a0_1, .slice A0_2 l0_2.length c0_2] 26 ?_; intro gb243 hg w11 hbox hb; have BK243 := am hbox; have GW243 := qw hg; have GE243 := qw hg; replace HB := qs hb; clear hb hbox hg; obtain ⟨zq0, zq1, zq2, fq0, fq1, fq2⟩ := qd BK243) | ((with_reducible refine gate_callee (f := 83) rfl ?_); refine qg (some 7) Try.func83 #[.agg #[.int .i64 a0_0, .int .i64 a0_1, .slice A0_2 l0_2.length c0_2]] ?_; (with_reducible refine (spec_roNumbers.calls k a0_0 a0_1 _ _ l0_2 t244 _ ?side1 HC0_2.out A3.out).mono ?_); (case side1 => exact Q0); rintro e w13 ⟨v245, rfl, ho0, hb⟩; refine ⟨_, rfl, ?_⟩; have Oq3 := ql ho0; replace BK243 := sqB BK243 hb; replace HB := qs hb; (try clear hb ho0); obtain ⟨Ao14, co14, eo14⟩ := Kd.R_slice Oq3.out; subst eo14; have p247 : 0 ≤ (a1 : Int) := of_decide_eq_true Q1; have q247 : a1 < (t244.length : Int) := of_decide_eq_true Q1; obtain ⟨ad247, e247, hx247_0⟩ := Kd.at_int (Kd.R_reads' Oq3.out).2.2 a1 p247 q247; cases e247; replace p247 := eq_true p247; replace q247 := eq_true q247))
    go_ret
    exact ⟨Q2, qb⟩
   ·
    rw [if_neg c10] at H
    exact absurd H (by simp)
  ·
   rw [if_neg c9] at H
   exact absurd H (by simp)

/-! ### spec_DrawPlacementWith: function 36 -/
def spec_DrawPlacementWith.j0 : Nat → Int → Int → Bool → List Int → Int → Int → Int → Int → List Int → Option (Int × Int × List Int × Int × Int)
 | 0, _, _, _, _, _, _, _, _, _ => none
 | k + 1, x7, x8, x32, x250000, x250001, x250002, x261000, x261001, x261002 => if x32 = true then ((spec_l1Cur_among.f x250000 x250001 x250002 (([(-1), 0, wrap64 (x8 - 1), x8] : List Int))).bind fun bt272 => (some (x261000, x261001, x261002, x7, bt272.1))) else ((spec_l1Cur_pick.f x250000 x250001 x250002 x8).bind fun bt275 => (some (x261000, x261001, x261002, x7, bt275.1)))
def spec_DrawPlacementWith.f (k : Nat) (l0 : List Int) : Option (Int × Int × List Int × Int × Int) := (spec_l1Cur_board.f k l0 0 0).bind fun bt250 => ((spec_l1Cur_rooks.f l0 bt250.2.2.2.1 bt250.2.2.2.2).bind fun bt257 => ((spec_roAsked.f k bt250.1 bt250.2.1 bt250.2.2.1 bt257.1).bind fun t261 => (if t261 = true then ((spec_roOf.f k bt250.1 bt250.2.1 bt250.2.2.1 bt257.1).bind fun t265 => ((spec_l1Cur_one.f l0 bt257.2.1 bt257.2.2 5).bind fun bt266 => (if bt266.1 = true then (spec_DrawPlacementWith.j0 k bt257.1 t265 true l0 bt266.2.1 bt266.2.2 bt250.1 bt250.2.1 bt250.2.2.1) else (spec_DrawPlacementWith.j0 k bt257.1 t265 (t265 == 0) l0 bt266.2.1 bt266.2.2 bt250.1 bt250.2.1 bt250.2.2.1)))) else ((spec_l1Cur_pick.f l0 bt257.2.1 bt257.2.2 3).bind fun bt262 => (some (bt250.1, bt250.2.1, bt250.2.2.1, bt257.1, bt262.1))))))
def spec_DrawPlacementWith.T7 : Bool × List (List Nat × List Nat) := (true, [([], []), ([], []), ([], []), ([], []), ([3], [3]), ([], []), ([4, 5], [4, 5]), ([2, 6], [2, 6]), ([0, 7, 0], [0]), ([1, 8, 0, 1, 8], [1]), ([7, 9, 0, 1, 2, 3, 4, 5, 6, 7, 8, 9], [7])])
def spec_DrawPlacementWith.B7 : List Nat := [0, 0, 0, 0, 8, 0, 56, 124, 253, 511, 1023]
theorem spec_DrawPlacementWith.tab7 : rtab .any (opsOf Try.f36 7) = spec_DrawPlacementWith.T7 := by kernel_rfl
theorem spec_DrawPlacementWith.bits7 : waitsOk spec_DrawPlacementWith.T7.2 spec_DrawPlacementWith.B7 = true := by kernel_rfl
def spec_DrawPlacementWith.T8 : Bool × List (List Nat × List Nat) := (true, [([], []), ([], []), ([], []), ([], []), ([2, 3], [2, 3]), ([0, 4, 0], [0]), ([1, 5, 0, 1, 5], [1]), ([4, 6, 0, 1, 2, 3, 4, 5, 6], [4])])
def spec_DrawPlacementWith.B8 : List Nat := [0, 0, 0, 0, 12, 29, 63, 127]
theorem spec_DrawPlacementWith.tab8 : rtab .any (opsOf Try.f36 8) = spec_DrawPlacementWith.T8 := by kernel_rfl
theorem spec_DrawPlacementWith.bits8 : waitsOk spec_DrawPlacementWith.T8.2 spec_DrawPlacementWith.B8 = true := by kernel_rfl
set_option maxHeartbeats 8000000 in
set_option maxRecDepth 100000 in
theorem spec_DrawPlacementWith.calls (k : Nat) (A0 : Option Addr) (c0 : Nat) (l0 : List Int) (r1 : Int) (r2 : Int) (r3 : List Int) (r4 : Int) (r5 : Int) (w : World) (hr0 : Kd.C (Kd.int .u8) w A0 l0.length l0) (hc0 : l0.length ≤ c0) (h : spec_DrawPlacementWith.f k l0 = some (r1, r2, r3, r4, r5)) :
  Calls Try.prog 36 #[.slice A0 l0.length c0] w fun e w' => ∃ v2_ : Value, e = .returned (.tuple #[.agg #[.int .i64 r1, .int .i64 r2, v2_], .int .i64 r4, .int .i64 r5]) ∧ Kd.R (Kd.int .i64) 3 w' w.heap.size (fun _ => True) v2_ r3 ∧ Below w.heap.size w w' := by
 have hu26 := Try.underlying26
 have hu66 := Try.underlying66
 have HR0 := Aside0.mk hr0
 have HC0 := Aside0.mk hc0
 clear hr0 hc0
 have HB := am (Below.refl w.heap.size w)
 have H : ((spec_l1Cur_board.f k l0 0 0).bind fun bt250 => ((spec_l1Cur_rooks.f l0 bt250.2.2.2.1 bt250.2.2.2.2).bind fun bt257 => ((spec_roAsked.f k bt250.1 bt250.2.1 bt250.2.2.1 bt257.1).bind fun t261 => (if t261 = true then ((spec_roOf.f k bt250.1 bt250.2.1 bt250.2.2.1 bt257.1).bind fun t265 => ((spec_l1Cur_one.f l0 bt257.2.1 bt257.2.2 5).bind fun bt266 => (if bt266.1 = true then (spec_DrawPlacementWith.j0 k bt257.1 t265 true l0 bt266.2.1 bt266.2.2 bt250.1 bt250.2.1 bt250.2.2.1) else (spec_DrawPlacementWith.j0 k bt257.1 t265 (t265 == 0) l0 bt266.2.1 bt266.2.2 bt250.1 bt250.2.1 bt250.2.2.1)))) else ((spec_l1Cur_pick.f l0 bt257.2.1 bt257.2.2 3).bind fun bt262 => (some (bt250.1, bt250.2.1, bt250.2.2.1, bt257.1, bt262.1))))))) = some (r1, r2, r3, r4, r5) := h
 clear h
 replace H := qE H
 obtain ⟨⟨t250, t251, t252, t255, t256⟩, A2, H⟩ := H
 replace H : ((spec_l1Cur_rooks.f l0 t255 t256).bind fun bt257 => ((spec_roAsked.f k t250 t251 t252 bt257.1).bind fun t261 => (if t261 = true then ((spec_roOf.f k t250 t251 t252 bt257.1).bind fun t265 => ((spec_l1Cur_one.f l0 bt257.2.1 bt257.2.2 5).bind fun bt266 => (if bt266.1 = true then (spec_DrawPlacementWith.j0 k bt257.1 t265 true l0 bt266.2.1 bt266.2.2 t250 t251 t252) else (spec_DrawPlacementWith.j0 k bt257.1 t265 (t265 == 0) l0 bt266.2.1 bt266.2.2 t250 t251 t252)))) else ((spec_l1Cur_pick.f l0 bt257.2.1 bt257.2.2 3).bind fun bt262 => (some (t250, t251, t252, bt257.1, bt262.1)))))) = some (r1, r2, r3, r4, r5) := H
 replace H := qE H
 obtain ⟨⟨t257, t258, t259⟩, A3, H⟩ := H
 replace H : ((spec_roAsked.f k t250 t251 t252 t257).bind fun t261 => (if t261 = true then ((spec_roOf.f k t250 t251 t252 t257).bind fun t265 => ((spec_l1Cur_one.f l0 t258 t259 5).bind fun bt266 => (if bt266.1 = true then (spec_DrawPlacementWith.j0 k t257 t265 true l0 bt266.2.1 bt266.2.2 t250 t251 t252) else (spec_DrawPlacementWith.j0 k t257 t265 (t265 == 0) l0 bt266.2.1 bt266.2.2 t250 t251 t252)))) else ((spec_l1Cur_pick.f l0 t258 t259 3).bind fun bt262 => (some (t250, t251, t252, t257, bt262.1))))) = some (r1, r2, r3, r4, r5) := H
 replace H := qE H
 obtain ⟨t261, A4, H⟩ := H
 replace H : (if t261 = true then ((spec_roOf.f k t250 t251 t252 t257).bind fun t265 => ((spec_l1Cur_one.f l0 t258 t259 5).bind fun bt266 => (if bt266.1 = true then (spec_DrawPlacementWith.j0 k t257 t265 true l0 bt266.2.1 bt266.2.2 t250 t251 t252) else (spec_DrawPlacementWith.j0 k t257 t265 (t265 == 0) l0 bt266.2.1 bt266.2.2 t250 t251 t252)))) else ((spec_l1Cur_pick.f l0 t258 t259 3).bind fun bt262 => (some (t250, t251, t252, t257, bt262.1)))) = some (r1, r2, r3, r4, r5) := H
 by_cases c5 : t261 = true
 ·
  subst c5
  have H1 : ((spec_roOf.f k t250 t251 t252 t257).bind fun t265 => ((spec_l1Cur_one.f l0 t258 t259 5).bind fun bt266 => (if bt266.1 = true then (spec_DrawPlacementWith.j0 k t257 t265 true l0 bt266.2.1 bt266.2.2 t250 t251 t252) else (spec_DrawPlacementWith.j0 k t257 t265 (t265 == 0) l0 bt266.2.1 bt266.2.2 t250 t251 t252)))) = some (r1, r2, r3, r4, r5) := by first | (rw [if_pos rfl] at H; exact H) | rfl
  clear H
  have H := H1
  clear H1
  replace H := qE H
  obtain ⟨t265, A6, H⟩ := H
  replace H : ((spec_l1Cur_one.f l0 t258 t259 5).bind fun bt266 => (if bt266.1 = true then (spec_DrawPlacementWith.j0 k t257 t265 true l0 bt266.2.1 bt266.2.2 t250 t251 t252) else (spec_DrawPlacementWith.j0 k t257 t265 (t265 == 0) l0 bt266.2.1 bt266.2.2 t250 t251 t252))) = some (r1, r2, r3, r4, r5) := H
  have HC7 := Aside0.mk H
  clear H
  go_enter Try.func36, Try.ntmps36
  go_upto_region 6 with (first | ((with_reducible refine gate_dst (N := 2) rfl ?_); refine qv 2 #[.int .i64 0, .int .i64 0, .slice none 0 0] 26 ?_; intro gb248 hg w8 hbox hb; have BK248 := am hbox; have GW248 := qw hg; have GE248 := qw hg; replace HB := qs hb; clear hb hbox hg) | ((with_reducible refine gate_dst (N := 11) rfl ?_); refine qv 11 #[.slice A0 l0.length c0, .int .i64 0, .int .u64 0] 66 ?_; intro gb249 hg w9 hbox hb; have HI249 := am ((show IsS66 w w9 gb249 l0 0 0 from ⟨_, _, hbox, (by rw [hg]; exact (below_size qb) : w.heap.size ≤ gb249), HR0.out⟩)); have GW249 := qw hg; have GE249 := qw hg; have Nq0 := qn hg BK248; have Nq2 := qN hg BK248; replace BK248 := sqB BK248 hb; replace HB := qs hb; clear hb hbox hg) | ((with_reducible refine gate_callee (f := 62) rfl ?_); refine qg (some 13) Try.func62 #[.pointer (some ⟨gb249, 0, none⟩)] ?_; (with_reducible refine (spec_l1Cur_board.calls k gb249 l0 0 0 t250 t251 t252 t255 t256 w _ ?side1 ?side2 A2.out).mono ?_); (case side1 => exact qi); (case side2 => exact qc); rintro e w10 ⟨v253, rfl, ho0, hi, hb, hk⟩; refine ⟨_, rfl, ?_⟩; have Oq4 := qL ho0; replace BK248 := qK BK248 hk Nq0; replace HB := am hb; replace HI249 := am hi; (try clear hb hk hi ho0)) | ((with_reducible refine gate_callee (f := 100) rfl ?_); refine qg (some 15) Try.func100 #[.pointer (some ⟨gb249, 0, none⟩)] ?_; (with_reducible refine (spec_l1Cur_rooks.calls gb249 l0 t255 t256 t257 t258 t259 w _ ?side1 ?side2 A3.out).mono ?_); (case side1 => exact qi); (case side2 => exact qc); rintro e w11 ⟨rfl, hi, hb, hk⟩; refine ⟨_, rfl, ?_⟩; replace BK248 := qK BK248 hk Nq0; replace Oq4 := qR Oq4 hk; replace HB := am hb; replace HI249 := am hi; (try clear hb hk hi)) | ((with_reducible refine gate_dst (N := 6) rfl ?_); refine qv 6 #[.int .i64 0, .int .i64 0, .slice none 0 0] 26 ?_; intro gb260 hg w12 hbox hb; have BK260 := am hbox; have GW260 := qW hg; have GE260 := qW hg; have Nq1 := qn hg BK248; have Nq4 := qN hg BK248; have Nq3 := qo hg gb249; have Nq5 := qO hg gb249; replace Oq4 := sqR Oq4 hb; replace BK248 := sqB BK248 hb; replace HB := qt hb; replace HI249 := qj hb; clear hb hbox hg; have bq0 := Nq4.out; have cq0 := Nq1.out; have bq1 := Nq5.out; have cq1 := Nq3.out; obtain ⟨zq3, zq4, zq5, fq3, fq4, fq5⟩ := qd BK260; obtain ⟨Ao16, co16, eo16⟩ := Kd.R_slice Oq4.out; subst eo16) | ((with_reducible refine gate_callee (f := 101) rfl ?_); refine qg (some 18) Try.func101 #[.agg #[.int .i64 t250, .int .i64 t251, .slice Ao16 t252.length co16], .int .i64 t257] ?_; (with_reducible refine (spec_roAsked.calls k t250 t251 _ _ t252 t257 true _ ?side1 ?side2 A4.out).mono ?_); (case side1 => refine (Kd.R_reads' (e := 3) (base := w.heap.size) (ok := fun k_ => True) (n := t252.length) (c := co16) ?_).2.2; exact (sqw (sqo Oq4 BK260))); (case side2 => exact (Kd.R_reads' Oq4.out).2.1); rintro e w17 ⟨rfl, hb⟩; refine ⟨_, rfl, ?_⟩; replace Oq4 := am (Kd.R_below (sqw (sqo Oq4 BK260)) hb); replace BK248 := sqBf BK248 Nq1 (.int .i64 t250) (.int .i64 t251) (.slice Ao16 t252.length co16) hb; replace BK260 := sqBp BK260 (.int .i64 t250) (.int .i64 t251) (.slice Ao16 t252.length co16) hb; replace HB := qt hb; replace HI249 := am (IsS66.below (show IsS66 w (((w12.setCell ⟨gb260, 0, none⟩ (.int .i64 t250)).setCell ⟨gb260, 1, none⟩ (.int .i64 t251)).setCell ⟨gb260, 2, none⟩ (.slice Ao16 t252.length co16)) gb249 l0 t258 t259 from by repeat (first | (with_reducible first | exact HI249.out | apply IsS66.alloc | apply IsS66.drewN | apply IsS66.drew | apply IsS66.set_1 | apply IsS66.set_2 | refine IsS66.far ?_ Nq2.out _ | refine IsS66.far ?_ Nq3.out _) | exact HI249.out)) hb); (try clear hb); obtain ⟨zq6, zq7, zq8, fq6, fq7, fq8⟩ := qd BK260) | ((with_reducible refine gate_callee (f := 102) rfl ?_); refine qg (some 26) Try.func102 #[.agg #[.int .i64 t250, .int .i64 t251, .slice Ao16 t252.length co16], .int .i64 t257] ?_; (with_reducible refine (spec_roOf.calls k t250 t251 _ _ t252 t257 t265 _ ?side1 ?side2 A6.out).mono ?_); (case side1 => repeat (first | exact (Kd.R_reads' Oq4.out).2.2 | (with_reducible first | refine Kd.C_alloc ?_ _ | refine Kd.C_drewN ?_ _ | refine Kd.C_drew ?_))); (case side2 => exact (Kd.R_reads' Oq4.out).2.1); rintro e w19 ⟨rfl, hb⟩; refine ⟨_, rfl, ?_⟩; replace Oq4 := sqR Oq4 hb; replace BK248 := sqB BK248 hb; replace BK260 := sqB BK260 hb; replace HB := qt hb; replace HI249 := qj hb; (try clear hb)))
  (try simp only [Act.put, List.setIfInBounds_toArray, List.set_cons_zero, List.set_cons_succ])
  go_cut [32] (fun v32 wc => ∃ (kq : Nat) (x32_6 : Bool) (x250001_6 : Int) (x250002_6 : Int), v32 = .bool x32_6 ∧ Aside0 (spec_DrawPlacementWith.j0 kq t257 t265 x32_6 l0 x250001_6 x250002_6 t250 t251 t252 = some (r1, r2, r3, r4, r5)) ∧ Aside0 (kq ≤ k) ∧ Aside0 (Kd.R (Kd.int .i64) 3 wc w.heap.size (fun _ => True) (.slice Ao16 t252.length co16) t252) ∧ Aside0 (wc.heap[gb248]? = some (.cells #[.int .i64 0, .int .i64 0, (.slice none 0 0)] 26 (0, 0))) ∧ Aside0 (wc.heap[gb260]? = some (.cells #[.int .i64 t250, .int .i64 t251, (.slice Ao16 t252.length co16)] 26 (0, 0))) ∧ Aside0 (IsS66 w wc gb249 l0 x250001_6 x250002_6) ∧ Aside0 (Below w.heap.size w wc))
  case first =>
   have H := HC7.out
   clear HC7
   replace H := qE H
   obtain ⟨⟨t266, t267, t268⟩, A20, H⟩ := H
   replace H : (if t266 = true then (spec_DrawPlacementWith.j0 k t257 t265 true l0 t267 t268 t250 t251 t252) else (spec_DrawPlacementWith.j0 k t257 t265 (t265 == 0) l0 t267 t268 t250 t251 t252)) = some (r1, r2, r3, r4, r5) := H
   by_cases c21 : t266 = true
   ·
    subst c21
    have H1 : (spec_DrawPlacementWith.j0 k t257 t265 true l0 t267 t268 t250 t251 t252) = some (r1, r2, r3, r4, r5) := by first | (rw [if_pos rfl] at H; exact H) | rfl
    clear H
    have H := H1
    clear H1
    have H' := Aside0.mk H
    clear H
    go_wp2_with (first | ((with_reducible refine gate_callee (f := 72) rfl ?_); refine qg (some 28) Try.func72 #[.pointer (some ⟨gb249, 0, none⟩), .int .i64 5] ?_; (with_reducible refine (spec_l1Cur_one.calls gb249 l0 t258 t259 5 true t267 t268 w _ ?side1 ?side2 A20.out).mono ?_); (case side1 => exact qi); (case side2 => exact qc); rintro e w22 ⟨rfl, hi, hb, hk⟩; refine ⟨_, rfl, ?_⟩; replace BK248 := qK BK248 hk Nq0; replace Oq4 := qR Oq4 hk; replace BK260 := qK BK260 hk Nq5; replace HB := am hb; replace HI249 := am hi; (try clear hb hk hi)))
    go_meet
    case rel => exact ⟨_, (true), (t267), (t268), Q3, H', ⟨Q47⟩, ⟨Q13⟩, ⟨by (with_reducible repeat (first | refine blk_drewN ?_ _ | refine blk_drew ?_ | refine blk_alloc ?_ _)); exact BK248.out⟩, ⟨by (with_reducible repeat (first | refine blk_drewN ?_ _ | refine blk_drew ?_ | refine blk_alloc ?_ _)); exact BK260.out⟩, ⟨qi⟩, ⟨qc⟩⟩
   ·
    replace c21 := Bool.eq_false_iff.mpr c21
    subst c21
    have H1 : (spec_DrawPlacementWith.j0 k t257 t265 (t265 == 0) l0 t267 t268 t250 t251 t252) = some (r1, r2, r3, r4, r5) := by first | (rw [if_neg (show ¬ (false = true) by decide)] at H; exact H) | rfl
    clear H
    have H := H1
    clear H1
    have H' := Aside0.mk H
    clear H
    go_wp2_with (first | ((with_reducible refine gate_callee (f := 72) rfl ?_); refine qg (some 28) Try.func72 #[.pointer (some ⟨gb249, 0, none⟩), .int .i64 5] ?_; (with_reducible refine (spec_l1Cur_one.calls gb249 l0 t258 t259 5 false t267 t268 w _ ?side1 ?side2 A20.out).mono ?_); (case side1 => exact qi); (case side2 => exact qc); rintro e w23 ⟨rfl, hi, hb, hk⟩; refine ⟨_, rfl, ?_⟩; replace BK248 := qK BK248 hk Nq0; replace Oq4 := qR Oq4 hk; replace BK260 := qK BK260 hk Nq5; replace HB := am hb; replace HI249 := am hi; (try clear hb hk hi)))
    go_meet
    case rel => exact ⟨_, ((t265 == 0)), (t267), (t268), Q3, H', ⟨Q47⟩, ⟨Q13⟩, ⟨by (with_reducible repeat (first | refine blk_drewN ?_ _ | refine blk_drew ?_ | refine blk_alloc ?_ _)); exact BK248.out⟩, ⟨by (with_reducible repeat (first | refine blk_drewN ?_ _ | refine blk_drew ?_ | refine blk_alloc ?_ _)); exact BK260.out⟩, ⟨qi⟩, ⟨qc⟩⟩
  case rest =>
   clear HC7
   try clear c5; try clear c21; try clear zq3; try clear zq4; try clear zq5; try clear zq6; try clear zq7; try clear zq8; try clear fq3; try clear fq4; try clear fq5; try clear fq6; try clear fq7; try clear fq8
   obtain ⟨kq, x32_6, x250001_6, x250002_6, rfl, HA, HJ6, Oq6, BK248, BK260, HI249, HB⟩ := hcut
   cases kq with
   | zero => exact absurd HA.out (by simp [spec_DrawPlacementWith.j0])
   | succ kj6 =>
    have H := HA.out
    clear HA
    simp only [spec_DrawPlacementWith.j0] at H
    by_cases c24 : x32_6 = true
    ·
     subst c24
     have H1 : ((spec_l1Cur_among.f l0 x250001_6 x250002_6 (([(-1), 0, wrap64 (t265 - 1), t265] : List Int))).bind fun bt272 => (some (t250, t251, t252, t257, bt272.1))) = some (r1, r2, r3, r4, r5) := by first | (rw [if_pos rfl] at H; exact H) | rfl
     clear H
     have H := H1
     clear H1
     obtain ⟨y269, hy_⟩ : ∃ y_ : List Int, y_ = ((([(-1), 0, wrap64 (t265 - 1), t265] : List Int))) := ⟨_, rfl⟩
     replace H : ((spec_l1Cur_among.f l0 x250001_6 x250002_6 y269).bind fun bt272 => (some (t250, t251, t252, t257, bt272.1))) = some (r1, r2, r3, r4, r5) := qH
     have Ny269 := Aside0.mk hy_
     clear hy_
     replace H := qE H
     obtain ⟨⟨t272, t273, t274⟩, A25, H⟩ := H
     replace H : (some (t250, t251, t252, t257, t272)) = some (r1, r2, r3, r4, r5) := H
     simp only [Option.some.injEq, Prod.mk.injEq] at H
     obtain ⟨rfl, rfl, rfl, rfl, rfl⟩ := H
     try go_wp2
     replace Oq6 := am (Kd.R_drew Oq6.out)
     replace BK248 := am (blk_drew BK248.out)
     replace BK260 := am (blk_drew BK260.out)
     replace HI249 := am (IsS66.drew HI249.out)
     replace HB := am (below_drew1 HB.out)
     refine start_ (n := 11) (S := fun w' => w'.cell? ⟨gb260, 0, none⟩ = some (.int .i64 t250) ∧ w'.cell? ⟨gb260, 1, none⟩ = some (.int .i64 t251) ∧ w'.cell? ⟨gb260, 2, none⟩ = some (.slice Ao16 t252.length co16)) (ds := []) #[false, false, false, false, false, false, false, false, false, false, false] (by kernel_rfl) rfl rfl ⟨sqc BK260 0, sqc BK260 1, sqc BK260 2⟩ (fun hHeld => ?_); refine with_tabW spec_DrawPlacementWith.tab7 spec_DrawPlacementWith.bits7 (fun HT_ HW_ => ?_)
     generalize wc.drew = w26 at Oq6 BK248 BK260 HI249 HB hHeld ⊢
     refine qp 1 (some 34) #[false, true, false, false, false, false, false, false, false, false, false] ?_
     refine qp 2 (some 35) #[false, true, true, false, false, false, false, false, false, false, false] ?_
     refine qp 3 (some 36) #[false, true, true, true, false, false, false, false, false, false, false] ?_
     refine qp 4 (some 37) #[false, true, true, true, true, false, false, false, false, false, false] ?_
     refine qp 5 (some 38) #[false, true, true, true, true, true, false, false, false, false, false] ?_
     refine take_ (i := 0) (N := some 33) (v := ?_) (a' := ?_) #[true, true, true, true, true, true, false, false, false, false, false] rfl rfl (take_ofW HT_.out HW_.out (by kernel_rfl)) (fun _ _ _ h => h) (Or.inl ⟨by rfl, ?_⟩) hHeld ?_ ?_
     rotate_left
     ·
      rintro w' ⟨s0, s1, s2⟩
      go_simp
      with_reducible rfl
     rotate_left
     ·
      simp only [Act.put, List.setIfInBounds_toArray, List.set_cons_zero, List.set_cons_succ, i64_w, i32_w]
      rfl
     refine one_ (i := 6) (N := some 39) #[true, true, true, true, true, true, true, false, false, false, false] rfl rfl (one_of HT_.out (by kernel_rfl)) (by decide) fun K hK => ?_
     refine Kd.R_lit_step (Kd.int .i64) _ 3 ?hg (N := 39) ?hd (xs := ([(-1), 0, wrap64 (t265 - 1), t265] : List Int)) (inner := [.int .i64 (-1), .int .i64 0, .int .i64 (wrap64 (t265 - 1)), .int .i64 t265]) (ok := fun _ => True) (okp := fun _ => True) ?hr ?hp (fun _ hk => hk) trivial (Below.refl _ _) (Nat.le_refl _) (by simp) ?_; (case hd => rfl); (case hg => rfl); (case hr => first | (go_simp; done) | (go_simp; rfl)); (case hp => exact (Reps.one (show Kd.M (Kd.int .i64) _ _ _ (-1) [.int .i64 (-1)] from rfl) (Reps.one (show Kd.M (Kd.int .i64) _ _ _ 0 [.int .i64 0] from rfl) (Reps.one (show Kd.M (Kd.int .i64) _ _ _ (wrap64 (t265 - 1)) [.int .i64 (wrap64 (t265 - 1))] from rfl) (Reps.one (show Kd.M (Kd.int .i64) _ _ _ t265 [.int .i64 t265] from rfl) (Reps.none _ _))))))
     intro v270 w27 ho28 hb hg_ hnew_
     clear hg_ hnew_
     (first | rw [← Ny269.out] at ho28 | (simp only [Int.reduceToNat] at ho28; rw [← Ny269.out] at ho28))
     have Oq5 := am (Kd.R_lower (Kd.R_new' ho28 (sqL Oq6)) (below_size qc))
     replace BK248 := sqB BK248 hb
     replace BK260 := sqB BK260 hb
     replace Oq6 := qe (sqr Oq6) ho28 hb
     replace HB := qt hb
     replace HI249 := qj hb
     clear hb ho28
     obtain ⟨Ao29, co29, eo29⟩ := Kd.R_slice Oq5.out
     (first | subst eo29 | (injection eo29 with f1_ f2_ f3_; have f4_ := f1_.symm; have f5_ := f3_.symm; clear f1_ f2_ f3_; subst f4_; subst f5_))
     refine hK.out _ _ ⟨sqc BK260 0, sqc BK260 1, sqc BK260 2⟩ (fun hHeld => ?_)
     clear hK K
     refine qq (some 39) ?_
     refine one_ (i := 7) (N := some 40) #[true, true, true, true, true, true, true, true, false, false, false] rfl rfl (one_of HT_.out (by kernel_rfl)) (by decide) fun K hK => ?_
     refine qG Try.func84 #[.pointer (some ⟨gb249, 0, none⟩), .slice Ao29 y269.length co29] ?_
     with_reducible refine (spec_l1Cur_among.calls gb249 l0 x250001_6 x250002_6 _ _ y269 t272 t273 t274 w _ ?side1 ?side2 ?side3 ?side4 ?side5 A25.out).mono ?_
     (case side1 => exact qi)
     (case side2 => exact qc)
     (case side3 => repeat (first | exact (Kd.R_reads' Oq5.out).2.2 | (with_reducible first | refine Kd.C_alloc ?_ _ | refine Kd.C_drewN ?_ _ | refine Kd.C_drew ?_)))
     (case side4 => exact (Kd.R_reads' Oq5.out).2.1)
     (case side5 => exact far_slice (IsS66.own_ne HI249.out Oq5.out (by decide)))
     rintro e w30 ⟨rfl, hi, hb, hk⟩
     refine ⟨_, rfl, ?_⟩
     replace Oq6 := qR Oq6 hk
     replace BK248 := qK BK248 hk Nq0
     replace BK260 := qK BK260 hk Nq5
     replace Oq5 := qR Oq5 hk
     replace HB := am hb
     replace HI249 := am hi
     (try clear hb hk hi)
     refine hK.out _ _ ⟨sqc BK260 0, sqc BK260 1, sqc BK260 2⟩ (fun hHeld => ?_)
     clear hK K
     refine qq (some 40) ?_
     refine one_ (i := 8) (N := none) #[true, true, true, true, true, true, true, true, true, false, false] rfl rfl (one_of HT_.out (by kernel_rfl)) (by decide) fun K hK => ?_
     have hs31 : w30.cell? ⟨gb248, 0, none⟩ = some (.int .i64 0) := sqc BK248 0
     have hfs31 := blk_frozen BK248.out 0
     have hq0 := Nq4.out
     have hms31_1 := Nq1.out
     have hs32 : w30.cell? ⟨gb248, 1, none⟩ = some (.int .i64 0) := sqc BK248 1
     have hfs32 := blk_frozen BK248.out 1
     have hq1 := Nq4.out
     have hms32_1 := Nq1.out
     have hs33 : w30.cell? ⟨gb248, 2, none⟩ = some (.slice none 0 0) := sqc BK248 2
     have hfs33 := blk_frozen BK248.out 2
     have hq2 := Nq4.out
     have hms33_1 := Nq1.out
     refine skip_ (w1 := ?_) (by rfl) rfl ?_ ?_
     rotate_left
     ·
      go_simp
      rfl
     refine hK.out _ _ ⟨((cell_far (p := ⟨gb248, _, none⟩) Nq4.out _).trans (((cell_far (p := ⟨gb248, _, none⟩) Nq4.out _).trans (((cell_far (p := ⟨gb248, _, none⟩) Nq4.out _).trans (hHeld.1)))))), ((cell_far (p := ⟨gb248, _, none⟩) Nq4.out _).trans (((cell_far (p := ⟨gb248, _, none⟩) Nq4.out _).trans (((cell_far (p := ⟨gb248, _, none⟩) Nq4.out _).trans (hHeld.2.1)))))), ((cell_far (p := ⟨gb248, _, none⟩) Nq4.out _).trans (((cell_far (p := ⟨gb248, _, none⟩) Nq4.out _).trans (((cell_far (p := ⟨gb248, _, none⟩) Nq4.out _).trans (hHeld.2.2))))))⟩ (fun hHeld => ?_)
     clear hK K
     refine qp 9 (some 3) #[true, true, true, true, true, true, true, true, true, true, false] ?_
     refine qp 10 (some 4) #[true, true, true, true, true, true, true, true, true, true, true] ?_
     refine done_ (done_of HT_.out (by kernel_rfl)) ?_
     try go_wp2
     refine bodyPost_ret (results_ctt rfl _ _ gb248 26 #[.int .i64 t250, .int .i64 t251, .slice Ao16 t252.length co16] (0, 0) _ rfl Q9 Try.underlying26 rfl (by kernel_rfl)) rfl ?_
     exact ⟨_, Q2, Q29, qc⟩
    ·
     replace c24 := Bool.eq_false_iff.mpr c24
     subst c24
     have H1 : ((spec_l1Cur_pick.f l0 x250001_6 x250002_6 t265).bind fun bt275 => (some (t250, t251, t252, t257, bt275.1))) = some (r1, r2, r3, r4, r5) := by first | (rw [if_neg (show ¬ (false = true) by decide)] at H; exact H) | rfl
     clear H
     have H := H1
     clear H1
     replace H := qE H
     obtain ⟨⟨t275, t276, t277⟩, A34, H⟩ := H
     replace H : (some (t250, t251, t252, t257, t275)) = some (r1, r2, r3, r4, r5) := H
     simp only [Option.some.injEq, Prod.mk.injEq] at H
     obtain ⟨rfl, rfl, rfl, rfl, rfl⟩ := H
     try go_wp2
     replace Oq6 := am (Kd.R_drew Oq6.out)
     replace BK248 := am (blk_drew BK248.out)
     replace BK260 := am (blk_drew BK260.out)
     replace HI249 := am (IsS66.drew HI249.out)
     replace HB := am (below_drew1 HB.out)
     refine start_ (n := 8) (S := fun w' => w'.cell? ⟨gb260, 0, none⟩ = some (.int .i64 t250) ∧ w'.cell? ⟨gb260, 1, none⟩ = some (.int .i64 t251) ∧ w'.cell? ⟨gb260, 2, none⟩ = some (.slice Ao16 t252.length co16)) (ds := []) #[false, false, false, false, false, false, false, false] (by kernel_rfl) rfl rfl ⟨sqc BK260 0, sqc BK260 1, sqc BK260 2⟩ (fun hHeld => ?_); refine with_tabW spec_DrawPlacementWith.tab8 spec_DrawPlacementWith.bits8 (fun HT_ HW_ => ?_)
     generalize wc.drew = w35 at Oq6 BK248 BK260 HI249 HB hHeld ⊢
     refine qp 1 (some 42) #[false, true, false, false, false, false, false, false] ?_
     refine qp 2 (some 43) #[false, true, true, false, false, false, false, false] ?_
     refine qp 3 (some 44) #[false, true, true, true, false, false, false, false] ?_
     refine take_ (i := 0) (N := some 41) (v := ?_) (a' := ?_) #[true, true, true, true, false, false, false, false] rfl rfl (take_ofW HT_.out HW_.out (by kernel_rfl)) (fun _ _ _ h => h) (Or.inl ⟨by rfl, ?_⟩) hHeld ?_ ?_
     rotate_left
     ·
      rintro w' ⟨s0, s1, s2⟩
      go_simp
      with_reducible rfl
     rotate_left
     ·
      simp only [Act.put, List.setIfInBounds_toArray, List.set_cons_zero, List.set_cons_succ, i64_w, i32_w]
      rfl
     refine one_ (i := 4) (N := some 45) #[true, true, true, true, true, false, false, false] rfl rfl (one_of HT_.out (by kernel_rfl)) (by decide) fun K hK => ?_
     refine qG Try.func63 #[.pointer (some ⟨gb249, 0, none⟩), .int .i64 t265] ?_
     with_reducible refine (spec_l1Cur_pick.calls gb249 l0 x250001_6 x250002_6 t265 t275 t276 t277 w _ ?side1 ?side2 A34.out).mono ?_
     (case side1 => exact qi)
     (case side2 => exact qc)
     rintro e w36 ⟨rfl, hi, hb, hk⟩
     refine ⟨_, rfl, ?_⟩
     replace Oq6 := qR Oq6 hk
     replace BK248 := qK BK248 hk Nq0
     replace BK260 := qK BK260 hk Nq5
     replace HB := am hb
     replace HI249 := am hi
     (try clear hb hk hi)
     refine hK.out _ _ ⟨sqc BK260 0, sqc BK260 1, sqc BK260 2⟩ (fun hHeld => ?_)
     clear hK K
     refine qq (some 45) ?_
     refine one_ (i := 5) (N := none) #[true, true, true, true, true, true, false, false] rfl rfl (one_of HT_.out (by kernel_rfl)) (by decide) fun K hK => ?_
     have hs37 : w36.cell? ⟨gb248, 0, none⟩ = some (.int .i64 0) := sqc BK248 0
     have hfs37 := blk_frozen BK248.out 0
     have hq3 := Nq4.out
     have hms37_1 := Nq1.out
     have hs38 : w36.cell? ⟨gb248, 1, none⟩ = some (.int .i64 0) := sqc BK248 1
     have hfs38 := blk_frozen BK248.out 1
     have hq4 := Nq4.out
     have hms38_1 := Nq1.out
     have hs39 : w36.cell? ⟨gb248, 2, none⟩ = some (.slice none 0 0) := sqc BK248 2
     have hfs39 := blk_frozen BK248.out 2
     have hq5 := Nq4.out
     have hms39_1 := Nq1.out
     refine skip_ (w1 := ?_) (by rfl) rfl ?_ ?_
     rotate_left
     ·
      go_simp
      rfl
     refine hK.out _ _ ⟨((cell_far (p := ⟨gb248, _, none⟩) Nq4.out _).trans (((cell_far (p := ⟨gb248, _, none⟩) Nq4.out _).trans (((cell_far (p := ⟨gb248, _, none⟩) Nq4.out _).trans (hHeld.1)))))), ((cell_far (p := ⟨gb248, _, none⟩) Nq4.out _).trans (((cell_far (p := ⟨gb248, _, none⟩) Nq4.out _).trans (((cell_far (p := ⟨gb248, _, none⟩) Nq4.out _).trans (hHeld.2.1)))))), ((cell_far (p := ⟨gb248, _, none⟩) Nq4.out _).trans (((cell_far (p := ⟨gb248, _, none⟩) Nq4.out _).trans (((cell_far (p := ⟨gb248, _, none⟩) Nq4.out _).trans (hHeld.2.2))))))⟩ (fun hHeld => ?_)
     clear hK K
     refine qp 6 (some 3) #[true, true, true, true, true, true, true, false] ?_
     refine qp 7 (some 4) #[true, true, true, true, true, true, true, true] ?_
     refine done_ (done_of HT_.out (by kernel_rfl)) ?_
     try go_wp2
     refine bodyPost_ret (results_ctt rfl _ _ gb248 26 #[.int .i64 t250, .int .i64 t251, .slice Ao16 t252.length co16] (0, 0) _ rfl Q9 Try.underlying26 rfl (by kernel_rfl)) rfl ?_
     exact ⟨_, Q2, Q29, qc⟩
 ·
  replace c5 := Bool.eq_false_iff.mpr c5
  subst c5
  have H1 : ((spec_l1Cur_pick.f l0 t258 t259 3).bind fun bt262 => (some (t250, t251, t252, t257, bt262.1))) = some (r1, r2, r3, r4, r5) := by first | (rw [if_neg (show ¬ (false = true) by decide)] at H; exact H) | rfl
  clear H
  have H := H1
  clear H1
  replace H := qE H
  obtain ⟨⟨t262, t263, t264⟩, A40, H⟩ := H
  replace H : (some (t250, t251, t252, t257, t262)) = some (r1, r2, r3, r4, r5) := H
  simp only [Option.some.injEq, Prod.mk.injEq] at H
  obtain ⟨rfl, rfl, rfl, rfl, rfl⟩ := H
  go_enter Try.func36, Try.ntmps36
  try go_wp2_with (first | ((with_reducible refine gate_dst (N := 2) rfl ?_); refine qv 2 #[.int .i64 0, .int .i64 0, .slice none 0 0] 26 ?_; intro gb248 hg w41 hbox hb; have BK248 := am hbox; have GW248 := qw hg; have GE248 := qw hg; replace HB := qs hb; clear hb hbox hg) | ((with_reducible refine gate_dst (N := 11) rfl ?_); refine qv 11 #[.slice A0 l0.length c0, .int .i64 0, .int .u64 0] 66 ?_; intro gb249 hg w42 hbox hb; have HI249 := am ((show IsS66 w w42 gb249 l0 0 0 from ⟨_, _, hbox, (by rw [hg]; exact (below_size qb) : w.heap.size ≤ gb249), HR0.out⟩)); have GW249 := qw hg; have GE249 := qw hg; have Nq0 := qn hg BK248; have Nq2 := qN hg BK248; replace BK248 := sqB BK248 hb; replace HB := qs hb; clear hb hbox hg) | ((with_reducible refine gate_callee (f := 62) rfl ?_); refine qg (some 13) Try.func62 #[.pointer (some ⟨gb249, 0, none⟩)] ?_; (with_reducible refine (spec_l1Cur_board.calls k gb249 l0 0 0 t250 t251 t252 t255 t256 w _ ?side1 ?side2 A2.out).mono ?_); (case side1 => exact qi); (case side2 => exact qc); rintro e w43 ⟨v253, rfl, ho0, hi, hb, hk⟩; refine ⟨_, rfl, ?_⟩; have Oq4 := qL ho0; replace BK248 := qK BK248 hk Nq0; replace HB := am hb; replace HI249 := am hi; (try clear hb hk hi ho0)) | ((with_reducible refine gate_callee (f := 100) rfl ?_); refine qg (some 15) Try.func100 #[.pointer (some ⟨gb249, 0, none⟩)] ?_; (with_reducible refine (spec_l1Cur_rooks.calls gb249 l0 t255 t256 t257 t258 t259 w _ ?side1 ?side2 A3.out).mono ?_); (case side1 => exact qi); (case side2 => exact qc); rintro e w44 ⟨rfl, hi, hb, hk⟩; refine ⟨_, rfl, ?_⟩; replace BK248 := qK BK248 hk Nq0; replace Oq4 := qR Oq4 hk; replace HB := am hb; replace HI249 := am hi; (try clear hb hk hi)) | ((with_reducible refine gate_dst (N := 6) rfl ?_); refine qv 6 #[.int .i64 0, .int .i64 0, .slice none 0 0] 26 ?_; intro gb260 hg w45 hbox hb; have BK260 := am hbox; have GW260 := qW hg; have GE260 := qW hg; have Nq1 := qn hg BK248; have Nq4 := qN hg BK248; have Nq3 := qo hg gb249; have Nq5 := qO hg gb249; replace Oq4 := sqR Oq4 hb; replace BK248 := sqB BK248 hb; replace HB := qt hb; replace HI249 := qj hb; clear hb hbox hg; have bq2 := Nq4.out; have cq2 := Nq1.out; have bq3 := Nq5.out; have cq3 := Nq3.out; obtain ⟨zq9, zq10, zq11, fq9, fq10, fq11⟩ := qd BK260; obtain ⟨Ao49, co49, eo49⟩ := Kd.R_slice Oq4.out; subst eo49) | ((with_reducible refine gate_callee (f := 101) rfl ?_); refine qg (some 18) Try.func101 #[.agg #[.int .i64 t250, .int .i64 t251, .slice Ao49 t252.length co49], .int .i64 t257] ?_; (with_reducible refine (spec_roAsked.calls k t250 t251 _ _ t252 t257 false _ ?side1 ?side2 A4.out).mono ?_); (case side1 => refine (Kd.R_reads' (e := 3) (base := w.heap.size) (ok := fun k_ => True) (n := t252.length) (c := co49) ?_).2.2; exact (sqw (sqo Oq4 BK260))); (case side2 => exact (Kd.R_reads' Oq4.out).2.1); rintro e w50 ⟨rfl, hb⟩; refine ⟨_, rfl, ?_⟩; replace Oq4 := am (Kd.R_below (sqw (sqo Oq4 BK260)) hb); replace BK248 := sqBf BK248 Nq1 (.int .i64 t250) (.int .i64 t251) (.slice Ao49 t252.length co49) hb; replace BK260 := sqBp BK260 (.int .i64 t250) (.int .i64 t251) (.slice Ao49 t252.length co49) hb; replace HB := qt hb; replace HI249 := am (IsS66.below (show IsS66 w (((w45.setCell ⟨gb260, 0, none⟩ (.int .i64 t250)).setCell ⟨gb260, 1, none⟩ (.int .i64 t251)).setCell ⟨gb260, 2, none⟩ (.slice Ao49 t252.length co49)) gb249 l0 t258 t259 from by repeat (first | (with_reducible first | exact HI249.out | apply IsS66.alloc | apply IsS66.drewN | apply IsS66.drew | apply IsS66.set_1 | apply IsS66.set_2 | refine IsS66.far ?_ Nq2.out _ | refine IsS66.far ?_ Nq3.out _) | exact HI249.out)) hb); (try clear hb)))
  replace Oq4 := am (Kd.R_drew Oq4.out)
  replace BK248 := am (blk_drew BK248.out)
  replace BK260 := am (blk_drew BK260.out)
  replace HI249 := am (IsS66.drew HI249.out)
  replace HB := am (below_drew1 HB.out)
  refine start_ (n := 7) (S := fun w' => w'.cell? ⟨gb260, 0, none⟩ = some (.int .i64 t250) ∧ w'.cell? ⟨gb260, 1, none⟩ = some (.int .i64 t251) ∧ w'.cell? ⟨gb260, 2, none⟩ = some (.slice Ao49 t252.length co49)) (ds := []) #[false, false, false, false, false, false, false] (by kernel_rfl) rfl rfl ⟨sqc BK260 0, sqc BK260 1, sqc BK260 2⟩ (fun hHeld => ?_)
  generalize w50.drew = w51 at Oq4 BK248 BK260 HI249 HB hHeld ⊢
  refine pure_ (i := 1) (N := some 21) (v := ?_) (a' := ?_) #[false, true, false, false, false, false, false] rfl rfl (by kernel_rfl) (fun _ _ _ h => h) (Or.inl ⟨by rfl, ?_⟩) ?_ ?_
  rotate_left
  ·
   intro w'
   go_simp
   with_reducible rfl
  rotate_left
  ·
   simp only [Act.put, List.setIfInBounds_toArray, List.set_cons_zero, List.set_cons_succ, i64_w, i32_w]
   rfl
  refine pure_ (i := 2) (N := some 22) (v := ?_) (a' := ?_) #[false, true, true, false, false, false, false] rfl rfl (by kernel_rfl) (fun _ _ _ h => h) (Or.inl ⟨by rfl, ?_⟩) ?_ ?_
  rotate_left
  ·
   intro w'
   go_simp
   with_reducible rfl
  rotate_left
  ·
   simp only [Act.put, List.setIfInBounds_toArray, List.set_cons_zero, List.set_cons_succ, i64_w, i32_w]
   rfl
  refine take_ (i := 0) (N := some 20) (v := ?_) (a' := ?_) #[true, true, true, false, false, false, false] rfl rfl (by kernel_rfl) (fun _ _ _ h => h) (Or.inl ⟨by rfl, ?_⟩) hHeld ?_ ?_
  rotate_left
  ·
   rintro w' ⟨s0, s1, s2⟩
   go_simp
   with_reducible rfl
  rotate_left
  ·
   simp only [Act.put, List.setIfInBounds_toArray, List.set_cons_zero, List.set_cons_succ, i64_w, i32_w]
   rfl
  refine one_ (i := 3) (N := some 23) #[true, true, true, true, false, false, false] rfl rfl (by kernel_rfl) (by decide) (fun K hK => ?_)
  refine qG Try.func63 #[.pointer (some ⟨gb249, 0, none⟩), .int .i64 3] ?_
  with_reducible refine (spec_l1Cur_pick.calls gb249 l0 t258 t259 3 t262 t263 t264 w _ ?side1 ?side2 A40.out).mono ?_
  (case side1 => exact qi)
  (case side2 => exact qc)
  rintro e w52 ⟨rfl, hi, hb, hk⟩
  refine ⟨_, rfl, ?_⟩
  replace BK248 := qK BK248 hk Nq0
  replace Oq4 := qR Oq4 hk
  replace BK260 := qK BK260 hk Nq5
  replace HB := am hb
  replace HI249 := am hi
  (try clear hb hk hi)
  refine hK.out _ _ ⟨sqc BK260 0, sqc BK260 1, sqc BK260 2⟩ (fun hHeld => ?_)
  clear hK K
  refine qq (some 23) ?_
  refine one_ (i := 4) (N := none) #[true, true, true, true, true, false, false] rfl rfl (by kernel_rfl) (by decide) (fun K hK => ?_)
  have hs53 : w52.cell? ⟨gb248, 0, none⟩ = some (.int .i64 0) := sqc BK248 0
  have hfs53 := blk_frozen BK248.out 0
  have hq6 := Nq4.out
  have hms53_1 := Nq1.out
  have hs54 : w52.cell? ⟨gb248, 1, none⟩ = some (.int .i64 0) := sqc BK248 1
  have hfs54 := blk_frozen BK248.out 1
  have hq7 := Nq4.out
  have hms54_1 := Nq1.out
  have hs55 : w52.cell? ⟨gb248, 2, none⟩ = some (.slice none 0 0) := sqc BK248 2
  have hfs55 := blk_frozen BK248.out 2
  have hq8 := Nq4.out
  have hms55_1 := Nq1.out
  refine skip_ (w1 := ?_) (by rfl) rfl ?_ ?_
  rotate_left
  ·
   go_simp
   rfl
  refine hK.out _ _ ⟨((cell_far (p := ⟨gb248, _, none⟩) Nq4.out _).trans (((cell_far (p := ⟨gb248, _, none⟩) Nq4.out _).trans (((cell_far (p := ⟨gb248, _, none⟩) Nq4.out _).trans (hHeld.1)))))), ((cell_far (p := ⟨gb248, _, none⟩) Nq4.out _).trans (((cell_far (p := ⟨gb248, _, none⟩) Nq4.out _).trans (((cell_far (p := ⟨gb248, _, none⟩) Nq4.out _).trans (hHeld.2.1)))))), ((cell_far (p := ⟨gb248, _, none⟩) Nq4.out _).trans (((cell_far (p := ⟨gb248, _, none⟩) Nq4.out _).trans (((cell_far (p := ⟨gb248, _, none⟩) Nq4.out _).trans (hHeld.2.2))))))⟩ (fun hHeld => ?_)
  clear hK K
  refine pure_ (i := 5) (N := some 3) (v := ?_) (a' := ?_) #[true, true, true, true, true, true, false] rfl rfl (by kernel_rfl) (fun _ _ _ h => h) (Or.inl ⟨by rfl, ?_⟩) ?_ ?_
  rotate_left
  ·
   intro w'
   go_simp
   with_reducible rfl
  rotate_left
  ·
   simp only [Act.put, List.setIfInBounds_toArray, List.set_cons_zero, List.set_cons_succ, i64_w, i32_w]
   rfl
  refine pure_ (i := 6) (N := some 4) (v := ?_) (a' := ?_) #[true, true, true, true, true, true, true] rfl rfl (by kernel_rfl) (fun _ _ _ h => h) (Or.inl ⟨by rfl, ?_⟩) ?_ ?_
  rotate_left
  ·
   intro w'
   go_simp
   with_reducible rfl
  rotate_left
  ·
   simp only [Act.put, List.setIfInBounds_toArray, List.set_cons_zero, List.set_cons_succ, i64_w, i32_w]
   rfl
  refine done_ (by kernel_rfl) ?_
  try go_wp2
  refine bodyPost_ret (results_ctt rfl _ _ gb248 26 #[.int .i64 t250, .int .i64 t251, .slice Ao49 t252.length co49] (0, 0) _ rfl Q9 Try.underlying26 rfl (by kernel_rfl)) rfl ?_
  exact ⟨_, Q2, by (with_reducible repeat (first | apply Kd.R_alloc | apply Kd.R_drewN | apply Kd.R_drew)); exact Kd.R_mono (Kd.R_far (p := ⟨gb248, 2, none⟩) (Kd.R_far (p := ⟨gb248, 1, none⟩) (Kd.R_far (p := ⟨gb248, 0, none⟩) (Kd.R_types Oq4.out BK248.out (by decide)) (fun _ hk => hk.2) (.int .i64 t250)) (fun _ hk => hk.2) (.int .i64 t251)) (fun _ hk => hk.2) (.slice Ao49 t252.length co49)) (fun _ hk => trivial), qc⟩

/-! ### slices_Clone_int_int: function 75 (by hand) -/
def slices_Clone_int_int.f (l0 : List Int) : Option (List Int) := if l0.length < 17592186044416 then some l0 else none
-- (walk)
set_option maxHeartbeats 8000000 in
set_option maxRecDepth 100000 in
theorem slices_Clone_int_int.calls (A0 : Option Addr) (c0 : Nat) (l0 : List Int) (r : List Int) (w : World) (hr0 : Kd.C (Kd.int .i64) w A0 l0.length l0) (hc0 : l0.length ≤ c0) (h : slices_Clone_int_int.f l0 = some r) :
  Calls Try.prog 75 #[.slice A0 l0.length c0] w fun e w' => ∃ v0_ : Value, e = .returned (v0_) ∧ Kd.R (Kd.int .i64) 3 w' w.heap.size (fun _ => True) v0_ r ∧ Below w.heap.size w w' := by
 have hu := Try.underlying24
 have HR0 := Aside0.mk hr0
 have HC0 := Aside0.mk hc0
 have HL0 := am (Kd.C_len hr0)
 have HZ0 := am (show A0 = none → l0 = [] from fun e => by
  subst e
  by_cases h0 : 0 < l0.length
  ·
   obtain ⟨_, _, h3⟩ := hr0
   obtain ⟨ad, e, _⟩ := h3 h0
   cases e
  ·
   exact List.eq_nil_of_length_eq_zero (by omega))
 clear hr0 hc0
 have HB := am (Below.refl w.heap.size w)
 unfold slices_Clone_int_int.f at h
 by_cases c2 : l0.length < 17592186044416
 ·
  rw [if_pos c2] at h
  obtain rfl := Option.some.inj h
  have LM := Aside0.mk c2
  clear c2 h
  cases A0 with
  | none =>
   obtain rfl := HZ0.out rfl
   have hq := fun (W : World) => Lib.run_eql_slice_nil (P := Try.prog) W 24 3 none 0 c0 0 0 Try.underlying24
   go_enter Try.func75, Try.ntmps75
   go_wp2
   go_ret
   exact ⟨_, rfl, Kd.R_nil _ _ _ _ _, HB.out⟩
  | some a =>
   have hq := fun (W : World) => Lib.run_eql_slice_nil (P := Try.prog) W 24 3 (some a) l0.length c0 0 0 Try.underlying24
   go_enter Try.func75, Try.ntmps75
   have hd : (some a : Option Addr).isNone = false := rfl
   obtain ⟨y133, hy133⟩ : ∃ y_ : List Int, y_ = (([] : List Int)) := ⟨_, rfl⟩
   obtain ⟨y136, hy136⟩ : ∃ y_ : List Int, y_ = (y133 ++ l0) := ⟨_, rfl⟩
   have e136 := am (show y136 = l0 by rw [hy136, hy133]; rfl)
   have hl133 := am (show y133.length = 0 by rw [hy133]; rfl)
   have Ny133 := Aside0.mk hy133
   have Ny136 := Aside0.mk hy136
   clear hy133 hy136
   go_wp2_with (first | ((with_reducible refine gate_dst (N := 5) rfl ?_); refine Kd.R_lit (Kd.int .i64) _ 3 ?hg (N := 5) ?hd (xs := ([] : List Int)) (inner := []) (ok := fun _ => True) (okp := fun _ => True) ?hr ?hp (fun _ hk => hk) trivial (Below.refl _ _) (Nat.le_refl _) (by simp) ?_; (case hd => rfl); (case hg => rfl); (case hr => first | (go_simp; done) | (go_simp; rfl)); (case hp => exact (Reps.none _ _)); intro v134 w3 ho4 hb hg_ hnew_; clear hg_ hnew_; (first | rw [← Ny133.out] at ho4 | (simp only [Int.reduceToNat] at ho4; rw [← Ny133.out] at ho4)); have Oq0 := ql ho4; replace HB := qs hb; clear hb ho4) | ((with_reducible refine gate_builtin (b := .append) (xs := #[.tmp 5, .tmp 6]) rfl ?_); at_builtin; refine Kd.R_append_rows (Kd.int .i64) (w0 := w) w.heap.size rfl (.tmp 5) (.tmp 6) 24 3 (.int .i64 0) 8 rfl Try.underlying24 info3 rfl (by decide) (by omega) v134 y133 l0 _ _ _ (fun _ => True) (fun _ => False) rfl rfl ?aO ?aR (fun _ _ h => h) (fun _ h => h.elim) ?aF ?aB ?aS ?aL ?_; (case aR => repeat (first | exact (Kd.C_below HR0.out HB.out) | (with_reducible first | refine Kd.C_alloc ?_ _ | refine Kd.C_drewN ?_ _ | refine Kd.C_drew ?_))); (case aB => exact qb); (case aF => exact (fun _ _ => trivial)); (case aO => exact (sqr Oq0)); (case aS => exact (below_size qb)); (case aL => have := LM.out; have := hl133.out; omega); intro v137 w5 ho hb hg hat; rw [← Ny136.out] at ho; have Oq1 := am (ho); replace HB := am hb; clear Oq0; clear ho hb hg hat))
   go_ret
   exact ⟨_, rfl, by rw [← e136.out]; (with_reducible repeat (first | apply Kd.R_alloc | apply Kd.R_drewN | apply Kd.R_drew)); exact Oq1.out, qb⟩
 ·
  rw [if_neg c2] at h; exact absurd h (by simp)

end Go.Proofs.Ytllhofdgbpnkkaa.PFnPlacementsListed
