-- Printed for this claim by wip/pp.py over the kit's printer; Lean checks it.
import Derived.Test.YtllhofdgbpnkkaaDoorPFnBoardsTurnedx0
import Derived.Test.YtllhofdgbpnkkaaDoorPFnBoardsTurnedx1
import Derived.Test.YtllhofdgbpnkkaaDoorPFnBoardsTurnedx3
import Derived.Test.YtllhofdgbpnkkaaDoorPFnBoardsTurnedx4
import Derived.Test.YtllhofdgbpnkkaaDoorPFnBoardsTurnedx5
namespace Go.Proofs.YtllhofdgbpnkkaaDoor.PFnBoardsTurned
open Go.RowKit Go.Proofs.YtllhofdgbpnkkaaDoorW.PrintWords Go.Proofs.YtllhofdgbpnkkaaDoorW.PrintLast Go.Proofs.YtllhofdgbpnkkaaDoorW.PrintMore
attribute [local go_sem] max2_int min2_int max_two min_two max_three min_three max_four min_four   -- for this text's walks alone
set_option linter.unusedVariables false
set_option linter.unusedSimpArgs false

/-! ### impl_MirrorBoard: function 8 (by hand) -/
/-- One column more of a row that is turned round. -/
def mirS (C : Nat) (m acc : Int) (c : Nat) : Int := if (Go.bits .and .i64 (shr .i64 m (c : Int)) 1 == 1) = true then Go.bits .or .i64 acc (wrap64 (2 ^ (C - 1 - c))) else acc
/-- A row turned round. -/
def mirR (C m : Int) : Int := (List.range C.toNat).foldl (mirS C.toNat m) 0
def impl_MirrorBoard.f (a0_0 a0_1 : Int) (l0_2 : List Int) : Option (Int × Int × List Int × Bool) := some (if GoodB a0_0 a0_1 l0_2 then (a0_0, a0_1, l0_2.map (mirR a0_1), true) else (0, 0, [], false))
-- (walk)
set_option maxHeartbeats 1000000 in
set_option maxRecDepth 4000 in
theorem mir_one {g i C : Nat} {R : Int} {cp : Nat} {A : Option Addr} {l : List Int} {w : World} (hb : w.heap[g]? = some (.cells #[.int .i64 R, .int .i64 C, .slice A l.length cp] 26 (0, 0))) (hA : Kd.C (Kd.int .i64) w A l.length l) (hcp : l.length ≤ cp) (hi : i < l.length) (h6 : C ≤ 6) (hl : l.length ≤ 6) :
  Calls Tryd.prog 31 #[.int .i64 i, .pointer (some ⟨g, 0, none⟩)] w fun e w2 => e = .returned (.int .i64 (mirR C (l.getD i 0))) ∧ Below w.heap.size w w2 := by
 have c1 := blk_cell hb 1
 have HBB := am (Below.refl w.heap.size w)
 have HA := Aside0.mk hA
 have HG := Aside0.mk hb
 have HCP := Aside0.mk hcp
 have hrd : rd l (i : Int) = l.getD i 0 := rfl
 have HRD := Aside0.mk hrd
 clear hA hb hrd hcp
 go_enter Tryd.func31, Tryd.ntmps31
 go_wp2
 go_loopw [4, 8] (fun v4 v8 w' => ∃ c : Nat, c ≤ C ∧ v8 = .int .i64 c ∧ v4 = .int .i64 ((List.range c).foldl (mirS C (l.getD i 0)) 0) ∧ Aside0 (Below w.heap.size w w')) (fun _ v8 _ => ((C : Int) - intOf v8).toNat)
 case atStart => exact ⟨0, by omega, rfl, rfl, ⟨by repeat (first | exact HBB.out | apply pw_below_drewN | apply below_drew1)⟩⟩
 case round =>
  obtain ⟨c, hc, rfl, rfl, HB⟩ := hrel
  by_cases hlt : c < C
  ·
   have hlt2 : decide ((c : Int) < (C : Int)) = true := decide_eq_true (by omega)
   have hsh : decide ((C : Int) - 1 - (c : Int) < 0) = false := decide_eq_false (by omega)
   have HS := am (show (List.range (c + 1)).foldl (mirS C (l.getD i 0)) 0 = mirS C (l.getD i 0) ((List.range c).foldl (mirS C (l.getD i 0)) 0) c by rw [List.range_succ, List.foldl_append]; rfl)
   generalize hacc : (List.range c).foldl (mirS C (l.getD i 0)) 0 = acc at HS ⊢
   have g1 := blk_below HG.out HB.out
   have d0 := blk_cell g1 0
   have d1 := blk_cell g1 1
   have d2 := blk_cell g1 2
   have HH := am (show impl_Board_has.f R C l (i : Int) (c : Int) = some (Go.bits .and .i64 (shr .i64 (l.getD i 0) (c : Int)) 1 == 1) by
    unfold impl_Board_has.f
    rw [if_pos (by omega), if_pos (by omega), if_pos (by omega), HRD.out])
   have G1 := Aside0.mk g1
   clear g1 c1 hacc
   by_cases hbit : (Go.bits .and .i64 (shr .i64 (l.getD i 0) (c : Int)) 1 == 1) = true
   ·
    have HS2 := am (show (List.range (c + 1)).foldl (mirS C (l.getD i 0)) 0 = Go.bits .or .i64 acc (wrap64 (2 ^ (C - 1 - c))) by rw [HS.out, mirS, if_pos hbit])
    rw [hbit] at HH
    clear hbit HS
    go_wp2_with (first | (go_at_call 32; refine (impl_Board_has.calls _ _ _ _ l _ _ _ _ (Kd.C_below HA.out HB.out) HCP.out HH.out).mono ?_; rintro e w2 ⟨rfl, hb2⟩; have HB2 := am (below_step HB.out hb2); clear d0 d1 d2; have d1 := blk_cell (blk_below G1.out hb2) 1; clear hb2))
    go_roundw
    case rel => exact ⟨c + 1, by omega, by go_num, by rw [HS2.out], HB2⟩
    case measure => simp [intOf]; omega
   ·
    have HS2 := am (show (List.range (c + 1)).foldl (mirS C (l.getD i 0)) 0 = acc by rw [HS.out, mirS, if_neg hbit])
    rw [Bool.eq_false_iff.2 hbit] at HH
    clear hbit HS
    go_wp2_with (first | (go_at_call 32; refine (impl_Board_has.calls _ _ _ _ l _ _ _ _ (Kd.C_below HA.out HB.out) HCP.out HH.out).mono ?_; rintro e w2 ⟨rfl, hb2⟩; have HB2 := am (below_step HB.out hb2); clear hb2))
    go_roundw
    case rel => exact ⟨c + 1, by omega, by go_num, by rw [HS2.out], HB2⟩
    case measure => simp [intOf]; omega
  ·
   obtain rfl : c = C := by omega
   have hlt2 : decide ((c : Int) < (c : Int)) = false := decide_eq_false (by omega)
   go_wp2
   go_ret
   exact ⟨by unfold mirR; rw [Int.toNat_natCast]; rfl, HB.out⟩
set_option maxHeartbeats 2000000 in
set_option maxRecDepth 4000 in
theorem impl_MirrorBoard.calls (a0_0 : Int) (a0_1 : Int) (A0_2 : Option Addr) (c0_2 : Nat) (l0_2 : List Int) (r1 : Int) (r2 : Int) (r3 : List Int) (r4 : Bool) (w : World) (hr0_2 : Kd.C (Kd.int .i64) w A0_2 l0_2.length l0_2) (hc0_2 : l0_2.length ≤ c0_2) (h : impl_MirrorBoard.f a0_0 a0_1 l0_2 = some (r1, r2, r3, r4)) :
  Calls Tryd.prog 8 #[.agg #[.int .i64 a0_0, .int .i64 a0_1, .slice A0_2 l0_2.length c0_2]] w fun e w' => ∃ v2_ : Value, e = .returned (.tuple #[.agg #[.int .i64 r1, .int .i64 r2, v2_], .bool r4]) ∧ Kd.R (Kd.int .i64) 3 w' w.heap.size (fun _ => True) v2_ r3 ∧ Below w.heap.size w w' := by
 unfold impl_MirrorBoard.f at h
 have hu := Tryd.underlying26
 have HA := Aside0.mk hr0_2
 clear hr0_2
 by_cases hg : GoodB a0_0 a0_1 l0_2
 ·
  rw [if_pos hg] at h
  simp only [Option.some.injEq, Prod.mk.injEq] at h
  obtain ⟨rfl, rfl, rfl, rfl⟩ := h
  obtain ⟨g1, g2, g3, g4⟩ := hg
  have HI := am (show impl_IsBoard.f a0_0 a0_1 l0_2 = some true by unfold impl_IsBoard.f; rw [decide_eq_true ⟨g1, g2, g3, g4⟩])
  obtain ⟨C, rfl⟩ := Int.eq_ofNat_of_zero_le (show 0 ≤ a0_1 by omega)
  subst g3
  clear g4
  go_enter Tryd.func8, Tryd.ntmps8
  go_wp2_with (first
   | ((with_reducible refine gate_dst (N := 1) rfl ?_); refine qv 1 #[.int .i64 l0_2.length, .int .i64 C, .slice A0_2 l0_2.length c0_2] 26 ?_; intro gb hgb w1 bb hb1; have GB := Aside0.mk hgb; have BB := Aside0.mk bb; have HB1 := Aside0.mk hb1; clear hgb bb hb1)
   | ((with_reducible refine gate_dst (N := 2) rfl ?_); refine qv 2 #[.int .i64 0, .int .i64 0, .slice none 0 0] 26 ?_; intro gr hgr w2 br hb2; have GR := Aside0.mk hgr; have BR := Aside0.mk br; have HB2 := Aside0.mk hb2; have BB2 := am (blk_below BB.out hb2); have cb0 := blk_cell BB2.out 0; have cb1 := blk_cell BB2.out 1; have cb2 := blk_cell BB2.out 2; clear hgr br hb2)
   | (go_at_call 26; refine (impl_IsBoard.calls _ _ _ _ _ _ _ (Kd.C_below HA.out (below_step HB1.out HB2.out)) hc0_2 HI.out).mono ?_; rintro e w3 ⟨rfl, hb3⟩; have HB3 := Aside0.mk hb3; have BB3 := am (blk_below BB2.out hb3); have BR3 := am (blk_below BR.out hb3); clear cb0 cb1 cb2; have cb0 := blk_cell BB3.out 0; have cb1 := blk_cell BB3.out 1; have cb2 := blk_cell BB3.out 2; clear hb3)
   )
  have T3 := am (below_step (below_step HB1.out HB2.out) HB3.out)
  refine (mp_all (R := l0_2.length) (C := C) (cp := c0_2) (A := A0_2) (l := l0_2) (fid := 31) (caps := #[.pointer (some ⟨gb, 0, none⟩)]) (w := w3) (f := fun i => mirR C (l0_2.getD i 0)) (by omega) (by omega) (fun _ _ => by kernel_rfl) (fun w1 i hb hi => (mir_one (blk_below BB3.out hb) (Kd.C_below HA.out (below_step T3.out hb)) hc0_2 hi (by omega) (by omega)).mono (fun e w' h => h))).mono ?_
  rintro e w4 ⟨v4, rfl, ho4, hb4⟩
  obtain ⟨A4, c4, ev⟩ := Kd.R_slice ho4
  rw [List.length_map, List.length_range] at ev
  subst ev
  have Oq5 := Aside0.mk ho4
  have HB4 := Aside0.mk hb4
  have r4 := blk_below BR3.out hb4
  have BR4 := Aside0.mk r4
  have cr0 := blk_cell r4 0
  have cr1 := blk_cell r4 1
  have cr2 := blk_cell r4 2
  have fr0 := blk_frozen r4 0
  have fr1 := blk_frozen r4 1
  have fr2 := blk_frozen r4 2
  clear ho4 hb4 r4 cb0 cb1 cb2
  go_wp2
  have HE := mp_end (R := (l0_2.length : Int)) (C := (C : Int)) BR4.out T3.out HB4.out (by have := GR.out; have := HB1.out.size; omega) Oq5.out
  refine bodyPost_ret (results_ct rfl _ _ gr 26 #[.int .i64 l0_2.length, .int .i64 C, .slice A4 l0_2.length c4] (0, 0) _ rfl HE.1 hu rfl (by kernel_rfl)) rfl ?_
  exact ⟨_, rfl, by rw [← range_get]; exact HE.2.1, HE.2.2⟩
 ·
  rw [if_neg hg] at h
  simp only [Option.some.injEq, Prod.mk.injEq] at h
  obtain ⟨rfl, rfl, rfl, rfl⟩ := h
  have HI := am (show impl_IsBoard.f a0_0 a0_1 l0_2 = some false by unfold impl_IsBoard.f; rw [decide_eq_false hg])
  clear hg
  go_enter Tryd.func8, Tryd.ntmps8
  go_wp2_with (first
   | ((with_reducible refine gate_dst (N := 1) rfl ?_); refine qv 1 #[.int .i64 a0_0, .int .i64 a0_1, .slice A0_2 l0_2.length c0_2] 26 ?_; intro gb hgb w1 bb hb1; have GB := Aside0.mk hgb; have BB := Aside0.mk bb; have HB1 := Aside0.mk hb1; clear hgb bb hb1)
   | ((with_reducible refine gate_dst (N := 2) rfl ?_); refine qv 2 #[.int .i64 0, .int .i64 0, .slice none 0 0] 26 ?_; intro gr hgr w2 br hb2; have GR := Aside0.mk hgr; have BR := Aside0.mk br; have HB2 := Aside0.mk hb2; have BB2 := am (blk_below BB.out hb2); have cb0 := blk_cell BB2.out 0; have cb1 := blk_cell BB2.out 1; have cb2 := blk_cell BB2.out 2; clear hgr br hb2)
   | (go_at_call 26; refine (impl_IsBoard.calls _ _ _ _ _ _ _ (Kd.C_below HA.out (below_step HB1.out HB2.out)) hc0_2 HI.out).mono ?_; rintro e w3 ⟨rfl, hb3⟩; have HB3 := Aside0.mk hb3; have BR3 := am (blk_below BR.out hb3); clear cb0 cb1 cb2; have cr0 := blk_cell BR3.out 0; have cr1 := blk_cell BR3.out 1; have cr2 := blk_cell BR3.out 2; have fr0 := blk_frozen BR3.out 0; have fr1 := blk_frozen BR3.out 1; have fr2 := blk_frozen BR3.out 2; clear hb3)
   )
  have HE := mp_end (R := 0) (C := 0) BR3.out (below_step (below_step HB1.out HB2.out) HB3.out) (Below.refl _ _) (by have := GR.out; have := HB1.out.size; omega) (Kd.R_nil _ _ _ _ _)
  refine bodyPost_ret (results_ct rfl _ _ gr 26 #[.int .i64 0, .int .i64 0, .slice none 0 0] (0, 0) _ rfl HE.1 hu rfl (by kernel_rfl)) rfl ?_
  exact ⟨_, rfl, HE.2.1, HE.2.2⟩

/-! ### spec_MirrorBoard: function 9 -/
def spec_MirrorBoard.l0 : Nat → List (List Int) → Int → Int → Int → Int → List Int → Int → Int → List Int → Option (Int × Int × List Int × Bool)
 | 0, _, _, _, _, _, _, _, _, _ => none
 | k + 1, x17, x18, x19, x269000, x269001, x269002, x277000, x277001, x277002 => if x19 < x18 then (if 0 ≤ x19 then (if x19 < (x17.length : Int) then (if 0 < ((rd_L2 x17 x19).length : Int) then (if 0 ≤ (rd (rd_L2 x17 x19) 0) then (if (rd (rd_L2 x17 x19) 0) < (x277002.length : Int) then (if 1 < ((rd_L2 x17 x19).length : Int) then (if 0 ≤ (wrap64 ((wrap64 (x269001 - 1)) - (rd (rd_L2 x17 x19) 1))) then (spec_MirrorBoard.l0 k x17 x18 (wrap64 (x19 + 1)) x269000 x269001 x269002 x277000 x277001 (x277002.set ((rd (rd_L2 x17 x19) 0) : Int).toNat (wrap64 ((rd x277002 (rd (rd_L2 x17 x19) 0)) + (shl .i64 1 (wrap64 ((wrap64 (x269001 - 1)) - (rd (rd_L2 x17 x19) 1)))))))) else (none)) else (none)) else (none)) else (none)) else (none)) else (none)) else (none)) else (some (x277000, x277001, x277002, true))
def spec_MirrorBoard.f (k : Nat) (a0_0 : Int) (a0_1 : Int) (l0_2 : List Int) : Option (Int × Int × List Int × Bool) := (spec_boGood.f k a0_0 a0_1 l0_2).bind fun t270 => (if t270 = true then ((spec_boEmpty.f a0_0 a0_1).bind fun bt271 => ((spec_boCells.f k a0_0 a0_1 l0_2).bind fun t277 => (spec_MirrorBoard.l0 k t277 (t277.length : Int) 0 a0_0 a0_1 l0_2 bt271.1 bt271.2.1 bt271.2.2))) else (some (0, 0, ([] : List Int), false)))
def spec_MirrorBoard.T7 : Bool × List (List Nat × List Nat) := (true, [([], []), ([0], [0]), ([], []), ([2], [2]), ([3], [3]), ([1, 4], [1, 4]), ([5], [5]), ([], []), ([7], [7]), ([8], [8]), ([], []), ([10], [10]), ([11], [11]), ([9, 12], [9, 12]), ([13], [13]), ([6, 14], [6, 14]), ([1, 4, 0, 1, 2, 3, 4, 5, 6, 7, 8, 9, 10, 11, 12, 13, 14, 15], [1, 4]), ([16, 15, 0, 1, 2, 3, 4, 5, 6, 7, 8, 9, 10, 11, 12, 13, 14, 15], [15, 16])])
def spec_MirrorBoard.B7 : List Nat := [0, 1, 0, 4, 12, 31, 63, 0, 128, 384, 0, 1024, 3072, 8064, 16256, 32767, 65535, 131071]
theorem spec_MirrorBoard.tab7 : rtab .any (opsOf Tryd.f9 7) = spec_MirrorBoard.T7 := by kernel_rfl
theorem spec_MirrorBoard.bits7 : waitsOk spec_MirrorBoard.T7.2 spec_MirrorBoard.B7 = true := by kernel_rfl
set_option maxHeartbeats 8000000 in
set_option maxRecDepth 100000 in
theorem spec_MirrorBoard.calls (k : Nat) (a0_0 : Int) (a0_1 : Int) (A0_2 : Option Addr) (c0_2 : Nat) (l0_2 : List Int) (r1 : Int) (r2 : Int) (r3 : List Int) (r4 : Bool) (w : World) (hr0_2 : Kd.C (Kd.int .i64) w A0_2 l0_2.length l0_2) (hc0_2 : l0_2.length ≤ c0_2) (h : spec_MirrorBoard.f k a0_0 a0_1 l0_2 = some (r1, r2, r3, r4)) :
  Calls Tryd.prog 9 #[.agg #[.int .i64 a0_0, .int .i64 a0_1, .slice A0_2 l0_2.length c0_2]] w fun e w' => ∃ v2_ : Value, e = .returned (.tuple #[.agg #[.int .i64 r1, .int .i64 r2, v2_], .bool r4]) ∧ Kd.R (Kd.int .i64) 3 w' w.heap.size (fun _ => True) v2_ r3 ∧ Below w.heap.size w w' := by
 have hu26 := Tryd.underlying26
 have HR0_2 := Aside0.mk hr0_2
 have HC0_2 := Aside0.mk hc0_2
 clear hr0_2 hc0_2
 have HB := am (Below.refl w.heap.size w)
 have H : ((spec_boGood.f k a0_0 a0_1 l0_2).bind fun t270 => (if t270 = true then ((spec_boEmpty.f a0_0 a0_1).bind fun bt271 => ((spec_boCells.f k a0_0 a0_1 l0_2).bind fun t277 => (spec_MirrorBoard.l0 k t277 (t277.length : Int) 0 a0_0 a0_1 l0_2 bt271.1 bt271.2.1 bt271.2.2))) else (some (0, 0, ([] : List Int), false)))) = some (r1, r2, r3, r4) := h
 clear h
 replace H := qE H
 obtain ⟨t270, A2, H⟩ := H
 replace H : (if t270 = true then ((spec_boEmpty.f a0_0 a0_1).bind fun bt271 => ((spec_boCells.f k a0_0 a0_1 l0_2).bind fun t277 => (spec_MirrorBoard.l0 k t277 (t277.length : Int) 0 a0_0 a0_1 l0_2 bt271.1 bt271.2.1 bt271.2.2))) else (some (0, 0, ([] : List Int), false))) = some (r1, r2, r3, r4) := H
 by_cases c3 : t270 = true
 ·
  subst c3
  have H1 : ((spec_boEmpty.f a0_0 a0_1).bind fun bt271 => ((spec_boCells.f k a0_0 a0_1 l0_2).bind fun t277 => (spec_MirrorBoard.l0 k t277 (t277.length : Int) 0 a0_0 a0_1 l0_2 bt271.1 bt271.2.1 bt271.2.2))) = some (r1, r2, r3, r4) := by first | (rw [if_pos rfl] at H; exact H) | rfl
  clear H
  have H := H1
  clear H1
  replace H := qE H
  obtain ⟨⟨t271, t272, t273⟩, A4, H⟩ := H
  replace H : ((spec_boCells.f k a0_0 a0_1 l0_2).bind fun t277 => (spec_MirrorBoard.l0 k t277 (t277.length : Int) 0 a0_0 a0_1 l0_2 t271 t272 t273)) = some (r1, r2, r3, r4) := H
  replace H := qE H
  obtain ⟨t277, A5, H⟩ := H
  replace H : (spec_MirrorBoard.l0 k t277 (t277.length : Int) 0 a0_0 a0_1 l0_2 t271 t272 t273) = some (r1, r2, r3, r4) := H
  have H' := Aside0.mk H
  clear H
  go_enter Tryd.func9, Tryd.ntmps9
  go_wp2_with (first | ((with_reducible refine gate_dst (N := 1) rfl ?_); refine qv 1 #[.int .i64 a0_0, .int .i64 a0_1, .slice A0_2 l0_2.length c0_2] 26 ?_; intro gb268 hg w6 hbox hb; have BK268 := am hbox; have GW268 := qw hg; have GE268 := qw hg; replace HB := qs hb; clear hb hbox hg) | ((with_reducible refine gate_dst (N := 2) rfl ?_); refine qv 2 #[.int .i64 0, .int .i64 0, .slice none 0 0] 26 ?_; intro gb269 hg w7 hbox hb; have BK269 := am hbox; have GW269 := qw hg; have GE269 := qw hg; have Nq0 := qn hg BK268; have Nq2 := qN hg BK268; replace BK268 := sqB BK268 hb; replace HB := qs hb; clear hb hbox hg; have bq6 := Nq0.out; have cq6 := Nq2.out; obtain ⟨zq21, zq22, zq23, fq21, fq22, fq23⟩ := qd BK268) | ((with_reducible refine gate_callee (f := 28) rfl ?_); refine qg (some 8) Tryd.func28 #[.agg #[.int .i64 a0_0, .int .i64 a0_1, .slice A0_2 l0_2.length c0_2]] ?_; (with_reducible refine (spec_boGood.calls k a0_0 a0_1 _ _ l0_2 true _ ?side1 HC0_2.out A2.out).mono ?_); (case side1 => exact Q3); rintro e w10 ⟨rfl, hb⟩; refine ⟨_, rfl, ?_⟩; replace BK268 := sqB BK268 hb; replace BK269 := sqB BK269 hb; replace HB := qs hb; (try clear hb); obtain ⟨zq0, zq1, zq2, fq0, fq1, fq2⟩ := qd BK268) | ((with_reducible refine gate_callee (f := 33) rfl ?_); refine qg (some 15) Tryd.func33 #[.int .i64 a0_0, .int .i64 a0_1] ?_; (with_reducible refine (spec_boEmpty.calls a0_0 a0_1 t271 t272 t273 _ A4.out).mono ?_); rintro e w12 ⟨v274, rfl, ho0, hb⟩; refine ⟨_, rfl, ?_⟩; have Oq0 := ql ho0; replace BK268 := sqB BK268 hb; replace BK269 := sqB BK269 hb; replace HB := qs hb; (try clear hb ho0)) | ((with_reducible refine gate_dst (N := 4) rfl ?_); refine qv 4 #[.int .i64 0, .int .i64 0, .slice none 0 0] 26 ?_; intro gb276 hg w13 hbox hb; have BK276 := am hbox; have GW276 := qw hg; have GE276 := qw hg; have Nq1 := qn hg BK268; have Nq4 := qN hg BK268; have Nq3 := qn hg BK269; have Nq5 := qN hg BK269; replace Oq0 := sqR Oq0 hb; replace BK268 := sqB BK268 hb; replace BK269 := sqB BK269 hb; replace HB := qs hb; clear hb hbox hg; have bq0 := Nq4.out; have cq0 := Nq1.out; have bq1 := Nq5.out; have cq1 := Nq3.out; obtain ⟨zq3, zq4, zq5, fq3, fq4, fq5⟩ := qd BK276; obtain ⟨Ao17, co17, eo17⟩ := Kd.R_slice Oq0.out; subst eo17; obtain ⟨zq6, zq7, zq8, fq6, fq7, fq8⟩ := qd BK268) | ((with_reducible refine gate_callee (f := 34) rfl ?_); refine qg (some 17) Tryd.func34 #[.agg #[.int .i64 a0_0, .int .i64 a0_1, .slice A0_2 l0_2.length c0_2]] ?_; (with_reducible refine (spec_boCells.calls k a0_0 a0_1 _ _ l0_2 t277 _ ?side1 HC0_2.out A5.out).mono ?_); (case side1 => exact Kd.C_below HR0_2.out qb); rintro e w19 ⟨v278, rfl, ho0, hb⟩; refine ⟨_, rfl, ?_⟩; have Oq1 := am (Kd.S_lower (Kd.S_new' ho0 (sqv (sqo Oq0 BK276))) (below_size qb)); replace Oq0 := am (Kd.R_below (sqw (sqo Oq0 BK276)) hb); replace BK268 := sqBf BK268 Nq1 (.int .i64 t271) (.int .i64 t272) (.slice Ao17 t273.length co17) hb; replace BK269 := sqBf BK269 Nq3 (.int .i64 t271) (.int .i64 t272) (.slice Ao17 t273.length co17) hb; replace BK276 := sqBp BK276 (.int .i64 t271) (.int .i64 t272) (.slice Ao17 t273.length co17) hb; replace HB := qs hb; (try clear hb ho0); obtain ⟨Ao20, co20, eo20⟩ := Kd.S_slice Oq1.out; subst eo20))
  go_loopg [19] k (fun kq v19 w' => ∃ (x19_1 : Int) (x277002_1 : List Int) (u277002 : Value), v19 = .int .i64 x19_1 ∧ Aside0 (spec_MirrorBoard.l0 kq t277 (t277.length : Int) x19_1 a0_0 a0_1 l0_2 t271 t272 x277002_1 = some (r1, r2, r3, r4)) ∧ Aside0 (kq ≤ k) ∧ Aside0 (Kd.S (Kd.slice 3 (Kd.int .i64)) 24 w' w.heap.size (fun k_ => some k_ ≠ (u277002 : Value).ownBlock) (.slice Ao20 t277.length co20) t277) ∧ Aside0 (Kd.R (Kd.int .i64) 3 w' w.heap.size (fun _ => True) u277002 x277002_1) ∧ Aside0 (w'.heap[gb268]? = some (.cells #[.int .i64 a0_0, .int .i64 a0_1, (.slice A0_2 l0_2.length c0_2)] 26 (0, 0))) ∧ Aside0 (w'.heap[gb269]? = some (.cells #[.int .i64 0, .int .i64 0, (.slice none 0 0)] 26 (0, 0))) ∧ Aside0 (w'.heap[gb276]? = some (.cells #[.int .i64 t271, .int .i64 t272, u277002] 26 (0, 0))) ∧ Aside0 (Below w.heap.size w w'))
  case atStart => exact ⟨(0), (t273), (.slice Ao17 t273.length co17), Q2, H', ⟨Nat.le_refl _⟩, ⟨by (with_reducible repeat (first | apply Kd.S_alloc | apply Kd.S_drewN | apply Kd.S_drew)); exact Kd.S_mono Oq1.out (fun _ hk => hk.2)⟩, ⟨Q36⟩, ⟨by (with_reducible repeat (first | refine blk_drewN ?_ _ | refine blk_drew ?_ | refine blk_alloc ?_ _)); exact BK268.out⟩, ⟨by (with_reducible repeat (first | refine blk_drewN ?_ _ | refine blk_drew ?_ | refine blk_alloc ?_ _)); exact BK269.out⟩, ⟨by (with_reducible repeat (first | refine blk_drewN ?_ _ | refine blk_drew ?_ | refine blk_alloc ?_ _)); exact BK276.out⟩, ⟨qb⟩⟩
  case round =>
   clear H'
   try clear c3; try clear zq0; try clear zq1; try clear zq2; try clear zq3; try clear zq4; try clear zq5; try clear zq6; try clear zq7; try clear zq8; try clear zq21; try clear zq22; try clear zq23; try clear fq0; try clear fq1; try clear fq2; try clear fq3; try clear fq4; try clear fq5; try clear fq6; try clear fq7; try clear fq8; try clear fq21; try clear fq22; try clear fq23
   obtain ⟨x19_1, x277002_1, u277002, rfl, HA, HK1, Oq6, Oq7, BK268, BK269, BK276, HB⟩ := hrel
   cases gk with
   | zero => exact absurd HA.out (by simp [spec_MirrorBoard.l0])
   | succ k1 =>
    have H := HA.out
    clear HA
    simp only [spec_MirrorBoard.l0] at H
    by_cases c21 : x19_1 < (t277.length : Int)
    ·
     rw [if_pos c21] at H
     have c21b0 : decide (x19_1 < (t277.length : Int)) = true := decide_eq_true c21
     clear c21
     by_cases c22 : 0 ≤ x19_1
     ·
      rw [if_pos c22] at H
      have c22b0 : decide (0 ≤ x19_1) = true := decide_eq_true c22
      clear c22
      by_cases c23 : x19_1 < (t277.length : Int)
      ·
       rw [if_pos c23] at H
       have c23b0 : decide (x19_1 < (t277.length : Int)) = true := decide_eq_true c23
       clear c23
       by_cases c24 : 0 < ((rd_L2 t277 x19_1).length : Int)
       ·
        rw [if_pos c24] at H
        have c24b0 : decide (0 < ((rd_L2 t277 x19_1).length : Int)) = true := decide_eq_true c24
        have c24b1 : decide (0 < (rd_L2 t277 x19_1).length) = true := decide_eq_true (by omega)
        clear c24
        by_cases c25 : 0 ≤ (rd (rd_L2 t277 x19_1) 0)
        ·
         rw [if_pos c25] at H
         have c25b0 : decide (0 ≤ (rd (rd_L2 t277 x19_1) 0)) = true := decide_eq_true c25
         clear c25
         by_cases c26 : (rd (rd_L2 t277 x19_1) 0) < (x277002_1.length : Int)
         ·
          rw [if_pos c26] at H
          have c26b0 : decide ((rd (rd_L2 t277 x19_1) 0) < (x277002_1.length : Int)) = true := decide_eq_true c26
          clear c26
          by_cases c27 : 1 < ((rd_L2 t277 x19_1).length : Int)
          ·
           rw [if_pos c27] at H
           have c27b0 : decide (1 < ((rd_L2 t277 x19_1).length : Int)) = true := decide_eq_true c27
           have c27b1 : decide (1 < (rd_L2 t277 x19_1).length) = true := decide_eq_true (by omega)
           clear c27
           obtain ⟨ji28, hji28⟩ : ∃ j_ : Int, (wrap64 ((wrap64 (a0_1 - 1)) - (rd (rd_L2 t277 x19_1) 1))) = j_ := ⟨_, rfl⟩
           replace H : (if 0 ≤ (ji28) then (spec_MirrorBoard.l0 k1 t277 (t277.length : Int) (wrap64 (x19_1 + 1)) a0_0 a0_1 l0_2 t271 t272 (x277002_1.set ((rd (rd_L2 t277 x19_1) 0) : Int).toNat (wrap64 ((rd x277002_1 (rd (rd_L2 t277 x19_1) 0)) + (shl .i64 1 (ji28)))))) else (none)) = some (r1, r2, r3, r4) := by first | (rw [hji28] at H; exact H) | (simp only [hji28] at H ⊢; exact H)
           have hji28w : (IntKind.i64.wrap ((wrap64 (a0_1 - 1)) - (rd (rd_L2 t277 x19_1) 1))) = ji28 := (i64_w _).trans hji28
           by_cases c29 : 0 ≤ (ji28)
           ·
            rw [if_pos c29] at H
            have c29b0 := eq_true c29
            have c29b1 : decide (0 ≤ (ji28)) = true := decide_eq_true c29
            clear c29
            obtain ⟨ji30, hji30⟩ : ∃ j_ : Int, (shl .i64 1 (ji28)) = j_ := ⟨_, rfl⟩
            replace H : (spec_MirrorBoard.l0 k1 t277 (t277.length : Int) (wrap64 (x19_1 + 1)) a0_0 a0_1 l0_2 t271 t272 (x277002_1.set ((rd (rd_L2 t277 x19_1) 0) : Int).toNat (wrap64 ((rd x277002_1 (rd (rd_L2 t277 x19_1) 0)) + (ji30))))) = some (r1, r2, r3, r4) := by first | (rw [hji30] at H; exact H) | (simp only [hji30] at H ⊢; exact H)
            have hji30_ : (IntKind.i64.wrap (1 * 2 ^ min (ji28).toNat 64)) = ji30 := hji30
            have hji30z : (ji28) ≤ 64 → (IntKind.i64.wrap (1 * 2 ^ (ji28).toNat)) = ji30 := shl_small hji30
            have hji30u : (IntKind.i64.wrap (2 ^ min (ji28).toNat 64)) = ji30 := by have h_ := hji30_; rw [Int.one_mul] at h_; exact h_
            have hji30v : (ji28) ≤ 64 → (IntKind.i64.wrap (2 ^ (ji28).toNat)) = ji30 := fun hle_ => by have h_ := hji30z hle_; rw [Int.one_mul] at h_; exact h_
            have hji30y : (wrap64 (1 * 2 ^ min (ji28).toNat 64)) = ji30 := (i64_w _).symm.trans hji30_
            have hji30x : (ji28) ≤ 64 → (wrap64 (1 * 2 ^ (ji28).toNat)) = ji30 := fun h_ => (i64_w _).symm.trans (hji30z h_)
            obtain ⟨y284, hy_⟩ : ∃ y_ : List Int, y_ = ((x277002_1.set ((rd (rd_L2 t277 x19_1) 0) : Int).toNat (wrap64 ((rd x277002_1 (rd (rd_L2 t277 x19_1) 0)) + (ji30))))) := ⟨_, rfl⟩
            replace H : (spec_MirrorBoard.l0 k1 t277 (t277.length : Int) (wrap64 (x19_1 + 1)) a0_0 a0_1 l0_2 t271 t272 y284) = some (r1, r2, r3, r4) := qH
            have Ny284 := Aside0.mk hy_
            clear hy_
            have H' := Aside0.mk H
            clear H
            have p280 : 0 ≤ (x19_1 : Int) := of_decide_eq_true Q0
            have q280 : x19_1 < (t277.length : Int) := of_decide_eq_true Q0
            obtain ⟨ad280, A280_0, c280_0, e280, hx280_0, hl280_0, hi280_0⟩ := at_L2 (Kd.S_reads' Oq6.out).2.2 x19_1 p280 q280
            cases e280
            obtain ⟨ce280, hce280, hMe280, hcc280⟩ := Kd.S_get Oq6.out [] x19_1 p280 (by first | exact q280 | exact of_decide_eq_true Q0 | (have e_ := (Kd.S_reads' Oq6.out).1; omega))
            obtain ⟨ve280_0, rfl, ge280_0⟩ := hMe280
            have hv280_0 := hcc280 0 _ rfl
            rw [Nat.add_zero, show ((Kd.slice 3 (Kd.int .i64))).sz = 1 from rfl, Nat.mul_one] at hv280_0
            replace hv280_0 := Option.some.inj (hv280_0.symm.trans hx280_0)
            rw [hv280_0] at ge280_0
            have HL280_0 := am (show Kd.R (Kd.int .i64) 3 _ _ _ _ (rd_L2 t277 x19_1) from ge280_0)
            clear hv280_0 ge280_0 hcc280 hce280
            have HR280_0 := Aside0.mk hi280_0
            have HC280_0 := Aside0.mk hl280_0
            clear hi280_0 hl280_0
            replace p280 := eq_true p280
            replace q280 := eq_true q280
            try go_wp2
            replace Oq6 := am (Kd.S_drew Oq6.out)
            replace Oq7 := am (Kd.R_drew Oq7.out)
            replace HL280_0 := am (Kd.R_drew HL280_0.out)
            replace BK268 := am (blk_drew BK268.out)
            replace BK269 := am (blk_drew BK269.out)
            replace BK276 := am (blk_drew BK276.out)
            replace HR280_0 := am (Kd.C_drew HR280_0.out)
            replace HB := am (below_drew1 HB.out)
            have p281 : 0 ≤ (0 : Int) := (by omega)
            have q281 : 0 < ((rd_L2 t277 x19_1).length : Int) := of_decide_eq_true Q0
            obtain ⟨ad281, e281, hx281_0⟩ := Kd.at_int Q65 0 p281 q281
            cases e281
            have qi281 : (0 < (rd_L2 t277 x19_1).length) = True := eq_true (by omega)
            (try rw [show ((0 : Int)).toNat = 0 from rfl] at hx281_0)
            (try rw [Addr.add_zero'] at hx281_0)
            replace p281 := eq_true p281
            replace q281 := eq_true q281
            obtain ⟨Ao33, co33, eo33⟩ := Kd.R_slice Oq7.out
            (first | subst eo33 | (injection eo33 with f1_ f2_ f3_; have f4_ := f1_.symm; have f5_ := f3_.symm; clear f1_ f2_ f3_; subst f4_; subst f5_))
            have p282 : 0 ≤ ((rd (rd_L2 t277 x19_1) 0) : Int) := of_decide_eq_true Q0
            have q282 : (rd (rd_L2 t277 x19_1) 0) < (x277002_1.length : Int) := of_decide_eq_true Q0
            obtain ⟨ad282, e282, hx282_0⟩ := Kd.at_int (Kd.R_reads' Oq7.out).2.2 (rd (rd_L2 t277 x19_1) 0) p282 q282
            cases e282
            replace p282 := eq_true p282
            replace q282 := eq_true q282
            have p283 : 0 ≤ (1 : Int) := (by omega)
            have q283 : 1 < ((rd_L2 t277 x19_1).length : Int) := of_decide_eq_true Q0
            obtain ⟨ad283, e283, hx283_0⟩ := Kd.at_int Q65 1 p283 q283
            obtain rfl : ad281 = ad283 := (by injection e283)
            (try simp only [show (1 : Int).toNat = 1 from rfl, Nat.reduceMul, Nat.reduceEqDiff, Go.Addr.add, ↓reduceIte] at hx283_0)
            have qi283 : (1 < (rd_L2 t277 x19_1).length) = True := eq_true (by omega)
            (try rw [show ((1 : Int)).toNat = 1 from rfl] at hx283_0)
            replace p283 := eq_true p283
            replace q283 := eq_true q283
            have p31 : 0 ≤ ((rd (rd_L2 t277 x19_1) 0) : Int) := of_decide_eq_true Q0
            have q31 : ((rd (rd_L2 t277 x19_1) 0) : Int) < ((x277002_1.length : Int) : Int) := of_decide_eq_true Q0
            obtain ⟨go31, co31, eo31, gb31, gl31, cl31, HG31⟩ := Kd.R_form Oq7.out (by omega)
            (first | cases eo31 | (injection eo31 with ea_ en_ ec_; (first | subst ea_ | (injection ea_ with ea_; subst ea_)); subst ec_; clear en_))
            have GB31 := Aside0.mk gb31
            have GG31 := Aside0.mk HG31
            clear gb31 gl31 HG31
            (first | simp only [add_plain] at hx282_0 | skip)
            obtain ⟨hx31_0, hf31_0⟩ := Kd.R_celln 0 Oq7.out ((rd (rd_L2 t277 x19_1) 0) : Int) p31 q31
            replace p31 := eq_true p31
            replace q31 := eq_true q31
            have HP34 := Kd.R_putn Oq7.out ((rd (rd_L2 t277 x19_1) 0) : Int) (wrap64 ((rd x277002_1 (rd (rd_L2 t277 x19_1) 0)) + (ji30)))
            rw [← Ny284.out] at HP34
            have HQ34 := Aside0.mk HP34
            clear HP34
            refine start_ (n := 18) (S := fun w' => w'.cell? ⟨gb276, 0, none⟩ = some (.int .i64 t271) ∧ w'.cell? ⟨gb276, 1, none⟩ = some (.int .i64 t272) ∧ w'.cell? ⟨gb276, 2, none⟩ = some (.slice (some ⟨go31, 0, none⟩) x277002_1.length co33) ∧ w'.cell? ⟨gb268, 0, none⟩ = some (.int .i64 a0_0) ∧ w'.cell? ⟨gb268, 1, none⟩ = some (.int .i64 a0_1) ∧ w'.cell? ⟨gb268, 2, none⟩ = some (.slice A0_2 l0_2.length c0_2) ∧ w'.cell? ad281 = some (.int .i64 (rd (rd_L2 t277 x19_1) 0)) ∧ w'.cell? ⟨go31, ((rd (rd_L2 t277 x19_1) 0) : Int).toNat, none⟩ = some (.int .i64 (rd x277002_1 (rd (rd_L2 t277 x19_1) 0))) ∧ w'.cell? ⟨ad281.block, ad281.off + 1, none⟩ = some (.int .i64 (rd (rd_L2 t277 x19_1) 1))) (ds := [17]) #[false, false, false, false, false, false, false, false, false, false, false, false, false, false, false, false, false, false] (by kernel_rfl) rfl rfl ⟨sqc BK276 0, sqc BK276 1, sqc BK276 2, sqc BK268 0, sqc BK268 1, sqc BK268 2, hx281_0, hx31_0, hx283_0⟩ (fun hHeld => ?_); refine with_tabW spec_MirrorBoard.tab7 spec_MirrorBoard.bits7 (fun HT_ HW_ => ?_)
            generalize wr.drew = w32 at Oq6 Oq7 HL280_0 BK268 BK269 BK276 HR280_0 HB GG31 HQ34 hf31_0 hx281_0 hx282_0 hx283_0 hx31_0 hHeld ⊢
            refine qp 0 (some 23) #[true, false, false, false, false, false, false, false, false, false, false, false, false, false, false, false, false, false] ?_
            refine qp 2 (some 25) #[true, false, true, false, false, false, false, false, false, false, false, false, false, false, false, false, false, false] ?_
            refine qp 3 (some 26) #[true, false, true, true, false, false, false, false, false, false, false, false, false, false, false, false, false, false] ?_
            refine qp 7 (some 30) #[true, false, true, true, false, false, false, true, false, false, false, false, false, false, false, false, false, false] ?_
            refine qp 10 (some 33) #[true, false, true, true, false, false, false, true, false, false, true, false, false, false, false, false, false, false] ?_
            refine qp 11 (some 34) #[true, false, true, true, false, false, false, true, false, false, true, true, false, false, false, false, false, false] ?_
            refine take_ (i := 1) (N := some 24) (v := ?_) (a' := ?_) #[true, true, true, true, false, false, false, true, false, false, true, true, false, false, false, false, false, false] rfl rfl (take_ofW HT_.out HW_.out (by kernel_rfl)) (fun _ _ _ h => h) (Or.inl ⟨by rfl, ?_⟩) hHeld ?_ ?_
            rotate_left
            ·
             rintro w' ⟨s0, s1, s2, s3, s4, s5, s6, s7, s8⟩
             go_simp
             with_reducible rfl
            rotate_left
            ·
             simp only [Act.put, List.setIfInBounds_toArray, List.set_cons_zero, List.set_cons_succ, i64_w, i32_w]
             rfl
            refine take_ (i := 4) (N := some 27) (v := ?_) (a' := ?_) #[true, true, true, true, true, false, false, true, false, false, true, true, false, false, false, false, false, false] rfl rfl (take_ofW HT_.out HW_.out (by kernel_rfl)) (fun _ _ _ h => h) (Or.inl ⟨by rfl, ?_⟩) hHeld ?_ ?_
            rotate_left
            ·
             rintro w' ⟨s0, s1, s2, s3, s4, s5, s6, s7, s8⟩
             go_simp
             with_reducible rfl
            rotate_left
            ·
             simp only [Act.put, List.setIfInBounds_toArray, List.set_cons_zero, List.set_cons_succ, i64_w, i32_w]
             rfl
            refine qp 5 (some 28) #[true, true, true, true, true, true, false, true, false, false, true, true, false, false, false, false, false, false] ?_
            refine take_ (i := 6) (N := some 29) (v := ?_) (a' := ?_) #[true, true, true, true, true, true, true, true, false, false, true, true, false, false, false, false, false, false] rfl rfl (take_ofW HT_.out HW_.out (by kernel_rfl)) (fun _ _ _ h => h) (Or.inl ⟨by rfl, ?_⟩) hHeld ?_ ?_
            rotate_left
            ·
             rintro w' ⟨s0, s1, s2, s3, s4, s5, s6, s7, s8⟩
             go_simp
             with_reducible rfl
            rotate_left
            ·
             simp only [Act.put, List.setIfInBounds_toArray, List.set_cons_zero, List.set_cons_succ, i64_w, i32_w]
             rfl
            refine take_ (i := 8) (N := some 31) (v := ?_) (a' := ?_) #[true, true, true, true, true, true, true, true, true, false, true, true, false, false, false, false, false, false] rfl rfl (take_ofW HT_.out HW_.out (by kernel_rfl)) (fun _ _ _ h => h) (Or.inl ⟨by rfl, ?_⟩) hHeld ?_ ?_
            rotate_left
            ·
             rintro w' ⟨s0, s1, s2, s3, s4, s5, s6, s7, s8⟩
             go_simp
             with_reducible rfl
            rotate_left
            ·
             simp only [Act.put, List.setIfInBounds_toArray, List.set_cons_zero, List.set_cons_succ, i64_w, i32_w]
             rfl
            refine qp 9 (some 32) #[true, true, true, true, true, true, true, true, true, true, true, true, false, false, false, false, false, false] ?_
            refine take_ (i := 12) (N := some 35) (v := ?_) (a' := ?_) #[true, true, true, true, true, true, true, true, true, true, true, true, true, false, false, false, false, false] rfl rfl (take_ofW HT_.out HW_.out (by kernel_rfl)) (fun _ _ _ h => h) (Or.inl ⟨by rfl, ?_⟩) hHeld ?_ ?_
            rotate_left
            ·
             rintro w' ⟨s0, s1, s2, s3, s4, s5, s6, s7, s8⟩
             go_simp
             with_reducible rfl
            rotate_left
            ·
             simp only [Act.put, List.setIfInBounds_toArray, List.set_cons_zero, List.set_cons_succ, i64_w, i32_w]
             rfl
            refine qp 13 (some 36) #[true, true, true, true, true, true, true, true, true, true, true, true, true, true, false, false, false, false] ?_
            refine qp 14 (some 37) #[true, true, true, true, true, true, true, true, true, true, true, true, true, true, true, false, false, false] ?_
            refine qp 15 (some 38) #[true, true, true, true, true, true, true, true, true, true, true, true, true, true, true, true, false, false] ?_
            refine qp 16 (some 39) #[true, true, true, true, true, true, true, true, true, true, true, true, true, true, true, true, true, false] ?_
            refine last_ (i := 17) (N := none) #[true, true, true, true, true, true, true, true, true, true, true, true, true, true, true, true, true, true] rfl rfl (one_of HT_.out (by kernel_rfl)) (by decide) fun K hK => ?_
            refine skip_ (w1 := ?_) (by rfl) rfl ?_ ?_
            rotate_left
            ·
             go_simp
             rfl
            refine hK.out _ _ ?_
            clear hK K
            refine done_ (done_of HT_.out (by kernel_rfl)) ?_
            try go_wp2
            go_roundg k1
            case measure => have := HK1.out; omega
            case rel => exact ⟨(wrap64 (x19_1 + 1)), (y284), (.slice (some ⟨go31, 0, none⟩) x277002_1.length co33), Q2, H', ⟨Q61⟩, ⟨by (with_reducible repeat (first | apply Kd.S_alloc | apply Kd.S_drewN | apply Kd.S_drew)); exact Kd.S_mono (Kd.S_far (p := ⟨go31, ((rd (rd_L2 t277 x19_1) 0) : Int).toNat, none⟩) (Kd.S_mono Oq6.out (fun k_ hk => (⟨hk, fun e_ => hk (by rw [e_]; rfl)⟩ : _ ∧ k_ ≠ go31))) (fun _ hk => hk.2) (.int .i64 (wrap64 ((rd x277002_1 (rd (rd_L2 t277 x19_1) 0)) + (ji30))))) (fun _ hk => hk.1)⟩, ⟨by (with_reducible repeat (first | apply Kd.R_alloc | apply Kd.R_drewN | apply Kd.R_drew)); exact HQ34.out⟩, ⟨by (with_reducible repeat (first | refine blk_drewN ?_ _ | refine blk_drew ?_ | refine blk_alloc ?_ _)); refine blk_far ?_ (by have h_ := Kd.R_ne Oq7.out BK268.out (by decide); intro e_; exact h_ (by rw [e_]; rfl)) _; (with_reducible repeat (first | refine blk_drewN ?_ _ | refine blk_drew ?_ | refine blk_alloc ?_ _)); exact BK268.out⟩, ⟨by (with_reducible repeat (first | refine blk_drewN ?_ _ | refine blk_drew ?_ | refine blk_alloc ?_ _)); refine blk_far ?_ (by have h_ := Kd.R_ne Oq7.out BK269.out (by decide); intro e_; exact h_ (by rw [e_]; rfl)) _; (with_reducible repeat (first | refine blk_drewN ?_ _ | refine blk_drew ?_ | refine blk_alloc ?_ _)); exact BK269.out⟩, ⟨by (with_reducible repeat (first | refine blk_drewN ?_ _ | refine blk_drew ?_ | refine blk_alloc ?_ _)); refine blk_far ?_ (by have h_ := Kd.R_ne Oq7.out BK276.out (by decide); intro e_; exact h_ (by rw [e_]; rfl)) _; (with_reducible repeat (first | refine blk_drewN ?_ _ | refine blk_drew ?_ | refine blk_alloc ?_ _)); exact BK276.out⟩, ⟨by repeat (first | (with_reducible first | exact HB.out | apply below_alloc | apply pw_below_drewN | apply below_drew1 | refine below_set ?_ GB31.out | refine below_set ?_ GE268.out | refine below_set ?_ GE269.out | refine below_set ?_ GE276.out) | exact HB.out)⟩⟩
           ·
            rw [if_neg c29] at H
            exact absurd H (by simp)
          ·
           rw [if_neg c27] at H
           exact absurd H (by simp)
         ·
          rw [if_neg c26] at H
          exact absurd H (by simp)
        ·
         rw [if_neg c25] at H
         exact absurd H (by simp)
       ·
        rw [if_neg c24] at H
        exact absurd H (by simp)
      ·
       rw [if_neg c23] at H
       exact absurd H (by simp)
     ·
      rw [if_neg c22] at H
      exact absurd H (by simp)
    ·
     rw [if_neg c21] at H
     have c21b0 : decide (x19_1 < (t277.length : Int)) = false := decide_eq_false c21
     clear c21
     simp only [Option.some.injEq, Prod.mk.injEq] at H
     obtain ⟨rfl, rfl, rfl, rfl⟩ := H
     have bq2 := Nq4.out
     have cq2 := Nq1.out
     have bq3 := Nq5.out
     have cq3 := Nq3.out
     obtain ⟨zq9, zq10, zq11, fq9, fq10, fq11⟩ := qd BK276
     have bq4 := Nq2.out
     have cq4 := Nq0.out
     obtain ⟨zq12, zq13, zq14, fq12, fq13, fq14⟩ := qd BK269
     obtain ⟨Ao40, co40, eo40⟩ := Kd.R_slice Oq7.out
     subst eo40
     go_wp2
     refine bodyPost_ret (results_ct rfl _ _ gb269 26 #[.int .i64 t271, .int .i64 t272, .slice Ao40 x277002_1.length co40] (0, 0) _ rfl (by (with_reducible repeat (first | refine blk_drewN ?_ _ | refine blk_drew ?_ | refine blk_alloc ?_ _)); refine blk_put (cs := #[.int .i64 t271, .int .i64 t272, .slice none 0 0]) ?_ 2 _ rfl; (with_reducible repeat (first | refine blk_drewN ?_ _ | refine blk_drew ?_ | refine blk_alloc ?_ _)); refine blk_put (cs := #[.int .i64 t271, .int .i64 0, .slice none 0 0]) ?_ 1 _ rfl; (with_reducible repeat (first | refine blk_drewN ?_ _ | refine blk_drew ?_ | refine blk_alloc ?_ _)); refine blk_put (cs := #[.int .i64 0, .int .i64 0, .slice none 0 0]) ?_ 0 _ rfl; (with_reducible repeat (first | refine blk_drewN ?_ _ | refine blk_drew ?_ | refine blk_alloc ?_ _)); exact BK269.out) Tryd.underlying26 rfl (by kernel_rfl)) rfl ?_
     exact ⟨_, Q1, by (with_reducible repeat (first | apply Kd.R_alloc | apply Kd.R_drewN | apply Kd.R_drew)); exact Kd.R_mono (Kd.R_far (p := ⟨gb269, 2, none⟩) (Kd.R_far (p := ⟨gb269, 1, none⟩) (Kd.R_far (p := ⟨gb269, 0, none⟩) (Kd.R_types Oq7.out BK269.out (by decide)) (fun _ hk => hk.2) (.int .i64 t271)) (fun _ hk => hk.2) (.int .i64 t272)) (fun _ hk => hk.2) (.slice Ao40 x277002_1.length co40)) (fun _ hk => trivial), qb⟩
 ·
  replace c3 := Bool.eq_false_iff.mpr c3
  subst c3
  have H1 : (some (0, 0, ([] : List Int), false)) = some (r1, r2, r3, r4) := by first | (rw [if_neg (show ¬ (false = true) by decide)] at H; exact H) | rfl
  clear H
  have H := H1
  clear H1
  simp only [Option.some.injEq, Prod.mk.injEq] at H
  obtain ⟨rfl, rfl, rfl, rfl⟩ := H
  go_enter Tryd.func9, Tryd.ntmps9
  go_wp2_with (first | ((with_reducible refine gate_dst (N := 1) rfl ?_); refine qv 1 #[.int .i64 a0_0, .int .i64 a0_1, .slice A0_2 l0_2.length c0_2] 26 ?_; intro gb268 hg w41 hbox hb; have BK268 := am hbox; have GW268 := qw hg; have GE268 := qw hg; replace HB := qs hb; clear hb hbox hg) | ((with_reducible refine gate_dst (N := 2) rfl ?_); refine qv 2 #[.int .i64 0, .int .i64 0, .slice none 0 0] 26 ?_; intro gb269 hg w42 hbox hb; have BK269 := am hbox; have GW269 := qw hg; have GE269 := qw hg; have Nq0 := qn hg BK268; have Nq2 := qN hg BK268; replace BK268 := sqB BK268 hb; replace HB := qs hb; clear hb hbox hg; have bq5 := Nq0.out; have cq5 := Nq2.out; obtain ⟨zq15, zq16, zq17, fq15, fq16, fq17⟩ := qd BK268) | ((with_reducible refine gate_callee (f := 28) rfl ?_); refine qg (some 8) Tryd.func28 #[.agg #[.int .i64 a0_0, .int .i64 a0_1, .slice A0_2 l0_2.length c0_2]] ?_; (with_reducible refine (spec_boGood.calls k a0_0 a0_1 _ _ l0_2 false _ ?side1 HC0_2.out A2.out).mono ?_); (case side1 => exact Q3); rintro e w45 ⟨rfl, hb⟩; refine ⟨_, rfl, ?_⟩; replace BK268 := sqB BK268 hb; replace BK269 := sqB BK269 hb; replace HB := qs hb; (try clear hb); obtain ⟨zq18, zq19, zq20, fq18, fq19, fq20⟩ := qd BK269))
  refine bodyPost_ret (results_ct rfl _ _ gb269 26 #[.int .i64 0, .int .i64 0, .slice none 0 0] (0, 0) _ rfl (by (with_reducible repeat (first | refine blk_drewN ?_ _ | refine blk_drew ?_ | refine blk_alloc ?_ _)); refine blk_put (cs := #[.int .i64 0, .int .i64 0, .slice none 0 0]) ?_ 2 _ rfl; (with_reducible repeat (first | refine blk_drewN ?_ _ | refine blk_drew ?_ | refine blk_alloc ?_ _)); refine blk_put (cs := #[.int .i64 0, .int .i64 0, .slice none 0 0]) ?_ 1 _ rfl; (with_reducible repeat (first | refine blk_drewN ?_ _ | refine blk_drew ?_ | refine blk_alloc ?_ _)); refine blk_put (cs := #[.int .i64 0, .int .i64 0, .slice none 0 0]) ?_ 0 _ rfl; (with_reducible repeat (first | refine blk_drewN ?_ _ | refine blk_drew ?_ | refine blk_alloc ?_ _)); exact BK269.out) Tryd.underlying26 rfl (by kernel_rfl)) rfl ?_
  exact ⟨_, Q1, Q6, qb⟩

/-! ### impl_ComplementOf: function 10 (by hand) -/
/-- A row's other cells. -/
def cmE (c m : Int) : Int := wrap64 (wrap64 (wrap64 (2 ^ c.toNat) - 1) - m)
def impl_ComplementOf.f (a0_0 a0_1 : Int) (l0_2 : List Int) : Option (Int × Int × List Int × Bool) := some (if GoodB a0_0 a0_1 l0_2 then (a0_0, a0_1, l0_2.map (cmE a0_1), true) else (0, 0, [], false))
-- (walk)
set_option maxHeartbeats 1000000 in
theorem co_one {g i : Nat} {R C : Int} {cp : Nat} {A : Option Addr} {l : List Int} {w : World} (hb : w.heap[g]? = some (.cells #[.int .i64 R, .int .i64 C, .slice A l.length cp] 26 (0, 0))) (hA : Kd.C (Kd.int .i64) w A l.length l) (hi : i < l.length) (h1 : 1 ≤ C) (h6 : C ≤ 6) :
  Calls Tryd.prog 35 #[.int .i64 i, .pointer (some ⟨g, 0, none⟩)] w fun e w2 => e = .returned (.int .i64 (cmE C (l.getD i 0))) ∧ Below w.heap.size w w2 := by
 have c1 := blk_cell hb 1
 have c2 := blk_cell hb 2
 obtain ⟨ad, e, hx⟩ := Kd.at_int hA (i : Int) (by omega) (by omega)
 cases e
 rw [Int.toNat_natCast, show rd l (i : Int) = l.getD i 0 from rfl] at hx
 have hlt : decide ((i : Int) < (l.length : Int)) = true := decide_eq_true (by omega)
 have hge : decide ((0 : Int) ≤ (i : Int)) = true := decide_eq_true (by omega)
 have hc0 : decide ((0 : Int) ≤ C) = true := decide_eq_true (by omega)
 generalize l.getD i 0 = x at hx ⊢
 have HBB := am (Below.refl w.heap.size w)
 clear hA hb
 go_enter Tryd.func35, Tryd.ntmps35
 go_wp2
 go_region
 all_goals (simp only [Exit.then]; go_wp2)
 all_goals go_ret
 all_goals exact ⟨by unfold cmE; rfl, by repeat (first | exact HBB.out | apply pw_below_drewN | apply below_drew1)⟩
set_option maxHeartbeats 2000000 in
set_option maxRecDepth 4000 in
theorem impl_ComplementOf.calls (a0_0 : Int) (a0_1 : Int) (A0_2 : Option Addr) (c0_2 : Nat) (l0_2 : List Int) (r1 : Int) (r2 : Int) (r3 : List Int) (r4 : Bool) (w : World) (hr0_2 : Kd.C (Kd.int .i64) w A0_2 l0_2.length l0_2) (hc0_2 : l0_2.length ≤ c0_2) (h : impl_ComplementOf.f a0_0 a0_1 l0_2 = some (r1, r2, r3, r4)) :
  Calls Tryd.prog 10 #[.agg #[.int .i64 a0_0, .int .i64 a0_1, .slice A0_2 l0_2.length c0_2]] w fun e w' => ∃ v2_ : Value, e = .returned (.tuple #[.agg #[.int .i64 r1, .int .i64 r2, v2_], .bool r4]) ∧ Kd.R (Kd.int .i64) 3 w' w.heap.size (fun _ => True) v2_ r3 ∧ Below w.heap.size w w' := by
 unfold impl_ComplementOf.f at h
 have hu := Tryd.underlying26
 have HA := Aside0.mk hr0_2
 clear hr0_2
 by_cases hg : GoodB a0_0 a0_1 l0_2
 ·
  rw [if_pos hg] at h
  simp only [Option.some.injEq, Prod.mk.injEq] at h
  obtain ⟨rfl, rfl, rfl, rfl⟩ := h
  obtain ⟨g1, g2, g3, g4⟩ := hg
  have HI := am (show impl_IsBoard.f a0_0 a0_1 l0_2 = some true by unfold impl_IsBoard.f; rw [decide_eq_true ⟨g1, g2, g3, g4⟩])
  obtain ⟨C, rfl⟩ := Int.eq_ofNat_of_zero_le (show 0 ≤ a0_1 by omega)
  subst g3
  clear g4
  go_enter Tryd.func10, Tryd.ntmps10
  go_wp2_with (first
   | ((with_reducible refine gate_dst (N := 1) rfl ?_); refine qv 1 #[.int .i64 l0_2.length, .int .i64 C, .slice A0_2 l0_2.length c0_2] 26 ?_; intro gb hgb w1 bb hb1; have GB := Aside0.mk hgb; have BB := Aside0.mk bb; have HB1 := Aside0.mk hb1; clear hgb bb hb1)
   | ((with_reducible refine gate_dst (N := 2) rfl ?_); refine qv 2 #[.int .i64 0, .int .i64 0, .slice none 0 0] 26 ?_; intro gr hgr w2 br hb2; have GR := Aside0.mk hgr; have BR := Aside0.mk br; have HB2 := Aside0.mk hb2; have BB2 := am (blk_below BB.out hb2); have cb0 := blk_cell BB2.out 0; have cb1 := blk_cell BB2.out 1; have cb2 := blk_cell BB2.out 2; clear hgr br hb2)
   | (go_at_call 26; refine (impl_IsBoard.calls _ _ _ _ _ _ _ (Kd.C_below HA.out (below_step HB1.out HB2.out)) hc0_2 HI.out).mono ?_; rintro e w3 ⟨rfl, hb3⟩; have HB3 := Aside0.mk hb3; have BB3 := am (blk_below BB2.out hb3); have BR3 := am (blk_below BR.out hb3); clear cb0 cb1 cb2; have cb0 := blk_cell BB3.out 0; have cb1 := blk_cell BB3.out 1; have cb2 := blk_cell BB3.out 2; clear hb3)
   )
  have T3 := am (below_step (below_step HB1.out HB2.out) HB3.out)
  refine (mp_all (R := l0_2.length) (C := C) (cp := c0_2) (A := A0_2) (l := l0_2) (fid := 35) (caps := #[.pointer (some ⟨gb, 0, none⟩)]) (w := w3) (f := fun i => cmE C (l0_2.getD i 0)) (by omega) (by omega) (fun _ _ => by kernel_rfl) (fun w1 i hb hi => (co_one (blk_below BB3.out hb) (Kd.C_below HA.out (below_step T3.out hb)) hi (by omega) (by omega)).mono (fun e w' h => h))).mono ?_
  rintro e w4 ⟨v4, rfl, ho4, hb4⟩
  obtain ⟨A4, c4, ev⟩ := Kd.R_slice ho4
  rw [List.length_map, List.length_range] at ev
  subst ev
  have Oq5 := Aside0.mk ho4
  have HB4 := Aside0.mk hb4
  have r4 := blk_below BR3.out hb4
  have BR4 := Aside0.mk r4
  have cr0 := blk_cell r4 0
  have cr1 := blk_cell r4 1
  have cr2 := blk_cell r4 2
  have fr0 := blk_frozen r4 0
  have fr1 := blk_frozen r4 1
  have fr2 := blk_frozen r4 2
  clear ho4 hb4 r4 cb0 cb1 cb2
  go_wp2
  have HE := mp_end (R := (l0_2.length : Int)) (C := (C : Int)) BR4.out T3.out HB4.out (by have := GR.out; have := HB1.out.size; omega) Oq5.out
  refine bodyPost_ret (results_ct rfl _ _ gr 26 #[.int .i64 l0_2.length, .int .i64 C, .slice A4 l0_2.length c4] (0, 0) _ rfl HE.1 hu rfl (by kernel_rfl)) rfl ?_
  exact ⟨_, rfl, by rw [← range_get]; exact HE.2.1, HE.2.2⟩
 ·
  rw [if_neg hg] at h
  simp only [Option.some.injEq, Prod.mk.injEq] at h
  obtain ⟨rfl, rfl, rfl, rfl⟩ := h
  have HI := am (show impl_IsBoard.f a0_0 a0_1 l0_2 = some false by unfold impl_IsBoard.f; rw [decide_eq_false hg])
  clear hg
  go_enter Tryd.func10, Tryd.ntmps10
  go_wp2_with (first
   | ((with_reducible refine gate_dst (N := 1) rfl ?_); refine qv 1 #[.int .i64 a0_0, .int .i64 a0_1, .slice A0_2 l0_2.length c0_2] 26 ?_; intro gb hgb w1 bb hb1; have GB := Aside0.mk hgb; have BB := Aside0.mk bb; have HB1 := Aside0.mk hb1; clear hgb bb hb1)
   | ((with_reducible refine gate_dst (N := 2) rfl ?_); refine qv 2 #[.int .i64 0, .int .i64 0, .slice none 0 0] 26 ?_; intro gr hgr w2 br hb2; have GR := Aside0.mk hgr; have BR := Aside0.mk br; have HB2 := Aside0.mk hb2; have BB2 := am (blk_below BB.out hb2); have cb0 := blk_cell BB2.out 0; have cb1 := blk_cell BB2.out 1; have cb2 := blk_cell BB2.out 2; clear hgr br hb2)
   | (go_at_call 26; refine (impl_IsBoard.calls _ _ _ _ _ _ _ (Kd.C_below HA.out (below_step HB1.out HB2.out)) hc0_2 HI.out).mono ?_; rintro e w3 ⟨rfl, hb3⟩; have HB3 := Aside0.mk hb3; have BR3 := am (blk_below BR.out hb3); clear cb0 cb1 cb2; have cr0 := blk_cell BR3.out 0; have cr1 := blk_cell BR3.out 1; have cr2 := blk_cell BR3.out 2; have fr0 := blk_frozen BR3.out 0; have fr1 := blk_frozen BR3.out 1; have fr2 := blk_frozen BR3.out 2; clear hb3)
   )
  have HE := mp_end (R := 0) (C := 0) BR3.out (below_step (below_step HB1.out HB2.out) HB3.out) (Below.refl _ _) (by have := GR.out; have := HB1.out.size; omega) (Kd.R_nil _ _ _ _ _)
  refine bodyPost_ret (results_ct rfl _ _ gr 26 #[.int .i64 0, .int .i64 0, .slice none 0 0] (0, 0) _ rfl HE.1 hu rfl (by kernel_rfl)) rfl ?_
  exact ⟨_, rfl, HE.2.1, HE.2.2⟩

/-! ### spec_l1Own: function 41 -/
def spec_l1Own.f (l0 : List Int) : Option (List Int) := (some (([] : List Int) : List Int)).bind fun y285 => (if y285.length + l0.length < 17592186044416 then (some (y285 ++ l0)) else (none))
set_option maxHeartbeats 8000000 in
set_option maxRecDepth 100000 in
theorem spec_l1Own.calls (A0 : Option Addr) (c0 : Nat) (l0 : List Int) (r : List Int) (w : World) (hr0 : Kd.C (Kd.int .i64) w A0 l0.length l0) (hc0 : l0.length ≤ c0) (h : spec_l1Own.f l0 = some r) :
  Calls Tryd.prog 41 #[.slice A0 l0.length c0] w fun e w' => ∃ v0_ : Value, e = .returned (v0_) ∧ Kd.R (Kd.int .i64) 3 w' w.heap.size (fun _ => True) v0_ r ∧ Below w.heap.size w w' := by
 have HR0 := Aside0.mk hr0
 have HC0 := Aside0.mk hc0
 clear hr0 hc0
 have HB := am (Below.refl w.heap.size w)
 have H : ((some (([] : List Int) : List Int)).bind fun y285 => (if y285.length + l0.length < 17592186044416 then (some (y285 ++ l0)) else (none))) = some r := h
 clear h
 obtain ⟨y285, hy_⟩ : ∃ y_ : List Int, y_ = ((([] : List Int))) := ⟨_, rfl⟩
 replace H : (if y285.length + l0.length < 17592186044416 then (some (y285 ++ l0)) else (none)) = some r := qH
 have Ny285 := Aside0.mk hy_
 clear hy_
 by_cases c2 : y285.length + l0.length < 17592186044416
 ·
  rw [if_pos c2] at H
  have LMc2 := Aside0.mk c2
  clear c2
  obtain ⟨y288, hy_⟩ : ∃ y_ : List Int, y_ = ((y285 ++ l0)) := ⟨_, rfl⟩
  replace H : (some y288) = some r := qH
  have Ny288 := Aside0.mk hy_
  clear hy_
  obtain rfl := Option.some.inj H
  go_enter Tryd.func41, Tryd.ntmps41
  go_wp2_with (first | ((with_reducible refine gate_dst (N := 3) rfl ?_); refine Kd.R_lit (Kd.int .i64) _ 3 ?hg (N := 3) ?hd (xs := ([] : List Int)) (inner := []) (ok := fun _ => True) (okp := fun _ => True) ?hr ?hp (fun _ hk => hk) trivial (Below.refl _ _) (Nat.le_refl _) (by simp) ?_; (case hd => rfl); (case hg => rfl); (case hr => first | (go_simp; done) | (go_simp; rfl)); (case hp => exact (Reps.none _ _)); intro v286 w3 ho4 hb hg_ hnew_; clear hg_ hnew_; (first | rw [← Ny285.out] at ho4 | (simp only [Int.reduceToNat] at ho4; rw [← Ny285.out] at ho4)); have Oq2 := ql ho4; replace HB := qs hb; clear hb ho4) | ((with_reducible refine gate_builtin (b := .append) (xs := #[.tmp 3, .tmp 4]) rfl ?_); at_builtin; refine Kd.R_append_rows (Kd.int .i64) (w0 := w) w.heap.size rfl (.tmp 3) (.tmp 4) 24 3 (.int .i64 0) 8 rfl Tryd.underlying24 info3 rfl (by decide) (by omega) v286 y285 l0 _ _ _ (fun _ => True) (fun _ => False) rfl rfl ?aO ?aR (fun _ _ h => h) (fun _ h => h.elim) ?aF ?aB ?aS ?aL ?_; (case aR => repeat (first | exact (Kd.C_below HR0.out HB.out) | (with_reducible first | refine Kd.C_alloc ?_ _ | refine Kd.C_drewN ?_ _ | refine Kd.C_drew ?_))); (case aB => exact qb); (case aF => exact (fun _ _ => trivial)); (case aO => exact (sqr Oq2)); (case aS => exact (below_size qb)); (case aL => have := LMc2.out; omega); intro v289 w5 ho hb hg hat; rw [← Ny288.out] at ho; have Oq3 := am (ho); replace HB := am hb; clear Oq2; clear ho hb hg hat))
  go_ret
  exact ⟨_, Q1, Q38, qb⟩
 ·
  rw [if_neg c2] at H
  exact absurd H (by simp)

/-! ### spec_boOwn: function 46 -/
def spec_boOwn.f (a0_0 : Int) (a0_1 : Int) (l0_2 : List Int) : Option (Int × Int × List Int) := (spec_l1Own.f l0_2).bind fun t293 => (some (a0_0, a0_1, t293))
def spec_boOwn.T1 : Bool × List (List Nat × List Nat) := (true, [([], []), ([0], [0]), ([], []), ([2], [2]), ([], []), ([4], [4]), ([5], [5]), ([1, 3, 6], [1, 3, 6]), ([7, 6, 0, 1, 2, 3, 4, 5, 6, 7], [7])])
def spec_boOwn.B1 : List Nat := [0, 1, 0, 4, 0, 16, 48, 127, 255]
theorem spec_boOwn.tab1 : rtab .any (opsOf Tryd.f46 1) = spec_boOwn.T1 := by kernel_rfl
theorem spec_boOwn.bits1 : waitsOk spec_boOwn.T1.2 spec_boOwn.B1 = true := by kernel_rfl
set_option maxHeartbeats 8000000 in
set_option maxRecDepth 100000 in
theorem spec_boOwn.calls (a0_0 : Int) (a0_1 : Int) (A0_2 : Option Addr) (c0_2 : Nat) (l0_2 : List Int) (r1 : Int) (r2 : Int) (r3 : List Int) (w : World) (hr0_2 : Kd.C (Kd.int .i64) w A0_2 l0_2.length l0_2) (hc0_2 : l0_2.length ≤ c0_2) (h : spec_boOwn.f a0_0 a0_1 l0_2 = some (r1, r2, r3)) :
  Calls Tryd.prog 46 #[.agg #[.int .i64 a0_0, .int .i64 a0_1, .slice A0_2 l0_2.length c0_2]] w fun e w' => ∃ v2_ : Value, e = .returned (.agg #[.int .i64 r1, .int .i64 r2, v2_]) ∧ Kd.R (Kd.int .i64) 3 w' w.heap.size (fun _ => True) v2_ r3 ∧ Below w.heap.size w w' := by
 have hu26 := Tryd.underlying26
 have HR0_2 := Aside0.mk hr0_2
 have HC0_2 := Aside0.mk hc0_2
 clear hr0_2 hc0_2
 have HB := am (Below.refl w.heap.size w)
 have H : ((spec_l1Own.f l0_2).bind fun t293 => (some (a0_0, a0_1, t293))) = some (r1, r2, r3) := h
 clear h
 replace H := qE H
 obtain ⟨t293, A2, H⟩ := H
 replace H : (some (a0_0, a0_1, t293)) = some (r1, r2, r3) := H
 simp only [Option.some.injEq, Prod.mk.injEq] at H
 obtain ⟨rfl, rfl, rfl⟩ := H
 go_enter Tryd.func46, Tryd.ntmps46
 try go_wp2_with (first | ((with_reducible refine gate_dst (N := 1) rfl ?_); refine qv 1 #[.int .i64 a0_0, .int .i64 a0_1, .slice A0_2 l0_2.length c0_2] 26 ?_; intro gb291 hg w3 hbox hb; have BK291 := am hbox; have GW291 := qw hg; have GE291 := qw hg; replace HB := qs hb; clear hb hbox hg) | ((with_reducible refine gate_dst (N := 2) rfl ?_); refine qv 2 #[.int .i64 0, .int .i64 0, .slice none 0 0] 26 ?_; intro gb292 hg w4 hbox hb; have BK292 := am hbox; have GW292 := qw hg; have GE292 := qw hg; have Nq6 := qn hg BK291; have Nq7 := qN hg BK291; replace BK291 := sqB BK291 hb; replace HB := qs hb; clear hb hbox hg))
 replace BK291 := am (blk_drew BK291.out)
 replace BK292 := am (blk_drew BK292.out)
 replace HB := am (below_drew1 HB.out)
 refine start_ (n := 9) (S := fun w' => w'.cell? ⟨gb291, 0, none⟩ = some (.int .i64 a0_0) ∧ w'.cell? ⟨gb291, 1, none⟩ = some (.int .i64 a0_1) ∧ w'.cell? ⟨gb291, 2, none⟩ = some (.slice A0_2 l0_2.length c0_2)) (ds := []) #[false, false, false, false, false, false, false, false, false] (by kernel_rfl) rfl rfl ⟨sqc BK291 0, sqc BK291 1, sqc BK291 2⟩ (fun hHeld => ?_); refine with_tabW spec_boOwn.tab1 spec_boOwn.bits1 (fun HT_ HW_ => ?_)
 generalize w4.drew = w5 at BK291 BK292 HB hHeld ⊢
 refine qp 0 (some 3) #[true, false, false, false, false, false, false, false, false] ?_
 refine qp 2 (some 5) #[true, false, true, false, false, false, false, false, false] ?_
 refine qp 4 (some 7) #[true, false, true, false, true, false, false, false, false] ?_
 refine take_ (i := 1) (N := some 4) (v := ?_) (a' := ?_) #[true, true, true, false, true, false, false, false, false] rfl rfl (take_ofW HT_.out HW_.out (by kernel_rfl)) (fun _ _ _ h => h) (Or.inl ⟨by rfl, ?_⟩) hHeld ?_ ?_
 rotate_left
 ·
  rintro w' ⟨s0, s1, s2⟩
  go_simp
  with_reducible rfl
 rotate_left
 ·
  simp only [Act.put, List.setIfInBounds_toArray, List.set_cons_zero, List.set_cons_succ, i64_w, i32_w]
  rfl
 refine take_ (i := 3) (N := some 6) (v := ?_) (a' := ?_) #[true, true, true, true, true, false, false, false, false] rfl rfl (take_ofW HT_.out HW_.out (by kernel_rfl)) (fun _ _ _ h => h) (Or.inl ⟨by rfl, ?_⟩) hHeld ?_ ?_
 rotate_left
 ·
  rintro w' ⟨s0, s1, s2⟩
  go_simp
  with_reducible rfl
 rotate_left
 ·
  simp only [Act.put, List.setIfInBounds_toArray, List.set_cons_zero, List.set_cons_succ, i64_w, i32_w]
  rfl
 refine take_ (i := 5) (N := some 8) (v := ?_) (a' := ?_) #[true, true, true, true, true, true, false, false, false] rfl rfl (take_ofW HT_.out HW_.out (by kernel_rfl)) (fun _ _ _ h => h) (Or.inl ⟨by rfl, ?_⟩) hHeld ?_ ?_
 rotate_left
 ·
  rintro w' ⟨s0, s1, s2⟩
  go_simp
  with_reducible rfl
 rotate_left
 ·
  simp only [Act.put, List.setIfInBounds_toArray, List.set_cons_zero, List.set_cons_succ, i64_w, i32_w]
  rfl
 refine one_ (i := 6) (N := some 9) #[true, true, true, true, true, true, true, false, false] rfl rfl (one_of HT_.out (by kernel_rfl)) (by decide) fun K hK => ?_
 refine qG Tryd.func41 #[.slice A0_2 l0_2.length c0_2] ?_
 with_reducible refine (spec_l1Own.calls _ _ l0_2 t293 _ ?side1 ?side2 A2.out).mono ?_
 (case side1 => exact Q3)
 (case side2 => exact HC0_2.out)
 rintro e w6 ⟨v294, rfl, ho0, hb⟩
 refine ⟨_, rfl, ?_⟩
 have Oq4 := ql ho0
 replace BK291 := sqB BK291 hb
 replace BK292 := sqB BK292 hb
 replace HB := qs hb
 (try clear hb ho0)
 obtain ⟨Ao7, co7, eo7⟩ := Kd.R_slice Oq4.out
 (first | subst eo7 | (injection eo7 with f1_ f2_ f3_; have f4_ := f1_.symm; have f5_ := f3_.symm; clear f1_ f2_ f3_; subst f4_; subst f5_))
 refine hK.out _ _ ⟨sqc BK291 0, sqc BK291 1, sqc BK291 2⟩ (fun hHeld => ?_)
 clear hK K
 refine qq (some 9) ?_
 refine qp 7 (some 10) #[true, true, true, true, true, true, true, true, false] ?_
 refine one_ (i := 8) (N := none) #[true, true, true, true, true, true, true, true, true] rfl rfl (one_of HT_.out (by kernel_rfl)) (by decide) fun K hK => ?_
 have hs8 : w6.cell? ⟨gb292, 0, none⟩ = some (.int .i64 0) := sqc BK292 0
 have hfs8 := blk_frozen BK292.out 0
 have hq1 := Nq6.out
 have hms8_0 := Nq7.out
 have hs9 : w6.cell? ⟨gb292, 1, none⟩ = some (.int .i64 0) := sqc BK292 1
 have hfs9 := blk_frozen BK292.out 1
 have hq2 := Nq6.out
 have hms9_0 := Nq7.out
 have hs10 : w6.cell? ⟨gb292, 2, none⟩ = some (.slice none 0 0) := sqc BK292 2
 have hfs10 := blk_frozen BK292.out 2
 have hq0 := Nq6.out
 have hms10_0 := Nq7.out
 refine skip_ (w1 := ?_) (by rfl) rfl ?_ ?_
 rotate_left
 ·
  go_simp
  rfl
 refine hK.out _ _ ⟨((cell_far (p := ⟨gb292, _, none⟩) Nq6.out _).trans (((cell_far (p := ⟨gb292, _, none⟩) Nq6.out _).trans (((cell_far (p := ⟨gb292, _, none⟩) Nq6.out _).trans (hHeld.1)))))), ((cell_far (p := ⟨gb292, _, none⟩) Nq6.out _).trans (((cell_far (p := ⟨gb292, _, none⟩) Nq6.out _).trans (((cell_far (p := ⟨gb292, _, none⟩) Nq6.out _).trans (hHeld.2.1)))))), ((cell_far (p := ⟨gb292, _, none⟩) Nq6.out _).trans (((cell_far (p := ⟨gb292, _, none⟩) Nq6.out _).trans (((cell_far (p := ⟨gb292, _, none⟩) Nq6.out _).trans (hHeld.2.2))))))⟩ (fun hHeld => ?_)
 clear hK K
 refine done_ (done_of HT_.out (by kernel_rfl)) ?_
 try go_wp2
 refine bodyPost_ret (results_cell_row rfl _ _ gb292 26 #[.int .i64 a0_0, .int .i64 a0_1, .slice Ao7 t293.length co7] (0, 0) _ rfl (by (with_reducible repeat (first | refine blk_drewN ?_ _ | refine blk_drew ?_ | refine blk_alloc ?_ _)); refine blk_put (cs := #[.int .i64 a0_0, .int .i64 a0_1, .slice none 0 0]) ?_ 2 _ rfl; (with_reducible repeat (first | refine blk_drewN ?_ _ | refine blk_drew ?_ | refine blk_alloc ?_ _)); refine blk_put (cs := #[.int .i64 a0_0, .int .i64 0, .slice none 0 0]) ?_ 1 _ rfl; (with_reducible repeat (first | refine blk_drewN ?_ _ | refine blk_drew ?_ | refine blk_alloc ?_ _)); refine blk_put (cs := #[.int .i64 0, .int .i64 0, .slice none 0 0]) ?_ 0 _ rfl; (with_reducible repeat (first | refine blk_drewN ?_ _ | refine blk_drew ?_ | refine blk_alloc ?_ _)); exact BK292.out) Tryd.underlying26 rfl (by kernel_rfl)) rfl ?_
 exact ⟨_, Q1, by (with_reducible repeat (first | apply Kd.R_alloc | apply Kd.R_drewN | apply Kd.R_drew)); exact Kd.R_mono (Kd.R_far (p := ⟨gb292, 2, none⟩) (Kd.R_far (p := ⟨gb292, 1, none⟩) (Kd.R_far (p := ⟨gb292, 0, none⟩) (Kd.R_types Oq4.out BK292.out (by decide)) (fun _ hk => hk.2) (.int .i64 a0_0)) (fun _ hk => hk.2) (.int .i64 a0_1)) (fun _ hk => hk.2) (.slice Ao7 t293.length co7)) (fun _ hk => trivial), qb⟩

end Go.Proofs.YtllhofdgbpnkkaaDoor.PFnBoardsTurned
