-- Printed for this claim by wip/pp.py over the kit's printer; Lean checks it.
import Derived.Test.YtlbffjkckpdclaaPFnExactMirrorBoardx0
import Derived.Test.YtlbffjkckpdclaaPFnExactMirrorBoardx3
namespace Go.Proofs.Ytlbffjkckpdclaa.PFnExactMirrorBoard
open Go.RowKit Go.Proofs.YtlbffjkckpdclaaW.PrintWords Go.Proofs.YtlbffjkckpdclaaW.PrintLast Go.Proofs.YtlbffjkckpdclaaW.PrintMore
attribute [local go_sem] max2_int min2_int max_two min_two max_three min_three max_four min_four   -- for this text's walks alone
set_option linter.unusedVariables false
set_option linter.unusedSimpArgs false

/-! ### impl_MirrorBoard: function 20 (by hand) -/
/-- One column more of a row that is turned round. -/
def mirS (C : Nat) (m acc : Int) (c : Nat) : Int := if (Go.bits .and .i64 (shr .i64 m (c : Int)) 1 == 1) = true then Go.bits .or .i64 acc (wrap64 (2 ^ (C - 1 - c))) else acc
/-- A row turned round. -/
def mirR (C m : Int) : Int := (List.range C.toNat).foldl (mirS C.toNat m) 0
def impl_MirrorBoard.f (a0_0 a0_1 : Int) (l0_2 : List Int) : Option (Int × Int × List Int × Bool) := some (if GoodB a0_0 a0_1 l0_2 then (a0_0, a0_1, l0_2.map (mirR a0_1), true) else (0, 0, [], false))
-- (walk)
set_option maxHeartbeats 1000000 in
set_option maxRecDepth 4000 in
theorem mir_one {g i C : Nat} {R : Int} {cp : Nat} {A : Option Addr} {l : List Int} {w : World} (hb : w.heap[g]? = some (.cells #[.int .i64 R, .int .i64 C, .slice A l.length cp] 26 (0, 0))) (hA : Kd.C (Kd.int .i64) w A l.length l) (hcp : l.length ≤ cp) (hi : i < l.length) (h6 : C ≤ 6) (hl : l.length ≤ 6) :
    Calls Try.prog 52 #[.int .i64 i, .pointer (some ⟨g, 0, none⟩)] w fun e w2 => e = .returned (.int .i64 (mirR C (l.getD i 0))) ∧ Below w.heap.size w w2 := by
  have c1 := blk_cell hb 1
  have HBB := Aside0.mk (Below.refl w.heap.size w)
  have HA := Aside0.mk hA
  have HG := Aside0.mk hb
  have HCP := Aside0.mk hcp
  have hrd : rd l (i : Int) = l.getD i 0 := rfl
  have HRD := Aside0.mk hrd
  clear hA hb hrd hcp
  go_enter Try.func52, Try.ntmps52
  go_wp2
  go_loopw [4, 8] (fun v4 v8 w' => ∃ c : Nat, c ≤ C ∧ v8 = .int .i64 c ∧ v4 = .int .i64 ((List.range c).foldl (mirS C (l.getD i 0)) 0) ∧ Aside0 (Below w.heap.size w w')) (fun _ v8 _ => ((C : Int) - intOf v8).toNat)
  case atStart => exact ⟨0, by omega, rfl, rfl, ⟨by repeat (first | exact HBB.out | apply pw_below_drewN | apply below_drew1)⟩⟩
  case round =>
    obtain ⟨c, hc, rfl, rfl, HB⟩ := hrel
    by_cases hlt : c < C
    · have hlt2 : decide ((c : Int) < (C : Int)) = true := decide_eq_true (by omega)
      have hsh : decide ((C : Int) - 1 - (c : Int) < 0) = false := decide_eq_false (by omega)
      have HS := Aside0.mk (show (List.range (c + 1)).foldl (mirS C (l.getD i 0)) 0 = mirS C (l.getD i 0) ((List.range c).foldl (mirS C (l.getD i 0)) 0) c by rw [List.range_succ, List.foldl_append]; rfl)
      generalize hacc : (List.range c).foldl (mirS C (l.getD i 0)) 0 = acc at HS ⊢
      have g1 := blk_below HG.out HB.out
      have d0 := blk_cell g1 0
      have d1 := blk_cell g1 1
      have d2 := blk_cell g1 2
      have HH := Aside0.mk (show impl_Board_has.f R C l (i : Int) (c : Int) = some (Go.bits .and .i64 (shr .i64 (l.getD i 0) (c : Int)) 1 == 1) by
        unfold impl_Board_has.f
        rw [if_pos (by omega), if_pos (by omega), if_pos (by omega), HRD.out])
      have G1 := Aside0.mk g1
      clear g1 c1 hacc
      by_cases hbit : (Go.bits .and .i64 (shr .i64 (l.getD i 0) (c : Int)) 1 == 1) = true
      · have HS2 := Aside0.mk (show (List.range (c + 1)).foldl (mirS C (l.getD i 0)) 0 = Go.bits .or .i64 acc (wrap64 (2 ^ (C - 1 - c))) by rw [HS.out, mirS, if_pos hbit])
        rw [hbit] at HH
        clear hbit HS
        go_wp2_with (first | (go_at_call 53; refine (impl_Board_has.calls _ _ _ _ l _ _ _ _ (Kd.C_below HA.out HB.out) HCP.out HH.out).mono ?_; rintro e w2 ⟨rfl, hb2⟩; have HB2 := Aside0.mk (below_step HB.out hb2); clear d0 d1 d2; have d1 := blk_cell (blk_below G1.out hb2) 1; clear hb2))
        go_roundw
        case rel => exact ⟨c + 1, by omega, by go_num, by rw [HS2.out], HB2⟩
        case measure => simp [intOf]; omega
      · have HS2 := Aside0.mk (show (List.range (c + 1)).foldl (mirS C (l.getD i 0)) 0 = acc by rw [HS.out, mirS, if_neg hbit])
        rw [Bool.eq_false_iff.2 hbit] at HH
        clear hbit HS
        go_wp2_with (first | (go_at_call 53; refine (impl_Board_has.calls _ _ _ _ l _ _ _ _ (Kd.C_below HA.out HB.out) HCP.out HH.out).mono ?_; rintro e w2 ⟨rfl, hb2⟩; have HB2 := Aside0.mk (below_step HB.out hb2); clear hb2))
        go_roundw
        case rel => exact ⟨c + 1, by omega, by go_num, by rw [HS2.out], HB2⟩
        case measure => simp [intOf]; omega
    · obtain rfl : c = C := by omega
      have hlt2 : decide ((c : Int) < (c : Int)) = false := decide_eq_false (by omega)
      go_wp2
      go_ret
      exact ⟨by unfold mirR; rw [Int.toNat_natCast]; rfl, HB.out⟩
set_option maxHeartbeats 2000000 in
set_option maxRecDepth 4000 in
theorem impl_MirrorBoard.calls (a0_0 : Int) (a0_1 : Int) (A0_2 : Option Addr) (c0_2 : Nat) (l0_2 : List Int) (r1 : Int) (r2 : Int) (r3 : List Int) (r4 : Bool) (w : World) (hr0_2 : Kd.C (Kd.int .i64) w A0_2 l0_2.length l0_2) (hc0_2 : l0_2.length ≤ c0_2) (h : impl_MirrorBoard.f a0_0 a0_1 l0_2 = some (r1, r2, r3, r4)) :
    Calls Try.prog 20 #[.agg #[.int .i64 a0_0, .int .i64 a0_1, .slice A0_2 l0_2.length c0_2]] w fun e w' => ∃ v2_ : Value, e = .returned (.tuple #[.agg #[.int .i64 r1, .int .i64 r2, v2_], .bool r4]) ∧ Kd.R (Kd.int .i64) 3 w' w.heap.size (fun _ => True) v2_ r3 ∧ Below w.heap.size w w' := by
  unfold impl_MirrorBoard.f at h
  have hu := Try.underlying26
  have HA := Aside0.mk hr0_2
  clear hr0_2
  by_cases hg : GoodB a0_0 a0_1 l0_2
  · rw [if_pos hg] at h
    simp only [Option.some.injEq, Prod.mk.injEq] at h
    obtain ⟨rfl, rfl, rfl, rfl⟩ := h
    obtain ⟨g1, g2, g3, g4⟩ := hg
    have HI := Aside0.mk (show impl_IsBoard.f a0_0 a0_1 l0_2 = some true by unfold impl_IsBoard.f; rw [decide_eq_true ⟨g1, g2, g3, g4⟩])
    obtain ⟨C, rfl⟩ := Int.eq_ofNat_of_zero_le (show 0 ≤ a0_1 by omega)
    subst g3
    clear g4
    go_enter Try.func20, Try.ntmps20
    go_wp2_with (first
      | ((with_reducible refine gate_dst (N := 1) rfl ?_); refine box_event ?hg (N := 1) ?hd (cs := #[.int .i64 l0_2.length, .int .i64 C, .slice A0_2 l0_2.length c0_2]) (t := 26) ?hr ?_; (case hd => rfl); (case hg => rfl); (case hr => first | (go_simp; done) | (go_simp; rfl)); intro gb hgb w1 bb hb1; have GB := Aside0.mk hgb; have BB := Aside0.mk bb; have HB1 := Aside0.mk hb1; clear hgb bb hb1)
      | ((with_reducible refine gate_dst (N := 2) rfl ?_); refine box_event ?hg (N := 2) ?hd (cs := #[.int .i64 0, .int .i64 0, .slice none 0 0]) (t := 26) ?hr ?_; (case hd => rfl); (case hg => rfl); (case hr => first | (go_simp; done) | (go_simp; rfl)); intro gr hgr w2 br hb2; have GR := Aside0.mk hgr; have BR := Aside0.mk br; have HB2 := Aside0.mk hb2; have BB2 := Aside0.mk (blk_below BB.out hb2); have cb0 := blk_cell BB2.out 0; have cb1 := blk_cell BB2.out 1; have cb2 := blk_cell BB2.out 2; clear hgr br hb2)
      | (go_at_call 46; refine (impl_IsBoard.calls _ _ _ _ _ _ _ (Kd.C_below HA.out (below_step HB1.out HB2.out)) hc0_2 HI.out).mono ?_; rintro e w3 ⟨rfl, hb3⟩; have HB3 := Aside0.mk hb3; have BB3 := Aside0.mk (blk_below BB2.out hb3); have BR3 := Aside0.mk (blk_below BR.out hb3); clear cb0 cb1 cb2; have cb0 := blk_cell BB3.out 0; have cb1 := blk_cell BB3.out 1; have cb2 := blk_cell BB3.out 2; clear hb3)
      )
    have T3 := Aside0.mk (below_step (below_step HB1.out HB2.out) HB3.out)
    refine (mp_all (R := l0_2.length) (C := C) (cp := c0_2) (A := A0_2) (l := l0_2) (fid := 52) (caps := #[.pointer (some ⟨gb, 0, none⟩)]) (w := w3) (f := fun i => mirR C (l0_2.getD i 0)) (by omega) (by omega) (fun _ _ => by kernel_rfl) (fun w1 i hb hi => (mir_one (blk_below BB3.out hb) (Kd.C_below HA.out (below_step T3.out hb)) hc0_2 hi (by omega) (by omega)).mono (fun e w' h => h))).mono ?_
    rintro e w4 ⟨v4, rfl, ho4, hb4⟩
    obtain ⟨A4, c4, ev⟩ := Kd.R_slice ho4
    rw [List.length_map, List.length_range] at ev
    subst ev
    have HO4 := Aside0.mk ho4
    have HB4 := Aside0.mk hb4
    have r4 := blk_below BR3.out hb4
    have BR4 := Aside0.mk r4
    have cr0 := blk_cell r4 0
    have cr1 := blk_cell r4 1
    have cr2 := blk_cell r4 2
    have fr0 := blk_frozen r4 0
    have fr1 := blk_frozen r4 1
    have fr2 := blk_frozen r4 2
    clear ho4 hb4 r4 cb0 cb1 cb2
    go_wp2
    have HE := mp_end (R := (l0_2.length : Int)) (C := (C : Int)) BR4.out T3.out HB4.out (by have := GR.out; have := HB1.out.size; omega) HO4.out
    refine bodyPost_ret (results_ct rfl _ _ gr 26 #[.int .i64 l0_2.length, .int .i64 C, .slice A4 l0_2.length c4] (0, 0) _ rfl HE.1 hu rfl (by kernel_rfl)) rfl ?_
    exact ⟨_, rfl, by rw [← range_get]; exact HE.2.1, HE.2.2⟩
  · rw [if_neg hg] at h
    simp only [Option.some.injEq, Prod.mk.injEq] at h
    obtain ⟨rfl, rfl, rfl, rfl⟩ := h
    have HI := Aside0.mk (show impl_IsBoard.f a0_0 a0_1 l0_2 = some false by unfold impl_IsBoard.f; rw [decide_eq_false hg])
    clear hg
    go_enter Try.func20, Try.ntmps20
    go_wp2_with (first
      | ((with_reducible refine gate_dst (N := 1) rfl ?_); refine box_event ?hg (N := 1) ?hd (cs := #[.int .i64 a0_0, .int .i64 a0_1, .slice A0_2 l0_2.length c0_2]) (t := 26) ?hr ?_; (case hd => rfl); (case hg => rfl); (case hr => first | (go_simp; done) | (go_simp; rfl)); intro gb hgb w1 bb hb1; have GB := Aside0.mk hgb; have BB := Aside0.mk bb; have HB1 := Aside0.mk hb1; clear hgb bb hb1)
      | ((with_reducible refine gate_dst (N := 2) rfl ?_); refine box_event ?hg (N := 2) ?hd (cs := #[.int .i64 0, .int .i64 0, .slice none 0 0]) (t := 26) ?hr ?_; (case hd => rfl); (case hg => rfl); (case hr => first | (go_simp; done) | (go_simp; rfl)); intro gr hgr w2 br hb2; have GR := Aside0.mk hgr; have BR := Aside0.mk br; have HB2 := Aside0.mk hb2; have BB2 := Aside0.mk (blk_below BB.out hb2); have cb0 := blk_cell BB2.out 0; have cb1 := blk_cell BB2.out 1; have cb2 := blk_cell BB2.out 2; clear hgr br hb2)
      | (go_at_call 46; refine (impl_IsBoard.calls _ _ _ _ _ _ _ (Kd.C_below HA.out (below_step HB1.out HB2.out)) hc0_2 HI.out).mono ?_; rintro e w3 ⟨rfl, hb3⟩; have HB3 := Aside0.mk hb3; have BR3 := Aside0.mk (blk_below BR.out hb3); clear cb0 cb1 cb2; have cr0 := blk_cell BR3.out 0; have cr1 := blk_cell BR3.out 1; have cr2 := blk_cell BR3.out 2; have fr0 := blk_frozen BR3.out 0; have fr1 := blk_frozen BR3.out 1; have fr2 := blk_frozen BR3.out 2; clear hb3)
      )
    have HE := mp_end (R := 0) (C := 0) BR3.out (below_step (below_step HB1.out HB2.out) HB3.out) (Below.refl _ _) (by have := GR.out; have := HB1.out.size; omega) (Kd.R_nil _ _ _ _ _)
    refine bodyPost_ret (results_ct rfl _ _ gr 26 #[.int .i64 0, .int .i64 0, .slice none 0 0] (0, 0) _ rfl HE.1 hu rfl (by kernel_rfl)) rfl ?_
    exact ⟨_, rfl, HE.2.1, HE.2.2⟩

end Go.Proofs.Ytlbffjkckpdclaa.PFnExactMirrorBoard
