-- Printed for this claim by wip/pp.py over the kit's printer; Lean checks it.
import Derived.Test.YtllhofdgbpnkkaaPFnBoardsJoinedx0
import Derived.Test.YtllhofdgbpnkkaaPFnBoardsJoinedx1
import Derived.Test.YtllhofdgbpnkkaaPFnBoardsJoinedx5
import Derived.Test.YtllhofdgbpnkkaaPFnBoardsJoinedx6
namespace Go.Proofs.Ytllhofdgbpnkkaa.PFnBoardsJoined
open Go.RowKit Go.Proofs.YtllhofdgbpnkkaaW.PrintWords Go.Proofs.YtllhofdgbpnkkaaW.PrintLast Go.Proofs.YtllhofdgbpnkkaaW.PrintMore
attribute [local go_sem] max2_int min2_int max_two min_two max_three min_three max_four min_four   -- for this text's walks alone
set_option linter.unusedVariables false
set_option linter.unusedSimpArgs false

/-! ### impl_Board_mapped: function 55 (by hand) -/
-- (walk)
theorem mp_step {R C i g5 gr go co n : Nat} {f : Nat → Int} {w w' w9 : World} (h5 : w'.heap[g5]? = some (.cells #[.int .i64 R, .int .i64 C, .slice (some ⟨go, 0, none⟩) R co] 26 (0, 0))) (ho : Kd.R (Kd.int .i64) 3 w' w.heap.size (fun _ => True) (.slice (some ⟨go, 0, none⟩) R co) ((List.range i).map f ++ List.replicate (R - i) 0)) (hr : w'.heap[gr]? = some (.cells #[.int .i64 0, .int .i64 0, .slice none 0 0] 26 (0, 0))) (hB : Below w.heap.size w w') (hb9 : Below (w'.drewN n).heap.size (w'.drewN n) w9) (hi : i < R) :
  (w9.setCell ⟨go, i, none⟩ (.int .i64 (f i))).heap[g5]? = some (.cells #[.int .i64 R, .int .i64 C, .slice (some ⟨go, 0, none⟩) R co] 26 (0, 0)) ∧ Kd.R (Kd.int .i64) 3 (w9.setCell ⟨go, i, none⟩ (.int .i64 (f i))) w.heap.size (fun _ => True) (.slice (some ⟨go, 0, none⟩) R co) ((List.range (i + 1)).map f ++ List.replicate (R - (i + 1)) 0) ∧ (w9.setCell ⟨go, i, none⟩ (.int .i64 (f i))).heap[gr]? = some (.cells #[.int .i64 0, .int .i64 0, .slice none 0 0] 26 (0, 0)) ∧ Below w.heap.size w (w9.setCell ⟨go, i, none⟩ (.int .i64 (f i))) := by
 have o9 := Kd.R_below (Kd.R_drewN ho n) hb9
 have b5 := blk_below (blk_drewN h5 n) hb9
 have br := blk_below (blk_drewN hr n) hb9
 have hB9 := below_step (pw_below_drewN hB n) hb9
 have hl : ((List.range i).map f ++ List.replicate (R - i) 0).length = R := by simp; omega
 obtain ⟨g, cap, ev, hbase, _, cells, hcells⟩ := Kd.R_form o9 (by omega)
 injection ev with ev _ _
 injection ev with ev
 injection ev with ev _ _
 subst ev
 have hp := Kd.R_putn o9 (i : Int) (f i)
 rw [Int.toNat_natCast] at hp
 refine ⟨blk_far (p := ⟨go, i, none⟩) b5 (blk_ne b5 hcells (by decide)) _, ?_, blk_far (p := ⟨go, i, none⟩) br (blk_ne br hcells (by decide)) _, below_set hB9 hbase⟩
 have e : ((List.range i).map f ++ List.replicate (R - i) (0 : Int)).set i (f i) = (List.range (i + 1)).map f ++ List.replicate (R - (i + 1)) 0 := by
  rw [List.set_append_right _ _ (by simp), List.length_map, List.length_range, Nat.sub_self, show R - i = (R - (i + 1)) + 1 by omega, List.replicate_succ, List.set_cons_zero, List.range_succ, List.map_append, List.append_assoc]; rfl
 rw [← e]; exact hp
set_option maxHeartbeats 2000000 in
set_option maxRecDepth 4000 in
theorem mp_all {R C cp : Nat} {A : Option Addr} {l : List Int} {fid : FuncId} {caps : Array Value} {w : World} {f : Nat → Int} (hR : 0 < R) (hR6 : R ≤ 6)
  (hcall : ∀ (args : Array Value) (W : World), Sem.run Try.prog (callFunc fid args) W = .ok (.enter fid args) W)
  (call : ∀ w1 i, Below w.heap.size w w1 → i < R → Calls Try.prog fid (#[.int .i64 ((i : Nat) : Int)] ++ caps) w1 fun e w2 => e = .returned (.int .i64 (f i)) ∧ Below w1.heap.size w1 w2) :
  Calls Try.prog 55 #[.agg #[.int .i64 R, .int .i64 C, .slice A l.length cp], .func (.func fid) #[] caps] w fun e w' => ∃ v2 : Value, e = .returned (.agg #[.int .i64 R, .int .i64 C, v2]) ∧ Kd.R (Kd.int .i64) 3 w' w.heap.size (fun _ => True) v2 ((List.range R).map f) ∧ Below w.heap.size w w' := by
 have CALL := Aside0.mk @call
 have HB := am (Below.refl w.heap.size w)
 have HN := am (show impl_newBoard.f (R : Int) (C : Int) = some ((R : Int), (C : Int), List.replicate R 0) by
  unfold impl_newBoard.f
  first | (rw [if_pos (by omega), if_pos (by omega)]; simp) | (simp; omega))
 clear call
 go_enter Try.func55, Try.ntmps55
 go_wp2_with (first
  | ((with_reducible refine gate_dst (N := 2) rfl ?_); refine qv 2 #[.int .i64 R, .int .i64 C, .slice A l.length cp] 26 ?_; intro gb hgb w1 bb hb1; have GB := Aside0.mk hgb; have cb0 := blk_cell bb 0; have cb1 := blk_cell bb 1; have BB := Aside0.mk bb; have HB1 := Aside0.mk hb1; clear hgb bb hb1)
  | ((with_reducible refine gate_dst (N := 4) rfl ?_); refine qv 4 #[.int .i64 0, .int .i64 0, .slice none 0 0] 26 ?_; intro gr hgr w2 br hb2; have GR := Aside0.mk hgr; have BR := Aside0.mk br; have HB2 := Aside0.mk hb2; clear cb0 cb1; have cb0 := blk_cell (blk_below BB.out hb2) 0; have cb1 := blk_cell (blk_below BB.out hb2) 1; clear hgr br hb2)
  | (go_at_call 119; refine (impl_newBoard.calls _ _ _ _ _ _ HN.out).mono ?_; rintro e w3 ⟨v3, rfl, ho3, hb3⟩; obtain ⟨go, co, ev, _, _, _⟩ := Kd.R_form ho3 (by rw [List.length_replicate]; exact hR); rw [List.length_replicate] at ev; subst ev; have Oq4 := Aside0.mk ho3; have HB3 := Aside0.mk hb3; clear ho3 hb3 cb0 cb1)
  | ((with_reducible refine gate_dst (N := 5) rfl ?_); refine qv 5 #[.int .i64 0, .int .i64 0, .slice none 0 0] 26 ?_; intro g5 hg5 w5 b5 hb5; have G5 := Aside0.mk hg5; have B5 := Aside0.mk b5; have HB5 := Aside0.mk hb5; have c50 := blk_cell b5 0; have c51 := blk_cell b5 1; have c52 := blk_cell b5 2; have f50 := blk_frozen b5 0; have f51 := blk_frozen b5 1; have f52 := blk_frozen b5 2; clear hg5 b5 hb5)
  )
 obtain ⟨W5, hW5⟩ : ∃ W5 : World, W5 = ((w5.setCell ⟨g5, 0, none⟩ (.int .i64 R)).setCell ⟨g5, 1, none⟩ (.int .i64 C)).setCell ⟨g5, 2, none⟩ (.slice (some ⟨go, 0, none⟩) R co) := ⟨_, rfl⟩
 rw [← hW5]
 have INV := am (show W5.heap[g5]? = some (.cells #[.int .i64 R, .int .i64 C, .slice (some ⟨go, 0, none⟩) R co] 26 (0, 0)) ∧ Kd.R (Kd.int .i64) 3 W5 w.heap.size (fun _ => True) (.slice (some ⟨go, 0, none⟩) R co) ((List.range 0).map f ++ List.replicate (R - 0) 0) ∧ W5.heap[gr]? = some (.cells #[.int .i64 0, .int .i64 0, .slice none 0 0] 26 (0, 0)) ∧ Below w.heap.size w W5 from by
  have hB1 := HB1.out
  have hB2 := HB2.out
  have hB3 := HB3.out
  have hB5 := HB5.out
  have s1 := hB1.size
  have s2 := hB2.size
  have s3 := hB3.size
  have h5 := G5.out
  have hr := blk_lt BR.out
  have T5 : Below w.heap.size w w5 := below_step (below_step (below_step hB1 hB2) hB3) hB5
  have e0 := blk_put (cs' := #[.int .i64 R, .int .i64 0, .slice none 0 0]) B5.out 0 (.int .i64 R) rfl
  have e1 := blk_put (cs' := #[.int .i64 R, .int .i64 C, .slice none 0 0]) e0 1 (.int .i64 C) rfl
  have e2 := blk_put (cs' := #[.int .i64 R, .int .i64 C, .slice (some ⟨go, 0, none⟩) R co]) e1 2 (.slice (some ⟨go, 0, none⟩) R co) rfl
  have O5 := Kd.R_below Oq4.out hB5
  have O6 := Kd.R_set O5 B5.out Q28 0 (.int .i64 R)
  have O7 := Kd.R_set O6 e0 Q28 1 (.int .i64 C)
  have O8 := Kd.R_set O7 e1 Q28 2 (.slice (some ⟨go, 0, none⟩) R co)
  have r5 := blk_below (blk_below BR.out hB3) hB5
  have r6 := blk_far (p := ⟨g5, 0, none⟩) r5 (show gr ≠ g5 by omega) (.int .i64 R)
  have r7 := blk_far (p := ⟨g5, 1, none⟩) r6 (show gr ≠ g5 by omega) (.int .i64 C)
  have r8 := blk_far (p := ⟨g5, 2, none⟩) r7 (show gr ≠ g5 by omega) (.slice (some ⟨go, 0, none⟩) R co)
  rw [hW5]
  exact ⟨e2, by simpa using Kd.R_lower O8 (by omega), r8, below_set (below_set (below_set T5 (by omega)) (by omega)) (by omega)⟩)
 have G0 := am (show w.heap.size ≤ g5 ∧ w.heap.size ≤ gr ∧ gr ≠ g5 by
  have hB1 := HB1.out.size
  have hB2 := HB2.out.size
  have hB3 := HB3.out.size
  have h5 := G5.out
  have hgr := GR.out
  have hr := blk_lt BR.out
  omega)
 clear hW5 c50 c51 c52 f50 f51 f52
 go_loopw [15] (fun v15 w' => ∃ i : Nat, i ≤ R ∧ v15 = .int .i64 i ∧ Aside0 (w'.heap[g5]? = some (.cells #[.int .i64 R, .int .i64 C, .slice (some ⟨go, 0, none⟩) R co] 26 (0, 0)) ∧ Kd.R (Kd.int .i64) 3 w' w.heap.size (fun _ => True) (.slice (some ⟨go, 0, none⟩) R co) ((List.range i).map f ++ List.replicate (R - i) 0) ∧ w'.heap[gr]? = some (.cells #[.int .i64 0, .int .i64 0, .slice none 0 0] 26 (0, 0)) ∧ Below w.heap.size w w')) (fun v15 _ => ((R : Int) - intOf v15).toNat)
 case atStart => exact ⟨0, by omega, rfl, INV⟩
 case round =>
  clear INV
  obtain ⟨i, hi, rfl, INV⟩ := hrel
  by_cases hlt : i < R
  ·
   have hlt2 : decide ((i : Int) < (R : Int)) = true := decide_eq_true (by omega)
   have hge : decide ((0 : Int) ≤ (i : Int)) = true := decide_eq_true (by omega)
   have c52 := blk_cell INV.out.1 2
   go_wp2_with fail
   go_region_with (refine (CALL.out _ i (pw_below_drewN INV.out.2.2.2 _) hlt).mono ?_; rintro e w9 ⟨rfl, hb9⟩; have HB9 := Aside0.mk hb9; have c92 := blk_cell (blk_below (blk_drewN INV.out.1 _) hb9) 2; have hc9 := Kd.R_celln (0 : Int) (Kd.R_below (Kd.R_drewN INV.out.2.1 _) hb9) (i : Int) (by omega) (by omega); rw [Int.toNat_natCast] at hc9; obtain ⟨k91, k92⟩ := hc9; clear hb9)
   all_goals
    have inv2 := show (w9.setCell ⟨go, i, none⟩ (.int .i64 (f i))).heap[g5]? = some (.cells #[.int .i64 R, .int .i64 C, .slice (some ⟨go, 0, none⟩) R co] 26 (0, 0)) ∧ Kd.R (Kd.int .i64) 3 (w9.setCell ⟨go, i, none⟩ (.int .i64 (f i))) w.heap.size (fun _ => True) (.slice (some ⟨go, 0, none⟩) R co) ((List.range (i + 1)).map f ++ List.replicate (R - (i + 1)) 0) ∧ (w9.setCell ⟨go, i, none⟩ (.int .i64 (f i))).heap[gr]? = some (.cells #[.int .i64 0, .int .i64 0, .slice none 0 0] 26 (0, 0)) ∧ Below w.heap.size w (w9.setCell ⟨go, i, none⟩ (.int .i64 (f i))) from mp_step INV.out.1 INV.out.2.1 INV.out.2.2.1 INV.out.2.2.2 HB9.out hlt
    have INV2 := Aside0.mk inv2
    clear inv2 k91 k92 c92 c52 INV
    simp only [Exit.inBlock, Exit.then]
    go_wp2_with fail
    go_roundw
    case rel => exact ⟨i + 1, by omega, rfl, INV2⟩
    case measure => simp [intOf]; omega
  ·
   obtain rfl : i = R := by omega
   have hlt2 : decide ((i : Int) < (i : Int)) = false := decide_eq_false (by omega)
   have c50 := blk_cell INV.out.1 0
   have c51 := blk_cell INV.out.1 1
   have c52 := blk_cell INV.out.1 2
   have cr0 := blk_cell INV.out.2.2.1 0
   have cr1 := blk_cell INV.out.2.2.1 1
   have cr2 := blk_cell INV.out.2.2.1 2
   have fr0 := blk_frozen INV.out.2.2.1 0
   have fr1 := blk_frozen INV.out.2.2.1 1
   have fr2 := blk_frozen INV.out.2.2.1 2
   go_wp2
   have e0 := blk_put (cs' := #[.int .i64 i, .int .i64 0, .slice none 0 0]) INV.out.2.2.1 0 (.int .i64 i) rfl
   have e1 := blk_put (cs' := #[.int .i64 i, .int .i64 C, .slice none 0 0]) e0 1 (.int .i64 C) rfl
   have e2 := blk_put (cs' := #[.int .i64 i, .int .i64 C, .slice (some ⟨go, 0, none⟩) i co]) e1 2 (.slice (some ⟨go, 0, none⟩) i co) rfl
   refine bodyPost_ret (results_cell_row rfl _ _ gr 26 #[.int .i64 i, .int .i64 C, .slice (some ⟨go, 0, none⟩) i co] (0, 0) _ rfl e2 Try.underlying26 rfl rfl) rfl ?_
   have O6 := Kd.R_set INV.out.2.1 INV.out.2.2.1 Q28 0 (.int .i64 i)
   have O7 := Kd.R_set O6 e0 Q28 1 (.int .i64 C)
   have O8 := Kd.R_set O7 e1 Q28 2 (.slice (some ⟨go, 0, none⟩) i co)
   rw [Nat.sub_self, List.replicate_zero, List.append_nil] at O8
   exact ⟨_, rfl, O8, below_set (below_set (below_set INV.out.2.2.2 G0.out.2.1) G0.out.2.1) G0.out.2.1⟩
theorem mp_end {gr n : Nat} {R C : Int} {A4 : Option Addr} {c4 : Nat} {xs : List Int} {w w3 w4 : World} (br : w4.heap[gr]? = some (.cells #[.int .i64 0, .int .i64 0, .slice none 0 0] 26 (0, 0))) (T3 : Below w.heap.size w w3) (hb4 : Below w3.heap.size w3 w4) (hgr : w.heap.size ≤ gr) (ho4 : Kd.R (Kd.int .i64) 3 w4 w3.heap.size (fun _ => True) (.slice A4 n c4) xs) :
  (((w4.setCell ⟨gr, 0, none⟩ (.int .i64 R)).setCell ⟨gr, 1, none⟩ (.int .i64 C)).setCell ⟨gr, 2, none⟩ (.slice A4 n c4)).heap[gr]? = some (.cells #[.int .i64 R, .int .i64 C, .slice A4 n c4] 26 (0, 0)) ∧ Kd.R (Kd.int .i64) 3 (((w4.setCell ⟨gr, 0, none⟩ (.int .i64 R)).setCell ⟨gr, 1, none⟩ (.int .i64 C)).setCell ⟨gr, 2, none⟩ (.slice A4 n c4)) w.heap.size (fun _ => True) (.slice A4 n c4) xs ∧ Below w.heap.size w (((w4.setCell ⟨gr, 0, none⟩ (.int .i64 R)).setCell ⟨gr, 1, none⟩ (.int .i64 C)).setCell ⟨gr, 2, none⟩ (.slice A4 n c4)) := by
 have e0 := blk_put (cs' := #[.int .i64 R, .int .i64 0, .slice none 0 0]) br 0 (.int .i64 R) rfl
 have e1 := blk_put (cs' := #[.int .i64 R, .int .i64 C, .slice none 0 0]) e0 1 (.int .i64 C) rfl
 have e2 := blk_put (cs' := #[.int .i64 R, .int .i64 C, .slice A4 n c4]) e1 2 (.slice A4 n c4) rfl
 have O6 := Kd.R_set ho4 br Q28 0 (.int .i64 R)
 have O7 := Kd.R_set O6 e0 Q28 1 (.int .i64 C)
 have O8 := Kd.R_set O7 e1 Q28 2 (.slice A4 n c4)
 exact ⟨e2, Kd.R_lower O8 T3.size, below_set (below_set (below_set (below_step T3 hb4) hgr) hgr) hgr⟩
theorem range_get (g : Int → Int) : ∀ l : List Int, (List.range l.length).map (fun i => g (l.getD i 0)) = l.map g := by
 intro l
 refine List.ext_getElem (by simp) ?_
 intro i h1 h2
 have : i < l.length := by simpa using h1
 simp [List.getD, this]

/-! ### impl_UnionOf: function 8 (by hand) -/
def impl_UnionOf.f (a0_0 a0_1 : Int) (l0_2 : List Int) (a1_0 a1_1 : Int) (l1_2 : List Int) : Option (Int × Int × List Int × Bool) := if GoodB a0_0 a0_1 l0_2 ∧ GoodB a1_0 a1_1 l1_2 ∧ a0_0 = a1_0 ∧ a0_1 = a1_1 then some (a0_0, a0_1, (List.range l0_2.length).map (fun i => Go.bits .or .i64 (l0_2.getD i 0) (l1_2.getD i 0)), true) else some (0, 0, [], false)
-- (walk)
set_option maxHeartbeats 1000000 in
theorem un_one {g g2 i : Nat} {R C R' C' : Int} {cp cp1 : Nat} {A A1 : Option Addr} {l p : List Int} {w : World} (hb : w.heap[g]? = some (.cells #[.int .i64 R, .int .i64 C, .slice A l.length cp] 26 (0, 0))) (hp : w.heap[g2]? = some (.cells #[.int .i64 R', .int .i64 C', .slice A1 p.length cp1] 26 (0, 0))) (hA : Kd.C (Kd.int .i64) w A l.length l) (hA1 : Kd.C (Kd.int .i64) w A1 p.length p) (hi : i < l.length) (hi2 : i < p.length) :
  Calls Try.prog 56 #[.int .i64 i, .pointer (some ⟨g, 0, none⟩), .pointer (some ⟨g2, 0, none⟩)] w fun e w2 => e = .returned (.int .i64 (Go.bits .or .i64 (l.getD i 0) (p.getD i 0))) ∧ Below w.heap.size w w2 := by
 have c2 := blk_cell hb 2
 have d2 := blk_cell hp 2
 obtain ⟨ad, e, hx⟩ := Kd.at_int hA (i : Int) (by omega) (by omega)
 cases e
 obtain ⟨ad2, e2, hx2⟩ := Kd.at_int hA1 (i : Int) (by omega) (by omega)
 cases e2
 rw [Int.toNat_natCast, show rd l (i : Int) = l.getD i 0 from rfl] at hx
 rw [Int.toNat_natCast, show rd p (i : Int) = p.getD i 0 from rfl] at hx2
 have hlt : decide ((i : Int) < (l.length : Int)) = true := decide_eq_true (by omega)
 have hlt2 : decide ((i : Int) < (p.length : Int)) = true := decide_eq_true (by omega)
 have hge : decide ((0 : Int) ≤ (i : Int)) = true := decide_eq_true (by omega)
 generalize l.getD i 0 = x at hx ⊢
 generalize p.getD i 0 = y at hx2 ⊢
 have HBB := am (Below.refl w.heap.size w)
 clear hA hA1 hb hp
 go_enter Try.func56, Try.ntmps56
 go_wp2
 go_region
 all_goals (simp only [Exit.then]; go_wp2)
 all_goals go_ret
 all_goals exact ⟨rfl, by repeat (first | exact HBB.out | apply pw_below_drewN | apply below_drew1)⟩
theorem fit_eq (a0_0 a0_1 : Int) (l0_2 : List Int) (a1_0 a1_1 : Int) (l1_2 : List Int) : impl_fit.f a0_0 a0_1 l0_2 a1_0 a1_1 l1_2 = some (decide (a0_0 = a1_0 ∧ a0_1 = a1_1), decide (GoodB a0_0 a0_1 l0_2 ∧ GoodB a1_0 a1_1 l1_2)) := by
 have hI : ∀ a b l, impl_IsBoard.f a b l = some (decide (GoodB a b l)) := fun _ _ _ => rfl
 unfold impl_fit.f
 simp only [hI, Option.bind_some, decide_eq_true_eq]
 have hbe : (a0_1 == a1_1) = decide (a0_1 = a1_1) := by rw [Bool.eq_iff_iff]; simp
 by_cases h1 : a0_0 = a1_0
 ·
  subst h1
  by_cases h2 : GoodB a0_0 a0_1 l0_2
  ·
   rw [if_pos rfl, if_pos h2, hbe]; simp [h2]
  ·
   rw [if_pos rfl, if_neg h2, hbe]; simp [h2]
 ·
  by_cases h2 : GoodB a0_0 a0_1 l0_2
  ·
   rw [if_neg h1, if_pos h2]; simp [h1, h2]
  ·
   rw [if_neg h1, if_neg h2]; simp [h1, h2]
set_option maxHeartbeats 2000000 in
set_option maxRecDepth 4000 in
theorem impl_UnionOf.calls (a0_0 : Int) (a0_1 : Int) (A0_2 : Option Addr) (c0_2 : Nat) (l0_2 : List Int) (a1_0 : Int) (a1_1 : Int) (A1_2 : Option Addr) (c1_2 : Nat) (l1_2 : List Int) (r1 : Int) (r2 : Int) (r3 : List Int) (r4 : Bool) (w : World) (hr0_2 : Kd.C (Kd.int .i64) w A0_2 l0_2.length l0_2) (hc0_2 : l0_2.length ≤ c0_2) (hr1_2 : Kd.C (Kd.int .i64) w A1_2 l1_2.length l1_2) (hc1_2 : l1_2.length ≤ c1_2) (h : impl_UnionOf.f a0_0 a0_1 l0_2 a1_0 a1_1 l1_2 = some (r1, r2, r3, r4)) :
  Calls Try.prog 8 #[.agg #[.int .i64 a0_0, .int .i64 a0_1, .slice A0_2 l0_2.length c0_2], .agg #[.int .i64 a1_0, .int .i64 a1_1, .slice A1_2 l1_2.length c1_2]] w fun e w' => ∃ v2_ : Value, e = .returned (.tuple #[.agg #[.int .i64 r1, .int .i64 r2, v2_], .bool r4]) ∧ Kd.R (Kd.int .i64) 3 w' w.heap.size (fun _ => True) v2_ r3 ∧ Below w.heap.size w w' := by
 unfold impl_UnionOf.f at h
 have hu := Try.underlying26
 have HA := Aside0.mk hr0_2
 have HA1 := Aside0.mk hr1_2
 clear hr0_2 hr1_2
 have HF := am (fit_eq a0_0 a0_1 l0_2 a1_0 a1_1 l1_2)
 by_cases hy : a0_0 = a1_0 ∧ a0_1 = a1_1
 case neg =>
  rw [if_neg (fun x => hy x.2.2)] at h
  simp only [Option.some.injEq, Prod.mk.injEq] at h
  obtain ⟨rfl, rfl, rfl, rfl⟩ := h
  have HI := am (show impl_fit.f a0_0 a0_1 l0_2 a1_0 a1_1 l1_2 = some (false, decide (GoodB a0_0 a0_1 l0_2 ∧ GoodB a1_0 a1_1 l1_2)) by rw [HF.out, decide_eq_false hy])
  clear hy HF
  generalize decide (GoodB a0_0 a0_1 l0_2 ∧ GoodB a1_0 a1_1 l1_2) = o at HI
  go_enter Try.func8, Try.ntmps8
  go_wp2_with (first
   | ((with_reducible refine gate_dst (N := 2) rfl ?_); refine qv 2 #[.int .i64 a0_0, .int .i64 a0_1, .slice A0_2 l0_2.length c0_2] 26 ?_; intro gb hgb w1 bb hb1; have GB := Aside0.mk hgb; have BB := Aside0.mk bb; have HB1 := Aside0.mk hb1; clear hgb bb hb1)
   | ((with_reducible refine gate_dst (N := 3) rfl ?_); refine qv 3 #[.int .i64 a1_0, .int .i64 a1_1, .slice A1_2 l1_2.length c1_2] 26 ?_; intro gp hgp w1b bp hb1b; have GP := Aside0.mk hgp; have BP := Aside0.mk bp; have HB1b := Aside0.mk hb1b; clear hgp bp hb1b)
   | ((with_reducible refine gate_dst (N := 4) rfl ?_); refine qv 4 #[.int .i64 0, .int .i64 0, .slice none 0 0] 26 ?_; intro gr hgr w2 br hb2; have GR := Aside0.mk hgr; have BR := Aside0.mk br; have HB2 := am (below_step HB1b.out hb2); have BB2 := am (blk_below BB.out HB2.out); have BP2 := am (blk_below BP.out hb2); have cb0 := blk_cell BB2.out 0; have cb1 := blk_cell BB2.out 1; have cb2 := blk_cell BB2.out 2; have cp0 := blk_cell BP2.out 0; have cp1 := blk_cell BP2.out 1; have cp2 := blk_cell BP2.out 2; clear hgr br hb2)
   | (go_at_call 54; refine (impl_fit.calls _ _ _ _ l0_2 _ _ _ _ l1_2 _ _ _ (Kd.C_below HA.out (below_step HB1.out HB2.out)) hc0_2 (Kd.C_below HA1.out (below_step HB1.out HB2.out)) hc1_2 HI.out).mono ?_; rintro e w3 ⟨rfl, hb3⟩; have HB3 := Aside0.mk hb3; have BB3 := am (blk_below BB2.out hb3); have BP3 := am (blk_below BP2.out hb3); have BR3 := am (blk_below BR.out hb3); clear cb0 cb1 cb2 cp0 cp1 cp2; have cb0 := blk_cell BB3.out 0; have cb1 := blk_cell BB3.out 1; have cb2 := blk_cell BB3.out 2; have cr0 := blk_cell BR3.out 0; have cr1 := blk_cell BR3.out 1; have cr2 := blk_cell BR3.out 2; have fr0 := blk_frozen BR3.out 0; have fr1 := blk_frozen BR3.out 1; have fr2 := blk_frozen BR3.out 2; clear hb3)
   )
  have T3 := below_step (below_step HB1.out HB2.out) HB3.out
  have hgr : w.heap.size ≤ gr := by have := GR.out; have := HB1.out.size; have := HB1b.out.size; omega
  have HE := mp_end (R := 0) (C := 0) BR3.out T3 (Below.refl _ _) hgr (Kd.R_nil _ _ _ _ _)
  refine bodyPost_ret (results_ct rfl _ _ gr 26 #[.int .i64 0, .int .i64 0, .slice none 0 0] (0, 0) _ rfl HE.1 hu rfl (by kernel_rfl)) rfl ?_
  exact ⟨_, rfl, HE.2.1, HE.2.2⟩
 by_cases ho : GoodB a0_0 a0_1 l0_2 ∧ GoodB a1_0 a1_1 l1_2
 case neg =>
  rw [if_neg (fun x => ho ⟨x.1, x.2.1⟩)] at h
  simp only [Option.some.injEq, Prod.mk.injEq] at h
  obtain ⟨rfl, rfl, rfl, rfl⟩ := h
  have HI := am (show impl_fit.f a0_0 a0_1 l0_2 a1_0 a1_1 l1_2 = some (true, false) by rw [HF.out, decide_eq_true hy, decide_eq_false ho])
  clear hy HF ho
  go_enter Try.func8, Try.ntmps8
  go_wp2_with (first
   | ((with_reducible refine gate_dst (N := 2) rfl ?_); refine qv 2 #[.int .i64 a0_0, .int .i64 a0_1, .slice A0_2 l0_2.length c0_2] 26 ?_; intro gb hgb w1 bb hb1; have GB := Aside0.mk hgb; have BB := Aside0.mk bb; have HB1 := Aside0.mk hb1; clear hgb bb hb1)
   | ((with_reducible refine gate_dst (N := 3) rfl ?_); refine qv 3 #[.int .i64 a1_0, .int .i64 a1_1, .slice A1_2 l1_2.length c1_2] 26 ?_; intro gp hgp w1b bp hb1b; have GP := Aside0.mk hgp; have BP := Aside0.mk bp; have HB1b := Aside0.mk hb1b; clear hgp bp hb1b)
   | ((with_reducible refine gate_dst (N := 4) rfl ?_); refine qv 4 #[.int .i64 0, .int .i64 0, .slice none 0 0] 26 ?_; intro gr hgr w2 br hb2; have GR := Aside0.mk hgr; have BR := Aside0.mk br; have HB2 := am (below_step HB1b.out hb2); have BB2 := am (blk_below BB.out HB2.out); have BP2 := am (blk_below BP.out hb2); have cb0 := blk_cell BB2.out 0; have cb1 := blk_cell BB2.out 1; have cb2 := blk_cell BB2.out 2; have cp0 := blk_cell BP2.out 0; have cp1 := blk_cell BP2.out 1; have cp2 := blk_cell BP2.out 2; clear hgr br hb2)
   | (go_at_call 54; refine (impl_fit.calls _ _ _ _ l0_2 _ _ _ _ l1_2 _ _ _ (Kd.C_below HA.out (below_step HB1.out HB2.out)) hc0_2 (Kd.C_below HA1.out (below_step HB1.out HB2.out)) hc1_2 HI.out).mono ?_; rintro e w3 ⟨rfl, hb3⟩; have HB3 := Aside0.mk hb3; have BB3 := am (blk_below BB2.out hb3); have BP3 := am (blk_below BP2.out hb3); have BR3 := am (blk_below BR.out hb3); clear cb0 cb1 cb2 cp0 cp1 cp2; have cb0 := blk_cell BB3.out 0; have cb1 := blk_cell BB3.out 1; have cb2 := blk_cell BB3.out 2; have cr0 := blk_cell BR3.out 0; have cr1 := blk_cell BR3.out 1; have cr2 := blk_cell BR3.out 2; have fr0 := blk_frozen BR3.out 0; have fr1 := blk_frozen BR3.out 1; have fr2 := blk_frozen BR3.out 2; clear hb3)
   )
  have T3 := below_step (below_step HB1.out HB2.out) HB3.out
  have hgr : w.heap.size ≤ gr := by have := GR.out; have := HB1.out.size; have := HB1b.out.size; omega
  have HE := mp_end (R := 0) (C := 0) BR3.out T3 (Below.refl _ _) hgr (Kd.R_nil _ _ _ _ _)
  refine bodyPost_ret (results_ct rfl _ _ gr 26 #[.int .i64 0, .int .i64 0, .slice none 0 0] (0, 0) _ rfl HE.1 hu rfl (by kernel_rfl)) rfl ?_
  exact ⟨_, rfl, HE.2.1, HE.2.2⟩
 rw [if_pos ⟨ho.1, ho.2, hy.1, hy.2⟩] at h
 simp only [Option.some.injEq, Prod.mk.injEq] at h
 obtain ⟨rfl, rfl, rfl, rfl⟩ := h
 have HI := am (show impl_fit.f a0_0 a0_1 l0_2 a1_0 a1_1 l1_2 = some (true, true) by rw [HF.out, decide_eq_true hy, decide_eq_true ho])
 have HQL := am (show l1_2.length = l0_2.length by have := ho.1.2.2.1; have := ho.2.2.2.1; omega)
 have HG := Aside0.mk ho.1
 clear hy ho HF
 ·
  go_enter Try.func8, Try.ntmps8
  go_wp2_with (first
   | ((with_reducible refine gate_dst (N := 2) rfl ?_); refine qv 2 #[.int .i64 a0_0, .int .i64 a0_1, .slice A0_2 l0_2.length c0_2] 26 ?_; intro gb hgb w1 bb hb1; have GB := Aside0.mk hgb; have BB := Aside0.mk bb; have HB1 := Aside0.mk hb1; clear hgb bb hb1)
   | ((with_reducible refine gate_dst (N := 3) rfl ?_); refine qv 3 #[.int .i64 a1_0, .int .i64 a1_1, .slice A1_2 l1_2.length c1_2] 26 ?_; intro gp hgp w1b bp hb1b; have GP := Aside0.mk hgp; have BP := Aside0.mk bp; have HB1b := Aside0.mk hb1b; clear hgp bp hb1b)
   | ((with_reducible refine gate_dst (N := 4) rfl ?_); refine qv 4 #[.int .i64 0, .int .i64 0, .slice none 0 0] 26 ?_; intro gr hgr w2 br hb2; have GR := Aside0.mk hgr; have BR := Aside0.mk br; have HB2 := am (below_step HB1b.out hb2); have BB2 := am (blk_below BB.out HB2.out); have BP2 := am (blk_below BP.out hb2); have cb0 := blk_cell BB2.out 0; have cb1 := blk_cell BB2.out 1; have cb2 := blk_cell BB2.out 2; have cp0 := blk_cell BP2.out 0; have cp1 := blk_cell BP2.out 1; have cp2 := blk_cell BP2.out 2; clear hgr br hb2)
   | (go_at_call 54; refine (impl_fit.calls _ _ _ _ l0_2 _ _ _ _ l1_2 _ _ _ (Kd.C_below HA.out (below_step HB1.out HB2.out)) hc0_2 (Kd.C_below HA1.out (below_step HB1.out HB2.out)) hc1_2 HI.out).mono ?_; rintro e w3 ⟨rfl, hb3⟩; have HB3 := Aside0.mk hb3; have BB3 := am (blk_below BB2.out hb3); have BP3 := am (blk_below BP2.out hb3); have BR3 := am (blk_below BR.out hb3); clear cb0 cb1 cb2 cp0 cp1 cp2; have cb0 := blk_cell BB3.out 0; have cb1 := blk_cell BB3.out 1; have cb2 := blk_cell BB3.out 2; clear hb3)
   )
  have T3 := below_step (below_step HB1.out HB2.out) HB3.out
  have hgr : w.heap.size ≤ gr := by have := GR.out; have := HB1.out.size; have := HB1b.out.size; omega
  have hg := HG.out
  obtain ⟨g1, g2, g3, g4⟩ := hg
  obtain ⟨C, rfl⟩ := Int.eq_ofNat_of_zero_le (show 0 ≤ a0_1 by omega)
  subst g3
  have T3' := am (T3)
  refine (mp_all (R := l0_2.length) (C := C) (cp := c0_2) (A := A0_2) (l := l0_2) (fid := 56) (caps := #[.pointer (some ⟨gb, 0, none⟩), .pointer (some ⟨gp, 0, none⟩)]) (w := w3) (f := fun i => Go.bits .or .i64 (l0_2.getD i 0) (l1_2.getD i 0)) (by omega) (by omega) (fun _ _ => by kernel_rfl) (fun w1 i hb hi => un_one (blk_below BB3.out hb) (blk_below BP3.out hb) (Kd.C_below HA.out (below_step T3'.out hb)) (Kd.C_below HA1.out (below_step T3'.out hb)) (by omega) (by have := HQL.out; omega))).mono ?_
  rintro e w4 ⟨v4, rfl, ho4, hb4⟩
  obtain ⟨A4, c4, ev⟩ := Kd.R_slice ho4
  rw [List.length_map, List.length_range] at ev
  subst ev
  have Oq5 := Aside0.mk ho4
  have HB4 := Aside0.mk hb4
  have r4 := blk_below BR3.out hb4
  have BR4 := Aside0.mk r4
  have cr0 := blk_cell r4 0
  have cr1 := blk_cell r4 1
  have cr2 := blk_cell r4 2
  have fr0 := blk_frozen r4 0
  have fr1 := blk_frozen r4 1
  have fr2 := blk_frozen r4 2
  clear ho4 hb4 r4 cb0 cb1 cb2
  go_wp2
  have HE := mp_end (R := (l0_2.length : Int)) (C := (C : Int)) BR4.out T3'.out HB4.out hgr Oq5.out
  refine bodyPost_ret (results_ct rfl _ _ gr 26 #[.int .i64 l0_2.length, .int .i64 C, .slice A4 l0_2.length c4] (0, 0) _ rfl HE.1 hu rfl (by kernel_rfl)) rfl ?_
  exact ⟨_, rfl, HE.2.1, HE.2.2⟩

/-! ### spec_boFit: function 57 -/
def spec_boFit.f (k : Nat) (a0_0 : Int) (a0_1 : Int) (l0_2 : List Int) (a1_0 : Int) (a1_1 : Int) (l1_2 : List Int) : Option (Bool) := (spec_boGood.f k a0_0 a0_1 l0_2).bind fun t256 => (if t256 = true then ((spec_boGood.f k a1_0 a1_1 l1_2).bind fun t257 => (if t257 = true then (if a0_0 = a1_0 then (some (a0_1 == a1_1)) else (some false)) else (some false))) else (some false))
set_option maxHeartbeats 8000000 in
set_option maxRecDepth 100000 in
theorem spec_boFit.calls (k : Nat) (a0_0 : Int) (a0_1 : Int) (A0_2 : Option Addr) (c0_2 : Nat) (l0_2 : List Int) (a1_0 : Int) (a1_1 : Int) (A1_2 : Option Addr) (c1_2 : Nat) (l1_2 : List Int) (r : Bool) (w : World) (hr0_2 : Kd.C (Kd.int .i64) w A0_2 l0_2.length l0_2) (hc0_2 : l0_2.length ≤ c0_2) (hr1_2 : Kd.C (Kd.int .i64) w A1_2 l1_2.length l1_2) (hc1_2 : l1_2.length ≤ c1_2) (h : spec_boFit.f k a0_0 a0_1 l0_2 a1_0 a1_1 l1_2 = some r) :
  Calls Try.prog 57 #[.agg #[.int .i64 a0_0, .int .i64 a0_1, .slice A0_2 l0_2.length c0_2], .agg #[.int .i64 a1_0, .int .i64 a1_1, .slice A1_2 l1_2.length c1_2]] w fun e w' => e = .returned (.bool r) ∧ Below w.heap.size w w' := by
 have hu26 := Try.underlying26
 have HR0_2 := Aside0.mk hr0_2
 have HC0_2 := Aside0.mk hc0_2
 clear hr0_2 hc0_2
 have HR1_2 := Aside0.mk hr1_2
 have HC1_2 := Aside0.mk hc1_2
 clear hr1_2 hc1_2
 have HB := am (Below.refl w.heap.size w)
 have H : ((spec_boGood.f k a0_0 a0_1 l0_2).bind fun t256 => (if t256 = true then ((spec_boGood.f k a1_0 a1_1 l1_2).bind fun t257 => (if t257 = true then (if a0_0 = a1_0 then (some (a0_1 == a1_1)) else (some false)) else (some false))) else (some false))) = some r := h
 clear h
 replace H := qE H
 obtain ⟨t256, A3, H⟩ := H
 replace H : (if t256 = true then ((spec_boGood.f k a1_0 a1_1 l1_2).bind fun t257 => (if t257 = true then (if a0_0 = a1_0 then (some (a0_1 == a1_1)) else (some false)) else (some false))) else (some false)) = some r := H
 by_cases c4 : t256 = true
 ·
  subst c4
  have H1 : ((spec_boGood.f k a1_0 a1_1 l1_2).bind fun t257 => (if t257 = true then (if a0_0 = a1_0 then (some (a0_1 == a1_1)) else (some false)) else (some false))) = some r := by first | (rw [if_pos rfl] at H; exact H) | rfl
  clear H
  have H := H1
  clear H1
  replace H := qE H
  obtain ⟨t257, A5, H⟩ := H
  replace H : (if t257 = true then (if a0_0 = a1_0 then (some (a0_1 == a1_1)) else (some false)) else (some false)) = some r := H
  by_cases c6 : t257 = true
  ·
   subst c6
   have H1 : (if a0_0 = a1_0 then (some (a0_1 == a1_1)) else (some false)) = some r := by first | (rw [if_pos rfl] at H; exact H) | rfl
   clear H
   have H := H1
   clear H1
   by_cases c7 : a0_0 = a1_0
   ·
    rw [if_pos c7] at H
    have c7b0 : (a0_0 == a1_0) = true := beq_iff_eq.mpr c7
    have c7b1 : (a0_0 != a1_0) = false := bne_eq_false_iff_eq.mpr c7
    clear c7
    obtain rfl := Option.some.inj H
    go_enter Try.func57, Try.ntmps57
    go_wp2_with (first | ((with_reducible refine gate_dst (N := 2) rfl ?_); refine qv 2 #[.int .i64 a0_0, .int .i64 a0_1, .slice A0_2 l0_2.length c0_2] 26 ?_; intro gb254 hg w8 hbox hb; have BK254 := am hbox; have GW254 := qw hg; have GE254 := qw hg; replace HB := qs hb; clear hb hbox hg) | ((with_reducible refine gate_dst (N := 3) rfl ?_); refine qv 3 #[.int .i64 a1_0, .int .i64 a1_1, .slice A1_2 l1_2.length c1_2] 26 ?_; intro gb255 hg w9 hbox hb; have BK255 := am hbox; have GW255 := qw hg; have GE255 := qw hg; have Nq0 := qn hg BK254; have Nq1 := qN hg BK254; replace BK254 := sqB BK254 hb; replace HB := qs hb; clear hb hbox hg; have bq0 := Nq0.out; have cq0 := Nq1.out; obtain ⟨zq0, zq1, zq2, fq0, fq1, fq2⟩ := qd BK254) | ((with_reducible refine gate_callee (f := 60) rfl ?_); refine qg (some 6) Try.func60 #[.agg #[.int .i64 a0_0, .int .i64 a0_1, .slice A0_2 l0_2.length c0_2]] ?_; (with_reducible refine (spec_boGood.calls k a0_0 a0_1 _ _ l0_2 true _ ?side1 HC0_2.out A3.out).mono ?_); (case side1 => exact Q0); rintro e w12 ⟨rfl, hb⟩; refine ⟨_, rfl, ?_⟩; replace BK254 := sqB BK254 hb; replace BK255 := sqB BK255 hb; replace HB := qs hb; (try clear hb); obtain ⟨zq3, zq4, zq5, fq3, fq4, fq5⟩ := qd BK255) | (go_at_call 60; (with_reducible refine (spec_boGood.calls k a1_0 a1_1 _ _ l1_2 true _ ?side1 HC1_2.out A5.out).mono ?_); (case side1 => exact Q6); rintro e w14 ⟨rfl, hb⟩; replace BK254 := sqB BK254 hb; replace BK255 := sqB BK255 hb; replace HB := qs hb; (try clear hb); obtain ⟨zq6, zq7, zq8, fq6, fq7, fq8⟩ := qd BK254; obtain ⟨zq9, zq10, zq11, fq9, fq10, fq11⟩ := qd BK255))
    go_ret
    exact ⟨Q1, qb⟩
   ·
    rw [if_neg c7] at H
    have c7b0 : (a0_0 == a1_0) = false := beq_eq_false_iff_ne.mpr c7
    have c7b1 : (a0_0 != a1_0) = true := bne_iff_ne.mpr c7
    obtain rfl := Option.some.inj H
    go_enter Try.func57, Try.ntmps57
    go_wp2_with (first | ((with_reducible refine gate_dst (N := 2) rfl ?_); refine qv 2 #[.int .i64 a0_0, .int .i64 a0_1, .slice A0_2 l0_2.length c0_2] 26 ?_; intro gb254 hg w17 hbox hb; have BK254 := am hbox; have GW254 := qw hg; have GE254 := qw hg; replace HB := qs hb; clear hb hbox hg) | ((with_reducible refine gate_dst (N := 3) rfl ?_); refine qv 3 #[.int .i64 a1_0, .int .i64 a1_1, .slice A1_2 l1_2.length c1_2] 26 ?_; intro gb255 hg w18 hbox hb; have BK255 := am hbox; have GW255 := qw hg; have GE255 := qw hg; have Nq0 := qn hg BK254; have Nq1 := qN hg BK254; replace BK254 := sqB BK254 hb; replace HB := qs hb; clear hb hbox hg; have bq3 := Nq0.out; have cq3 := Nq1.out; obtain ⟨zq12, zq13, zq14, fq12, fq13, fq14⟩ := qd BK254) | ((with_reducible refine gate_callee (f := 60) rfl ?_); refine qg (some 6) Try.func60 #[.agg #[.int .i64 a0_0, .int .i64 a0_1, .slice A0_2 l0_2.length c0_2]] ?_; (with_reducible refine (spec_boGood.calls k a0_0 a0_1 _ _ l0_2 true _ ?side1 HC0_2.out A3.out).mono ?_); (case side1 => exact Q0); rintro e w21 ⟨rfl, hb⟩; refine ⟨_, rfl, ?_⟩; replace BK254 := sqB BK254 hb; replace BK255 := sqB BK255 hb; replace HB := qs hb; (try clear hb); obtain ⟨zq18, zq19, zq20, fq18, fq19, fq20⟩ := qd BK255) | (go_at_call 60; (with_reducible refine (spec_boGood.calls k a1_0 a1_1 _ _ l1_2 true _ ?side1 HC1_2.out A5.out).mono ?_); (case side1 => exact Q6); rintro e w23 ⟨rfl, hb⟩; replace BK254 := sqB BK254 hb; replace BK255 := sqB BK255 hb; replace HB := qs hb; (try clear hb); obtain ⟨zq21, zq22, zq23, fq21, fq22, fq23⟩ := qd BK254; obtain ⟨zq24, zq25, zq26, fq24, fq25, fq26⟩ := qd BK255))
    go_ret
    exact ⟨Q1, qb⟩
  ·
   replace c6 := Bool.eq_false_iff.mpr c6
   subst c6
   have H1 : (some false) = some r := by first | (rw [if_neg (show ¬ (false = true) by decide)] at H; exact H) | rfl
   clear H
   have H := H1
   clear H1
   obtain rfl := Option.some.inj H
   go_enter Try.func57, Try.ntmps57
   go_wp2_with (first | ((with_reducible refine gate_dst (N := 2) rfl ?_); refine qv 2 #[.int .i64 a0_0, .int .i64 a0_1, .slice A0_2 l0_2.length c0_2] 26 ?_; intro gb254 hg w26 hbox hb; have BK254 := am hbox; have GW254 := qw hg; have GE254 := qw hg; replace HB := qs hb; clear hb hbox hg) | ((with_reducible refine gate_dst (N := 3) rfl ?_); refine qv 3 #[.int .i64 a1_0, .int .i64 a1_1, .slice A1_2 l1_2.length c1_2] 26 ?_; intro gb255 hg w27 hbox hb; have BK255 := am hbox; have GW255 := qw hg; have GE255 := qw hg; have Nq0 := qn hg BK254; have Nq1 := qN hg BK254; replace BK254 := sqB BK254 hb; replace HB := qs hb; clear hb hbox hg; have bq5 := Nq0.out; have cq5 := Nq1.out; obtain ⟨zq27, zq28, zq29, fq27, fq28, fq29⟩ := qd BK254) | ((with_reducible refine gate_callee (f := 60) rfl ?_); refine qg (some 6) Try.func60 #[.agg #[.int .i64 a0_0, .int .i64 a0_1, .slice A0_2 l0_2.length c0_2]] ?_; (with_reducible refine (spec_boGood.calls k a0_0 a0_1 _ _ l0_2 true _ ?side1 HC0_2.out A3.out).mono ?_); (case side1 => exact Q0); rintro e w30 ⟨rfl, hb⟩; refine ⟨_, rfl, ?_⟩; replace BK254 := sqB BK254 hb; replace BK255 := sqB BK255 hb; replace HB := qs hb; (try clear hb); obtain ⟨zq30, zq31, zq32, fq30, fq31, fq32⟩ := qd BK255) | (go_at_call 60; (with_reducible refine (spec_boGood.calls k a1_0 a1_1 _ _ l1_2 false _ ?side1 HC1_2.out A5.out).mono ?_); (case side1 => exact Q6); rintro e w32 ⟨rfl, hb⟩; replace BK254 := sqB BK254 hb; replace BK255 := sqB BK255 hb; replace HB := qs hb; (try clear hb)))
   go_ret
   exact ⟨Q1, qb⟩
 ·
  replace c4 := Bool.eq_false_iff.mpr c4
  subst c4
  have H1 : (some false) = some r := by first | (rw [if_neg (show ¬ (false = true) by decide)] at H; exact H) | rfl
  clear H
  have H := H1
  clear H1
  obtain rfl := Option.some.inj H
  go_enter Try.func57, Try.ntmps57
  go_wp2_with (first | ((with_reducible refine gate_dst (N := 2) rfl ?_); refine qv 2 #[.int .i64 a0_0, .int .i64 a0_1, .slice A0_2 l0_2.length c0_2] 26 ?_; intro gb254 hg w33 hbox hb; have BK254 := am hbox; have GW254 := qw hg; have GE254 := qw hg; replace HB := qs hb; clear hb hbox hg) | ((with_reducible refine gate_dst (N := 3) rfl ?_); refine qv 3 #[.int .i64 a1_0, .int .i64 a1_1, .slice A1_2 l1_2.length c1_2] 26 ?_; intro gb255 hg w34 hbox hb; have BK255 := am hbox; have GW255 := qw hg; have GE255 := qw hg; have Nq0 := qn hg BK254; have Nq1 := qN hg BK254; replace BK254 := sqB BK254 hb; replace HB := qs hb; clear hb hbox hg; have bq9 := Nq0.out; have cq9 := Nq1.out; obtain ⟨zq36, zq37, zq38, fq36, fq37, fq38⟩ := qd BK254) | ((with_reducible refine gate_callee (f := 60) rfl ?_); refine qg (some 6) Try.func60 #[.agg #[.int .i64 a0_0, .int .i64 a0_1, .slice A0_2 l0_2.length c0_2]] ?_; (with_reducible refine (spec_boGood.calls k a0_0 a0_1 _ _ l0_2 false _ ?side1 HC0_2.out A3.out).mono ?_); (case side1 => exact Q0); rintro e w37 ⟨rfl, hb⟩; refine ⟨_, rfl, ?_⟩; replace BK254 := sqB BK254 hb; replace BK255 := sqB BK255 hb; replace HB := qs hb; (try clear hb)))
  go_ret
  exact ⟨Q1, qb⟩

/-! ### spec_l1Own: function 77 -/
def spec_l1Own.f (l0 : List Int) : Option (List Int) := (some (([] : List Int) : List Int)).bind fun y258 => (if y258.length + l0.length < 17592186044416 then (some (y258 ++ l0)) else (none))
set_option maxHeartbeats 8000000 in
set_option maxRecDepth 100000 in
theorem spec_l1Own.calls (A0 : Option Addr) (c0 : Nat) (l0 : List Int) (r : List Int) (w : World) (hr0 : Kd.C (Kd.int .i64) w A0 l0.length l0) (hc0 : l0.length ≤ c0) (h : spec_l1Own.f l0 = some r) :
  Calls Try.prog 77 #[.slice A0 l0.length c0] w fun e w' => ∃ v0_ : Value, e = .returned (v0_) ∧ Kd.R (Kd.int .i64) 3 w' w.heap.size (fun _ => True) v0_ r ∧ Below w.heap.size w w' := by
 have HR0 := Aside0.mk hr0
 have HC0 := Aside0.mk hc0
 clear hr0 hc0
 have HB := am (Below.refl w.heap.size w)
 have H : ((some (([] : List Int) : List Int)).bind fun y258 => (if y258.length + l0.length < 17592186044416 then (some (y258 ++ l0)) else (none))) = some r := h
 clear h
 obtain ⟨y258, hy_⟩ : ∃ y_ : List Int, y_ = ((([] : List Int))) := ⟨_, rfl⟩
 replace H : (if y258.length + l0.length < 17592186044416 then (some (y258 ++ l0)) else (none)) = some r := qH
 have Ny258 := Aside0.mk hy_
 clear hy_
 by_cases c2 : y258.length + l0.length < 17592186044416
 ·
  rw [if_pos c2] at H
  have LMc2 := Aside0.mk c2
  clear c2
  obtain ⟨y261, hy_⟩ : ∃ y_ : List Int, y_ = ((y258 ++ l0)) := ⟨_, rfl⟩
  replace H : (some y261) = some r := qH
  have Ny261 := Aside0.mk hy_
  clear hy_
  obtain rfl := Option.some.inj H
  go_enter Try.func77, Try.ntmps77
  go_wp2_with (first | ((with_reducible refine gate_dst (N := 3) rfl ?_); refine Kd.R_lit (Kd.int .i64) _ 3 ?hg (N := 3) ?hd (xs := ([] : List Int)) (inner := []) (ok := fun _ => True) (okp := fun _ => True) ?hr ?hp (fun _ hk => hk) trivial (Below.refl _ _) (Nat.le_refl _) (by simp) ?_; (case hd => rfl); (case hg => rfl); (case hr => first | (go_simp; done) | (go_simp; rfl)); (case hp => exact (Reps.none _ _)); intro v259 w3 ho4 hb hg_ hnew_; clear hg_ hnew_; (first | rw [← Ny258.out] at ho4 | (simp only [Int.reduceToNat] at ho4; rw [← Ny258.out] at ho4)); have Oq0 := ql ho4; replace HB := qs hb; clear hb ho4) | ((with_reducible refine gate_builtin (b := .append) (xs := #[.tmp 3, .tmp 4]) rfl ?_); at_builtin; refine Kd.R_append_rows (Kd.int .i64) (w0 := w) w.heap.size rfl (.tmp 3) (.tmp 4) 24 3 (.int .i64 0) 8 rfl Try.underlying24 info3 rfl (by decide) (by omega) v259 y258 l0 _ _ _ (fun _ => True) (fun _ => False) rfl rfl ?aO ?aR (fun _ _ h => h) (fun _ h => h.elim) ?aF ?aB ?aS ?aL ?_; (case aR => repeat (first | exact (Kd.C_below HR0.out HB.out) | (with_reducible first | refine Kd.C_alloc ?_ _ | refine Kd.C_drewN ?_ _ | refine Kd.C_drew ?_))); (case aB => exact qb); (case aF => exact (fun _ _ => trivial)); (case aO => exact (sqr Oq0)); (case aS => exact (below_size qb)); (case aL => have := LMc2.out; omega); intro v262 w5 ho hb hg hat; rw [← Ny261.out] at ho; have Oq1 := am (ho); replace HB := am hb; clear Oq0; clear ho hb hg hat))
  go_ret
  exact ⟨_, Q1, by (with_reducible repeat (first | apply Kd.R_alloc | apply Kd.R_drewN | apply Kd.R_drew)); exact Oq1.out, qb⟩
 ·
  rw [if_neg c2] at H
  exact absurd H (by simp)

/-! ### spec_boOwn: function 58 -/
def spec_boOwn.f (a0_0 : Int) (a0_1 : Int) (l0_2 : List Int) : Option (Int × Int × List Int) := (spec_l1Own.f l0_2).bind fun t266 => (some (a0_0, a0_1, t266))
def spec_boOwn.T1 : Bool × List (List Nat × List Nat) := (true, [([], []), ([0], [0]), ([], []), ([2], [2]), ([], []), ([4], [4]), ([5], [5]), ([1, 3, 6], [1, 3, 6]), ([7, 6, 0, 1, 2, 3, 4, 5, 6, 7], [7])])
def spec_boOwn.B1 : List Nat := [0, 1, 0, 4, 0, 16, 48, 127, 255]
theorem spec_boOwn.tab1 : rtab .any (opsOf Try.f58 1) = spec_boOwn.T1 := by kernel_rfl
theorem spec_boOwn.bits1 : waitsOk spec_boOwn.T1.2 spec_boOwn.B1 = true := by kernel_rfl
set_option maxHeartbeats 8000000 in
set_option maxRecDepth 100000 in
theorem spec_boOwn.calls (a0_0 : Int) (a0_1 : Int) (A0_2 : Option Addr) (c0_2 : Nat) (l0_2 : List Int) (r1 : Int) (r2 : Int) (r3 : List Int) (w : World) (hr0_2 : Kd.C (Kd.int .i64) w A0_2 l0_2.length l0_2) (hc0_2 : l0_2.length ≤ c0_2) (h : spec_boOwn.f a0_0 a0_1 l0_2 = some (r1, r2, r3)) :
  Calls Try.prog 58 #[.agg #[.int .i64 a0_0, .int .i64 a0_1, .slice A0_2 l0_2.length c0_2]] w fun e w' => ∃ v2_ : Value, e = .returned (.agg #[.int .i64 r1, .int .i64 r2, v2_]) ∧ Kd.R (Kd.int .i64) 3 w' w.heap.size (fun _ => True) v2_ r3 ∧ Below w.heap.size w w' := by
 have hu26 := Try.underlying26
 have HR0_2 := Aside0.mk hr0_2
 have HC0_2 := Aside0.mk hc0_2
 clear hr0_2 hc0_2
 have HB := am (Below.refl w.heap.size w)
 have H : ((spec_l1Own.f l0_2).bind fun t266 => (some (a0_0, a0_1, t266))) = some (r1, r2, r3) := h
 clear h
 replace H := qE H
 obtain ⟨t266, A2, H⟩ := H
 replace H : (some (a0_0, a0_1, t266)) = some (r1, r2, r3) := H
 simp only [Option.some.injEq, Prod.mk.injEq] at H
 obtain ⟨rfl, rfl, rfl⟩ := H
 go_enter Try.func58, Try.ntmps58
 try go_wp2_with (first | ((with_reducible refine gate_dst (N := 1) rfl ?_); refine qv 1 #[.int .i64 a0_0, .int .i64 a0_1, .slice A0_2 l0_2.length c0_2] 26 ?_; intro gb264 hg w3 hbox hb; have BK264 := am hbox; have GW264 := qw hg; have GE264 := qw hg; replace HB := qs hb; clear hb hbox hg) | ((with_reducible refine gate_dst (N := 2) rfl ?_); refine qv 2 #[.int .i64 0, .int .i64 0, .slice none 0 0] 26 ?_; intro gb265 hg w4 hbox hb; have BK265 := am hbox; have GW265 := qw hg; have GE265 := qw hg; have Nq2 := qn hg BK264; have Nq3 := qN hg BK264; replace BK264 := sqB BK264 hb; replace HB := qs hb; clear hb hbox hg))
 replace BK264 := am (blk_drew BK264.out)
 replace BK265 := am (blk_drew BK265.out)
 replace HB := am (below_drew1 HB.out)
 refine start_ (n := 9) (S := fun w' => w'.cell? ⟨gb264, 0, none⟩ = some (.int .i64 a0_0) ∧ w'.cell? ⟨gb264, 1, none⟩ = some (.int .i64 a0_1) ∧ w'.cell? ⟨gb264, 2, none⟩ = some (.slice A0_2 l0_2.length c0_2)) (ds := []) #[false, false, false, false, false, false, false, false, false] (by kernel_rfl) rfl rfl ⟨sqc BK264 0, sqc BK264 1, sqc BK264 2⟩ (fun hHeld => ?_); refine with_tabW spec_boOwn.tab1 spec_boOwn.bits1 (fun HT_ HW_ => ?_)
 generalize w4.drew = w5 at BK264 BK265 HB hHeld ⊢
 refine qp 0 (some 3) #[true, false, false, false, false, false, false, false, false] ?_
 refine qp 2 (some 5) #[true, false, true, false, false, false, false, false, false] ?_
 refine qp 4 (some 7) #[true, false, true, false, true, false, false, false, false] ?_
 refine take_ (i := 1) (N := some 4) (v := ?_) (a' := ?_) #[true, true, true, false, true, false, false, false, false] rfl rfl (take_ofW HT_.out HW_.out (by kernel_rfl)) (fun _ _ _ h => h) (Or.inl ⟨by rfl, ?_⟩) hHeld ?_ ?_
 rotate_left
 ·
  rintro w' ⟨s0, s1, s2⟩
  go_simp
  with_reducible rfl
 rotate_left
 ·
  simp only [Act.put, List.setIfInBounds_toArray, List.set_cons_zero, List.set_cons_succ, i64_w, i32_w]
  rfl
 refine take_ (i := 3) (N := some 6) (v := ?_) (a' := ?_) #[true, true, true, true, true, false, false, false, false] rfl rfl (take_ofW HT_.out HW_.out (by kernel_rfl)) (fun _ _ _ h => h) (Or.inl ⟨by rfl, ?_⟩) hHeld ?_ ?_
 rotate_left
 ·
  rintro w' ⟨s0, s1, s2⟩
  go_simp
  with_reducible rfl
 rotate_left
 ·
  simp only [Act.put, List.setIfInBounds_toArray, List.set_cons_zero, List.set_cons_succ, i64_w, i32_w]
  rfl
 refine take_ (i := 5) (N := some 8) (v := ?_) (a' := ?_) #[true, true, true, true, true, true, false, false, false] rfl rfl (take_ofW HT_.out HW_.out (by kernel_rfl)) (fun _ _ _ h => h) (Or.inl ⟨by rfl, ?_⟩) hHeld ?_ ?_
 rotate_left
 ·
  rintro w' ⟨s0, s1, s2⟩
  go_simp
  with_reducible rfl
 rotate_left
 ·
  simp only [Act.put, List.setIfInBounds_toArray, List.set_cons_zero, List.set_cons_succ, i64_w, i32_w]
  rfl
 refine one_ (i := 6) (N := some 9) #[true, true, true, true, true, true, true, false, false] rfl rfl (one_of HT_.out (by kernel_rfl)) (by decide) fun K hK => ?_
 refine qG Try.func77 #[.slice A0_2 l0_2.length c0_2] ?_
 with_reducible refine (spec_l1Own.calls _ _ l0_2 t266 _ ?side1 ?side2 A2.out).mono ?_
 (case side1 => exact Q0)
 (case side2 => exact HC0_2.out)
 rintro e w6 ⟨v267, rfl, ho0, hb⟩
 refine ⟨_, rfl, ?_⟩
 have Oq2 := ql ho0
 replace BK264 := sqB BK264 hb
 replace BK265 := sqB BK265 hb
 replace HB := qs hb
 (try clear hb ho0)
 obtain ⟨Ao7, co7, eo7⟩ := Kd.R_slice Oq2.out
 (first | subst eo7 | (injection eo7 with f1_ f2_ f3_; have f4_ := f1_.symm; have f5_ := f3_.symm; clear f1_ f2_ f3_; subst f4_; subst f5_))
 refine hK.out _ _ ⟨sqc BK264 0, sqc BK264 1, sqc BK264 2⟩ (fun hHeld => ?_)
 clear hK K
 refine qq (some 9) ?_
 refine qp 7 (some 10) #[true, true, true, true, true, true, true, true, false] ?_
 refine one_ (i := 8) (N := none) #[true, true, true, true, true, true, true, true, true] rfl rfl (one_of HT_.out (by kernel_rfl)) (by decide) fun K hK => ?_
 have hs8 : w6.cell? ⟨gb265, 0, none⟩ = some (.int .i64 0) := sqc BK265 0
 have hfs8 := blk_frozen BK265.out 0
 have hq1 := Nq2.out
 have hms8_0 := Nq3.out
 have hs9 : w6.cell? ⟨gb265, 1, none⟩ = some (.int .i64 0) := sqc BK265 1
 have hfs9 := blk_frozen BK265.out 1
 have hq2 := Nq2.out
 have hms9_0 := Nq3.out
 have hs10 : w6.cell? ⟨gb265, 2, none⟩ = some (.slice none 0 0) := sqc BK265 2
 have hfs10 := blk_frozen BK265.out 2
 have hq0 := Nq2.out
 have hms10_0 := Nq3.out
 refine skip_ (w1 := ?_) (by rfl) rfl ?_ ?_
 rotate_left
 ·
  go_simp
  rfl
 refine hK.out _ _ ⟨((cell_far (p := ⟨gb265, _, none⟩) Nq2.out _).trans (((cell_far (p := ⟨gb265, _, none⟩) Nq2.out _).trans (((cell_far (p := ⟨gb265, _, none⟩) Nq2.out _).trans (hHeld.1)))))), ((cell_far (p := ⟨gb265, _, none⟩) Nq2.out _).trans (((cell_far (p := ⟨gb265, _, none⟩) Nq2.out _).trans (((cell_far (p := ⟨gb265, _, none⟩) Nq2.out _).trans (hHeld.2.1)))))), ((cell_far (p := ⟨gb265, _, none⟩) Nq2.out _).trans (((cell_far (p := ⟨gb265, _, none⟩) Nq2.out _).trans (((cell_far (p := ⟨gb265, _, none⟩) Nq2.out _).trans (hHeld.2.2))))))⟩ (fun hHeld => ?_)
 clear hK K
 refine done_ (done_of HT_.out (by kernel_rfl)) ?_
 try go_wp2
 refine bodyPost_ret (results_cell_row rfl _ _ gb265 26 #[.int .i64 a0_0, .int .i64 a0_1, .slice Ao7 t266.length co7] (0, 0) _ rfl (by (with_reducible repeat (first | refine blk_drewN ?_ _ | refine blk_drew ?_ | refine blk_alloc ?_ _)); refine blk_put (cs := #[.int .i64 a0_0, .int .i64 a0_1, .slice none 0 0]) ?_ 2 _ rfl; (with_reducible repeat (first | refine blk_drewN ?_ _ | refine blk_drew ?_ | refine blk_alloc ?_ _)); refine blk_put (cs := #[.int .i64 a0_0, .int .i64 0, .slice none 0 0]) ?_ 1 _ rfl; (with_reducible repeat (first | refine blk_drewN ?_ _ | refine blk_drew ?_ | refine blk_alloc ?_ _)); refine blk_put (cs := #[.int .i64 0, .int .i64 0, .slice none 0 0]) ?_ 0 _ rfl; (with_reducible repeat (first | refine blk_drewN ?_ _ | refine blk_drew ?_ | refine blk_alloc ?_ _)); exact BK265.out) Try.underlying26 rfl (by kernel_rfl)) rfl ?_
 exact ⟨_, Q1, by (with_reducible repeat (first | apply Kd.R_alloc | apply Kd.R_drewN | apply Kd.R_drew)); exact Kd.R_mono (Kd.R_far (p := ⟨gb265, 2, none⟩) (Kd.R_far (p := ⟨gb265, 1, none⟩) (Kd.R_far (p := ⟨gb265, 0, none⟩) (Kd.R_types Oq2.out BK265.out (by decide)) (fun _ hk => hk.2) (.int .i64 a0_0)) (fun _ hk => hk.2) (.int .i64 a0_1)) (fun _ hk => hk.2) (.slice Ao7 t266.length co7)) (fun _ hk => trivial), qb⟩

/-! ### spec_UnionOf: function 9 -/
def spec_UnionOf.l0 : Nat → Int → Int → Int → Int → List Int → Int → Int → List Int → Option (Int × Int × List Int × Bool)
 | 0, _, _, _, _, _, _, _, _ => none
 | k + 1, x17, x18, x271000, x271001, x271002, x279000, x279001, x279002 => if x18 < x17 then (if 0 ≤ x18 then (if x18 < (x279002.length : Int) then (if x18 < (x271002.length : Int) then (spec_UnionOf.l0 k x17 (wrap64 (x18 + 1)) x271000 x271001 x271002 x279000 x279001 (x279002.set (x18 : Int).toNat (Go.bits .or .i64 (rd x279002 x18) (rd x271002 x18)))) else (none)) else (none)) else (none)) else (some (x279000, x279001, x279002, true))
def spec_UnionOf.f (k : Nat) (a0_0 : Int) (a0_1 : Int) (l0_2 : List Int) (a1_0 : Int) (a1_1 : Int) (l1_2 : List Int) : Option (Int × Int × List Int × Bool) := (spec_boFit.f k a0_0 a0_1 l0_2 a1_0 a1_1 l1_2).bind fun t272 => (if t272 = true then ((spec_boOwn.f a0_0 a0_1 l0_2).bind fun bt273 => (spec_UnionOf.l0 k (bt273.2.2.length : Int) 0 a1_0 a1_1 l1_2 bt273.1 bt273.2.1 bt273.2.2)) else (some (0, 0, ([] : List Int), false)))
def spec_UnionOf.T7 : Bool × List (List Nat × List Nat) := (true, [([], []), ([0], [0]), ([], []), ([1, 2], [1, 2]), ([3], [3]), ([], []), ([5], [5]), ([], []), ([6, 7], [6, 7]), ([8], [8]), ([4, 9], [4, 9]), ([1, 2, 0, 1, 2, 3, 4, 5, 6, 7, 8, 9, 10], [1, 2]), ([11, 10, 0, 1, 2, 3, 4, 5, 6, 7, 8, 9, 10], [10, 11])])
def spec_UnionOf.B7 : List Nat := [0, 1, 0, 7, 15, 0, 32, 0, 224, 480, 1023, 2047, 4095]
theorem spec_UnionOf.tab7 : rtab .any (opsOf Try.f9 7) = spec_UnionOf.T7 := by kernel_rfl
theorem spec_UnionOf.bits7 : waitsOk spec_UnionOf.T7.2 spec_UnionOf.B7 = true := by kernel_rfl
set_option maxHeartbeats 8000000 in
set_option maxRecDepth 100000 in
theorem spec_UnionOf.calls (k : Nat) (a0_0 : Int) (a0_1 : Int) (A0_2 : Option Addr) (c0_2 : Nat) (l0_2 : List Int) (a1_0 : Int) (a1_1 : Int) (A1_2 : Option Addr) (c1_2 : Nat) (l1_2 : List Int) (r1 : Int) (r2 : Int) (r3 : List Int) (r4 : Bool) (w : World) (hr0_2 : Kd.C (Kd.int .i64) w A0_2 l0_2.length l0_2) (hc0_2 : l0_2.length ≤ c0_2) (hr1_2 : Kd.C (Kd.int .i64) w A1_2 l1_2.length l1_2) (hc1_2 : l1_2.length ≤ c1_2) (h : spec_UnionOf.f k a0_0 a0_1 l0_2 a1_0 a1_1 l1_2 = some (r1, r2, r3, r4)) :
  Calls Try.prog 9 #[.agg #[.int .i64 a0_0, .int .i64 a0_1, .slice A0_2 l0_2.length c0_2], .agg #[.int .i64 a1_0, .int .i64 a1_1, .slice A1_2 l1_2.length c1_2]] w fun e w' => ∃ v2_ : Value, e = .returned (.tuple #[.agg #[.int .i64 r1, .int .i64 r2, v2_], .bool r4]) ∧ Kd.R (Kd.int .i64) 3 w' w.heap.size (fun _ => True) v2_ r3 ∧ Below w.heap.size w w' := by
 have hu26 := Try.underlying26
 have HR0_2 := Aside0.mk hr0_2
 have HC0_2 := Aside0.mk hc0_2
 clear hr0_2 hc0_2
 have HR1_2 := Aside0.mk hr1_2
 have HC1_2 := Aside0.mk hc1_2
 clear hr1_2 hc1_2
 have HB := am (Below.refl w.heap.size w)
 have H : ((spec_boFit.f k a0_0 a0_1 l0_2 a1_0 a1_1 l1_2).bind fun t272 => (if t272 = true then ((spec_boOwn.f a0_0 a0_1 l0_2).bind fun bt273 => (spec_UnionOf.l0 k (bt273.2.2.length : Int) 0 a1_0 a1_1 l1_2 bt273.1 bt273.2.1 bt273.2.2)) else (some (0, 0, ([] : List Int), false)))) = some (r1, r2, r3, r4) := h
 clear h
 replace H := qE H
 obtain ⟨t272, A3, H⟩ := H
 replace H : (if t272 = true then ((spec_boOwn.f a0_0 a0_1 l0_2).bind fun bt273 => (spec_UnionOf.l0 k (bt273.2.2.length : Int) 0 a1_0 a1_1 l1_2 bt273.1 bt273.2.1 bt273.2.2)) else (some (0, 0, ([] : List Int), false))) = some (r1, r2, r3, r4) := H
 by_cases c4 : t272 = true
 ·
  subst c4
  have H1 : ((spec_boOwn.f a0_0 a0_1 l0_2).bind fun bt273 => (spec_UnionOf.l0 k (bt273.2.2.length : Int) 0 a1_0 a1_1 l1_2 bt273.1 bt273.2.1 bt273.2.2)) = some (r1, r2, r3, r4) := by first | (rw [if_pos rfl] at H; exact H) | rfl
  clear H
  have H := H1
  clear H1
  replace H := qE H
  obtain ⟨⟨t273, t274, t275⟩, A5, H⟩ := H
  replace H : (spec_UnionOf.l0 k (t275.length : Int) 0 a1_0 a1_1 l1_2 t273 t274 t275) = some (r1, r2, r3, r4) := H
  have H' := Aside0.mk H
  clear H
  go_enter Try.func9, Try.ntmps9
  go_wp2_with (first | ((with_reducible refine gate_dst (N := 2) rfl ?_); refine qv 2 #[.int .i64 a0_0, .int .i64 a0_1, .slice A0_2 l0_2.length c0_2] 26 ?_; intro gb269 hg w6 hbox hb; have BK269 := am hbox; have GW269 := qw hg; have GE269 := qw hg; replace HB := qs hb; clear hb hbox hg) | ((with_reducible refine gate_dst (N := 3) rfl ?_); refine qv 3 #[.int .i64 a1_0, .int .i64 a1_1, .slice A1_2 l1_2.length c1_2] 26 ?_; intro gb270 hg w7 hbox hb; have BK270 := am hbox; have GW270 := qw hg; have GE270 := qw hg; have Nq4 := qn hg BK269; have Nq7 := qN hg BK269; replace BK269 := sqB BK269 hb; replace HB := qs hb; clear hb hbox hg) | ((with_reducible refine gate_dst (N := 4) rfl ?_); refine qv 4 #[.int .i64 0, .int .i64 0, .slice none 0 0] 26 ?_; intro gb271 hg w8 hbox hb; have BK271 := am hbox; have GW271 := qw hg; have GE271 := qw hg; have Nq5 := qn hg BK269; have Nq10 := qN hg BK269; have Nq8 := qn hg BK270; have Nq11 := qN hg BK270; replace BK269 := sqB BK269 hb; replace BK270 := sqB BK270 hb; replace HB := qs hb; clear hb hbox hg; have bq14 := Nq4.out; have cq14 := Nq7.out; have bq0 := Nq5.out; have cq0 := Nq10.out; obtain ⟨zq0, zq1, zq2, fq0, fq1, fq2⟩ := qd BK269; have bq1 := Nq8.out; have cq1 := Nq11.out; obtain ⟨zq3, zq4, zq5, fq3, fq4, fq5⟩ := qd BK270) | ((with_reducible refine gate_callee (f := 57) rfl ?_); refine qg (some 10) Try.func57 #[.agg #[.int .i64 a0_0, .int .i64 a0_1, .slice A0_2 l0_2.length c0_2], .agg #[.int .i64 a1_0, .int .i64 a1_1, .slice A1_2 l1_2.length c1_2]] ?_; (with_reducible refine (spec_boFit.calls k a0_0 a0_1 _ _ l0_2 a1_0 a1_1 _ _ l1_2 true _ ?side1 HC0_2.out ?side3 HC1_2.out A3.out).mono ?_); (case side1 => exact Q0); (case side3 => exact Q6); rintro e w14 ⟨rfl, hb⟩; refine ⟨_, rfl, ?_⟩; replace BK269 := sqB BK269 hb; replace BK270 := sqB BK270 hb; replace BK271 := sqB BK271 hb; replace HB := qs hb; (try clear hb); obtain ⟨zq6, zq7, zq8, fq6, fq7, fq8⟩ := qd BK269) | ((with_reducible refine gate_callee (f := 58) rfl ?_); refine qg (some 14) Try.func58 #[.agg #[.int .i64 a0_0, .int .i64 a0_1, .slice A0_2 l0_2.length c0_2]] ?_; (with_reducible refine (spec_boOwn.calls a0_0 a0_1 _ _ l0_2 t273 t274 t275 _ ?side1 HC0_2.out A5.out).mono ?_); (case side1 => exact Q0); rintro e w16 ⟨v276, rfl, ho0, hb⟩; refine ⟨_, rfl, ?_⟩; have Oq3 := ql ho0; replace BK269 := sqB BK269 hb; replace BK270 := sqB BK270 hb; replace BK271 := sqB BK271 hb; replace HB := qs hb; (try clear hb ho0)) | ((with_reducible refine gate_dst (N := 6) rfl ?_); refine qv 6 #[.int .i64 0, .int .i64 0, .slice none 0 0] 26 ?_; intro gb278 hg w17 hbox hb; have BK278 := am hbox; have GW278 := qw hg; have GE278 := qw hg; have Nq6 := qn hg BK269; have Nq13 := qN hg BK269; have Nq9 := qn hg BK270; have Nq14 := qN hg BK270; have Nq12 := qn hg BK271; have Nq15 := qN hg BK271; replace Oq3 := sqR Oq3 hb; replace BK269 := sqB BK269 hb; replace BK270 := sqB BK270 hb; replace BK271 := sqB BK271 hb; replace HB := qs hb; clear hb hbox hg; have bq2 := Nq13.out; have cq2 := Nq6.out; have bq3 := Nq14.out; have cq3 := Nq9.out; have bq4 := Nq15.out; have cq4 := Nq12.out; obtain ⟨zq15, zq16, zq17, fq15, fq16, fq17⟩ := qd BK278; obtain ⟨Ao22, co22, eo22⟩ := Kd.R_slice Oq3.out; subst eo22))
  go_loopg [18] k (fun kq v18 w' => ∃ (x18_1 : Int) (x279002_1 : List Int) (u279002 : Value), v18 = .int .i64 x18_1 ∧ Aside0 (spec_UnionOf.l0 kq (t275.length : Int) x18_1 a1_0 a1_1 l1_2 t273 t274 x279002_1 = some (r1, r2, r3, r4)) ∧ Aside0 (kq ≤ k) ∧ Aside0 (Kd.R (Kd.int .i64) 3 w' w.heap.size (fun _ => True) u279002 x279002_1) ∧ Aside0 (w'.heap[gb269]? = some (.cells #[.int .i64 a0_0, .int .i64 a0_1, (.slice A0_2 l0_2.length c0_2)] 26 (0, 0))) ∧ Aside0 (w'.heap[gb270]? = some (.cells #[.int .i64 a1_0, .int .i64 a1_1, (.slice A1_2 l1_2.length c1_2)] 26 (0, 0))) ∧ Aside0 (w'.heap[gb271]? = some (.cells #[.int .i64 0, .int .i64 0, (.slice none 0 0)] 26 (0, 0))) ∧ Aside0 (w'.heap[gb278]? = some (.cells #[.int .i64 t273, .int .i64 t274, u279002] 26 (0, 0))) ∧ Aside0 (Below w.heap.size w w'))
  case atStart => exact ⟨(0), (t275), (.slice Ao22 t275.length co22), Q3, H', ⟨Nat.le_refl _⟩, ⟨by (with_reducible repeat (first | apply Kd.R_alloc | apply Kd.R_drewN | apply Kd.R_drew)); exact Kd.R_mono (Kd.R_far (p := ⟨gb278, 2, none⟩) (Kd.R_far (p := ⟨gb278, 1, none⟩) (Kd.R_far (p := ⟨gb278, 0, none⟩) (Kd.R_types Oq3.out BK278.out (by decide)) (fun _ hk => hk.2) (.int .i64 t273)) (fun _ hk => hk.2) (.int .i64 t274)) (fun _ hk => hk.2) (.slice Ao22 t275.length co22)) (fun _ hk => trivial)⟩, ⟨by (with_reducible repeat (first | refine blk_drewN ?_ _ | refine blk_drew ?_ | refine blk_alloc ?_ _)); refine blk_far ?_ Nq6.out _; (with_reducible repeat (first | refine blk_drewN ?_ _ | refine blk_drew ?_ | refine blk_alloc ?_ _)); refine blk_far ?_ Nq6.out _; (with_reducible repeat (first | refine blk_drewN ?_ _ | refine blk_drew ?_ | refine blk_alloc ?_ _)); refine blk_far ?_ Nq6.out _; (with_reducible repeat (first | refine blk_drewN ?_ _ | refine blk_drew ?_ | refine blk_alloc ?_ _)); exact BK269.out⟩, ⟨by (with_reducible repeat (first | refine blk_drewN ?_ _ | refine blk_drew ?_ | refine blk_alloc ?_ _)); refine blk_far ?_ Nq9.out _; (with_reducible repeat (first | refine blk_drewN ?_ _ | refine blk_drew ?_ | refine blk_alloc ?_ _)); refine blk_far ?_ Nq9.out _; (with_reducible repeat (first | refine blk_drewN ?_ _ | refine blk_drew ?_ | refine blk_alloc ?_ _)); refine blk_far ?_ Nq9.out _; (with_reducible repeat (first | refine blk_drewN ?_ _ | refine blk_drew ?_ | refine blk_alloc ?_ _)); exact BK270.out⟩, ⟨by (with_reducible repeat (first | refine blk_drewN ?_ _ | refine blk_drew ?_ | refine blk_alloc ?_ _)); refine blk_far ?_ Nq12.out _; (with_reducible repeat (first | refine blk_drewN ?_ _ | refine blk_drew ?_ | refine blk_alloc ?_ _)); refine blk_far ?_ Nq12.out _; (with_reducible repeat (first | refine blk_drewN ?_ _ | refine blk_drew ?_ | refine blk_alloc ?_ _)); refine blk_far ?_ Nq12.out _; (with_reducible repeat (first | refine blk_drewN ?_ _ | refine blk_drew ?_ | refine blk_alloc ?_ _)); exact BK271.out⟩, ⟨by (with_reducible repeat (first | refine blk_drewN ?_ _ | refine blk_drew ?_ | refine blk_alloc ?_ _)); refine blk_put (cs := #[.int .i64 t273, .int .i64 t274, .slice none 0 0]) ?_ 2 _ rfl; (with_reducible repeat (first | refine blk_drewN ?_ _ | refine blk_drew ?_ | refine blk_alloc ?_ _)); refine blk_put (cs := #[.int .i64 t273, .int .i64 0, .slice none 0 0]) ?_ 1 _ rfl; (with_reducible repeat (first | refine blk_drewN ?_ _ | refine blk_drew ?_ | refine blk_alloc ?_ _)); refine blk_put (cs := #[.int .i64 0, .int .i64 0, .slice none 0 0]) ?_ 0 _ rfl; (with_reducible repeat (first | refine blk_drewN ?_ _ | refine blk_drew ?_ | refine blk_alloc ?_ _)); exact BK278.out⟩, ⟨qb⟩⟩
  case round =>
   clear H'
   try clear c4; try clear zq0; try clear zq1; try clear zq2; try clear zq3; try clear zq4; try clear zq5; try clear zq6; try clear zq7; try clear zq8; try clear zq15; try clear zq16; try clear zq17; try clear fq0; try clear fq1; try clear fq2; try clear fq3; try clear fq4; try clear fq5; try clear fq6; try clear fq7; try clear fq8; try clear fq15; try clear fq16; try clear fq17
   obtain ⟨x18_1, x279002_1, u279002, rfl, HA, HK1, Oq6, BK269, BK270, BK271, BK278, HB⟩ := hrel
   cases gk with
   | zero => exact absurd HA.out (by simp [spec_UnionOf.l0])
   | succ k1 =>
    have H := HA.out
    clear HA
    simp only [spec_UnionOf.l0] at H
    by_cases c23 : x18_1 < (t275.length : Int)
    ·
     rw [if_pos c23] at H
     have c23b0 : decide (x18_1 < (t275.length : Int)) = true := decide_eq_true c23
     clear c23
     by_cases c24 : 0 ≤ x18_1
     ·
      rw [if_pos c24] at H
      have c24b0 : decide (0 ≤ x18_1) = true := decide_eq_true c24
      clear c24
      by_cases c25 : x18_1 < (x279002_1.length : Int)
      ·
       rw [if_pos c25] at H
       have c25b0 : decide (x18_1 < (x279002_1.length : Int)) = true := decide_eq_true c25
       clear c25
       by_cases c26 : x18_1 < (l1_2.length : Int)
       ·
        rw [if_pos c26] at H
        have c26b0 : decide (x18_1 < (l1_2.length : Int)) = true := decide_eq_true c26
        clear c26
        obtain ⟨y281, hy_⟩ : ∃ y_ : List Int, y_ = ((x279002_1.set (x18_1 : Int).toNat (Go.bits .or .i64 (rd x279002_1 x18_1) (rd l1_2 x18_1)))) := ⟨_, rfl⟩
        replace H : (spec_UnionOf.l0 k1 (t275.length : Int) (wrap64 (x18_1 + 1)) a1_0 a1_1 l1_2 t273 t274 y281) = some (r1, r2, r3, r4) := qH
        have Ny281 := Aside0.mk hy_
        clear hy_
        have H' := Aside0.mk H
        clear H
        try go_wp2
        replace Oq6 := am (Kd.R_drew Oq6.out)
        replace BK269 := am (blk_drew BK269.out)
        replace BK270 := am (blk_drew BK270.out)
        replace BK271 := am (blk_drew BK271.out)
        replace BK278 := am (blk_drew BK278.out)
        replace HB := am (below_drew1 HB.out)
        obtain ⟨Ao29, co29, eo29⟩ := Kd.R_slice Oq6.out
        (first | subst eo29 | (injection eo29 with f1_ f2_ f3_; have f4_ := f1_.symm; have f5_ := f3_.symm; clear f1_ f2_ f3_; subst f4_; subst f5_))
        have p279 : 0 ≤ (x18_1 : Int) := of_decide_eq_true Q2
        have q279 : x18_1 < (x279002_1.length : Int) := of_decide_eq_true Q2
        obtain ⟨ad279, e279, hx279_0⟩ := Kd.at_int (Kd.R_reads' Oq6.out).2.2 x18_1 p279 q279
        cases e279
        replace p279 := eq_true p279
        replace q279 := eq_true q279
        have p280 : 0 ≤ (x18_1 : Int) := of_decide_eq_true Q2
        have q280 : x18_1 < (l1_2.length : Int) := of_decide_eq_true Q2
        obtain ⟨ad280, e280, hx280_0⟩ := Kd.at_int HR1_2.out x18_1 p280 q280
        have hw280_0 := hx280_0
        cases e280
        replace hx280_0 := (HB.out.cell (World.block_lt_of_cell? w _ hx280_0)).trans hx280_0
        replace p280 := eq_true p280
        replace q280 := eq_true q280
        have p27 : 0 ≤ (x18_1 : Int) := of_decide_eq_true Q2
        have q27 : (x18_1 : Int) < ((x279002_1.length : Int) : Int) := of_decide_eq_true Q2
        obtain ⟨go27, co27, eo27, gb27, gl27, cl27, HG27⟩ := Kd.R_form Oq6.out (by omega)
        (first | cases eo27 | (injection eo27 with ea_ en_ ec_; (first | subst ea_ | (injection ea_ with ea_; subst ea_)); subst ec_; clear en_))
        have GB27 := Aside0.mk gb27
        have GG27 := Aside0.mk HG27
        clear gb27 gl27 HG27
        (first | simp only [add_plain] at hx279_0 | skip)
        obtain ⟨hx27_0, hf27_0⟩ := Kd.R_celln 0 Oq6.out (x18_1 : Int) p27 q27
        replace p27 := eq_true p27
        replace q27 := eq_true q27
        have HP30 := Kd.R_putn Oq6.out (x18_1 : Int) (Go.bits .or .i64 (rd x279002_1 x18_1) (rd l1_2 x18_1))
        rw [← Ny281.out] at HP30
        have HQ30 := Aside0.mk HP30
        clear HP30
        refine start_ (n := 13) (S := fun w' => w'.cell? ⟨gb278, 0, none⟩ = some (.int .i64 t273) ∧ w'.cell? ⟨gb278, 1, none⟩ = some (.int .i64 t274) ∧ w'.cell? ⟨gb278, 2, none⟩ = some (.slice (some ⟨go27, 0, none⟩) x279002_1.length co29) ∧ w'.cell? ⟨gb270, 0, none⟩ = some (.int .i64 a1_0) ∧ w'.cell? ⟨gb270, 1, none⟩ = some (.int .i64 a1_1) ∧ w'.cell? ⟨gb270, 2, none⟩ = some (.slice (some ad280) l1_2.length c1_2) ∧ w'.cell? ⟨go27, (x18_1).toNat, none⟩ = some (.int .i64 (rd x279002_1 x18_1)) ∧ w'.cell? (ad280.add (x18_1).toNat) = some (.int .i64 (rd l1_2 x18_1))) (ds := [12]) #[false, false, false, false, false, false, false, false, false, false, false, false, false] (by kernel_rfl) rfl rfl ⟨sqc BK278 0, sqc BK278 1, sqc BK278 2, sqc BK270 0, sqc BK270 1, sqc BK270 2, hx279_0, ((HB.out.cell (World.block_lt_of_cell? w _ hw280_0)).trans hw280_0)⟩ (fun hHeld => ?_); refine with_tabW spec_UnionOf.tab7 spec_UnionOf.bits7 (fun HT_ HW_ => ?_)
        generalize wr.drew = w28 at Oq6 BK269 BK270 BK271 BK278 HB GG27 HQ30 hf27_0 hx279_0 hx27_0 hx280_0 hHeld ⊢
        refine qp 0 (some 21) #[true, false, false, false, false, false, false, false, false, false, false, false, false] ?_
        refine qp 2 (some 23) #[true, false, true, false, false, false, false, false, false, false, false, false, false] ?_
        refine qp 5 (some 26) #[true, false, true, false, false, true, false, false, false, false, false, false, false] ?_
        refine qp 7 (some 28) #[true, false, true, false, false, true, false, true, false, false, false, false, false] ?_
        refine take_ (i := 1) (N := some 22) (v := ?_) (a' := ?_) #[true, true, true, false, false, true, false, true, false, false, false, false, false] rfl rfl (take_ofW HT_.out HW_.out (by kernel_rfl)) (fun _ _ _ h => h) (Or.inl ⟨by rfl, ?_⟩) hHeld ?_ ?_
        rotate_left
        ·
         rintro w' ⟨s0, s1, s2, s3, s4, s5, s6, s7⟩
         go_simp
         with_reducible rfl
        rotate_left
        ·
         simp only [Act.put, List.setIfInBounds_toArray, List.set_cons_zero, List.set_cons_succ, i64_w, i32_w]
         rfl
        refine qp 3 (some 24) #[true, true, true, true, false, true, false, true, false, false, false, false, false] ?_
        refine take_ (i := 4) (N := some 25) (v := ?_) (a' := ?_) #[true, true, true, true, true, true, false, true, false, false, false, false, false] rfl rfl (take_ofW HT_.out HW_.out (by kernel_rfl)) (fun _ _ _ h => h) (Or.inl ⟨by rfl, ?_⟩) hHeld ?_ ?_
        rotate_left
        ·
         rintro w' ⟨s0, s1, s2, s3, s4, s5, s6, s7⟩
         go_simp
         with_reducible rfl
        rotate_left
        ·
         simp only [Act.put, List.setIfInBounds_toArray, List.set_cons_zero, List.set_cons_succ, i64_w, i32_w]
         rfl
        refine take_ (i := 6) (N := some 27) (v := ?_) (a' := ?_) #[true, true, true, true, true, true, true, true, false, false, false, false, false] rfl rfl (take_ofW HT_.out HW_.out (by kernel_rfl)) (fun _ _ _ h => h) (Or.inl ⟨by rfl, ?_⟩) hHeld ?_ ?_
        rotate_left
        ·
         rintro w' ⟨s0, s1, s2, s3, s4, s5, s6, s7⟩
         go_simp
         with_reducible rfl
        rotate_left
        ·
         simp only [Act.put, List.setIfInBounds_toArray, List.set_cons_zero, List.set_cons_succ, i64_w, i32_w]
         rfl
        refine qp 8 (some 29) #[true, true, true, true, true, true, true, true, true, false, false, false, false] ?_
        refine take_ (i := 9) (N := some 30) (v := ?_) (a' := ?_) #[true, true, true, true, true, true, true, true, true, true, false, false, false] rfl rfl (take_ofW HT_.out HW_.out (by kernel_rfl)) (fun _ _ _ h => h) (Or.inl ⟨by rfl, ?_⟩) hHeld ?_ ?_
        rotate_left
        ·
         rintro w' ⟨s0, s1, s2, s3, s4, s5, s6, s7⟩
         go_simp
         with_reducible rfl
        rotate_left
        ·
         simp only [Act.put, List.setIfInBounds_toArray, List.set_cons_zero, List.set_cons_succ, i64_w, i32_w]
         rfl
        refine qp 10 (some 31) #[true, true, true, true, true, true, true, true, true, true, true, false, false] ?_
        refine qp 11 (some 32) #[true, true, true, true, true, true, true, true, true, true, true, true, false] ?_
        refine last_ (i := 12) (N := none) #[true, true, true, true, true, true, true, true, true, true, true, true, true] rfl rfl (one_of HT_.out (by kernel_rfl)) (by decide) fun K hK => ?_
        refine skip_ (w1 := ?_) (by rfl) rfl ?_ ?_
        rotate_left
        ·
         go_simp
         rfl
        refine hK.out _ _ ?_
        clear hK K
        refine done_ (done_of HT_.out (by kernel_rfl)) ?_
        try go_wp2
        go_roundg k1
        case measure => have := HK1.out; omega
        case rel => exact ⟨(wrap64 (x18_1 + 1)), (y281), (.slice (some ⟨go27, 0, none⟩) x279002_1.length co29), Q3, H', ⟨Q55⟩, ⟨by (with_reducible repeat (first | apply Kd.R_alloc | apply Kd.R_drewN | apply Kd.R_drew)); exact HQ30.out⟩, ⟨by (with_reducible repeat (first | refine blk_drewN ?_ _ | refine blk_drew ?_ | refine blk_alloc ?_ _)); refine blk_far ?_ (by have h_ := Kd.R_ne Oq6.out BK269.out (by decide); intro e_; exact h_ (by rw [e_]; rfl)) _; (with_reducible repeat (first | refine blk_drewN ?_ _ | refine blk_drew ?_ | refine blk_alloc ?_ _)); exact BK269.out⟩, ⟨by (with_reducible repeat (first | refine blk_drewN ?_ _ | refine blk_drew ?_ | refine blk_alloc ?_ _)); refine blk_far ?_ (by have h_ := Kd.R_ne Oq6.out BK270.out (by decide); intro e_; exact h_ (by rw [e_]; rfl)) _; (with_reducible repeat (first | refine blk_drewN ?_ _ | refine blk_drew ?_ | refine blk_alloc ?_ _)); exact BK270.out⟩, ⟨by (with_reducible repeat (first | refine blk_drewN ?_ _ | refine blk_drew ?_ | refine blk_alloc ?_ _)); refine blk_far ?_ (by have h_ := Kd.R_ne Oq6.out BK271.out (by decide); intro e_; exact h_ (by rw [e_]; rfl)) _; (with_reducible repeat (first | refine blk_drewN ?_ _ | refine blk_drew ?_ | refine blk_alloc ?_ _)); exact BK271.out⟩, ⟨by (with_reducible repeat (first | refine blk_drewN ?_ _ | refine blk_drew ?_ | refine blk_alloc ?_ _)); refine blk_far ?_ (by have h_ := Kd.R_ne Oq6.out BK278.out (by decide); intro e_; exact h_ (by rw [e_]; rfl)) _; (with_reducible repeat (first | refine blk_drewN ?_ _ | refine blk_drew ?_ | refine blk_alloc ?_ _)); exact BK278.out⟩, ⟨by repeat (first | (with_reducible first | exact HB.out | apply below_alloc | apply pw_below_drewN | apply below_drew1 | refine below_set ?_ GB27.out | refine below_set ?_ GE269.out | refine below_set ?_ GE270.out | refine below_set ?_ GE271.out | refine below_set ?_ GE278.out) | exact HB.out)⟩⟩
       ·
        rw [if_neg c26] at H
        exact absurd H (by simp)
      ·
       rw [if_neg c25] at H
       exact absurd H (by simp)
     ·
      rw [if_neg c24] at H
      exact absurd H (by simp)
    ·
     rw [if_neg c23] at H
     have c23b0 : decide (x18_1 < (t275.length : Int)) = false := decide_eq_false c23
     clear c23
     simp only [Option.some.injEq, Prod.mk.injEq] at H
     obtain ⟨rfl, rfl, rfl, rfl⟩ := H
     have bq6 := Nq13.out
     have cq6 := Nq6.out
     have bq7 := Nq14.out
     have cq7 := Nq9.out
     have bq8 := Nq15.out
     have cq8 := Nq12.out
     obtain ⟨zq33, zq34, zq35, fq33, fq34, fq35⟩ := qd BK278
     have bq9 := Nq10.out
     have cq9 := Nq5.out
     have bq10 := Nq11.out
     have cq10 := Nq8.out
     obtain ⟨zq39, zq40, zq41, fq39, fq40, fq41⟩ := qd BK271
     obtain ⟨Ao38, co38, eo38⟩ := Kd.R_slice Oq6.out
     subst eo38
     go_wp2
     refine bodyPost_ret (results_ct rfl _ _ gb271 26 #[.int .i64 t273, .int .i64 t274, .slice Ao38 x279002_1.length co38] (0, 0) _ rfl (by (with_reducible repeat (first | refine blk_drewN ?_ _ | refine blk_drew ?_ | refine blk_alloc ?_ _)); refine blk_put (cs := #[.int .i64 t273, .int .i64 t274, .slice none 0 0]) ?_ 2 _ rfl; (with_reducible repeat (first | refine blk_drewN ?_ _ | refine blk_drew ?_ | refine blk_alloc ?_ _)); refine blk_put (cs := #[.int .i64 t273, .int .i64 0, .slice none 0 0]) ?_ 1 _ rfl; (with_reducible repeat (first | refine blk_drewN ?_ _ | refine blk_drew ?_ | refine blk_alloc ?_ _)); refine blk_put (cs := #[.int .i64 0, .int .i64 0, .slice none 0 0]) ?_ 0 _ rfl; (with_reducible repeat (first | refine blk_drewN ?_ _ | refine blk_drew ?_ | refine blk_alloc ?_ _)); exact BK271.out) Try.underlying26 rfl (by kernel_rfl)) rfl ?_
     exact ⟨_, Q1, by (with_reducible repeat (first | apply Kd.R_alloc | apply Kd.R_drewN | apply Kd.R_drew)); exact Kd.R_mono (Kd.R_far (p := ⟨gb271, 2, none⟩) (Kd.R_far (p := ⟨gb271, 1, none⟩) (Kd.R_far (p := ⟨gb271, 0, none⟩) (Kd.R_types Oq6.out BK271.out (by decide)) (fun _ hk => hk.2) (.int .i64 t273)) (fun _ hk => hk.2) (.int .i64 t274)) (fun _ hk => hk.2) (.slice Ao38 x279002_1.length co38)) (fun _ hk => trivial), qb⟩
 ·
  replace c4 := Bool.eq_false_iff.mpr c4
  subst c4
  have H1 : (some (0, 0, ([] : List Int), false)) = some (r1, r2, r3, r4) := by first | (rw [if_neg (show ¬ (false = true) by decide)] at H; exact H) | rfl
  clear H
  have H := H1
  clear H1
  simp only [Option.some.injEq, Prod.mk.injEq] at H
  obtain ⟨rfl, rfl, rfl, rfl⟩ := H
  go_enter Try.func9, Try.ntmps9
  go_wp2_with (first | ((with_reducible refine gate_dst (N := 2) rfl ?_); refine qv 2 #[.int .i64 a0_0, .int .i64 a0_1, .slice A0_2 l0_2.length c0_2] 26 ?_; intro gb269 hg w39 hbox hb; have BK269 := am hbox; have GW269 := qw hg; have GE269 := qw hg; replace HB := qs hb; clear hb hbox hg) | ((with_reducible refine gate_dst (N := 3) rfl ?_); refine qv 3 #[.int .i64 a1_0, .int .i64 a1_1, .slice A1_2 l1_2.length c1_2] 26 ?_; intro gb270 hg w40 hbox hb; have BK270 := am hbox; have GW270 := qw hg; have GE270 := qw hg; have Nq4 := qn hg BK269; have Nq7 := qN hg BK269; replace BK269 := sqB BK269 hb; replace HB := qs hb; clear hb hbox hg) | ((with_reducible refine gate_dst (N := 4) rfl ?_); refine qv 4 #[.int .i64 0, .int .i64 0, .slice none 0 0] 26 ?_; intro gb271 hg w41 hbox hb; have BK271 := am hbox; have GW271 := qw hg; have GE271 := qw hg; have Nq5 := qn hg BK269; have Nq10 := qN hg BK269; have Nq8 := qn hg BK270; have Nq11 := qN hg BK270; replace BK269 := sqB BK269 hb; replace BK270 := sqB BK270 hb; replace HB := qs hb; clear hb hbox hg; have bq11 := Nq4.out; have cq11 := Nq7.out; have bq12 := Nq5.out; have cq12 := Nq10.out; obtain ⟨zq42, zq43, zq44, fq42, fq43, fq44⟩ := qd BK269; have bq13 := Nq8.out; have cq13 := Nq11.out; obtain ⟨zq45, zq46, zq47, fq45, fq46, fq47⟩ := qd BK270) | ((with_reducible refine gate_callee (f := 57) rfl ?_); refine qg (some 10) Try.func57 #[.agg #[.int .i64 a0_0, .int .i64 a0_1, .slice A0_2 l0_2.length c0_2], .agg #[.int .i64 a1_0, .int .i64 a1_1, .slice A1_2 l1_2.length c1_2]] ?_; (with_reducible refine (spec_boFit.calls k a0_0 a0_1 _ _ l0_2 a1_0 a1_1 _ _ l1_2 false _ ?side1 HC0_2.out ?side3 HC1_2.out A3.out).mono ?_); (case side1 => exact Q0); (case side3 => exact Q6); rintro e w47 ⟨rfl, hb⟩; refine ⟨_, rfl, ?_⟩; replace BK269 := sqB BK269 hb; replace BK270 := sqB BK270 hb; replace BK271 := sqB BK271 hb; replace HB := qs hb; (try clear hb); obtain ⟨zq48, zq49, zq50, fq48, fq49, fq50⟩ := qd BK271))
  refine bodyPost_ret (results_ct rfl _ _ gb271 26 #[.int .i64 0, .int .i64 0, .slice none 0 0] (0, 0) _ rfl (by (with_reducible repeat (first | refine blk_drewN ?_ _ | refine blk_drew ?_ | refine blk_alloc ?_ _)); refine blk_put (cs := #[.int .i64 0, .int .i64 0, .slice none 0 0]) ?_ 2 _ rfl; (with_reducible repeat (first | refine blk_drewN ?_ _ | refine blk_drew ?_ | refine blk_alloc ?_ _)); refine blk_put (cs := #[.int .i64 0, .int .i64 0, .slice none 0 0]) ?_ 1 _ rfl; (with_reducible repeat (first | refine blk_drewN ?_ _ | refine blk_drew ?_ | refine blk_alloc ?_ _)); refine blk_put (cs := #[.int .i64 0, .int .i64 0, .slice none 0 0]) ?_ 0 _ rfl; (with_reducible repeat (first | refine blk_drewN ?_ _ | refine blk_drew ?_ | refine blk_alloc ?_ _)); exact BK271.out) Try.underlying26 rfl (by kernel_rfl)) rfl ?_
  exact ⟨_, Q1, Q11, qb⟩

end Go.Proofs.Ytllhofdgbpnkkaa.PFnBoardsJoined
