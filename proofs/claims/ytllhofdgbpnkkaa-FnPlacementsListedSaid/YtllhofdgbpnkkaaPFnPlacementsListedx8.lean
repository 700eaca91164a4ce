-- Printed for this claim by wip/pp.py over the kit's printer; Lean checks it.
import Derived.Test.YtllhofdgbpnkkaaPFnPlacementsListedx0
import Derived.Test.YtllhofdgbpnkkaaPFnPlacementsListedx1
import Derived.Test.YtllhofdgbpnkkaaPFnPlacementsListedx7
namespace Go.Proofs.Ytllhofdgbpnkkaa.PFnPlacementsListed
open Go.RowKit Go.Proofs.YtllhofdgbpnkkaaW.PrintWords Go.Proofs.YtllhofdgbpnkkaaW.PrintLast Go.Proofs.YtllhofdgbpnkkaaW.PrintMore
attribute [local go_sem] max2_int min2_int max_two min_two max_three min_three max_four min_four   -- for this text's walks alone
set_option linter.unusedVariables false
set_option linter.unusedSimpArgs false

/-! ### impl_Board_with: function 103 (by hand) -/
def impl_Board_with.f (a0_0 a0_1 : Int) (l0_2 : List Int) (a1 : Int) : Option (List (List Int)) := if 0 < a0_0 ∧ a0_0 ≤ 6 ∧ 0 ≤ a0_1 ∧ a0_1 ≤ 6 ∧ (l0_2.length : Int) = a0_0 then some ((plc a0_1.toNat l0_2 0 []).filter fun q => decide (cntR q = a1)) else none
-- (walk)
set_option maxHeartbeats 1000000 in
set_option maxRecDepth 4000 in
theorem wi_no {gv gk gq R cq : Nat} {k : Int} {q : List Int} {w : World} (hk : w.heap[gk]? = some (.cells #[.int .i64 k] 3 (0, 0)))
  (hq : Kd.C (Kd.int .i64) w (some ⟨gq, 0, none⟩) q.length q) (hqR : q.length = R) (hcq : q.length ≤ cq) (h6 : R ≤ 6) (hne : ¬ cntR q = k) :
  Calls Try.prog 132 #[.slice (some ⟨gq, 0, none⟩) R cq, .pointer (some ⟨gk, 0, none⟩), .pointer (some ⟨gv, 0, none⟩)] w fun e w2 => e = .returned (.bool true) ∧ Drawn0 w w2 := by
 subst hqR
 have c1 := blk_cell hk 0
 have hb := cntR_le q
 have hf : impl_rooks.f q = some (cntR q) := by unfold impl_rooks.f; rw [if_pos (by omega)]
 have hbq : (cntR q == k) = false := by simpa using hne
 have HQ := Aside0.mk hq
 have HF := Aside0.mk hf
 clear hq hf hk hne
 go_enter Try.func132, Try.ntmps132
 go_wp2
 go_region_with (go_at_call 107; (refine (impl_rooks.calls _ _ q (cntR q) _ ?side1 hcq HF.out).mono ?_); (case side1 => exact Q41); rintro e w' ⟨rfl, ⟨nd, rfl⟩⟩)
 all_goals (simp only [Exit.then]; go_wp2; go_ret; exact ⟨rfl, Q4⟩)
theorem wi_cl {gv n ql cc : Nat} {ok : Nat → Prop} {vout : Value} {out : List (List Int)} {q : List Int} {w0 w w9 : World} {Ac : Option Addr} (hv : w.heap[gv]? = some (.cells #[vout] 52 (0, 0)))
  (ho : Kd.S (Kd.slice 3 (Kd.int .i64)) 24 w w0.heap.size ok vout out) (HB : Below w0.heap.size w0 w) (hbase : w0.heap.size ≤ w.heap.size)
  (hoc : Kd.R (Kd.int .i64) 3 w9 (w.drewN n).heap.size (fun _ => True) (.slice Ac ql cc) q) (hb9 : Below (w.drewN n).heap.size (w.drewN n) w9) :
  w9.heap[gv]? = some (.cells #[vout] 52 (0, 0)) ∧ w.heap.size ≤ w9.heap.size ∧ Kd.S (Kd.slice 3 (Kd.int .i64)) 24 w9 w0.heap.size (fun k => ok k ∧ ¬ (w.heap.size ≤ k ∧ k < w9.heap.size)) vout out ∧ Below w0.heap.size w0 w9 ∧ (Kd.slice 3 (Kd.int .i64)).M w9 w0.heap.size (fun k => w.heap.size ≤ k ∧ k < w9.heap.size) q [.slice Ac ql cc] ∧ ∀ k, k < w.heap.size → w9.heap[k]? = w.heap[k]? :=
 ⟨blk_below (blk_drewN hv _) hb9, hb9.size, Kd.S_mono (Kd.S_old (Kd.S_drewN ho n) hb9) (fun k hk => ⟨hk.1, fun h => Nat.lt_irrefl _ (Nat.lt_of_lt_of_le hk.2 h.1)⟩), below_step (pw_below_drewN HB n) hb9, ⟨_, rfl, Kd.R_mono (Kd.R_lower (Kd.R_bound hoc) hbase) (fun k hk => ⟨hk.2.1, hk.2.2.1⟩)⟩, fun k hk => hb9.block k hk⟩
theorem wi_ap {gv : Nat} {ok : Nat → Prop} {vout v1 : Value} {out : List (List Int)} {q : List Int} {w0 w w9 w1 : World} (hv : w.heap[gv]? = some (.cells #[vout] 52 (0, 0))) (hgv : w0.heap.size ≤ gv) (hvn : some gv ≠ vout.ownBlock)
  (h9v : w9.heap[gv]? = some (.cells #[vout] 52 (0, 0))) (hs9 : w.heap.size ≤ w9.heap.size) (hk9 : ∀ k, k < w.heap.size → w9.heap[k]? = w.heap[k]?)
  (ho1 : Kd.S (Kd.slice 3 (Kd.int .i64)) 24 w1 w0.heap.size ok v1 (out ++ [q])) (hb1 : Below w0.heap.size w0 w1) (hg1 : w9.grownBy w1 vout.ownBlock) :
  w1.heap[gv]? = some (.cells #[vout] 52 (0, 0)) ∧ ∃ v2, (w1.setCell ⟨gv, 0, none⟩ v1).heap[gv]? = some (.cells #[v2] 52 (0, 0)) ∧ Kd.S (Kd.slice 3 (Kd.int .i64)) 24 (w1.setCell ⟨gv, 0, none⟩ v1) w0.heap.size ok v2 (out ++ [q]) ∧ Below w0.heap.size w0 (w1.setCell ⟨gv, 0, none⟩ v1) ∧ w.heap.size ≤ (w1.setCell ⟨gv, 0, none⟩ v1).heap.size ∧ ∀ k, k < w.heap.size → k ≠ gv → some k ≠ vout.ownBlock → (w1.setCell ⟨gv, 0, none⟩ v1).heap[k]? = w.heap[k]? := by
 have hgl := blk_lt hv
 have bv1 := (hg1.block gv (by omega) hvn).trans h9v
 have hs1 := hg1.size
 refine ⟨bv1, v1, blk_put bv1 0 _ rfl, Kd.S_set ho1 bv1 (by intro x hx; simp [Kd.slice, Kd.int, Kd.scalar] at hx; rcases hx with rfl | rfl <;> decide) 0 _, below_set hb1 hgv, ?_, ?_⟩
 ·
  exact Nat.le_trans (Nat.le_trans hs9 hs1) ((Below.refl w0.heap.size w1).setCell (p := ⟨gv, 0, none⟩) hgv v1).size
 ·
  intro k hk h1 h2
  exact (Below.heap_setCell w1 ⟨gv, 0, none⟩ v1 k h1).trans ((hg1.block k (by omega) h2).trans (hk9 k hk))
set_option maxHeartbeats 4000000 in
set_option maxRecDepth 4000 in
theorem wi_yes {gv gk gq R cq : Nat} {ok : Nat → Prop} {k : Int} {vout : Value} {out : List (List Int)} {q : List Int} {w0 w : World} (hk : w.heap[gk]? = some (.cells #[.int .i64 k] 3 (0, 0))) (hv : w.heap[gv]? = some (.cells #[vout] 52 (0, 0)))
  (ho : Kd.S (Kd.slice 3 (Kd.int .i64)) 24 w w0.heap.size ok vout out) (hfresh : ∀ k, w.heap.size ≤ k → ok k) (HB : Below w0.heap.size w0 w) (hbase : w0.heap.size ≤ w.heap.size) (hgv : w0.heap.size ≤ gv) (hout : out.length ≤ 1000000)
  (hq : Kd.C (Kd.int .i64) w (some ⟨gq, 0, none⟩) q.length q) (hqR : q.length = R) (hcq : q.length ≤ cq) (h6 : R ≤ 6) (hne : cntR q = k) :
  Calls Try.prog 132 #[.slice (some ⟨gq, 0, none⟩) R cq, .pointer (some ⟨gk, 0, none⟩), .pointer (some ⟨gv, 0, none⟩)] w fun e w2 => e = .returned (.bool true) ∧ ∃ v2, w2.heap[gv]? = some (.cells #[v2] 52 (0, 0)) ∧ Kd.S (Kd.slice 3 (Kd.int .i64)) 24 w2 w0.heap.size ok v2 (out ++ [q]) ∧ Below w0.heap.size w0 w2 ∧ w.heap.size ≤ w2.heap.size ∧ ∀ k, k < w.heap.size → k ≠ gv → some k ≠ vout.ownBlock → w2.heap[k]? = w.heap[k]? := by
 subst hqR
 have c1 := blk_cell hk 0
 have c2 := blk_cell hv 0
 have f2 := blk_frozen hv 0
 have hb := cntR_le q
 have hf : impl_rooks.f q = some (cntR q) := by unfold impl_rooks.f; rw [if_pos (by omega)]
 have hbq : (cntR q == k) = true := by simpa using hne
 have HLT := am (show ∀ k, vout.ownBlock = some k → k < w.heap.size from fun k hk => by
  obtain ⟨inner, hi⟩ := Kd.S_own ho
  exact own_lt hi k hk)
 have HVN := am (show some gv ≠ vout.ownBlock from Kd.S_ne ho hv (by decide))
 have INF := am (show (Try.prog.info? 24).map (fun i => (i.zero, i.size, i.bytes)) = some (some (.slice none 0 0), 1, 24) by kernel_rfl)
 have HQ := Aside0.mk hq
 have HF := Aside0.mk hf
 have HO := Aside0.mk ho
 have HV := Aside0.mk hv
 have HFR := Aside0.mk hfresh
 have HBB := Aside0.mk HB
 clear hq hf hk hne ho hv hfresh HB
 go_enter Try.func132, Try.ntmps132
 go_wp2
 go_region_with (go_at_call 107; (refine (impl_rooks.calls _ _ q (cntR q) _ ?side1 hcq HF.out).mono ?_); (case side1 => exact Q41); rintro e w' ⟨rfl, ⟨nd, rfl⟩⟩)
 all_goals (simp only [Exit.then]; go_wp2)
 all_goals
  go_region_law (first
   | (go_simp; go_at_call 75; (refine (slices_Clone_int_int.calls _ _ q q _ ?side1 hcq (by unfold slices_Clone_int_int.f; rw [if_pos (by omega)])).mono ?_); (case side1 => exact Q41); rintro e w9 ⟨vc, rfl, hoc, hb9⟩; obtain ⟨Ac, cc, rfl⟩ := Kd.R_slice hoc; have H9 := am (wi_cl HV.out HO.out HBB.out hbase hoc hb9); have c9 := blk_cell H9.out.1 0; have f9 := blk_frozen H9.out.1 0; have c9a := blk_cell (blk_alloc H9.out.1 (Obj.cells #[Value.slice Ac q.length cc] 24)) 0; clear hoc hb9)
   | (refine Kd.S_append_step (Kd.slice 3 (Kd.int .i64)) (w0 := w0) w0.heap.size (by rfl) (.tmp 9) (.tmp 12) 52 24 (.slice none 0 0) 24 rfl Try.underlying52 INF.out rfl (by decide) (by omega) vout out q [.slice Ac q.length cc] ok (fun k => w.heap.size ≤ k ∧ k < w9.heap.size) rfl rfl H9.out.2.2.2.2.1 (fun k hk => ⟨HFR.out k hk.1, fun he => Nat.lt_irrefl k (Nat.lt_of_lt_of_le (HLT.out k he.symm) hk.1)⟩) (fun k hk => HFR.out k (Nat.le_trans H9.out.2.1 hk)) H9.out.2.2.1 H9.out.2.2.2.1 (Nat.le_trans hbase H9.out.2.1) (by omega) ?_; intro v1 w1 ho1 hb1 hg1 _; obtain ⟨A1, cc1, rfl⟩ := Kd.S_slice ho1; have H1 := am (wi_ap HV.out hgv HVN.out H9.out.1 H9.out.2.1 H9.out.2.2.2.2.2 ho1 hb1 hg1); have c1v := blk_cell H1.out.1 0; have f1v := blk_frozen H1.out.1 0; clear ho1 hb1 hg1))
 all_goals (go_wp2; go_ret)
 all_goals
  have h2 := H1.out.2
  simp only [List.length_append, List.length_cons, List.length_nil, Nat.zero_add] at h2
  exact ⟨rfl, h2⟩
theorem wi_fold (p : List Int → Prop) [DecidablePred p] : ∀ (L s : List (List Int)), L.foldl (fun s q => if p q then s ++ [q] else s) s = s ++ L.filter fun q => decide (p q)
 | [], s => by simp
 | q :: L, s => by
  rw [List.foldl_cons, wi_fold p L]
  by_cases h : p q
  ·
   rw [if_pos h, List.filter_cons_of_pos (by simpa using h), List.append_assoc]; rfl
  ·
   rw [if_neg h, List.filter_cons_of_neg (by simpa using h)]
set_option maxHeartbeats 1000000 in
set_option maxRecDepth 4000 in
theorem wi_walk {R C cp gv gk : Nat} {k : Int} {A : Option Addr} {l : List Int} {v0 : Value} {w0 w : World} (hR : 0 < R) (hR6 : R ≤ 6) (hC6 : C ≤ 6) (hlR : l.length = R) (hcp : l.length ≤ cp)
  (B0 : Below w0.heap.size w0 w) (hk : w.heap[gk]? = some (.cells #[.int .i64 k] 3 (0, 0))) (hv : w.heap[gv]? = some (.cells #[v0] 52 (0, 0))) (hgv : w0.heap.size ≤ gv) (ho : Kd.S (Kd.slice 3 (Kd.int .i64)) 24 w w0.heap.size (fun _ => True) v0 []) (hA : Kd.C (Kd.int .i64) w0 A l.length l) :
  Calls Try.prog 125 #[.agg #[.int .i64 R, .int .i64 C, .slice A l.length cp], .func (.func 132) #[] #[.pointer (some ⟨gk, 0, none⟩), .pointer (some ⟨gv, 0, none⟩)]] w fun e w' => e = .returned (.tuple #[]) ∧ ∃ v1, w'.heap[gv]? = some (.cells #[v1] 52 (0, 0)) ∧ Kd.S (Kd.slice 3 (Kd.int .i64)) 24 w' w0.heap.size (fun _ => True) v1 ((plc C l 0 []).filter fun q => decide (cntR q = k)) ∧ Below w0.heap.size w0 w' := by
 have hB := B0.size
 have hlv := blk_lt hv
 have hlk := blk_lt hk
 have hkv : gk ≠ gv := blk_ne hk hv (by decide)
 have hmain := wk_all (σ := List (List Int)) (ok := fun s _ => s.length ≤ 200000) (S := fun N1 s w1 => w1.heap[gk]? = some (.cells #[.int .i64 k] 3 (0, 0)) ∧ ∃ v1, w1.heap[gv]? = some (.cells #[v1] 52 (0, 0)) ∧ Kd.S (Kd.slice 3 (Kd.int .i64)) 24 w1 w0.heap.size (fun k => k < w.heap.size ∨ N1 ≤ k) v1 s ∧ Below w0.heap.size w0 w1)
  (step := fun s q => if cntR q = k then s ++ [q] else s) (s0 := []) (A := A) (l := l) (cp := cp) (R := R) (C := C) (fid := 132) (caps := #[.pointer (some ⟨gk, 0, none⟩), .pointer (some ⟨gv, 0, none⟩)]) (w := w) hR hR6 hC6 hlR hcp
  (fun L1 q' L2 he => by
   have h1 := plc_len C hC6 l 0 []
   rw [he] at h1
   have h2 : 7 ^ l.length ≤ 117649 := Nat.le_trans (Nat.pow_le_pow_right (by omega) (by omega : l.length ≤ 6)) (by decide)
   have h3 := List.length_filter_le (fun q => decide (cntR q = k)) L1
   simp only [List.length_append, List.length_cons] at h1
   rw [wi_fold (fun q => cntR q = k), List.nil_append]
   omega)
  (fun _ _ => by kernel_rfl)
  (fun w1 hb => ⟨blk_below hk hb, v0, blk_below hv hb, Kd.S_below (Kd.S_mono (Kd.S_bound ho) (fun k hk => Or.inl hk.2.2.1)) hb, below_step B0 hb⟩)
  (fun N1 s w1 w2 hs hb hkp => by
   obtain ⟨h1, v1, h2, h3, h4⟩ := hs
   exact ⟨(hb.block gk hlk).trans h1, v1, (hb.block gv hlv).trans h2, Kd.S_step h3 (fun k hk hk2 => by rcases hk with hk | hk; exact hb.block k hk; exact hkp k hk hk2), below_weaken h4 hB hb⟩)
  (fun N1 s w1 hs => by
   obtain ⟨h1, v1, h2, h3, h4⟩ := hs
   exact Kd.C_below hA h4)
  (fun N1 s q w1 gq cq hs hN1 hN hq hoq hc hcq => by
   obtain ⟨hk1, v1, hv1, ho1, hb1⟩ := hs
   by_cases he : cntR q = k
   ·
    refine (wi_yes hk1 hv1 ho1 (fun k hk => Or.inr (by omega)) hb1 hb1.size hgv (by omega) hc hq hcq hR6 he).mono ?_
    rintro e w2 ⟨rfl, v2, hv2, ho2, hb2, hs2, hkp⟩
    refine ⟨rfl, ⟨(hkp gk (blk_lt hk1) hkv (Kd.S_ne ho1 hk1 (by decide))).trans hk1, v2, hv2, by rw [if_pos he]; exact ho2, hb2⟩, hs2, ?_⟩
    intro k hk1 hk2
    exact hkp k (by omega) (by omega) (fun e => by rcases (Kd.S_R ho1).1 k e.symm with h | h <;> omega)
   ·
    refine (wi_no hk1 hc hq hcq hR6 he).mono ?_
    rintro e w2 ⟨rfl, n, rfl⟩
    exact ⟨rfl, ⟨hk1, v1, hv1, by rw [if_neg he]; exact Kd.S_drewN ho1 n, pw_below_drewN hb1 n⟩, Nat.le_refl _, fun _ _ _ => rfl⟩)
 refine hmain.mono ?_
 rintro e w' ⟨rfl, N1, _, _, v1, h2, h3, h4⟩
 refine ⟨rfl, v1, h2, ?_, h4⟩
 rw [wi_fold (fun q => cntR q = k), List.nil_append] at h3
 exact Kd.S_mono h3 (fun _ _ => trivial)
set_option maxHeartbeats 1000000 in
set_option maxRecDepth 2000 in
theorem impl_Board_with.calls (a0_0 : Int) (a0_1 : Int) (A0_2 : Option Addr) (c0_2 : Nat) (l0_2 : List Int) (a1 : Int) (r : List (List Int)) (w : World) (hr0_2 : Kd.C (Kd.int .i64) w A0_2 l0_2.length l0_2) (hc0_2 : l0_2.length ≤ c0_2) (h : impl_Board_with.f a0_0 a0_1 l0_2 a1 = some r) :
  Calls Try.prog 103 #[.agg #[.int .i64 a0_0, .int .i64 a0_1, .slice A0_2 l0_2.length c0_2], .int .i64 a1] w fun e w' => ∃ v0_ : Value, e = .returned (v0_) ∧ Kd.S (Kd.slice 3 (Kd.int .i64)) 24 w' w.heap.size (fun _ => True) v0_ r ∧ Below w.heap.size w w' := by
 unfold impl_Board_with.f at h
 by_cases hc : 0 < a0_0 ∧ a0_0 ≤ 6 ∧ 0 ≤ a0_1 ∧ a0_1 ≤ 6 ∧ (l0_2.length : Int) = a0_0
 case neg => rw [if_neg hc] at h; exact absurd h (by simp)
 rw [if_pos hc] at h
 obtain ⟨h1, h2, h3, h4, h5⟩ := hc
 have HRes := am (Option.some.inj h)
 clear h
 obtain ⟨C, rfl⟩ := Int.eq_ofNat_of_zero_le h3
 obtain ⟨R, rfl⟩ := Int.eq_ofNat_of_zero_le (Int.le_of_lt h1)
 rw [Int.toNat_natCast] at HRes
 have hRl : l0_2.length = R := by omega
 have HR0 := Aside0.mk hr0_2
 have HRL := Aside0.mk hRl
 clear hr0_2 hRl h5
 go_enter Try.func103, Try.ntmps103
 go_wp2_with (first
  | ((with_reducible refine gate_dst (N := 2) rfl ?_); refine qv 2 #[.int .i64 R, .int .i64 C, .slice A0_2 l0_2.length c0_2] 26 ?_; intro gb hgb w1 bb hb1; have GB := Aside0.mk hgb; have BB := Aside0.mk bb; have HB1 := Aside0.mk hb1; clear hgb bb hb1)
  | ((with_reducible refine gate_dst (N := 3) rfl ?_); refine qv 3 #[.int .i64 a1] 3 ?_; intro gk hgk w2 bk hb2; have GK := Aside0.mk hgk; have BK := Aside0.mk bk; have HB2 := Aside0.mk hb2; clear hgk bk hb2)
  | ((with_reducible refine gate_dst (N := 6) rfl ?_); refine Kd.S_lit (Kd.slice 3 (Kd.int .i64)) (w0 := w2) w2.heap.size 24 ?hg (N := 6) ?hd (xs := ([] : List (List Int))) (inner := []) (ok := fun _ => True) (okp := fun _ => True) ?hr ?hp (fun _ hk => hk) trivial (Below.refl _ _) (Nat.le_refl _) (by simp) ?_; (case hd => rfl); (case hg => rfl); (case hr => first | (go_simp; done) | (go_simp; rfl)); (case hp => exact (Reps.none _ _)); intro v1 w3 ho hb3 hgr3 hnw3; obtain ⟨Av, cv, ev⟩ := Kd.S_slice ho; rw [List.length_nil] at ev; subst ev; have HO := Aside0.mk ho; have HB3 := Aside0.mk hb3; clear ho hb3 hgr3 hnw3)
  | ((with_reducible refine gate_dst (N := 5) rfl ?_); refine qv 5 #[.slice none 0 0] 52 ?_; intro gv hgv w4 bv hb4; have cv0 := blk_cell bv 0; have fv0 := blk_frozen bv 0; have bb4 := blk_far (p := ⟨gv, 0, none⟩) (blk_below (blk_below (blk_below BB.out HB2.out) HB3.out) hb4) (blk_ne (blk_below (blk_below (blk_below BB.out HB2.out) HB3.out) hb4) bv (by decide)) (.slice Av 0 cv); have c20 := blk_cell bb4 0; have c21 := blk_cell bb4 1; have c22 := blk_cell bb4 2; have GV := Aside0.mk hgv; have BV := Aside0.mk bv; have HB4 := Aside0.mk hb4; clear bb4 hgv bv hb4)
  )
 have hB1 := HB1.out
 have hB2 := HB2.out
 have hB3 := HB3.out
 have hB4 := HB4.out
 have hgv := GV.out
 have s1 := hB1.size
 have s2 := hB2.size
 have s3 := hB3.size
 have T4 : Below w.heap.size w w4 := below_step (below_step (below_step hB1 hB2) hB3) hB4
 have T5 : Below w.heap.size w (w4.setCell ⟨gv, 0, none⟩ (.slice Av 0 cv)) := below_set T4 (by omega)
 have bk4 := blk_below (blk_below BK.out hB3) hB4
 have bk5 := blk_far (p := ⟨gv, 0, none⟩) bk4 (blk_ne bk4 BV.out (by decide)) (.slice Av 0 cv)
 have O4 := Kd.S_set (Kd.S_below HO.out hB4) BV.out (by intro x hx; simp [Kd.slice, Kd.int, Kd.scalar] at hx; rcases hx with rfl | rfl <;> decide) 0 (.slice Av 0 cv)
 have HW := wi_walk (R := R) (C := C) (cp := c0_2) (A := A0_2) (l := l0_2) (by omega) (by omega) (by omega) HRL.out hc0_2 T5 bk5 (blk_put BV.out 0 _ rfl) (by omega) (Kd.S_lower O4 (by omega)) HR0.out
 clear T4 T5 O4 cv0 fv0 c20 c21 c22 s1 s2 s3 hgv hB1 hB2 hB3 hB4 bk4 bk5
 refine HW.mono ?_
 rintro e w6 ⟨rfl, v6, hv6, ho6, hb6⟩
 obtain ⟨A6, c6, rfl⟩ := Kd.S_slice ho6
 have cv6 := blk_cell hv6 0
 have Oq4 := Aside0.mk ho6
 have HB6 := Aside0.mk hb6
 clear HW hv6 ho6 hb6
 go_wp2
 go_ret
 exact ⟨_, rfl, by rw [← HRes.out]; exact Oq4.out, HB6.out⟩

/-! ### impl_PlacementWith: function 37 -/
def impl_PlacementWith.j0 : Nat → Int → Int → Bool → Int → Int → List Int → Option (List Int × Bool)
 | 0, _, _, _, _, _, _ => none
 | k + 1, x1, x2, x16, x279000, x279001, x279002 => if x16 = true then (some (([] : List Int), false)) else ((impl_Board_with.f x279000 x279001 x279002 x1).bind fun t281 => ((impl_within.f x2 0 (wrap64 ((t281.length : Int) - 1))).bind fun t284 => (if t284 = true then (if 0 ≤ x2 then (if x2 < (t281.length : Int) then ((slices_Clone_int_int.f (rd_L2 t281 x2)).bind fun t286 => (some (t286, true))) else (none)) else (none)) else (some (([] : List Int), false)))))
def impl_PlacementWith.f (k : Nat) (a0_0 : Int) (a0_1 : Int) (l0_2 : List Int) (a1 : Int) (a2 : Int) : Option (List Int × Bool) := (impl_IsBoard.f a0_0 a0_1 l0_2).bind fun t279 => (if t279 = true then ((impl_within.f a1 0 6).bind fun t280 => (impl_PlacementWith.j0 k a1 a2 (!t280) a0_0 a0_1 l0_2)) else (impl_PlacementWith.j0 k a1 a2 true a0_0 a0_1 l0_2))
set_option maxHeartbeats 8000000 in
set_option maxRecDepth 100000 in
theorem impl_PlacementWith.calls (k : Nat) (a0_0 : Int) (a0_1 : Int) (A0_2 : Option Addr) (c0_2 : Nat) (l0_2 : List Int) (a1 : Int) (a2 : Int) (r1 : List Int) (r2 : Bool) (w : World) (hr0_2 : Kd.C (Kd.int .i64) w A0_2 l0_2.length l0_2) (hc0_2 : l0_2.length ≤ c0_2) (h : impl_PlacementWith.f k a0_0 a0_1 l0_2 a1 a2 = some (r1, r2)) :
  Calls Try.prog 37 #[.agg #[.int .i64 a0_0, .int .i64 a0_1, .slice A0_2 l0_2.length c0_2], .int .i64 a1, .int .i64 a2] w fun e w' => ∃ v0_ : Value, e = .returned (.tuple #[v0_, .bool r2]) ∧ Kd.R (Kd.int .i64) 3 w' w.heap.size (fun _ => True) v0_ r1 ∧ Below w.heap.size w w' := by
 have hu26 := Try.underlying26
 have HR0_2 := Aside0.mk hr0_2
 have HC0_2 := Aside0.mk hc0_2
 clear hr0_2 hc0_2
 have HB := am (Below.refl w.heap.size w)
 have H : ((impl_IsBoard.f a0_0 a0_1 l0_2).bind fun t279 => (if t279 = true then ((impl_within.f a1 0 6).bind fun t280 => (impl_PlacementWith.j0 k a1 a2 (!t280) a0_0 a0_1 l0_2)) else (impl_PlacementWith.j0 k a1 a2 true a0_0 a0_1 l0_2))) = some (r1, r2) := h
 clear h
 have HC4 := Aside0.mk H
 clear H
 go_enter Try.func37, Try.ntmps37
 go_upto_region 1 with (first | ((with_reducible refine gate_dst (N := 3) rfl ?_); refine qv 3 #[.int .i64 a0_0, .int .i64 a0_1, .slice A0_2 l0_2.length c0_2] 26 ?_; intro gb278 hg w5 hbox hb; have BK278 := am hbox; have GW278 := qw hg; have GE278 := qw hg; replace HB := qs hb; clear hb hbox hg))
 (try simp only [Act.put, List.setIfInBounds_toArray, List.set_cons_zero, List.set_cons_succ])
 go_cut [16] (fun v16 wc => ∃ (kq : Nat) (x16_3 : Bool), v16 = .bool x16_3 ∧ Aside0 (impl_PlacementWith.j0 kq a1 a2 x16_3 a0_0 a0_1 l0_2 = some (r1, r2)) ∧ Aside0 (kq ≤ k) ∧ Aside0 (wc.heap[gb278]? = some (.cells #[.int .i64 a0_0, .int .i64 a0_1, (.slice A0_2 l0_2.length c0_2)] 26 (0, 0))) ∧ Aside0 (Below w.heap.size w wc))
 case first =>
  have H := HC4.out
  clear HC4
  replace H := qE H
  obtain ⟨t279, A6, H⟩ := H
  replace H : (if t279 = true then ((impl_within.f a1 0 6).bind fun t280 => (impl_PlacementWith.j0 k a1 a2 (!t280) a0_0 a0_1 l0_2)) else (impl_PlacementWith.j0 k a1 a2 true a0_0 a0_1 l0_2)) = some (r1, r2) := H
  by_cases c7 : t279 = true
  ·
   subst c7
   have H1 : ((impl_within.f a1 0 6).bind fun t280 => (impl_PlacementWith.j0 k a1 a2 (!t280) a0_0 a0_1 l0_2)) = some (r1, r2) := by first | (rw [if_pos rfl] at H; exact H) | rfl
   clear H
   have H := H1
   clear H1
   replace H := qE H
   obtain ⟨t280, A8, H⟩ := H
   replace H : (impl_PlacementWith.j0 k a1 a2 (!t280) a0_0 a0_1 l0_2) = some (r1, r2) := H
   have H' := Aside0.mk H
   clear H
   obtain ⟨zq9, zq10, zq11, fq9, fq10, fq11⟩ := qd BK278
   go_wp2_with (first | ((with_reducible refine gate_callee (f := 66) rfl ?_); refine qg (some 10) Try.func66 #[.agg #[.int .i64 a0_0, .int .i64 a0_1, .slice A0_2 l0_2.length c0_2]] ?_; (with_reducible refine (impl_IsBoard.calls a0_0 a0_1 _ _ l0_2 true _ ?side1 HC0_2.out A6.out).mono ?_); (case side1 => exact Q0); rintro e w10 ⟨rfl, hb⟩; refine ⟨_, rfl, ?_⟩; replace BK278 := sqB BK278 hb; replace HB := qs hb; (try clear hb)) | (go_at_call 79; (with_reducible refine (impl_within.calls a1 0 6 t280 _ A8.out).mono ?_); rintro e w' ⟨rfl, ⟨nd, rfl⟩⟩))
   go_meet
   case rel => exact ⟨_, (!t280), Q3, H', ⟨Q47⟩, ⟨by (with_reducible repeat (first | refine blk_drewN ?_ _ | refine blk_drew ?_ | refine blk_alloc ?_ _)); exact BK278.out⟩, ⟨qb⟩⟩
  ·
   replace c7 := Bool.eq_false_iff.mpr c7
   subst c7
   have H1 : (impl_PlacementWith.j0 k a1 a2 true a0_0 a0_1 l0_2) = some (r1, r2) := by first | (rw [if_neg (show ¬ (false = true) by decide)] at H; exact H) | rfl
   clear H
   have H := H1
   clear H1
   have H' := Aside0.mk H
   clear H
   obtain ⟨zq0, zq1, zq2, fq0, fq1, fq2⟩ := qd BK278
   go_wp2_with (first | ((with_reducible refine gate_callee (f := 66) rfl ?_); refine qg (some 10) Try.func66 #[.agg #[.int .i64 a0_0, .int .i64 a0_1, .slice A0_2 l0_2.length c0_2]] ?_; (with_reducible refine (impl_IsBoard.calls a0_0 a0_1 _ _ l0_2 false _ ?side1 HC0_2.out A6.out).mono ?_); (case side1 => exact Q0); rintro e w12 ⟨rfl, hb⟩; refine ⟨_, rfl, ?_⟩; replace BK278 := sqB BK278 hb; replace HB := qs hb; (try clear hb)))
   go_meet
   case rel => exact ⟨_, (true), Q3, H', ⟨Q47⟩, ⟨by (with_reducible repeat (first | refine blk_drewN ?_ _ | refine blk_drew ?_ | refine blk_alloc ?_ _)); exact BK278.out⟩, ⟨qb⟩⟩
 case rest =>
  clear HC4
  try clear c7; try clear zq0; try clear zq1; try clear zq2; try clear zq9; try clear zq10; try clear zq11; try clear fq0; try clear fq1; try clear fq2; try clear fq9; try clear fq10; try clear fq11
  obtain ⟨kq, x16_3, rfl, HA, HJ3, BK278, HB⟩ := hcut
  cases kq with
  | zero => exact absurd HA.out (by simp [impl_PlacementWith.j0])
  | succ kj3 =>
   have H := HA.out
   clear HA
   simp only [impl_PlacementWith.j0] at H
   by_cases c13 : x16_3 = true
   ·
    subst c13
    have H1 : (some (([] : List Int), false)) = some (r1, r2) := by first | (rw [if_pos rfl] at H; exact H) | rfl
    clear H
    have H := H1
    clear H1
    simp only [Option.some.injEq, Prod.mk.injEq] at H
    obtain ⟨rfl, rfl⟩ := H
    go_wp2
    go_ret2
    exact ⟨_, Q2, Q14, qb⟩
   ·
    replace c13 := Bool.eq_false_iff.mpr c13
    subst c13
    have H1 : ((impl_Board_with.f a0_0 a0_1 l0_2 a1).bind fun t281 => ((impl_within.f a2 0 (wrap64 ((t281.length : Int) - 1))).bind fun t284 => (if t284 = true then (if 0 ≤ a2 then (if a2 < (t281.length : Int) then ((slices_Clone_int_int.f (rd_L2 t281 a2)).bind fun t286 => (some (t286, true))) else (none)) else (none)) else (some (([] : List Int), false))))) = some (r1, r2) := by first | (rw [if_neg (show ¬ (false = true) by decide)] at H; exact H) | rfl
    clear H
    have H := H1
    clear H1
    replace H := qE H
    obtain ⟨t281, A14, H⟩ := H
    replace H : ((impl_within.f a2 0 (wrap64 ((t281.length : Int) - 1))).bind fun t284 => (if t284 = true then (if 0 ≤ a2 then (if a2 < (t281.length : Int) then ((slices_Clone_int_int.f (rd_L2 t281 a2)).bind fun t286 => (some (t286, true))) else (none)) else (none)) else (some (([] : List Int), false)))) = some (r1, r2) := H
    replace H := qE H
    obtain ⟨t284, A15, H⟩ := H
    replace H : (if t284 = true then (if 0 ≤ a2 then (if a2 < (t281.length : Int) then ((slices_Clone_int_int.f (rd_L2 t281 a2)).bind fun t286 => (some (t286, true))) else (none)) else (none)) else (some (([] : List Int), false))) = some (r1, r2) := H
    by_cases c16 : t284 = true
    ·
     subst c16
     have H1 : (if 0 ≤ a2 then (if a2 < (t281.length : Int) then ((slices_Clone_int_int.f (rd_L2 t281 a2)).bind fun t286 => (some (t286, true))) else (none)) else (none)) = some (r1, r2) := by first | (rw [if_pos rfl] at H; exact H) | rfl
     clear H
     have H := H1
     clear H1
     by_cases c17 : 0 ≤ a2
     ·
      rw [if_pos c17] at H
      have c17b0 : decide (0 ≤ a2) = true := decide_eq_true c17
      clear c17
      by_cases c18 : a2 < (t281.length : Int)
      ·
       rw [if_pos c18] at H
       have c18b0 : decide (a2 < (t281.length : Int)) = true := decide_eq_true c18
       clear c18
       replace H := qE H
       obtain ⟨t286, A19, H⟩ := H
       replace H : (some (t286, true)) = some (r1, r2) := H
       simp only [Option.some.injEq, Prod.mk.injEq] at H
       obtain ⟨rfl, rfl⟩ := H
       obtain ⟨zq3, zq4, zq5, fq3, fq4, fq5⟩ := qd BK278
       go_wp2_with (first | ((with_reducible refine gate_callee (f := 103) rfl ?_); refine qg (some 19) Try.func103 #[.agg #[.int .i64 a0_0, .int .i64 a0_1, .slice A0_2 l0_2.length c0_2], .int .i64 a1] ?_; (with_reducible refine (impl_Board_with.calls a0_0 a0_1 _ _ l0_2 a1 t281 _ ?side1 HC0_2.out A14.out).mono ?_); (case side1 => exact Q0); rintro e w21 ⟨v282, rfl, ho0, hb⟩; refine ⟨_, rfl, ?_⟩; have Oq0 := am (Kd.S_lower ho0 (below_size qb)); replace BK278 := sqB BK278 hb; replace HB := qs hb; (try clear hb ho0); obtain ⟨Ao22, co22, eo22⟩ := Kd.S_slice Oq0.out; subst eo22) | ((with_reducible refine gate_callee (f := 79) rfl ?_); refine qg (some 24) Try.func79 #[.int .i64 a2, .int .i64 0, .int .i64 (wrap64 ((t281.length : Int) - 1))] ?_; (with_reducible refine (impl_within.calls a2 0 (wrap64 ((t281.length : Int) - 1)) true _ A15.out).mono ?_); rintro e w' ⟨rfl, ⟨nd, rfl⟩⟩; refine ⟨_, rfl, ?_⟩; have p285 : 0 ≤ (a2 : Int) := of_decide_eq_true Q1; have q285 : a2 < (t281.length : Int) := of_decide_eq_true Q1; obtain ⟨ad285, A285_0, c285_0, e285, hx285_0, hl285_0, hi285_0⟩ := at_L2 (Kd.S_reads' Oq0.out).2.2 a2 p285 q285; cases e285; obtain ⟨ce285, hce285, hMe285, hcc285⟩ := Kd.S_get Oq0.out [] a2 p285 (by first | exact q285 | exact of_decide_eq_true Q1 | (have e_ := (Kd.S_reads' Oq0.out).1; omega)); obtain ⟨ve285_0, rfl, ge285_0⟩ := hMe285; have hv285_0 := hcc285 0 _ rfl; rw [Nat.add_zero, show ((Kd.slice 3 (Kd.int .i64))).sz = 1 from rfl, Nat.mul_one] at hv285_0; replace hv285_0 := Option.some.inj (hv285_0.symm.trans hx285_0); rw [hv285_0] at ge285_0; have HL285_0 := am (show Kd.R (Kd.int .i64) 3 _ _ _ _ (rd_L2 t281 a2) from ge285_0); clear hv285_0 ge285_0; clear hcc285 hce285; have HR285_0 := Aside0.mk hi285_0; have HC285_0 := Aside0.mk hl285_0; clear hi285_0 hl285_0; replace p285 := eq_true p285; replace q285 := eq_true q285) | ((with_reducible refine gate_callee (f := 75) rfl ?_); refine qg (some 30) Try.func75 #[.slice A285_0 (rd_L2 t281 a2).length c285_0] ?_; (with_reducible refine (slices_Clone_int_int.calls _ _ (rd_L2 t281 a2) t286 _ ?side1 HC285_0.out A19.out).mono ?_); (case side1 => repeat (first | exact (by repeat (first | (with_reducible exact HR285_0.out) | (with_reducible first | refine Kd.C_alloc ?_ _ | refine Kd.C_drewN ?_ _ | refine Kd.C_drew ?_) | exact HR285_0.out)) | (with_reducible first | refine Kd.C_alloc ?_ _ | refine Kd.C_drewN ?_ _ | refine Kd.C_drew ?_))); rintro e w23 ⟨v287, rfl, ho0, hb⟩; refine ⟨_, rfl, ?_⟩; have Oq1 := am (Kd.R_lower (Kd.R_new' ho0 (sqL HL285_0)) (below_size qb)); replace HL285_0 := sqE HL285_0 ho0 hb; replace BK278 := sqB BK278 hb; replace Oq0 := am (Kd.S_elder' (by (with_reducible repeat (first | apply Kd.S_alloc | apply Kd.S_drewN | apply Kd.S_drew)); exact Oq0.out) (Kd.R_base ho0) hb); replace HR285_0 := qC HR285_0 hb; replace HB := qs hb; (try clear hb ho0)))
       go_ret2
       exact ⟨_, Q2, by exact sqm Oq1 (fun _ hk => trivial), qb⟩
      ·
       rw [if_neg c18] at H
       exact absurd H (by simp)
     ·
      rw [if_neg c17] at H
      exact absurd H (by simp)
    ·
     replace c16 := Bool.eq_false_iff.mpr c16
     subst c16
     have H1 : (some (([] : List Int), false)) = some (r1, r2) := by first | (rw [if_neg (show ¬ (false = true) by decide)] at H; exact H) | rfl
     clear H
     have H := H1
     clear H1
     simp only [Option.some.injEq, Prod.mk.injEq] at H
     obtain ⟨rfl, rfl⟩ := H
     obtain ⟨zq6, zq7, zq8, fq6, fq7, fq8⟩ := qd BK278
     go_wp2_with (first | ((with_reducible refine gate_callee (f := 103) rfl ?_); refine qg (some 19) Try.func103 #[.agg #[.int .i64 a0_0, .int .i64 a0_1, .slice A0_2 l0_2.length c0_2], .int .i64 a1] ?_; (with_reducible refine (impl_Board_with.calls a0_0 a0_1 _ _ l0_2 a1 t281 _ ?side1 HC0_2.out A14.out).mono ?_); (case side1 => exact Q0); rintro e w25 ⟨v282, rfl, ho0, hb⟩; refine ⟨_, rfl, ?_⟩; have Oq0 := am (Kd.S_lower ho0 (below_size qb)); replace BK278 := sqB BK278 hb; replace HB := qs hb; (try clear hb ho0); obtain ⟨Ao26, co26, eo26⟩ := Kd.S_slice Oq0.out; subst eo26) | ((with_reducible refine gate_callee (f := 79) rfl ?_); refine qg (some 24) Try.func79 #[.int .i64 a2, .int .i64 0, .int .i64 (wrap64 ((t281.length : Int) - 1))] ?_; (with_reducible refine (impl_within.calls a2 0 (wrap64 ((t281.length : Int) - 1)) false _ A15.out).mono ?_); rintro e w' ⟨rfl, ⟨nd, rfl⟩⟩; refine ⟨_, rfl, ?_⟩))
     go_ret2
     exact ⟨_, Q2, Q14, qb⟩

/-! ### spec_l1Own: function 77 -/
def spec_l1Own.f (l0 : List Int) : Option (List Int) := (some (([] : List Int) : List Int)).bind fun y289 => (if y289.length + l0.length < 17592186044416 then (some (y289 ++ l0)) else (none))
set_option maxHeartbeats 8000000 in
set_option maxRecDepth 100000 in
theorem spec_l1Own.calls (A0 : Option Addr) (c0 : Nat) (l0 : List Int) (r : List Int) (w : World) (hr0 : Kd.C (Kd.int .i64) w A0 l0.length l0) (hc0 : l0.length ≤ c0) (h : spec_l1Own.f l0 = some r) :
  Calls Try.prog 77 #[.slice A0 l0.length c0] w fun e w' => ∃ v0_ : Value, e = .returned (v0_) ∧ Kd.R (Kd.int .i64) 3 w' w.heap.size (fun _ => True) v0_ r ∧ Below w.heap.size w w' := by
 have HR0 := Aside0.mk hr0
 have HC0 := Aside0.mk hc0
 clear hr0 hc0
 have HB := am (Below.refl w.heap.size w)
 have H : ((some (([] : List Int) : List Int)).bind fun y289 => (if y289.length + l0.length < 17592186044416 then (some (y289 ++ l0)) else (none))) = some r := h
 clear h
 obtain ⟨y289, hy_⟩ : ∃ y_ : List Int, y_ = ((([] : List Int))) := ⟨_, rfl⟩
 replace H : (if y289.length + l0.length < 17592186044416 then (some (y289 ++ l0)) else (none)) = some r := qH
 have Ny289 := Aside0.mk hy_
 clear hy_
 by_cases c2 : y289.length + l0.length < 17592186044416
 ·
  rw [if_pos c2] at H
  have LMc2 := Aside0.mk c2
  clear c2
  obtain ⟨y292, hy_⟩ : ∃ y_ : List Int, y_ = ((y289 ++ l0)) := ⟨_, rfl⟩
  replace H : (some y292) = some r := qH
  have Ny292 := Aside0.mk hy_
  clear hy_
  obtain rfl := Option.some.inj H
  go_enter Try.func77, Try.ntmps77
  go_wp2_with (first | ((with_reducible refine gate_dst (N := 3) rfl ?_); refine Kd.R_lit (Kd.int .i64) _ 3 ?hg (N := 3) ?hd (xs := ([] : List Int)) (inner := []) (ok := fun _ => True) (okp := fun _ => True) ?hr ?hp (fun _ hk => hk) trivial (Below.refl _ _) (Nat.le_refl _) (by simp) ?_; (case hd => rfl); (case hg => rfl); (case hr => first | (go_simp; done) | (go_simp; rfl)); (case hp => exact (Reps.none _ _)); intro v290 w3 ho4 hb hg_ hnew_; clear hg_ hnew_; (first | rw [← Ny289.out] at ho4 | (simp only [Int.reduceToNat] at ho4; rw [← Ny289.out] at ho4)); have Oq2 := ql ho4; replace HB := qs hb; clear hb ho4) | ((with_reducible refine gate_builtin (b := .append) (xs := #[.tmp 3, .tmp 4]) rfl ?_); at_builtin; refine Kd.R_append_rows (Kd.int .i64) (w0 := w) w.heap.size rfl (.tmp 3) (.tmp 4) 24 3 (.int .i64 0) 8 rfl Try.underlying24 info3 rfl (by decide) (by omega) v290 y289 l0 _ _ _ (fun _ => True) (fun _ => False) rfl rfl ?aO ?aR (fun _ _ h => h) (fun _ h => h.elim) ?aF ?aB ?aS ?aL ?_; (case aR => repeat (first | exact (Kd.C_below HR0.out HB.out) | (with_reducible first | refine Kd.C_alloc ?_ _ | refine Kd.C_drewN ?_ _ | refine Kd.C_drew ?_))); (case aB => exact qb); (case aF => exact (fun _ _ => trivial)); (case aO => exact (sqr Oq2)); (case aS => exact (below_size qb)); (case aL => have := LMc2.out; omega); intro v293 w5 ho hb hg hat; rw [← Ny292.out] at ho; have Oq3 := am (ho); replace HB := am hb; clear Oq2; clear ho hb hg hat))
  go_ret
  exact ⟨_, Q2, Q40, qb⟩
 ·
  rw [if_neg c2] at H
  exact absurd H (by simp)

/-! ### spec_l1Has: function 134 -/
def spec_l1Has.l0 : Nat → Int → List Int → Int → Int → Option (Bool)
 | 0, _, _, _, _ => none
 | k + 1, x1, x7, x8, x9 => if x9 < x8 then (if 0 ≤ x9 then (if x9 < (x7.length : Int) then (if (rd x7 x9) = x1 then (some true) else (spec_l1Has.l0 k x1 x7 x8 (wrap64 (x9 + 1)))) else (none)) else (none)) else (some false)
def spec_l1Has.f (k : Nat) (l0 : List Int) (a1 : Int) : Option (Bool) := spec_l1Has.l0 k a1 l0 (l0.length : Int) 0
set_option maxHeartbeats 8000000 in
set_option maxRecDepth 100000 in
theorem spec_l1Has.calls (k : Nat) (A0 : Option Addr) (c0 : Nat) (l0 : List Int) (a1 : Int) (r : Bool) (w : World) (hr0 : Kd.C (Kd.int .i64) w A0 l0.length l0) (hc0 : l0.length ≤ c0) (h : spec_l1Has.f k l0 a1 = some r) :
  Calls Try.prog 134 #[.slice A0 l0.length c0, .int .i64 a1] w fun e w' => e = .returned (.bool r) ∧ Drawn0 w w' := by
 have HR0 := Aside0.mk hr0
 have HC0 := Aside0.mk hc0
 clear hr0 hc0
 have H : (spec_l1Has.l0 k a1 l0 (l0.length : Int) 0) = some r := h
 clear h
 have H' := Aside0.mk H
 clear H
 go_enter Try.func134, Try.ntmps134
 go_wp2
 go_loopg [9] k (fun kq v9 w' => ∃ (x9_1 : Int), v9 = .int .i64 x9_1 ∧ Aside0 (spec_l1Has.l0 kq a1 l0 (l0.length : Int) x9_1 = some r) ∧ Aside0 (kq ≤ k) ∧ Drawn0 w w')
 case atStart => exact ⟨(0), Q3, H', ⟨Nat.le_refl _⟩, Q4⟩
 case round =>
  clear H'
  obtain ⟨x9_1, rfl, HA, HK1, ⟨m1, rfl⟩⟩ := hrel
  cases gk with
  | zero => exact absurd HA.out (by simp [spec_l1Has.l0])
  | succ k1 =>
   have H := HA.out
   clear HA
   simp only [spec_l1Has.l0] at H
   by_cases c3 : x9_1 < (l0.length : Int)
   ·
    rw [if_pos c3] at H
    have c3b0 : decide (x9_1 < (l0.length : Int)) = true := decide_eq_true c3
    clear c3
    by_cases c4 : 0 ≤ x9_1
    ·
     rw [if_pos c4] at H
     have c4b0 : decide (0 ≤ x9_1) = true := decide_eq_true c4
     clear c4
     by_cases c5 : x9_1 < (l0.length : Int)
     ·
      rw [if_pos c5] at H
      have c5b0 : decide (x9_1 < (l0.length : Int)) = true := decide_eq_true c5
      clear c5
      by_cases c6 : (rd l0 x9_1) = a1
      ·
       rw [if_pos c6] at H
       have c6b0 : ((rd l0 x9_1) == a1) = true := beq_iff_eq.mpr c6
       have c6b1 : ((rd l0 x9_1) != a1) = false := bne_eq_false_iff_eq.mpr c6
       clear c6
       obtain rfl := Option.some.inj H
       have p295 : 0 ≤ (x9_1 : Int) := of_decide_eq_true Q1
       have q295 : x9_1 < (l0.length : Int) := of_decide_eq_true Q1
       obtain ⟨ad295, e295, hx295_0⟩ := Kd.at_int HR0.out x9_1 p295 q295
       cases e295
       replace p295 := eq_true p295
       replace q295 := eq_true q295
       go_wp2
       go_ret
       exact ⟨Q3, Q4⟩
      ·
       rw [if_neg c6] at H
       have c6b0 : ((rd l0 x9_1) == a1) = false := beq_eq_false_iff_ne.mpr c6
       have c6b1 : ((rd l0 x9_1) != a1) = true := bne_iff_ne.mpr c6
       have H' := Aside0.mk H
       clear H
       have p295 : 0 ≤ (x9_1 : Int) := of_decide_eq_true Q1
       have q295 : x9_1 < (l0.length : Int) := of_decide_eq_true Q1
       obtain ⟨ad295, e295, hx295_0⟩ := Kd.at_int HR0.out x9_1 p295 q295
       cases e295
       replace p295 := eq_true p295
       replace q295 := eq_true q295
       go_wp2
       go_roundg k1
       case measure => have := HK1.out; omega
       case rel => exact ⟨(wrap64 (x9_1 + 1)), Q3, H', ⟨Q42⟩, Q4⟩
     ·
      rw [if_neg c5] at H
      exact absurd H (by simp)
    ·
     rw [if_neg c4] at H
     exact absurd H (by simp)
   ·
    rw [if_neg c3] at H
    have c3b0 : decide (x9_1 < (l0.length : Int)) = false := decide_eq_false c3
    clear c3
    obtain rfl := Option.some.inj H
    go_wp2
    go_ret
    exact ⟨Q3, Q4⟩

end Go.Proofs.Ytllhofdgbpnkkaa.PFnPlacementsListed
