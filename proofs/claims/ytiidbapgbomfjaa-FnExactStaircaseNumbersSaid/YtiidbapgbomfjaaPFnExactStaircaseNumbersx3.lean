-- Printed for this claim by wip/pp.py over the kit's printer; Lean checks it.
import Derived.Test.YtiidbapgbomfjaaPFnExactStaircaseNumbersx0
import Derived.Test.YtiidbapgbomfjaaPFnExactStaircaseNumbersx1
import Derived.Test.YtiidbapgbomfjaaPFnExactStaircaseNumbersx2
namespace Go.Proofs.Ytiidbapgbomfjaa.PFnExactStaircaseNumbers
open Go.RowKit Go.Proofs.YtiidbapgbomfjaaW.PrintWords Go.Proofs.YtiidbapgbomfjaaW.PrintLast Go.Proofs.YtiidbapgbomfjaaW.PrintMore
attribute [local go_sem] max2_int min2_int max_two min_two max_three min_three max_four min_four   -- for this text's walks alone
set_option linter.unusedVariables false
set_option linter.unusedSimpArgs false

/-! ### impl_Board_numbers: function 76 (by hand) -/
/-- One placement more is counted. -/
def bumpN (s q : List Int) : List Int := s.set (cntR q).toNat (wrap64 (rd s (cntR q) + 1))
def impl_Board_numbers.f (a0_0 a0_1 : Int) (l0_2 : List Int) : Option (List Int) := if 0 < a0_0 ∧ a0_0 ≤ 6 ∧ 0 ≤ a0_1 ∧ a0_1 ≤ 6 ∧ (l0_2.length : Int) = a0_0 ∧ ((plc a0_1.toNat l0_2 0 []).all fun x => decide (cntR x ≤ min a0_0 a0_1)) = true then some ((plc a0_1.toNat l0_2 0 []).foldl bumpN (List.replicate (min a0_0 a0_1 + 1).toNat 0)) else none
-- (walk)
set_option maxHeartbeats 1000000 in
set_option maxRecDepth 2000 in
theorem nb_one {gv go gq R cq M co base : Nat} {okp : Nat → Prop} {out q : List Int} {w : World} (hv : w.heap[gv]? = some (.cells #[.slice (some ⟨go, 0, none⟩) M co] 22 (0, 0))) (ho : Kd.R (Kd.int .i64) 3 w base okp (.slice (some ⟨go, 0, none⟩) M co) out)
    (hq : Kd.C (Kd.int .i64) w (some ⟨gq, 0, none⟩) q.length q) (hqR : q.length = R) (hcq : q.length ≤ cq) (h6 : R ≤ 6) (hM : cntR q < M) :
    Calls Try.prog 97 #[.slice (some ⟨gq, 0, none⟩) R cq, .pointer (some ⟨gv, 0, none⟩)] w fun e w2 => e = .returned (.bool true) ∧ ∃ n, w2 = (w.drewN n).setCell ⟨go, (cntR q).toNat, none⟩ (.int .i64 (wrap64 (rd out (cntR q) + 1))) := by
  subst hqR
  have c1 := blk_cell hv 0
  have hb := cntR_le q
  have hf : impl_rooks.f q = some (cntR q) := by unfold impl_rooks.f; rw [if_pos (by omega)]
  have hc := Kd.R_celln (0 : Int) ho (cntR q) hb.1 (by omega)
  have h0 : decide (0 ≤ cntR q) = true := decide_eq_true hb.1
  have h1 : decide (cntR q < (M : Int)) = true := decide_eq_true hM
  obtain ⟨k1, k2⟩ := hc
  have HQ := Aside0.mk hq
  have HF := Aside0.mk hf
  clear hq hf hv ho
  go_enter Try.func97, Try.ntmps97
  go_wp2
  go_region_with (go_at_call 98; (refine (impl_rooks.calls _ _ q (cntR q) _ ?side1 hcq HF.out).mono ?_); (case side1 => repeat (first | exact HQ.out | (with_reducible refine Kd.C_alloc ?_ _) | (with_reducible refine Kd.C_drewN ?_ _) | (with_reducible refine Kd.C_drew ?_))); rintro e w' ⟨rfl, ⟨nd, rfl⟩⟩)
  all_goals (simp only [Exit.then]; go_wp2; go_ret; exact ⟨rfl, _, by rw [i64_w]; rfl⟩)
set_option maxHeartbeats 1000000 in
set_option maxRecDepth 4000 in
theorem nb_walk {R C cp M gv go co : Nat} {A : Option Addr} {l s0 : List Int} {w0 w : World} (hR : 0 < R) (hR6 : R ≤ 6) (hC6 : C ≤ 6) (hlR : l.length = R) (hcp : l.length ≤ cp) (hM : 0 < M) (hok : ∀ x ∈ plc C l 0 [], cntR x < M)
    (B0 : Below w0.heap.size w0 w) (hv : w.heap[gv]? = some (.cells #[.slice (some ⟨go, 0, none⟩) M co] 22 (0, 0))) (hgv : w0.heap.size ≤ gv) (ho : Kd.R (Kd.int .i64) 3 w w0.heap.size (fun _ => True) (.slice (some ⟨go, 0, none⟩) M co) s0) (hA : Kd.C (Kd.int .i64) w0 A l.length l) :
    Calls Try.prog 96 #[.agg #[.int .i64 R, .int .i64 C, .slice A l.length cp], .func (.func 97) #[] #[.pointer (some ⟨gv, 0, none⟩)]] w fun e w' => e = .returned (.tuple #[]) ∧ w'.heap[gv]? = some (.cells #[.slice (some ⟨go, 0, none⟩) M co] 22 (0, 0)) ∧ Kd.R (Kd.int .i64) 3 w' w0.heap.size (fun _ => True) (.slice (some ⟨go, 0, none⟩) M co) ((plc C l 0 []).foldl bumpN s0) ∧ Below w0.heap.size w0 w' := by
  have hB := B0.size
  have hlv := blk_lt hv
  have hmain := wk_all (σ := List Int) (ok := fun q => cntR q < M) (S := fun N1 s w1 => s.length = M ∧ w1.heap[gv]? = some (.cells #[.slice (some ⟨go, 0, none⟩) M co] 22 (0, 0)) ∧ Kd.R (Kd.int .i64) 3 w1 w0.heap.size (fun k => w0.heap.size ≤ k ∧ k < w.heap.size) (.slice (some ⟨go, 0, none⟩) M co) s ∧ Below w0.heap.size w0 w1)
    (step := bumpN) (s0 := s0) (A := A) (l := l) (cp := cp) (R := R) (C := C) (fid := 97) (caps := #[.pointer (some ⟨gv, 0, none⟩)]) (w := w) hR hR6 hC6 hlR hcp hok (fun _ _ => by kernel_rfl)
    (fun w1 hb => ⟨(Kd.R_reads' ho).1.symm, blk_below hv hb, Kd.R_below (Kd.R_mono (Kd.R_bound ho) (fun k hk => ⟨hk.2.1, hk.2.2.1⟩)) hb, below_step B0 hb⟩)
    (fun N1 s w1 w2 hs hb _ => ⟨hs.1, (hb.block gv hlv).trans hs.2.1, Kd.R_step hs.2.2.1 (fun k hk _ => hb.block k hk.2), below_weaken hs.2.2.2 hB hb⟩)
    (fun N1 s w1 hs => Kd.C_below hA hs.2.2.2)
    (fun N1 s q w1 gq cq hs hN1 hN hq hoq hc hcq => by
      obtain ⟨hl, hv1, ho1, hb1⟩ := hs
      obtain ⟨hgo, cells, hcells⟩ := wk_own ho1 hM
      refine (nb_one hv1 ho1 hc hq hcq hR6 hoq).mono ?_
      rintro e w2 ⟨rfl, n, rfl⟩
      have hp := Kd.R_putn (Kd.R_drewN ho1 n) (cntR q) (wrap64 (rd s (cntR q) + 1))
      have hcd : (w1.drewN n).heap[go]? = some (.cells cells 3 (0, 0)) := hcells
      refine ⟨rfl, ⟨by unfold bumpN; rw [List.length_set]; exact hl, blk_far (p := ⟨go, (cntR q).toNat, none⟩) (blk_drewN hv1 n) (blk_ne (blk_drewN hv1 n) hcd (by decide)) _, hp, below_set (pw_below_drewN hb1 n) hgo.1⟩, ?_, ?_⟩
      · exact ((Below.refl w0.heap.size (w1.drewN n)).setCell (p := ⟨go, (cntR q).toNat, none⟩) hgo.1 _).size
      · intro k hk1 hk2
        exact Below.heap_setCell (w1.drewN n) ⟨go, (cntR q).toNat, none⟩ _ k (by have := hgo.2; show k ≠ go; omega))
  refine hmain.mono ?_
  rintro e w' ⟨rfl, N1, _, h1, h2, h3, h4⟩
  exact ⟨rfl, h2, Kd.R_mono h3 (fun _ _ => trivial), h4⟩
set_option maxHeartbeats 1000000 in
set_option maxRecDepth 2000 in
theorem impl_Board_numbers.calls (a0_0 : Int) (a0_1 : Int) (A0_2 : Option Addr) (c0_2 : Nat) (l0_2 : List Int) (r : List Int) (w : World) (hr0_2 : Kd.C (Kd.int .i64) w A0_2 l0_2.length l0_2) (hc0_2 : l0_2.length ≤ c0_2) (h : impl_Board_numbers.f a0_0 a0_1 l0_2 = some r) :
    Calls Try.prog 76 #[.agg #[.int .i64 a0_0, .int .i64 a0_1, .slice A0_2 l0_2.length c0_2]] w fun e w' => ∃ v0_ : Value, e = .returned (v0_) ∧ Kd.R (Kd.int .i64) 3 w' w.heap.size (fun _ => True) v0_ r ∧ Below w.heap.size w w' := by
  have info3 := info3
  unfold impl_Board_numbers.f at h
  by_cases hc : 0 < a0_0 ∧ a0_0 ≤ 6 ∧ 0 ≤ a0_1 ∧ a0_1 ≤ 6 ∧ (l0_2.length : Int) = a0_0 ∧ ((plc a0_1.toNat l0_2 0 []).all fun x => decide (cntR x ≤ min a0_0 a0_1)) = true
  case neg => rw [if_neg hc] at h; exact absurd h (by simp)
  rw [if_pos hc] at h
  obtain ⟨h1, h2, h3, h4, h5, h6⟩ := hc
  have HRes := Aside0.mk (Option.some.inj h)
  clear h
  obtain ⟨C, rfl⟩ := Int.eq_ofNat_of_zero_le h3
  obtain ⟨R, rfl⟩ := Int.eq_ofNat_of_zero_le (Int.le_of_lt h1)
  obtain ⟨M, hM⟩ : ∃ M : Nat, M = min R C + 1 := ⟨_, rfl⟩
  have hmin : (min (R : Int) (C : Int)) = ((min R C : Nat) : Int) := by omega
  rw [Int.toNat_natCast] at HRes h6
  rw [hmin] at HRes h6
  have HALL := Aside0.mk (show ∀ x ∈ plc C l0_2 0 [], cntR x < M from fun x hx => by
    have := List.all_eq_true.1 h6 x hx
    have := of_decide_eq_true this
    omega)
  have hRl : l0_2.length = R := by omega
  have HR0 := Aside0.mk hr0_2
  have HRL := Aside0.mk hRl
  have HM := Aside0.mk hM
  clear hr0_2 h6 hRl h5 hM hmin
  by_cases hRC : C < R
  all_goals
    go_enter Try.func76, Try.ntmps76
    go_wp2_with (first
      | ((with_reducible refine gate_dst (N := 1) rfl ?_); refine box_event ?hg (N := 1) ?hd (cs := #[.int .i64 R, .int .i64 C, .slice A0_2 l0_2.length c0_2]) (t := 24) ?hr ?_; (case hd => rfl); (case hg => rfl); (case hr => first | (go_simp; done) | (go_simp; rfl)); intro gb hgb w1 bb hb1; have GB := Aside0.mk hgb; have BB := Aside0.mk bb; have HB1 := Aside0.mk hb1; have c10 := blk_cell bb 0; have c11 := blk_cell bb 1; clear hgb bb hb1)
      | ((with_reducible refine gate_dst (N := 10) rfl ?_); refine Kd.R_make (Kd.int .i64) (w0 := w1) w1.heap.size 3 rfl (N := 10) rfl 22 _ _ rfl _ rfl rfl Try.underlying22 (.int .i64 0) 8 info3 rfl (by decide) (by omega) 0 (ok := fun _ => True) (okp := fun _ => True) rfl (fun _ hk => hk) trivial (by omega) (by omega) (Below.refl _ _) (Nat.le_refl _) ?_; intro v1 w3 ho hb3 hgr3 hnw3; (first | rw [show ((R : Int) + 1).toNat = M from by have := HM.out; omega] at ho | rw [show ((C : Int) + 1).toNat = M from by have := HM.out; omega] at ho); obtain ⟨go, co, ev, hq1, hq2, hq3⟩ := Kd.R_form ho (by rw [List.length_replicate]; have := HM.out; omega); rw [List.length_replicate] at ev; subst ev; have HQ1 := Aside0.mk hq1; have HQ2 := Aside0.mk hq2; clear hq1 hq2 hq3; have HO := Aside0.mk ho; have HB3 := Aside0.mk hb3; clear ho hb3 hgr3 hnw3 c10 c11)
      | ((with_reducible refine gate_dst (N := 3) rfl ?_); refine box_event ?hg (N := 3) ?hd (cs := #[.slice none 0 0]) (t := 22) ?hr ?_; (case hd => rfl); (case hg => rfl); (case hr => first | (go_simp; done) | (go_simp; rfl)); intro gv hgv w4 bv hb4; have cv0 := blk_cell bv 0; have fv0 := blk_frozen bv 0; have bb4 := blk_far (p := ⟨gv, 0, none⟩) (blk_below (blk_below BB.out HB3.out) hb4) (blk_ne (blk_below (blk_below BB.out HB3.out) hb4) bv (by decide)) (.slice (some ⟨go, 0, none⟩) M co); have c20 := blk_cell bb4 0; have c21 := blk_cell bb4 1; have c22 := blk_cell bb4 2; have GV := Aside0.mk hgv; have BV := Aside0.mk bv; have HB4 := Aside0.mk hb4; clear bb4 hgv bv hb4)
      )
  all_goals
    have hB1 := HB1.out
    have hB3 := HB3.out
    have hB4 := HB4.out
    have hgv := GV.out
    have T4 : Below w.heap.size w w4 := below_step (below_step hB1 hB3) hB4
    have s1 := hB1.size
    have s3 := hB3.size
    have T5 : Below w.heap.size w (w4.setCell ⟨gv, 0, none⟩ (.slice (some ⟨go, 0, none⟩) M co)) := below_set T4 (by omega)
    have O4 := Kd.R_set (Kd.R_below HO.out hB4) BV.out (by intro x hx; simp [Kd.int, Kd.scalar] at hx; subst hx; decide) 0 (.slice (some ⟨go, 0, none⟩) M co)
    have HW := nb_walk (R := R) (C := C) (cp := c0_2) (A := A0_2) (l := l0_2) (by omega) (by omega) (by omega) HRL.out hc0_2 (by have := HM.out; omega) HALL.out T5 (blk_put BV.out 0 _ rfl) (by omega) (Kd.R_lower O4 s1) HR0.out
    clear T4 T5 O4 cv0 fv0 c20 c21 c22 s1 s3 hgv hB1 hB3 hB4
    refine HW.mono ?_
    rintro e w6 ⟨rfl, hv6, ho6, hb6⟩
    have cv6 := blk_cell hv6 0
    have HO6 := Aside0.mk ho6
    have HB6 := Aside0.mk hb6
    clear HW hv6 ho6 hb6
    go_wp2
    go_ret
    exact ⟨_, rfl, by rw [← HRes.out, show (((min R C : Nat) : Int) + 1).toNat = M from by have := HM.out; omega]; exact HO6.out, HB6.out⟩

/-! ### impl_within: function 89 -/
def impl_within.f (a0 : Int) (a1 : Int) (a2 : Int) : Option (Bool) := if a1 ≤ a0 then (some (decide (a0 ≤ a2))) else (some false)
set_option maxHeartbeats 8000000 in
set_option maxRecDepth 100000 in
theorem impl_within.calls (a0 : Int) (a1 : Int) (a2 : Int) (r : Bool) (w : World) (h : impl_within.f a0 a1 a2 = some r) :
    Calls Try.prog 89 #[.int .i64 a0, .int .i64 a1, .int .i64 a2] w fun e w' => e = .returned (.bool r) ∧ Drawn0 w w' := by
  have H : (if a1 ≤ a0 then (some (decide (a0 ≤ a2))) else (some false)) = some r := h
  clear h
  by_cases c4 : a1 ≤ a0
  · rw [if_pos c4] at H
    have c4b0 : decide (a1 ≤ a0) = true := decide_eq_true c4
    clear c4
    obtain rfl := Option.some.inj H
    go_enter Try.func89, Try.ntmps89
    go_wp2
    go_ret
    exact ⟨by first | rfl | (simp; done) | (simp [*]; done), by repeat (first | exact Drawn0.refl _ | apply Drawn0.step)⟩
  · rw [if_neg c4] at H
    have c4b0 : decide (a1 ≤ a0) = false := decide_eq_false c4
    clear c4
    obtain rfl := Option.some.inj H
    go_enter Try.func89, Try.ntmps89
    go_wp2
    go_ret
    exact ⟨by first | rfl | (simp; done) | (simp [*]; done), by repeat (first | exact Drawn0.refl _ | apply Drawn0.step)⟩

/-! ### impl_isSide: function 86 -/
def impl_isSide.f (a0 : Int) : Option (Bool) := (impl_within.f a0 1 6).bind fun t137 => (some t137)
set_option maxHeartbeats 8000000 in
set_option maxRecDepth 100000 in
theorem impl_isSide.calls (a0 : Int) (r : Bool) (w : World) (h : impl_isSide.f a0 = some r) :
    Calls Try.prog 86 #[.int .i64 a0] w fun e w' => e = .returned (.bool r) ∧ Drawn0 w w' := by
  have H : ((impl_within.f a0 1 6).bind fun t137 => (some t137)) = some r := h
  clear h
  replace H := Option.bind_eq_some_iff.mp H
  obtain ⟨t137, A20, H⟩ := H
  replace H : (some t137) = some r := H
  have A2 := Aside0.mk A20
  clear A20
  obtain rfl := Option.some.inj H
  go_enter Try.func86, Try.ntmps86
  go_wp2_with (first | ((with_reducible refine gate_callee (f := 89) rfl ?_); refine goesL_ (some 4) rfl rfl Try.func89 (by kernel_rfl) rfl #[.int .i64 a0, .int .i64 1, .int .i64 6] rfl (by (try simp only [List.map_toArray, List.map_cons, List.map_nil]); first | done | rfl | (simp only [List.length_drop, List.length_take]; rfl)) ?_; (with_reducible refine (impl_within.calls a0 1 6 t137 _ A2.out).mono ?_); rintro e w' ⟨rfl, ⟨nd, rfl⟩⟩; refine ⟨_, rfl, ?_⟩))
  go_ret
  exact ⟨by first | rfl | (simp; done) | (simp [*]; done), by repeat (first | exact Drawn0.refl _ | apply Drawn0.step)⟩

/-! ### impl_StaircaseNumbers: function 56 -/
def impl_StaircaseNumbers.l0 : Nat → List Int → Int → Int → Option (List Int × Bool)
  | 0, _, _, _ => none
  | k + 1, x4, x10, x11 => if x11 < x10 then (if x4.length < 17592186044416 then (impl_StaircaseNumbers.l0 k (x4 ++ [x11]) x10 (wrap64 (x11 + 1))) else (none)) else ((impl_boardOf.f k x4).bind fun bt145 => ((impl_Board_numbers.f bt145.1 bt145.2.1 bt145.2.2).bind fun t150 => (some (t150, true))))
def impl_StaircaseNumbers.f (k : Nat) (a0 : Int) : Option (List Int × Bool) := (impl_isSide.f a0).bind fun t138 => (if t138 = true then (impl_StaircaseNumbers.l0 k (([] : List Int)) a0 0) else (some (([] : List Int), false)))
theorem impl_StaircaseNumbers.mono_l : ∀ k, (∀ y0 y1 y2, LeO (impl_StaircaseNumbers.l0 k y0 y1 y2) (impl_StaircaseNumbers.l0 (k + 1) y0 y1 y2))
  | 0 => fun _ _ _ r h => by simp [impl_StaircaseNumbers.l0] at h
  | k + 1 => by
    have ih0 := impl_StaircaseNumbers.mono_l k
    · intro y0 y1 y2
      unfold impl_StaircaseNumbers.l0
      repeat' first
      | (with_reducible exact ih0 _ _ _)
      | (with_reducible exact impl_boardOf.mono _ _)
      | (with_reducible exact LeO.refl _)
      | (with_reducible exact LeO.none _)
      | (with_reducible refine LeO.ite ?_ ?_)
      | (with_reducible refine LeO.bind ?_ (fun _ => ?_))
      | exact ih0 _ _ _
      | exact impl_boardOf.mono _ _
      | exact LeO.none _
      | refine LeO.ite ?_ ?_
      | refine LeO.bind ?_ (fun _ => ?_)
theorem impl_StaircaseNumbers.mono : ∀ a0 k, LeO (impl_StaircaseNumbers.f k a0) (impl_StaircaseNumbers.f (k + 1) a0) := by
  intro a0 k
  have ih0 := impl_StaircaseNumbers.mono_l k
  unfold impl_StaircaseNumbers.f
  repeat' first
      | (with_reducible exact ih0 _ _ _)
      | (with_reducible exact impl_boardOf.mono _ _)
      | (with_reducible exact LeO.refl _)
      | (with_reducible exact LeO.none _)
      | (with_reducible refine LeO.ite ?_ ?_)
      | (with_reducible refine LeO.bind ?_ (fun _ => ?_))
      | exact ih0 _ _ _
      | exact impl_boardOf.mono _ _
      | exact LeO.none _
      | refine LeO.ite ?_ ?_
      | refine LeO.bind ?_ (fun _ => ?_)
set_option maxHeartbeats 8000000 in
set_option maxRecDepth 100000 in
theorem impl_StaircaseNumbers.calls (k : Nat) (a0 : Int) (r1 : List Int) (r2 : Bool) (w : World) (h : impl_StaircaseNumbers.f k a0 = some (r1, r2)) :
    Calls Try.prog 56 #[.int .i64 a0] w fun e w' => ∃ v0_ : Value, e = .returned (.tuple #[v0_, .bool r2]) ∧ Kd.R (Kd.int .i64) 3 w' w.heap.size (fun _ => True) v0_ r1 ∧ Below w.heap.size w w' := by
  have HB := Aside0.mk (Below.refl w.heap.size w)
  have H : ((impl_isSide.f a0).bind fun t138 => (if t138 = true then (impl_StaircaseNumbers.l0 k (([] : List Int)) a0 0) else (some (([] : List Int), false)))) = some (r1, r2) := h
  clear h
  replace H := Option.bind_eq_some_iff.mp H
  obtain ⟨t138, A20, H⟩ := H
  replace H : (if t138 = true then (impl_StaircaseNumbers.l0 k (([] : List Int)) a0 0) else (some (([] : List Int), false))) = some (r1, r2) := H
  have A2 := Aside0.mk A20
  clear A20
  by_cases c3 : t138 = true
  · subst c3
    have H1 : (impl_StaircaseNumbers.l0 k (([] : List Int)) a0 0) = some (r1, r2) := by first | (rw [if_pos rfl] at H; exact H) | rfl
    clear H
    have H := H1
    clear H1
    obtain ⟨y139, hy139⟩ : ∃ y_ : List Int, y_ = (([] : List Int)) := ⟨_, rfl⟩
    replace H : (impl_StaircaseNumbers.l0 k y139 a0 0) = some (r1, r2) := by first | (rw [hy139]; with_reducible exact H) | (have H2_ := (Option.bind_some _ _).symm.trans H; rw [hy139]; with_reducible exact H2_) | (have H2_ := (Option.bind_some _ _).symm.trans H; with_reducible exact H2_) | with_reducible exact H | (rw [hy139]; exact H) | exact H
    have Ny139 := Aside0.mk hy139
    clear hy139
    have H' := Aside0.mk H
    clear H
    go_enter Try.func56, Try.ntmps56
    go_wp2_with (first | ((with_reducible refine gate_callee (f := 86) rfl ?_); refine goesL_ (some 7) rfl rfl Try.func86 (by kernel_rfl) rfl #[.int .i64 a0] rfl (by (try simp only [List.map_toArray, List.map_cons, List.map_nil]); first | done | rfl | (simp only [List.length_drop, List.length_take]; rfl)) ?_; (with_reducible refine (impl_isSide.calls a0 true _ A2.out).mono ?_); rintro e w' ⟨rfl, ⟨nd, rfl⟩⟩; refine ⟨_, rfl, ?_⟩) | ((with_reducible refine gate_dst (N := 9) rfl ?_); refine Kd.R_lit (Kd.int .i64) _ 3 ?hg (N := 9) ?hd (xs := ([] : List Int)) (inner := []) (ok := fun _ => True) (okp := fun _ => True) ?hr ?hp (fun _ hk => hk) trivial (Below.refl _ _) (Nat.le_refl _) (by simp) ?_; (case hd => rfl); (case hg => rfl); (case hr => first | (go_simp; done) | (go_simp; rfl)); (case hp => exact (Reps.none _ _)); intro v140 w4 ho5 hb hg_ hnew_; clear hg_ hnew_; (first | rw [← Ny139.out] at ho5 | (simp only [Int.reduceToNat] at ho5; rw [← Ny139.out] at ho5)); have n0_ := Aside0.mk (Kd.R_lower ho5 (below_size (by repeat (first | (with_reducible first | exact HB.out | apply below_alloc | apply pw_below_drewN | apply below_drew1) | exact HB.out)))); have n1_ := Aside0.mk (below_step (by repeat (first | (with_reducible first | exact HB.out | apply below_alloc | apply pw_below_drewN | apply below_drew1) | exact HB.out)) hb); clear HB; have HO141 := n0_; have HB := n1_; clear n0_ n1_; clear hb ho5))
    go_loopg [4, 11] k (fun kq v4 v11 w' => ∃ (x4_1 : List Int) (x11_1 : Int), v11 = .int .i64 x11_1 ∧ Aside0 (impl_StaircaseNumbers.l0 kq x4_1 a0 x11_1 = some (r1, r2)) ∧ Aside0 (kq ≤ k) ∧ Aside0 (Kd.R (Kd.int .i64) 3 w' w.heap.size (fun _ => True) v4 x4_1) ∧ Aside0 (Below w.heap.size w w'))
    case atStart => exact ⟨(y139), (0), (by first | rfl | (simp; done) | (simp [*]; done)), H', ⟨Nat.le_refl _⟩, ⟨by (with_reducible repeat (first | apply Kd.R_alloc | apply Kd.R_drewN | apply Kd.R_drew)); exact HO141.out⟩, ⟨by repeat (first | (with_reducible first | exact HB.out | apply below_alloc | apply pw_below_drewN | apply below_drew1) | exact HB.out)⟩⟩
    case round =>
      clear H'
      try clear p2
      try clear c3
      try clear c5
      obtain ⟨x4_1, x11_1, rfl, HA, HK1, HO_4, HB⟩ := hrel
      cases gk with
      | zero => exact absurd HA.out (by simp [impl_StaircaseNumbers.l0])
      | succ k1 =>
        have H := HA.out
        clear HA
        simp only [impl_StaircaseNumbers.l0] at H
        by_cases c6 : x11_1 < a0
        · rw [if_pos c6] at H
          have c6b0 : decide (x11_1 < a0) = true := decide_eq_true c6
          clear c6
          by_cases c7 : x4_1.length < 17592186044416
          · rw [if_pos c7] at H
            have LMc7 := Aside0.mk c7
            clear c7
            obtain ⟨y142, hy142⟩ : ∃ y_ : List Int, y_ = (x4_1 ++ [x11_1]) := ⟨_, rfl⟩
            replace H : (impl_StaircaseNumbers.l0 k1 y142 a0 (wrap64 (x11_1 + 1))) = some (r1, r2) := by first | (rw [hy142]; with_reducible exact H) | (have H2_ := (Option.bind_some _ _).symm.trans H; rw [hy142]; with_reducible exact H2_) | (have H2_ := (Option.bind_some _ _).symm.trans H; with_reducible exact H2_) | with_reducible exact H | (rw [hy142]; exact H) | exact H
            have Ny142 := Aside0.mk hy142
            clear hy142
            have H' := Aside0.mk H
            clear H
            go_wp2_with (first | ((with_reducible refine gate_builtin (b := .append) (xs := #[.tmp 14, .tmp 16]) rfl ?_); at_builtin; refine Kd.R_append (Kd.int .i64) (w0 := w) w.heap.size rfl (.tmp 14) (.tmp 16) 22 3 (.int .i64 0) 8 rfl Try.underlying22 info3 rfl (by decide) (by omega) u4 x4_1 x11_1 [.int .i64 x11_1] (fun _ => True) (fun _ => False) rfl rfl ?aP (fun _ hk => hk.elim) ?aF ?aO ?aB ?aS ?aL ?_; (case aP => exact rfl); (case aB => exact (by repeat (first | (with_reducible first | exact HB.out | apply below_alloc | apply pw_below_drewN | apply below_drew1) | exact HB.out))); (case aF => exact (fun _ _ => trivial)); (case aO => exact (by (with_reducible repeat (first | apply Kd.R_alloc | apply Kd.R_drewN | apply Kd.R_drew)); exact HO_4.out)); (case aS => exact (below_size (by repeat (first | (with_reducible first | exact HB.out | apply below_alloc | apply pw_below_drewN | apply below_drew1) | exact HB.out)))); (case aL => have := LMc7.out; omega); intro v143 w8 ho hb hg hat; rw [← Ny142.out] at ho; have n0_ := Aside0.mk (hb); have n1_ := Aside0.mk (ho); clear HB; clear HO_4; have HB := n0_; have HO144 := n1_; clear n0_ n1_; clear ho hb hg hat))
            go_roundg k1
            case measure => have := HK1.out; omega
            case rel => exact ⟨(y142), (wrap64 (x11_1 + 1)), (by first | rfl | (simp; done) | (simp [*]; done)), H', ⟨by have := HK1.out; omega⟩, ⟨by (with_reducible repeat (first | apply Kd.R_alloc | apply Kd.R_drewN | apply Kd.R_drew)); exact HO144.out⟩, ⟨by repeat (first | (with_reducible first | exact HB.out | apply below_alloc | apply pw_below_drewN | apply below_drew1) | exact HB.out)⟩⟩
          · rw [if_neg c7] at H
            exact absurd H (by simp)
        · rw [if_neg c6] at H
          have c6b0 : decide (x11_1 < a0) = false := decide_eq_false c6
          clear c6
          replace H := Option.bind_eq_some_iff.mp H
          obtain ⟨⟨t145, t146, t147⟩, A90, H⟩ := H
          replace H : ((impl_Board_numbers.f t145 t146 t147).bind fun t150 => (some (t150, true))) = some (r1, r2) := H
          have A9 := Aside0.mk A90
          clear A90
          replace H := Option.bind_eq_some_iff.mp H
          obtain ⟨t150, A100, H⟩ := H
          replace H : (some (t150, true)) = some (r1, r2) := H
          have A10 := Aside0.mk A100
          clear A100
          simp only [Option.some.injEq, Prod.mk.injEq] at H
          obtain ⟨rfl, rfl⟩ := H
          obtain ⟨Ao11, co11, eo11⟩ := Kd.R_slice HO_4.out
          subst eo11
          go_wp2_with (first | ((with_reducible refine gate_callee (f := 60) rfl ?_); refine goesL_ (some 20) rfl rfl Try.func60 (by kernel_rfl) rfl #[.slice Ao11 x4_1.length co11] rfl (by (try simp only [List.map_toArray, List.map_cons, List.map_nil]); first | done | rfl | (simp only [List.length_drop, List.length_take]; rfl)) ?_; (with_reducible refine (impl_boardOf.calls k1 _ _ x4_1 t145 t146 t147 _ ?side1 ?side2 A9.out).mono ?_); (case side1 => repeat (first | exact (Kd.R_reads' HO_4.out).2.2 | (with_reducible refine Kd.C_alloc ?_ _) | (with_reducible refine Kd.C_drewN ?_ _) | (with_reducible refine Kd.C_drew ?_))); (case side2 => exact (Kd.R_reads' HO_4.out).2.1); rintro e w12 ⟨v148, rfl, ho0, hb⟩; refine ⟨_, rfl, ?_⟩; have n0_ := Aside0.mk (Kd.R_elder' (by (with_reducible repeat (first | apply Kd.R_alloc | apply Kd.R_drewN | apply Kd.R_drew)); exact HO_4.out) (Kd.R_base ho0) hb); have n1_ := Aside0.mk (Kd.R_lower (Kd.R_new' ho0 (Kd.R_lt (by (with_reducible repeat (first | apply Kd.R_alloc | apply Kd.R_drewN | apply Kd.R_drew)); exact HO_4.out))) (below_size (by repeat (first | (with_reducible first | exact HB.out | apply below_alloc | apply pw_below_drewN | apply below_drew1) | exact HB.out)))); have n2_ := Aside0.mk (below_step (by repeat (first | (with_reducible first | exact HB.out | apply below_alloc | apply pw_below_drewN | apply below_drew1) | exact HB.out)) hb); clear HO_4; clear HB; have HO_4 := n0_; have HO149 := n1_; have HB := n2_; clear n0_ n1_ n2_; (try clear hb); (try clear hb2); (try clear hk); (try clear hi); (try clear ho0); obtain ⟨Ao13, co13, eo13⟩ := Kd.R_slice HO149.out; subst eo13) | ((with_reducible refine gate_callee (f := 76) rfl ?_); refine goesL_ (some 21) rfl rfl Try.func76 (by kernel_rfl) rfl #[.agg #[.int .i64 t145, .int .i64 t146, .slice Ao13 t147.length co13]] rfl (by (try simp only [List.map_toArray, List.map_cons, List.map_nil]); first | done | rfl | (simp only [List.length_drop, List.length_take]; rfl)) ?_; (with_reducible refine (impl_Board_numbers.calls t145 t146 _ _ t147 t150 _ ?side1 ?side2 A10.out).mono ?_); (case side1 => repeat (first | exact (Kd.R_reads' HO149.out).2.2 | (with_reducible refine Kd.C_alloc ?_ _) | (with_reducible refine Kd.C_drewN ?_ _) | (with_reducible refine Kd.C_drew ?_))); (case side2 => exact (Kd.R_reads' HO149.out).2.1); rintro e w14 ⟨v151, rfl, ho0, hb⟩; refine ⟨_, rfl, ?_⟩; have n0_ := Aside0.mk (Kd.R_elder' (by (with_reducible repeat (first | apply Kd.R_alloc | apply Kd.R_drewN | apply Kd.R_drew)); exact HO_4.out) (Kd.R_base ho0) hb); have n1_ := Aside0.mk (Kd.R_elder' (by (with_reducible repeat (first | apply Kd.R_alloc | apply Kd.R_drewN | apply Kd.R_drew)); exact HO149.out) (Kd.R_base ho0) hb); have n2_ := Aside0.mk (Kd.R_lower (Kd.R_new' (Kd.R_new' ho0 (Kd.R_lt (by (with_reducible repeat (first | apply Kd.R_alloc | apply Kd.R_drewN | apply Kd.R_drew)); exact HO_4.out))) (Kd.R_lt (by (with_reducible repeat (first | apply Kd.R_alloc | apply Kd.R_drewN | apply Kd.R_drew)); exact HO149.out))) (below_size (by repeat (first | (with_reducible first | exact HB.out | apply below_alloc | apply pw_below_drewN | apply below_drew1) | exact HB.out)))); have n3_ := Aside0.mk (below_step (by repeat (first | (with_reducible first | exact HB.out | apply below_alloc | apply pw_below_drewN | apply below_drew1) | exact HB.out)) hb); clear HO_4; clear HO149; clear HB; have HO_4 := n0_; have HO149 := n1_; have HO152 := n2_; have HB := n3_; clear n0_ n1_ n2_ n3_; (try clear hb); (try clear hb2); (try clear hk); (try clear hi); (try clear ho0)))
          go_ret2
          exact ⟨_, by first | rfl | (simp [errW_none, errW_some] <;> rfl) | (simp [*, errW_none, errW_some] <;> rfl), by (with_reducible repeat (first | apply Kd.R_alloc | apply Kd.R_drewN | apply Kd.R_drew)); exact Kd.R_mono HO152.out (fun _ hk => trivial), by repeat (first | (with_reducible first | exact HB.out | apply below_alloc | apply pw_below_drewN | apply below_drew1) | exact HB.out)⟩
  · replace c3 := Bool.eq_false_iff.mpr c3
    subst c3
    have H1 : (some (([] : List Int), false)) = some (r1, r2) := by first | (rw [if_neg (show ¬ (false = true) by decide)] at H; exact H) | rfl
    clear H
    have H := H1
    clear H1
    simp only [Option.some.injEq, Prod.mk.injEq] at H
    obtain ⟨rfl, rfl⟩ := H
    go_enter Try.func56, Try.ntmps56
    go_wp2_with (first | ((with_reducible refine gate_callee (f := 86) rfl ?_); refine goesL_ (some 7) rfl rfl Try.func86 (by kernel_rfl) rfl #[.int .i64 a0] rfl (by (try simp only [List.map_toArray, List.map_cons, List.map_nil]); first | done | rfl | (simp only [List.length_drop, List.length_take]; rfl)) ?_; (with_reducible refine (impl_isSide.calls a0 false _ A2.out).mono ?_); rintro e w' ⟨rfl, ⟨nd, rfl⟩⟩; refine ⟨_, rfl, ?_⟩))
    go_ret2
    exact ⟨_, by first | rfl | (simp [errW_none, errW_some] <;> rfl) | (simp [*, errW_none, errW_some] <;> rfl), by first | exact Kd.R_nil _ _ _ _ _ | exact Kd.N_nil _ _ _ _ _ | exact Kd.V_nil _ _ _ _ _ | exact Kd.Q_nil _ _ _ _ _ | exact Kd.S_nil _ _ _ _ _, by repeat (first | (with_reducible first | exact HB.out | apply below_alloc | apply pw_below_drewN | apply below_drew1) | exact HB.out)⟩

/-! ### laws_FnExactStaircaseNumbers: function 16 -/
mutual
def laws_FnExactStaircaseNumbers.j0 : Nat → Int → List Int → Bool → List Int → Bool → Option (Bool)
  | 0, _, _, _, _, _ => none
  | k + 1, x0, x3, x4, x5, x29 => if x29 = true then (some false) else ((laws_markIntS.f k x5 1).bind fun bt162 => ((laws_heldIntS.f k bt162.2 1).bind fun t164 => (if t164 < 0 then (some false) else (if t164 = bt162.1 then ((impl_StaircaseNumbers.f k x0).bind fun bt165 => ((laws_eqIntS.f k bt165.1 x3).bind fun t169 => (if t169 = true then (laws_FnExactStaircaseNumbers.j1 k bt162.2 bt162.1 (bt165.2 != x4)) else (laws_FnExactStaircaseNumbers.j1 k bt162.2 bt162.1 true)))) else (some false)))))
def laws_FnExactStaircaseNumbers.j1 : Nat → List Int → Int → Bool → Option (Bool)
  | 0, _, _, _ => none
  | k + 1, x5, x7, x54 => if x54 = true then (some false) else ((laws_heldIntS.f k x5 1).bind fun t170 => (if t170 < 0 then (some false) else (if t170 = x7 then (some true) else (some false))))
end
def laws_FnExactStaircaseNumbers.f (k : Nat) (a0 : Int) : Option (Bool) := (spec_StaircaseNumbers.f k a0).bind fun bt153 => ((impl_StaircaseNumbers.f k a0).bind fun bt157 => ((laws_eqIntS.f k bt157.1 bt153.1).bind fun t161 => (if t161 = true then (laws_FnExactStaircaseNumbers.j0 k a0 bt153.1 bt153.2 bt157.1 (bt157.2 != bt153.2)) else (laws_FnExactStaircaseNumbers.j0 k a0 bt153.1 bt153.2 bt157.1 true))))
theorem laws_FnExactStaircaseNumbers.mono_l : ∀ k, (∀ y0 y1 y2 y3 y4, LeO (laws_FnExactStaircaseNumbers.j0 k y0 y1 y2 y3 y4) (laws_FnExactStaircaseNumbers.j0 (k + 1) y0 y1 y2 y3 y4)) ∧ (∀ y0 y1 y2, LeO (laws_FnExactStaircaseNumbers.j1 k y0 y1 y2) (laws_FnExactStaircaseNumbers.j1 (k + 1) y0 y1 y2))
  | 0 => ⟨fun _ _ _ _ _ r h => by simp [laws_FnExactStaircaseNumbers.j0] at h, fun _ _ _ r h => by simp [laws_FnExactStaircaseNumbers.j1] at h⟩
  | k + 1 => by
    obtain ⟨ih0, ih1⟩ := laws_FnExactStaircaseNumbers.mono_l k
    refine ⟨?_, ?_⟩
    · intro y0 y1 y2 y3 y4
      unfold laws_FnExactStaircaseNumbers.j0
      repeat' first
      | (with_reducible exact ih0 _ _ _ _ _)
      | (with_reducible exact ih1 _ _ _)
      | (with_reducible exact impl_StaircaseNumbers.mono _ _)
      | (with_reducible exact laws_eqIntS.mono _ _ _)
      | (with_reducible exact laws_heldIntS.mono _ _ _)
      | (with_reducible exact laws_markIntS.mono _ _ _)
      | (with_reducible exact spec_StaircaseNumbers.mono _ _)
      | (with_reducible exact LeO.refl _)
      | (with_reducible exact LeO.none _)
      | (with_reducible refine LeO.ite ?_ ?_)
      | (with_reducible refine LeO.bind ?_ (fun _ => ?_))
      | exact ih0 _ _ _ _ _
      | exact ih1 _ _ _
      | exact impl_StaircaseNumbers.mono _ _
      | exact laws_eqIntS.mono _ _ _
      | exact laws_heldIntS.mono _ _ _
      | exact laws_markIntS.mono _ _ _
      | exact spec_StaircaseNumbers.mono _ _
      | exact LeO.none _
      | refine LeO.ite ?_ ?_
      | refine LeO.bind ?_ (fun _ => ?_)
    · intro y0 y1 y2
      unfold laws_FnExactStaircaseNumbers.j1
      repeat' first
      | (with_reducible exact ih0 _ _ _ _ _)
      | (with_reducible exact ih1 _ _ _)
      | (with_reducible exact impl_StaircaseNumbers.mono _ _)
      | (with_reducible exact laws_eqIntS.mono _ _ _)
      | (with_reducible exact laws_heldIntS.mono _ _ _)
      | (with_reducible exact laws_markIntS.mono _ _ _)
      | (with_reducible exact spec_StaircaseNumbers.mono _ _)
      | (with_reducible exact LeO.refl _)
      | (with_reducible exact LeO.none _)
      | (with_reducible refine LeO.ite ?_ ?_)
      | (with_reducible refine LeO.bind ?_ (fun _ => ?_))
      | exact ih0 _ _ _ _ _
      | exact ih1 _ _ _
      | exact impl_StaircaseNumbers.mono _ _
      | exact laws_eqIntS.mono _ _ _
      | exact laws_heldIntS.mono _ _ _
      | exact laws_markIntS.mono _ _ _
      | exact spec_StaircaseNumbers.mono _ _
      | exact LeO.none _
      | refine LeO.ite ?_ ?_
      | refine LeO.bind ?_ (fun _ => ?_)
theorem laws_FnExactStaircaseNumbers.mono : ∀ a0 k, LeO (laws_FnExactStaircaseNumbers.f k a0) (laws_FnExactStaircaseNumbers.f (k + 1) a0) := by
  intro a0 k
  obtain ⟨ih0, ih1⟩ := laws_FnExactStaircaseNumbers.mono_l k
  unfold laws_FnExactStaircaseNumbers.f
  repeat' first
      | (with_reducible exact ih0 _ _ _ _ _)
      | (with_reducible exact ih1 _ _ _)
      | (with_reducible exact impl_StaircaseNumbers.mono _ _)
      | (with_reducible exact laws_eqIntS.mono _ _ _)
      | (with_reducible exact laws_heldIntS.mono _ _ _)
      | (with_reducible exact laws_markIntS.mono _ _ _)
      | (with_reducible exact spec_StaircaseNumbers.mono _ _)
      | (with_reducible exact LeO.refl _)
      | (with_reducible exact LeO.none _)
      | (with_reducible refine LeO.ite ?_ ?_)
      | (with_reducible refine LeO.bind ?_ (fun _ => ?_))
      | exact ih0 _ _ _ _ _
      | exact ih1 _ _ _
      | exact impl_StaircaseNumbers.mono _ _
      | exact laws_eqIntS.mono _ _ _
      | exact laws_heldIntS.mono _ _ _
      | exact laws_markIntS.mono _ _ _
      | exact spec_StaircaseNumbers.mono _ _
      | exact LeO.none _
      | refine LeO.ite ?_ ?_
      | refine LeO.bind ?_ (fun _ => ?_)
theorem laws_FnExactStaircaseNumbers.j0_no (k : Nat) (x0 : Int) (x3 : List Int) (x4 : Bool) (x5 : List Int) : ¬ (laws_FnExactStaircaseNumbers.j0 k x0 x3 x4 x5 true = some true) := by
  cases k <;> simp [laws_FnExactStaircaseNumbers.j0]
theorem laws_FnExactStaircaseNumbers.j1_no (k : Nat) (x5 : List Int) (x7 : Int) : ¬ (laws_FnExactStaircaseNumbers.j1 k x5 x7 true = some true) := by
  cases k <;> simp [laws_FnExactStaircaseNumbers.j1]
set_option maxHeartbeats 8000000 in
set_option maxRecDepth 100000 in
theorem laws_FnExactStaircaseNumbers.calls (k : Nat) (a0 : Int) (w : World) (h : laws_FnExactStaircaseNumbers.f k a0 = some true) :
    Calls Try.prog 16 #[.int .i64 a0] w fun e w' => e = .returned (.bool true) ∧ Below w.heap.size w w' := by
  have HB := Aside0.mk (Below.refl w.heap.size w)
  have H : ((spec_StaircaseNumbers.f k a0).bind fun bt153 => ((impl_StaircaseNumbers.f k a0).bind fun bt157 => ((laws_eqIntS.f k bt157.1 bt153.1).bind fun t161 => (if t161 = true then (laws_FnExactStaircaseNumbers.j0 k a0 bt153.1 bt153.2 bt157.1 (bt157.2 != bt153.2)) else (laws_FnExactStaircaseNumbers.j0 k a0 bt153.1 bt153.2 bt157.1 true))))) = some true := h
  clear h
  replace H := Option.bind_eq_some_iff.mp H
  obtain ⟨⟨t153, t154⟩, A20, H⟩ := H
  replace H : ((impl_StaircaseNumbers.f k a0).bind fun bt157 => ((laws_eqIntS.f k bt157.1 t153).bind fun t161 => (if t161 = true then (laws_FnExactStaircaseNumbers.j0 k a0 t153 t154 bt157.1 (bt157.2 != t154)) else (laws_FnExactStaircaseNumbers.j0 k a0 t153 t154 bt157.1 true)))) = some true := H
  have A2 := Aside0.mk A20
  clear A20
  replace H := Option.bind_eq_some_iff.mp H
  obtain ⟨⟨t157, t158⟩, A30, H⟩ := H
  replace H : ((laws_eqIntS.f k t157 t153).bind fun t161 => (if t161 = true then (laws_FnExactStaircaseNumbers.j0 k a0 t153 t154 t157 (t158 != t154)) else (laws_FnExactStaircaseNumbers.j0 k a0 t153 t154 t157 true))) = some true := H
  have A3 := Aside0.mk A30
  clear A30
  have HC4 := Aside0.mk H
  clear H
  go_enter Try.func16, Try.ntmps16
  go_upto_region 3 with (first | ((with_reducible refine gate_callee (f := 55) rfl ?_); refine goesL_ (some 13) rfl rfl Try.func55 (by kernel_rfl) rfl #[.int .i64 a0] rfl (by (try simp only [List.map_toArray, List.map_cons, List.map_nil]); first | done | rfl | (simp only [List.length_drop, List.length_take]; rfl)) ?_; (with_reducible refine (spec_StaircaseNumbers.calls k a0 t153 t154 _ A2.out).mono ?_); rintro e w5 ⟨v155, rfl, ho0, hb⟩; refine ⟨_, rfl, ?_⟩; have n0_ := Aside0.mk (Kd.R_lower ho0 (below_size (by repeat (first | (with_reducible first | exact HB.out | apply below_alloc | apply pw_below_drewN | apply below_drew1) | exact HB.out)))); have n1_ := Aside0.mk (below_step (by repeat (first | (with_reducible first | exact HB.out | apply below_alloc | apply pw_below_drewN | apply below_drew1) | exact HB.out)) hb); clear HB; have HO156 := n0_; have HB := n1_; clear n0_ n1_; (try clear hb); (try clear hb2); (try clear hk); (try clear hi); (try clear ho0)) | ((with_reducible refine gate_callee (f := 56) rfl ?_); refine goesL_ (some 18) rfl rfl Try.func56 (by kernel_rfl) rfl #[.int .i64 a0] rfl (by (try simp only [List.map_toArray, List.map_cons, List.map_nil]); first | done | rfl | (simp only [List.length_drop, List.length_take]; rfl)) ?_; (with_reducible refine (impl_StaircaseNumbers.calls k a0 t157 t158 _ A3.out).mono ?_); rintro e w6 ⟨v159, rfl, ho0, hb⟩; refine ⟨_, rfl, ?_⟩; have n0_ := Aside0.mk (Kd.R_elder' (by (with_reducible repeat (first | apply Kd.R_alloc | apply Kd.R_drewN | apply Kd.R_drew)); exact HO156.out) (Kd.R_base ho0) hb); have n1_ := Aside0.mk (Kd.R_lower (Kd.R_new' ho0 (Kd.R_lt (by (with_reducible repeat (first | apply Kd.R_alloc | apply Kd.R_drewN | apply Kd.R_drew)); exact HO156.out))) (below_size (by repeat (first | (with_reducible first | exact HB.out | apply below_alloc | apply pw_below_drewN | apply below_drew1) | exact HB.out)))); have n2_ := Aside0.mk (below_step (by repeat (first | (with_reducible first | exact HB.out | apply below_alloc | apply pw_below_drewN | apply below_drew1) | exact HB.out)) hb); clear HO156; clear HB; have HO156 := n0_; have HO160 := n1_; have HB := n2_; clear n0_ n1_ n2_; (try clear hb); (try clear hb2); (try clear hk); (try clear hi); (try clear ho0)))
  (try simp only [Act.put, List.setIfInBounds_toArray, List.set_cons_zero, List.set_cons_succ])
  go_cut [29] (fun v29 wc => ∃ (kq : Nat) (x29_3 : Bool), v29 = .bool x29_3 ∧ Aside0 (laws_FnExactStaircaseNumbers.j0 kq a0 t153 t154 t157 x29_3 = some true) ∧ Aside0 (kq ≤ k) ∧ Aside0 (Kd.R (Kd.int .i64) 3 wc w.heap.size (fun k_ => some k_ ≠ (v159 : Value).ownBlock) v155 t153) ∧ Aside0 (Kd.R (Kd.int .i64) 3 wc w.heap.size (fun k_ => some k_ ≠ (v155 : Value).ownBlock) v159 t157) ∧ Aside0 (Below w.heap.size w wc))
  case first =>
    have H := HC4.out
    clear HC4
    replace H := Option.bind_eq_some_iff.mp H
    obtain ⟨t161, A70, H⟩ := H
    replace H : (if t161 = true then (laws_FnExactStaircaseNumbers.j0 k a0 t153 t154 t157 (t158 != t154)) else (laws_FnExactStaircaseNumbers.j0 k a0 t153 t154 t157 true)) = some true := H
    have A7 := Aside0.mk A70
    clear A70
    by_cases c8 : t161 = true
    · subst c8
      have H1 : (laws_FnExactStaircaseNumbers.j0 k a0 t153 t154 t157 (t158 != t154)) = some true := by first | (rw [if_pos rfl] at H; exact H) | rfl
      clear H
      have H := H1
      clear H1
      have H' := Aside0.mk H
      clear H
      obtain ⟨Ao9, co9, eo9⟩ := Kd.R_slice HO160.out
      subst eo9
      obtain ⟨Ao10, co10, eo10⟩ := Kd.R_slice HO156.out
      subst eo10
      go_wp2_with (first | ((with_reducible refine gate_callee (f := 21) rfl ?_); refine goesL_ (some 23) rfl rfl Try.func21 (by kernel_rfl) rfl #[.slice Ao9 t157.length co9, .slice Ao10 t153.length co10] rfl (by (try simp only [List.map_toArray, List.map_cons, List.map_nil]); first | done | rfl | (simp only [List.length_drop, List.length_take]; rfl)) ?_; (with_reducible refine (laws_eqIntS.calls k _ _ t157 _ _ t153 true _ ?side1 ?side2 ?side3 ?side4 A7.out).mono ?_); (case side1 => repeat (first | exact (Kd.R_reads' HO160.out).2.2 | (with_reducible refine Kd.C_alloc ?_ _) | (with_reducible refine Kd.C_drewN ?_ _) | (with_reducible refine Kd.C_drew ?_))); (case side2 => exact (Kd.R_reads' HO160.out).2.1); (case side3 => repeat (first | exact (Kd.R_reads' HO156.out).2.2 | (with_reducible refine Kd.C_alloc ?_ _) | (with_reducible refine Kd.C_drewN ?_ _) | (with_reducible refine Kd.C_drew ?_))); (case side4 => exact (Kd.R_reads' HO156.out).2.1); rintro e w' ⟨rfl, ⟨nd, rfl⟩⟩; refine ⟨_, rfl, ?_⟩))
      go_meet
      case rel => exact ⟨_, ((t158 != t154)), (by first | rfl | (simp; done) | (simp [*]; done)), H', ⟨by first | omega | exact Nat.le_refl _⟩, ⟨by (with_reducible repeat (first | apply Kd.R_alloc | apply Kd.R_drewN | apply Kd.R_drew)); exact Kd.R_mono HO156.out (fun _ hk => hk.2)⟩, ⟨by (with_reducible repeat (first | apply Kd.R_alloc | apply Kd.R_drewN | apply Kd.R_drew)); exact Kd.R_mono HO160.out (fun _ hk => hk.2)⟩, ⟨by repeat (first | (with_reducible first | exact HB.out | apply below_alloc | apply pw_below_drewN | apply below_drew1) | exact HB.out)⟩⟩
    · replace c8 := Bool.eq_false_iff.mpr c8
      subst c8
      have H1 : (laws_FnExactStaircaseNumbers.j0 k a0 t153 t154 t157 true) = some true := by first | (rw [if_neg (show ¬ (false = true) by decide)] at H; exact H) | rfl
      clear H
      have H := H1
      clear H1
      exact absurd H (laws_FnExactStaircaseNumbers.j0_no _ _ _ _ _)
  case rest =>
    clear HC4
    try clear c1
    try clear c2
    try clear p2
    try clear c5
    try clear c8
    obtain ⟨kq, x29_3, rfl, HA, HJ3, HO_3, HO_5, HB⟩ := hcut
    cases kq with
    | zero => exact absurd HA.out (by simp [laws_FnExactStaircaseNumbers.j0])
    | succ kj3 =>
      have H := HA.out
      clear HA
      simp only [laws_FnExactStaircaseNumbers.j0] at H
      by_cases c11 : x29_3 = true
      · subst c11
        have H1 : (some false) = some true := by first | (rw [if_pos rfl] at H; exact H) | rfl
        clear H
        have H := H1
        clear H1
        exact absurd (Option.some.inj H) (by decide)
      · replace c11 := Bool.eq_false_iff.mpr c11
        subst c11
        have H1 : ((laws_markIntS.f kj3 t157 1).bind fun bt162 => ((laws_heldIntS.f kj3 bt162.2 1).bind fun t164 => (if t164 < 0 then (some false) else (if t164 = bt162.1 then ((impl_StaircaseNumbers.f kj3 a0).bind fun bt165 => ((laws_eqIntS.f kj3 bt165.1 t153).bind fun t169 => (if t169 = true then (laws_FnExactStaircaseNumbers.j1 kj3 bt162.2 bt162.1 (bt165.2 != t154)) else (laws_FnExactStaircaseNumbers.j1 kj3 bt162.2 bt162.1 true)))) else (some false))))) = some true := by first | (rw [if_neg (show ¬ (false = true) by decide)] at H; exact H) | rfl
        clear H
        have H := H1
        clear H1
        replace H := Option.bind_eq_some_iff.mp H
        obtain ⟨⟨t162, t163⟩, A120, H⟩ := H
        replace H : ((laws_heldIntS.f kj3 t163 1).bind fun t164 => (if t164 < 0 then (some false) else (if t164 = t162 then ((impl_StaircaseNumbers.f kj3 a0).bind fun bt165 => ((laws_eqIntS.f kj3 bt165.1 t153).bind fun t169 => (if t169 = true then (laws_FnExactStaircaseNumbers.j1 kj3 t163 t162 (bt165.2 != t154)) else (laws_FnExactStaircaseNumbers.j1 kj3 t163 t162 true)))) else (some false)))) = some true := H
        have A12 := Aside0.mk A120
        clear A120
        replace H := Option.bind_eq_some_iff.mp H
        obtain ⟨t164, A130, H⟩ := H
        replace H : (if t164 < 0 then (some false) else (if t164 = t162 then ((impl_StaircaseNumbers.f kj3 a0).bind fun bt165 => ((laws_eqIntS.f kj3 bt165.1 t153).bind fun t169 => (if t169 = true then (laws_FnExactStaircaseNumbers.j1 kj3 t163 t162 (bt165.2 != t154)) else (laws_FnExactStaircaseNumbers.j1 kj3 t163 t162 true)))) else (some false))) = some true := H
        have A13 := Aside0.mk A130
        clear A130
        by_cases c14 : t164 < 0
        · rw [if_pos c14] at H
          have c14b0 : decide (t164 < 0) = true := decide_eq_true c14
          clear c14
          exact absurd (Option.some.inj H) (by decide)
        · rw [if_neg c14] at H
          have c14b0 : decide (t164 < 0) = false := decide_eq_false c14
          clear c14
          by_cases c15 : t164 = t162
          · rw [if_pos c15] at H
            have c15b0 : (t164 == t162) = true := beq_iff_eq.mpr c15
            have c15b1 : (t164 != t162) = false := bne_eq_false_iff_eq.mpr c15
            clear c15
            replace H := Option.bind_eq_some_iff.mp H
            obtain ⟨⟨t165, t166⟩, A160, H⟩ := H
            replace H : ((laws_eqIntS.f kj3 t165 t153).bind fun t169 => (if t169 = true then (laws_FnExactStaircaseNumbers.j1 kj3 t163 t162 (t166 != t154)) else (laws_FnExactStaircaseNumbers.j1 kj3 t163 t162 true))) = some true := H
            have A16 := Aside0.mk A160
            clear A160
            have HC17 := Aside0.mk H
            clear H
            obtain ⟨Ao18, co18, eo18⟩ := Kd.R_slice HO_5.out
            subst eo18
            go_upto_region 14 with (first | ((with_reducible refine gate_callee (f := 22) rfl ?_); refine goesL_ (some 32) rfl rfl Try.func22 (by kernel_rfl) rfl #[.slice Ao18 t157.length co18, .int .i64 1] rfl (by (try simp only [List.map_toArray, List.map_cons, List.map_nil]); first | done | rfl | (simp only [List.length_drop, List.length_take]; rfl)) ?_; (with_reducible refine (laws_markIntS.calls kj3 (fun k_ => some k_ = (.slice Ao18 t157.length co18 : Value).ownBlock) (.slice Ao18 t157.length co18) t157 1 t162 t163 w _ ?side1 ?side2 A12.out).mono ?_); (case side1 => repeat (first | (with_reducible first | exact HB.out | apply below_alloc | apply pw_below_drewN | apply below_drew1) | exact HB.out)); (case side2 => exact Kd.R_tight rfl HO_5.out); rintro e w19 ⟨rfl, hy0, hb, hkp⟩; refine ⟨_, rfl, ?_⟩; have n0_ := Aside0.mk (Kd.R_mono (ok' := fun k_ => some k_ ≠ (.slice Ao18 t157.length co18 : Value).ownBlock) (Kd.R_keptB (HO_3.out) hkp (fun k_ hk_ hs_ => (hk_) hs_)) (fun k_ hk_ => hk_.1)); have n1_ := Aside0.mk (Kd.R_reok rfl hy0 (fun k_ e_ => HO_5.out.1 k_ e_)); have n2_ := Aside0.mk (hb); clear HO_3; clear HO_5; clear HB; have HO_3 := n0_; have HO_5 := n1_; have HB := n2_; clear n0_ n1_ n2_; (try clear hb); (try clear hkp); (try clear hy0)) | ((with_reducible refine gate_callee (f := 29) rfl ?_); refine goesL_ (some 35) rfl rfl Try.func29 (by kernel_rfl) rfl #[.slice Ao18 t163.length co18, .int .i64 1] rfl (by (try simp only [List.map_toArray, List.map_cons, List.map_nil]); first | done | (rw [show t163.length = t157.length from (Kd.R_reads' HO_5.out).1.symm] <;> rfl) | rfl | (simp only [List.length_drop, List.length_take]; rfl)) ?_; (with_reducible refine (laws_heldIntS.calls kj3 _ _ t163 1 t164 _ ?side1 ?side2 A13.out).mono ?_); (case side1 => repeat (first | exact (Kd.R_reads' HO_5.out).2.2 | (with_reducible refine Kd.C_alloc ?_ _) | (with_reducible refine Kd.C_drewN ?_ _) | (with_reducible refine Kd.C_drew ?_))); (case side2 => rw [show t163.length = t157.length from (Kd.R_reads' HO_5.out).1.symm]; exact (Kd.R_reads' HO_5.out).2.1); rintro e w' ⟨rfl, ⟨nd, rfl⟩⟩; refine ⟨_, rfl, ?_⟩) | ((with_reducible refine gate_callee (f := 56) rfl ?_); refine goesL_ (some 43) rfl rfl Try.func56 (by kernel_rfl) rfl #[.int .i64 a0] rfl (by (try simp only [List.map_toArray, List.map_cons, List.map_nil]); first | done | rfl | (simp only [List.length_drop, List.length_take]; rfl)) ?_; (with_reducible refine (impl_StaircaseNumbers.calls kj3 a0 t165 t166 _ A16.out).mono ?_); rintro e w20 ⟨v167, rfl, ho0, hb⟩; refine ⟨_, rfl, ?_⟩; have n0_ := Aside0.mk (Kd.R_elder' (by (with_reducible repeat (first | apply Kd.R_alloc | apply Kd.R_drewN | apply Kd.R_drew)); exact HO_3.out) (Kd.R_base ho0) hb); have n1_ := Aside0.mk (Kd.R_elder' (by (with_reducible repeat (first | apply Kd.R_alloc | apply Kd.R_drewN | apply Kd.R_drew)); exact HO_5.out) (Kd.R_base ho0) hb); have n2_ := Aside0.mk (Kd.R_lower (Kd.R_new' (Kd.R_new' ho0 (Kd.R_lt (by (with_reducible repeat (first | apply Kd.R_alloc | apply Kd.R_drewN | apply Kd.R_drew)); exact HO_3.out))) (Kd.R_lt (by (with_reducible repeat (first | apply Kd.R_alloc | apply Kd.R_drewN | apply Kd.R_drew)); exact HO_5.out))) (below_size (by repeat (first | (with_reducible first | exact HB.out | apply below_alloc | apply pw_below_drewN | apply below_drew1) | exact HB.out)))); have n3_ := Aside0.mk (below_step (by repeat (first | (with_reducible first | exact HB.out | apply below_alloc | apply pw_below_drewN | apply below_drew1) | exact HB.out)) hb); clear HO_3; clear HO_5; clear HB; have HO_3 := n0_; have HO_5 := n1_; have HO168 := n2_; have HB := n3_; clear n0_ n1_ n2_ n3_; (try clear hb); (try clear hb2); (try clear hk); (try clear hi); (try clear ho0)))
            (try simp only [Act.put, List.setIfInBounds_toArray, List.set_cons_zero, List.set_cons_succ])
            go_cut [54] (fun v54 wc => ∃ (kq : Nat) (x54_16 : Bool), v54 = .bool x54_16 ∧ Aside0 (laws_FnExactStaircaseNumbers.j1 kq t163 t162 x54_16 = some true) ∧ Aside0 (kq ≤ kj3) ∧ Aside0 (Kd.R (Kd.int .i64) 3 wc w.heap.size (fun _ => True) (.slice Ao18 t157.length co18) t163) ∧ Aside0 (Below w.heap.size w wc))
            case first =>
              have H := HC17.out
              clear HC17
              replace H := Option.bind_eq_some_iff.mp H
              obtain ⟨t169, A210, H⟩ := H
              replace H : (if t169 = true then (laws_FnExactStaircaseNumbers.j1 kj3 t163 t162 (t166 != t154)) else (laws_FnExactStaircaseNumbers.j1 kj3 t163 t162 true)) = some true := H
              have A21 := Aside0.mk A210
              clear A210
              by_cases c22 : t169 = true
              · subst c22
                have H1 : (laws_FnExactStaircaseNumbers.j1 kj3 t163 t162 (t166 != t154)) = some true := by first | (rw [if_pos rfl] at H; exact H) | rfl
                clear H
                have H := H1
                clear H1
                have H' := Aside0.mk H
                clear H
                obtain ⟨Ao23, co23, eo23⟩ := Kd.R_slice HO168.out
                subst eo23
                obtain ⟨Ao24, co24, eo24⟩ := Kd.R_slice HO_3.out
                subst eo24
                go_wp2_with (first | ((with_reducible refine gate_callee (f := 21) rfl ?_); refine goesL_ (some 48) rfl rfl Try.func21 (by kernel_rfl) rfl #[.slice Ao23 t165.length co23, .slice Ao24 t153.length co24] rfl (by (try simp only [List.map_toArray, List.map_cons, List.map_nil]); first | done | rfl | (simp only [List.length_drop, List.length_take]; rfl)) ?_; (with_reducible refine (laws_eqIntS.calls kj3 _ _ t165 _ _ t153 true _ ?side1 ?side2 ?side3 ?side4 A21.out).mono ?_); (case side1 => repeat (first | exact (Kd.R_reads' HO168.out).2.2 | (with_reducible refine Kd.C_alloc ?_ _) | (with_reducible refine Kd.C_drewN ?_ _) | (with_reducible refine Kd.C_drew ?_))); (case side2 => exact (Kd.R_reads' HO168.out).2.1); (case side3 => repeat (first | exact (Kd.R_reads' HO_3.out).2.2 | (with_reducible refine Kd.C_alloc ?_ _) | (with_reducible refine Kd.C_drewN ?_ _) | (with_reducible refine Kd.C_drew ?_))); (case side4 => exact (Kd.R_reads' HO_3.out).2.1); rintro e w' ⟨rfl, ⟨nd, rfl⟩⟩; refine ⟨_, rfl, ?_⟩))
                go_meet
                case rel => exact ⟨_, ((t166 != t154)), (by first | rfl | (simp; done) | (simp [*]; done)), H', ⟨by have := HJ3.out; first | omega | exact Nat.le_refl _⟩, ⟨by (with_reducible repeat (first | apply Kd.R_alloc | apply Kd.R_drewN | apply Kd.R_drew)); exact Kd.R_mono HO_5.out (fun _ hk => trivial)⟩, ⟨by repeat (first | (with_reducible first | exact HB.out | apply below_alloc | apply pw_below_drewN | apply below_drew1) | exact HB.out)⟩⟩
              · replace c22 := Bool.eq_false_iff.mpr c22
                subst c22
                have H1 : (laws_FnExactStaircaseNumbers.j1 kj3 t163 t162 true) = some true := by first | (rw [if_neg (show ¬ (false = true) by decide)] at H; exact H) | rfl
                clear H
                have H := H1
                clear H1
                exact absurd H (laws_FnExactStaircaseNumbers.j1_no _ _ _)
            case rest =>
              clear HC17
              try clear c1
              try clear c2
              try clear p2
              try clear c5
              try clear c8
              try clear c11
              try clear c14
              try clear c14b0
              try clear c15
              try clear c15b0
              try clear c15b1
              try clear c16
              try clear c21
              try clear c22
              try clear p2
              obtain ⟨kq, x54_16, rfl, HA, HJ16, HO_5, HB⟩ := hcut
              have hl5_16 := (Kd.R_reads' HO_5.out).1
              rw [hl5_16] at HO_5
              (try simp only [hl5_16])
              cases kq with
              | zero => exact absurd HA.out (by simp [laws_FnExactStaircaseNumbers.j1])
              | succ kj16 =>
                have H := HA.out
                clear HA
                simp only [laws_FnExactStaircaseNumbers.j1] at H
                by_cases c25 : x54_16 = true
                · subst c25
                  have H1 : (some false) = some true := by first | (rw [if_pos rfl] at H; exact H) | rfl
                  clear H
                  have H := H1
                  clear H1
                  exact absurd (Option.some.inj H) (by decide)
                · replace c25 := Bool.eq_false_iff.mpr c25
                  subst c25
                  have H1 : ((laws_heldIntS.f kj16 t163 1).bind fun t170 => (if t170 < 0 then (some false) else (if t170 = t162 then (some true) else (some false)))) = some true := by first | (rw [if_neg (show ¬ (false = true) by decide)] at H; exact H) | rfl
                  clear H
                  have H := H1
                  clear H1
                  replace H := Option.bind_eq_some_iff.mp H
                  obtain ⟨t170, A260, H⟩ := H
                  replace H : (if t170 < 0 then (some false) else (if t170 = t162 then (some true) else (some false))) = some true := H
                  have A26 := Aside0.mk A260
                  clear A260
                  by_cases c27 : t170 < 0
                  · rw [if_pos c27] at H
                    have c27b0 : decide (t170 < 0) = true := decide_eq_true c27
                    clear c27
                    exact absurd (Option.some.inj H) (by decide)
                  · rw [if_neg c27] at H
                    have c27b0 : decide (t170 < 0) = false := decide_eq_false c27
                    clear c27
                    by_cases c28 : t170 = t162
                    · rw [if_pos c28] at H
                      have c28b0 : (t170 == t162) = true := beq_iff_eq.mpr c28
                      have c28b1 : (t170 != t162) = false := bne_eq_false_iff_eq.mpr c28
                      clear c28
                      clear H
                      go_wp2_with (first | ((with_reducible refine gate_callee (f := 29) rfl ?_); refine goesL_ (some 57) rfl rfl Try.func29 (by kernel_rfl) rfl #[.slice Ao18 t163.length co18, .int .i64 1] rfl (by (try simp only [List.map_toArray, List.map_cons, List.map_nil]); first | done | rfl | (simp only [List.length_drop, List.length_take]; rfl)) ?_; (with_reducible refine (laws_heldIntS.calls kj16 _ _ t163 1 t170 _ ?side1 ?side2 A26.out).mono ?_); (case side1 => repeat (first | exact (Kd.R_reads' HO_5.out).2.2 | (with_reducible refine Kd.C_alloc ?_ _) | (with_reducible refine Kd.C_drewN ?_ _) | (with_reducible refine Kd.C_drew ?_))); (case side2 => exact (Kd.R_reads' HO_5.out).2.1); rintro e w' ⟨rfl, ⟨nd, rfl⟩⟩; refine ⟨_, rfl, ?_⟩))
                      go_ret
                      exact ⟨by first | rfl | (simp [errW_none, errW_some] <;> rfl) | (simp [*, errW_none, errW_some] <;> rfl), by repeat (first | (with_reducible first | exact HB.out | apply below_alloc | apply pw_below_drewN | apply below_drew1) | exact HB.out)⟩
                    · rw [if_neg c28] at H
                      have c28b0 : (t170 == t162) = false := beq_eq_false_iff_ne.mpr c28
                      have c28b1 : (t170 != t162) = true := bne_iff_ne.mpr c28
                      exact absurd (Option.some.inj H) (by decide)
          · rw [if_neg c15] at H
            have c15b0 : (t164 == t162) = false := beq_eq_false_iff_ne.mpr c15
            have c15b1 : (t164 != t162) = true := bne_iff_ne.mpr c15
            exact absurd (Option.some.inj H) (by decide)

/-- The pure statement of laws_FnExactStaircaseNumbers. -/
def laws_FnExactStaircaseNumbers.Pure : Prop := ∀ (a0 : Int), (Lit.int .i64 a0).wf = true → ∃ k, laws_FnExactStaircaseNumbers.f k a0 = some true

end Go.Proofs.Ytiidbapgbomfjaa.PFnExactStaircaseNumbers
