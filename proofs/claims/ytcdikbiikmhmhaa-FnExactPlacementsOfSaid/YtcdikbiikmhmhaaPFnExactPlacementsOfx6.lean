-- Printed for this claim by wip/pp.py over the kit's printer; Lean checks it.
import Derived.Test.YtcdikbiikmhmhaaPFnExactPlacementsOfx0
import Derived.Test.YtcdikbiikmhmhaaPFnExactPlacementsOfx5
namespace Go.Proofs.Ytcdikbiikmhmhaa.PFnExactPlacementsOf
open Go.RowKit Go.Proofs.YtcdikbiikmhmhaaW.PrintWords Go.Proofs.YtcdikbiikmhmhaaW.PrintLast Go.Proofs.YtcdikbiikmhmhaaW.PrintMore
attribute [local go_sem] max2_int min2_int max_two min_two max_three min_three max_four min_four   -- for this text's walks alone
set_option linter.unusedVariables false
set_option linter.unusedSimpArgs false

/-! ### impl_Board_walk: function 53 (by hand) -/
/-- May a rook stand in a column of a row, other columns being taken? -/
def okC (m taken : Int) (j : Nat) : Bool := (Go.bits .and .i64 (shr .i64 m (j : Int)) 1 == 1) && !(Go.bits .and .i64 (shr .i64 taken (j : Int)) 1 == 1)
/-- The columns taken, with one more. -/
def orC (taken : Int) (j : Nat) : Int := Go.bits .or .i64 taken (shl .i64 1 (j : Int))
/-- All placements in order: rows that are left, columns taken, what stands before. -/
def plc (C : Nat) : List Int → Int → List Int → List (List Int)
  | [], _, acc => [acc]
  | m :: t, taken, acc => (List.range (C + 1)).flatMap fun i => if i = 0 then plc C t taken (acc ++ [-1]) else if okC m taken (i - 1) then plc C t (orC taken (i - 1)) (acc ++ [((i - 1 : Nat) : Int)]) else []
theorem plc_len (C : Nat) (hC : C ≤ 6) : ∀ (l : List Int) (taken : Int) (acc : List Int), (plc C l taken acc).length ≤ 7 ^ l.length := by
  intro l
  induction l with
  | nil => intro taken acc; simp [plc]
  | cons m t ih =>
    intro taken acc
    have key : ∀ (n : Nat) (f : Nat → List (List Int)), (∀ i, (f i).length ≤ 7 ^ t.length) → ((List.range n).flatMap f).length ≤ n * 7 ^ t.length := by
      intro n f hf
      induction n with
      | zero => simp
      | succ n ihn => rw [List.range_succ, List.flatMap_append, List.length_append, Nat.succ_mul]; simp only [List.flatMap_cons, List.flatMap_nil, List.append_nil]; have := hf n; omega
    unfold plc
    refine Nat.le_trans (key (C + 1) _ (fun i => ?_)) ?_
    · split
      · exact ih _ _
      · split
        · exact ih _ _
        · simp
    · rw [List.length_cons, Nat.pow_succ, Nat.mul_comm]
      exact Nat.mul_le_mul_left _ (by omega)
-- (walk)
/-- A walk's variables in memory. -/
def WkB (w : World) (gb gd gp gq gg gr R C cq cp : Nat) (A : Option Addr) (l : List Int) (fid : FuncId) (caps : Array Value) : Prop :=
  w.heap[gb]? = some (.cells #[.int .i64 R, .int .i64 C, .slice A l.length cp] 29 (0, 0)) ∧
  w.heap[gd]? = some (.cells #[.func (.func fid) #[] caps] 64 (0, 0)) ∧
  w.heap[gp]? = some (.cells #[.slice (some ⟨gq, 0, none⟩) R cq] 22 (0, 0)) ∧
  w.heap[gg]? = some (.cells #[.bool true] 4 (0, 0)) ∧
  w.heap[gr]? = some (.cells #[.func (.func 62) #[] #[.pointer (some ⟨gb, 0, none⟩), .pointer (some ⟨gd, 0, none⟩), .pointer (some ⟨gp, 0, none⟩), .pointer (some ⟨gg, 0, none⟩), .pointer (some ⟨gr, 0, none⟩)]] 72 (0, 0))
/-- What a walk keeps, and what it calls. -/
structure WalkJ (σ : Type) (ok : σ → List Int → Prop) (J : σ → List Int → World → Prop) (step : σ → List Int → σ) (gb gd gp gq gg gr R C cq cp : Nat) (A : Option Addr) (l : List Int) (fid : FuncId) (caps : Array Value) : Prop where
  blk : ∀ s q w, J s q w → WkB w gb gd gp gq gg gr R C cq cp A l fid caps
  len : ∀ s q w, J s q w → q.length = R
  came : ∀ s q w, J s q w → Kd.C (Kd.int .i64) w A l.length l
  cell : ∀ s q w, J s q w → ∀ i, i < R → (∃ v, w.cell? ⟨gq, i, none⟩ = some v) ∧ w.frozen? ⟨gq, i, none⟩ = false
  set : ∀ s q w, J s q w → ∀ i (v : Int), i < R → J s (q.set i v) (w.setCell ⟨gq, i, none⟩ (.int .i64 v))
  going : ∀ s q w, J s q w → J s q (w.setCell ⟨gg, 0, none⟩ (.bool true))
  below : ∀ s q w w', J s q w → Below w.heap.size w w' → J s q w'
  call : ∀ s q w, J s q w → ok s q → Calls Try.prog fid (#[.slice (some ⟨gq, 0, none⟩) R cq] ++ caps) w fun e w' => e = .returned (.bool true) ∧ J (step s q) q w'
theorem shr_nat (x : Int) (j : Nat) (h : j ≤ 64) : shr .i64 x (j : Int) = x / 2 ^ j := by
  unfold shr
  rw [Int.toNat_natCast, Nat.min_eq_left (show j ≤ IntKind.i64.bits from h)]
theorem orC_eq (x : Int) (j : Nat) (h : j ≤ 64) : Go.bits .or .i64 x (wrap64 (2 ^ j)) = orC x j := by
  unfold orC shl
  rw [Int.toNat_natCast, Nat.min_eq_left (show j ≤ IntKind.i64.bits from h), Int.one_mul, i64_w]
theorem take_set_snoc (q acc : List Int) (r : Nat) (v : Int) (h : q.take r = acc) (hr : r < q.length) : (q.set r v).take (r + 1) = acc ++ [v] := by
  rw [List.take_succ_eq_append_getElem (by simpa using hr), List.take_set_of_le (Nat.le_refl r), h]; simp
theorem take_of_snoc (q acc : List Int) (r : Nat) (v : Int) (h : q.take (r + 1) = acc ++ [v]) (hr : r < q.length) : q.take r = acc := by
  rw [List.take_succ_eq_append_getElem hr] at h
  exact (List.append_inj' h rfl).1
set_option maxHeartbeats 1000000 in
set_option maxRecDepth 2000 in
theorem wk_row {σ : Type} {ok : σ → List Int → Prop} {J : σ → List Int → World → Prop} {step : σ → List Int → σ} {gb gd gp gq gg gr R C cq cp : Nat} {A : Option Addr} {l : List Int} {fid : FuncId} {caps : Array Value}
    (hJ : WalkJ σ ok J step gb gd gp gq gg gr R C cq cp A l fid caps) (hcall : ∀ (args : Array Value) (W : World), Sem.run Try.prog (callFunc fid args) W = .ok (.enter fid args) W) (hlR : l.length = R) (hR : R ≤ 6) (hC : C ≤ 6) (hcp : l.length ≤ cp) :
    ∀ (d r : Nat) (taken : Int) (acc q : List Int) (s : σ) (w : World), r + d = R → q.take r = acc → (∀ L1 q' L2, plc C (l.drop r) taken acc = L1 ++ q' :: L2 → ok (L1.foldl step s) q') → J s q w →
    Calls Try.prog 62 #[.int .i64 r, .int .i64 taken, .pointer (some ⟨gb, 0, none⟩), .pointer (some ⟨gd, 0, none⟩), .pointer (some ⟨gp, 0, none⟩), .pointer (some ⟨gg, 0, none⟩), .pointer (some ⟨gr, 0, none⟩)] w
      fun e w' => e = .returned (.tuple #[]) ∧ ∃ q', q'.take r = acc ∧ J ((plc C (l.drop r) taken acc).foldl step s) q' w' := by
  have HJ := Aside0.mk hJ
  have HLR := Aside0.mk hlR
  clear hJ hlR
  intro d
  induction d with
  | zero =>
    intro r taken acc q s w hr ht hok hw
    have HOK := Aside0.mk (show ok s q from by
      have e1 : l.drop r = [] := List.drop_eq_nil_of_le (by have := HLR.out; omega)
      rw [e1] at hok
      have e2 := hok [] acc [] (by simp [plc])
      simp only [List.foldl_nil] at e2
      rwa [← ht, List.take_of_length_le (by rw [HJ.out.len s q w hw]; omega)] at e2)
    clear hok
    obtain rfl : r = R := hr
    have hb := HJ.out.blk s q w hw
    obtain ⟨b1, b2, b3, b4, b5⟩ := hb
    have c1 := blk_cell b1 0
    have c2 := blk_cell b2 0
    have c3 := blk_cell b3 0
    have HW := Aside0.mk hw
    have HT := Aside0.mk ht
    clear hw ht
    go_enter Try.func62, Try.ntmps62
    go_wp2_with fail
    refine (HJ.out.call s q w HW.out HOK.out).mono ?_
    rintro e w1 ⟨rfl, hw1⟩
    have d4 := (HJ.out.blk _ _ _ hw1).2.2.2.1
    have e4 := blk_cell d4 0
    have f4 := blk_frozen d4 0
    have HW1 := Aside0.mk (HJ.out.going _ _ _ hw1)
    have HL := Aside0.mk (HJ.out.len _ _ _ hw1)
    clear hw1 d4
    go_wp2
    first | go_end0 | ((try simp only [Exit.inBlock, Exit.then]); refine bodyPost_ret (results_none rfl _ _ _) rfl ?_)
    refine ⟨rfl, q, HT.out, ?_⟩
    rw [List.drop_eq_nil_of_le (by have := HLR.out; omega)]
    simp only [plc, List.foldl_cons, List.foldl_nil]
    rw [← HT.out, List.take_of_length_le (by rw [HL.out]; exact Nat.le_refl _)]
    exact HW1.out
  | succ d ih =>
    intro r taken acc q s w hr ht hok hw
    have hlt : r < R := by omega
    have hltl : r < l.length := by have := HLR.out; omega
    have HIH := Aside0.mk ih
    clear ih
    obtain ⟨cand, hcand⟩ : ∃ cand : Nat → List (List Int), cand = fun i => if i = 0 then plc C (l.drop (r + 1)) taken (acc ++ [-1]) else if okC l[r] taken (i - 1) then plc C (l.drop (r + 1)) (orC taken (i - 1)) (acc ++ [((i - 1 : Nat) : Int)]) else [] := ⟨_, rfl⟩
    have HPL := Aside0.mk (show plc C (l.drop r) taken acc = (List.range (C + 1)).flatMap cand by rw [List.drop_eq_getElem_cons hltl, hcand]; rfl)
    have HOK := Aside0.mk (show ∀ i, i ≤ C → ∀ L1 q' L2, cand i = L1 ++ q' :: L2 → ok (L1.foldl step (((List.range i).flatMap cand).foldl step s)) q' from fun i hi L1 q' L2 hx => by
      have e1 := hok ((List.range i).flatMap cand ++ L1) q' (L2 ++ ((List.range (C + 1)).drop (i + 1)).flatMap cand) (by
        rw [HPL.out, List.append_assoc, ← List.cons_append, ← List.append_assoc L1, ← hx]
        conv => lhs; rw [← List.take_append_drop i (List.range (C + 1))]
        rw [List.take_range, Nat.min_eq_left (by omega), List.drop_eq_getElem_cons (by rw [List.length_range]; omega), List.getElem_range, List.flatMap_append, List.flatMap_cons])
      rwa [List.foldl_append] at e1)
    clear hok
    have HC := Aside0.mk hcand
    clear hcand
    obtain ⟨b1, b2, b3, b4, b5⟩ := HJ.out.blk s q w hw
    have c1 := blk_cell b1 0
    have hne : ((r : Int) == (R : Int)) = false := by simp; omega
    have HW := Aside0.mk hw
    have HT := Aside0.mk ht
    clear hw ht b1 b2 b3 b4 b5
    go_enter Try.func62, Try.ntmps62
    go_wp2_with fail
    clear c1
    go_loopw [9] (fun v9 w' => ∃ (i : Nat) (q' : List Int), i ≤ C + 1 ∧ v9 = .int .i64 ((i : Int) - 1) ∧ Aside0 (q'.take r = acc) ∧ Aside0 (J (((List.range i).flatMap cand).foldl step s) q' w')) (fun v9 _ => ((C : Int) - intOf v9).toNat)
    case atStart => exact ⟨0, q, by omega, rfl, HT, HW⟩
    case round =>
      clear HW HT
      obtain ⟨i, q', hi, rfl, HT, HW⟩ := hrel
      obtain ⟨b1, b2, b3, b4, b5⟩ := HJ.out.blk _ _ _ HW.out
      have c1 := blk_cell b1 1
      have c4 := blk_cell b4 0
      by_cases hiC : i ≤ C
      · have hlt2 : decide (((i : Int) - 1) < (C : Int)) = true := decide_eq_true (by omega)
        rcases i with _ | j
        · rw [show ((0 : Nat) : Int) - 1 = -1 from rfl] at *
          have c3 := blk_cell b3 0
          obtain ⟨⟨v0, hv0⟩, hf0⟩ := HJ.out.cell _ _ _ HW.out r hlt
          have hw2 := HJ.out.set _ _ _ HW.out r (-1) hlt
          have e5 := blk_cell (HJ.out.blk _ _ _ hw2).2.2.2.2 0
          have HW2 := Aside0.mk hw2
          clear hw2 b1 b2 b3 b4 b5
          have HC0 := Aside0.mk (show ((List.range 1).flatMap cand).foldl step s = (plc C (l.drop (r + 1)) taken (acc ++ [-1])).foldl step (((List.range 0).flatMap cand).foldl step s) by rw [HC.out]; simp [List.range_succ])
          have HT2 := Aside0.mk (take_set_snoc q' acc r (-1) HT.out (by rw [HJ.out.len _ _ _ HW.out]; exact hlt))
          go_wp2_with fail
          rw [show ((r : Int) + 1) = ((r + 1 : Nat) : Int) from by omega]
          refine (HIH.out (r + 1) taken (acc ++ [-1]) (q'.set r (-1)) _ _ (by omega) HT2.out (by have := HOK.out 0 (by omega); rwa [show cand 0 = plc C (l.drop (r + 1)) taken (acc ++ [-1]) from by rw [HC.out]; rfl] at this) HW2.out).mono ?_
          rintro e w3 ⟨rfl, q3, ht3, hw3⟩
          rw [← HC0.out] at hw3
          have HW3 := Aside0.mk hw3
          have HT3 := Aside0.mk (take_of_snoc q3 acc r (-1) ht3 (by have := HJ.out.len _ _ _ hw3; omega))
          clear hw3 ht3
          go_wp2
          go_roundw
          case rel => exact ⟨1, q3, by omega, rfl, HT3, HW3⟩
          case measure => simp [intOf]
        · rw [show ((j + 1 : Nat) : Int) - 1 = (j : Int) from by omega] at *
          have hge : decide ((0 : Int) ≤ (j : Int)) = true := decide_eq_true (by omega)
          have hjC : j < C := by omega
          have HS := Aside0.mk (show ((List.range (j + 1 + 1)).flatMap cand).foldl step s = (if okC l[r] taken j then plc C (l.drop (r + 1)) (orC taken j) (acc ++ [(j : Int)]) else []).foldl step (((List.range (j + 1)).flatMap cand).foldl step s) by
            rw [List.range_succ, List.flatMap_append, List.foldl_append, HC.out]; simp)
          have hh : impl_Board_has.f (R : Int) (C : Int) l (r : Int) (j : Int) = some (Go.bits .and .i64 (shr .i64 l[r] (j : Int)) 1 == 1) := by
            unfold impl_Board_has.f
            rw [if_pos (by omega), if_pos (by omega), if_pos (by omega), show rd l (r : Int) = l[r] from by unfold rd; simp [List.getD, hltl]]
          have HH := Aside0.mk hh
          clear hh
          have HCC := Aside0.mk (HJ.out.came _ _ _ HW.out)
          have c10 := blk_cell b1 0
          have c12 := blk_cell b1 2
          clear b1 b2 b4
          by_cases hhas : (Go.bits .and .i64 (shr .i64 l[r] (j : Int)) 1 == 1) = true
          · rw [hhas] at HH
            have HHas := Aside0.mk hhas
            clear hhas
            go_wp2_with fail
            refine (impl_Board_has.calls _ _ _ _ l _ _ _ _ HCC.out hcp HH.out).mono ?_
            rintro e w2 ⟨rfl, hb2⟩
            have HW2 := Aside0.mk (HJ.out.below _ _ _ _ HW.out hb2)
            clear hb2
            have hw2 := HW2.out
            obtain ⟨b1, b2, b3, b4, b5⟩ := HJ.out.blk _ _ _ hw2
            by_cases htk : (Go.bits .and .i64 (taken / 2 ^ j) 1 == 1) = true
            · have HO := Aside0.mk (show okC l[r] taken j = false by unfold okC; rw [shr_nat taken j (by omega), htk, HHas.out]; rfl)
              clear b1 b2 b3 b4 b5 hw2
              go_wp2
              go_roundw
              case rel => exact ⟨j + 1 + 1, q', by omega, by go_num, HT, ⟨by rw [HS.out, HO.out]; exact HW2.out⟩⟩
              case measure => simp [intOf]; omega
            · have htk2 := Bool.eq_false_iff.2 htk
              have HO := Aside0.mk (show okC l[r] taken j = true by unfold okC; rw [shr_nat taken j (by omega), htk2, HHas.out]; rfl)
              clear htk
              have c3 := blk_cell b3 0
              obtain ⟨⟨v0, hv0⟩, hf0⟩ := HJ.out.cell _ _ _ hw2 r hlt
              have hw4 := HJ.out.set _ _ _ hw2 r (j : Int) hlt
              have e5 := blk_cell (HJ.out.blk _ _ _ hw4).2.2.2.2 0
              have HW4 := Aside0.mk hw4
              have HT2 := Aside0.mk (take_set_snoc q' acc r (j : Int) HT.out (by rw [HJ.out.len _ _ _ HW.out]; exact hlt))
              clear hw2 hw4 b1 b2 b3 b4 b5
              go_wp2_with fail
              rw [show ((r : Int) + 1) = ((r + 1 : Nat) : Int) from by omega, orC_eq taken j (by omega)]
              refine (HIH.out (r + 1) (orC taken j) (acc ++ [(j : Int)]) (q'.set r (j : Int)) _ _ (by omega) HT2.out (by have := HOK.out (j + 1) (by omega); rwa [show cand (j + 1) = plc C (l.drop (r + 1)) (orC taken j) (acc ++ [(j : Int)]) from by rw [HC.out]; simp only [Nat.add_one_ne_zero, if_false, Nat.add_sub_cancel, HO.out, if_true]] at this) HW4.out).mono ?_
              rintro e w3 ⟨rfl, q3, ht3, hw3⟩
              have HW3 := Aside0.mk (show J (((List.range (j + 1 + 1)).flatMap cand).foldl step s) q3 w3 by rw [HS.out, HO.out]; exact hw3)
              have HT3 := Aside0.mk (take_of_snoc q3 acc r (j : Int) ht3 (by have := HJ.out.len _ _ _ hw3; omega))
              clear hw3 ht3
              go_wp2
              go_roundw
              case rel => exact ⟨j + 1 + 1, q3, by omega, by go_num, HT3, HW3⟩
              case measure => simp [intOf]; omega
          · rw [Bool.eq_false_iff.2 hhas] at HH
            have HO := Aside0.mk (show okC l[r] taken j = false by unfold okC; rw [Bool.eq_false_iff.2 hhas]; rfl)
            clear hhas
            go_wp2_with fail
            refine (impl_Board_has.calls _ _ _ _ l _ _ _ _ HCC.out hcp HH.out).mono ?_
            rintro e w2 ⟨rfl, hb2⟩
            have HW2 := Aside0.mk (HJ.out.below _ _ _ _ HW.out hb2)
            clear hb2
            go_wp2
            go_roundw
            case rel => exact ⟨j + 1 + 1, q', by omega, by go_num, HT, ⟨by rw [HS.out, HO.out]; exact HW2.out⟩⟩
            case measure => simp [intOf]; omega
      · obtain rfl : i = C + 1 := by omega
        rw [show ((C + 1 : Nat) : Int) - 1 = (C : Int) from by omega] at *
        clear b1 b2 b3 b4 b5
        go_wp2
        first | go_end0 | ((try simp only [Exit.inBlock, Exit.then]); refine bodyPost_ret (results_none rfl _ _ _) rfl ?_)
        refine ⟨rfl, q', HT.out, ?_⟩
        rw [HPL.out]
        exact HW.out
/-- A walk's invariant, from its caller's. -/
def WkJ {σ : Type} (S : Nat → σ → World → Prop) (N0 N1 gb gd gp gq gg gr R C cq cp : Nat) (A : Option Addr) (l : List Int) (fid : FuncId) (caps : Array Value) (s : σ) (q : List Int) (w : World) : Prop :=
  WkB w gb gd gp gq gg gr R C cq cp A l fid caps ∧ q.length = R ∧ N1 ≤ w.heap.size ∧ Kd.R (Kd.int .i64) 3 w N0 (fun k => N0 ≤ k ∧ k < N1) (.slice (some ⟨gq, 0, none⟩) R cq) q ∧ S N1 s w
theorem wk_own {w : World} {N0 N1 gq R cq : Nat} {q : List Int} (h : Kd.R (Kd.int .i64) 3 w N0 (fun k => N0 ≤ k ∧ k < N1) (.slice (some ⟨gq, 0, none⟩) R cq) q) (hR : 0 < R) : (N0 ≤ gq ∧ gq < N1) ∧ ∃ cells, w.heap[gq]? = some (.cells cells 3 (0, 0)) := by
  have hl := (Kd.R_reads' h).1
  obtain ⟨g, cap, e, _, _, hc⟩ := Kd.R_form h (by omega)
  injection e with e _ _
  injection e with e
  injection e with e _ _
  subst e
  exact ⟨h.1 gq (by simp [Value.ownBlock]), hc⟩
theorem blk_ty {w : World} {g g' : Nat} {t t' : TypeId} {cs cs' : Array Value} (h : w.heap[g]? = some (.cells cs t (0, 0))) (h' : w.heap[g']? = some (.cells cs' t' (0, 0))) (hne : t ≠ t') : g ≠ g' := blk_ne h h' hne
theorem wk_J {σ : Type} {ok : σ → List Int → Prop} {S : Nat → σ → World → Prop} {step : σ → List Int → σ} {N0 N1 gb gd gp gq gg gr R C cq cp : Nat} {A : Option Addr} {l : List Int} {fid : FuncId} {caps : Array Value} (hR : 0 < R) (h01 : N0 ≤ N1) (hg : (N0 ≤ gb ∧ gb < N1) ∧ (N0 ≤ gd ∧ gd < N1) ∧ (N0 ≤ gp ∧ gp < N1) ∧ (N0 ≤ gg ∧ gg < N1) ∧ (N0 ≤ gr ∧ gr < N1))
    (stab : ∀ N1 s w1 w2, S N1 s w1 → Below N0 w1 w2 → (∀ k, N1 ≤ k → k < w1.heap.size → w2.heap[k]? = w1.heap[k]?) → S N1 s w2)
    (came : ∀ N1 s w1, S N1 s w1 → Kd.C (Kd.int .i64) w1 A l.length l)
    (call : ∀ N1 s q w1 gq cq, S N1 s w1 → N1 ≤ w1.heap.size → N0 ≤ N1 → q.length = R → ok s q → Kd.C (Kd.int .i64) w1 (some ⟨gq, 0, none⟩) q.length q → q.length ≤ cq → Calls Try.prog fid (#[.slice (some ⟨gq, 0, none⟩) R cq] ++ caps) w1 fun e w2 => e = .returned (.bool true) ∧ S N1 (step s q) w2 ∧ w1.heap.size ≤ w2.heap.size ∧ ∀ k, N0 ≤ k → k < N1 → w2.heap[k]? = w1.heap[k]?) :
    WalkJ σ ok (WkJ S N0 N1 gb gd gp gq gg gr R C cq cp A l fid caps) step gb gd gp gq gg gr R C cq cp A l fid caps := by
  constructor
  · exact fun s q w h => h.1
  · exact fun s q w h => h.2.1
  · exact fun s q w h => came _ _ _ h.2.2.2.2
  · intro s q w h i hi
    obtain ⟨h1, h2⟩ := Kd.R_celln 0 h.2.2.2.1 (i : Int) (by omega) (by omega)
    rw [Int.toNat_natCast] at h1 h2
    exact ⟨⟨_, h1⟩, h2⟩
  · intro s q w h i v hi
    obtain ⟨hb, hl, hN, hq, hS⟩ := h
    obtain ⟨hgq, cells, hc⟩ := wk_own hq hR
    have hp := Kd.R_putn hq (i : Int) v
    rw [Int.toNat_natCast] at hp
    obtain ⟨b1, b2, b3, b4, b5⟩ := hb
    refine ⟨⟨blk_far b1 (p := ⟨gq, i, none⟩) (blk_ty b1 hc (by decide)) _, blk_far b2 (p := ⟨gq, i, none⟩) (blk_ty b2 hc (by decide)) _, blk_far b3 (p := ⟨gq, i, none⟩) (blk_ty b3 hc (by decide)) _, blk_far b4 (p := ⟨gq, i, none⟩) (blk_ty b4 hc (by decide)) _, blk_far b5 (p := ⟨gq, i, none⟩) (blk_ty b5 hc (by decide)) _⟩, by rw [List.length_set]; exact hl, ?_, hp, ?_⟩
    · exact Nat.le_trans hN ((Below.refl N0 w).setCell (p := ⟨gq, i, none⟩) hgq.1 _).size
    · exact stab _ _ _ _ hS ((Below.refl N0 w).setCell (p := ⟨gq, i, none⟩) hgq.1 _) (fun k hk _ => Below.heap_setCell w ⟨gq, i, none⟩ _ k (by have := hgq.2; show k ≠ gq; omega))
  · intro s q w h
    obtain ⟨hb, hl, hN, hq, hS⟩ := h
    obtain ⟨b1, b2, b3, b4, b5⟩ := hb
    obtain ⟨hgq, cells, hc⟩ := wk_own hq hR
    refine ⟨⟨blk_far b1 (p := ⟨gg, 0, none⟩) (blk_ty b1 b4 (by decide)) _, blk_far b2 (p := ⟨gg, 0, none⟩) (blk_ty b2 b4 (by decide)) _, blk_far b3 (p := ⟨gg, 0, none⟩) (blk_ty b3 b4 (by decide)) _, blk_put b4 0 _ (by simp), blk_far b5 (p := ⟨gg, 0, none⟩) (blk_ty b5 b4 (by decide)) _⟩, hl, ?_, ?_, ?_⟩
    · exact Nat.le_trans hN ((Below.refl N0 w).setCell (p := ⟨gg, 0, none⟩) hg.2.2.2.1.1 _).size
    · exact Kd.R_set hq b4 (by intro x hx; simp [Kd.int, Kd.scalar] at hx; subst hx; decide) 0 _
    · exact stab _ _ _ _ hS ((Below.refl N0 w).setCell (p := ⟨gg, 0, none⟩) hg.2.2.2.1.1 _) (fun k hk _ => Below.heap_setCell w ⟨gg, 0, none⟩ _ k (by have := hg.2.2.2.1.2; show k ≠ gg; omega))
  · intro s q w w' h hbl
    obtain ⟨hb, hl, hN, hq, hS⟩ := h
    obtain ⟨b1, b2, b3, b4, b5⟩ := hb
    exact ⟨⟨blk_below b1 hbl, blk_below b2 hbl, blk_below b3 hbl, blk_below b4 hbl, blk_below b5 hbl⟩, hl, Nat.le_trans hN hbl.size, Kd.R_below hq hbl, stab _ _ _ _ hS ⟨hbl.os, hbl.tape, hbl.output, hbl.size, fun k hk => hbl.block k (by omega)⟩ (fun k _ hk => hbl.block k hk)⟩
  · intro s q w h hok
    obtain ⟨hb, hl, hN, hq, hS⟩ := h
    have hrd := Kd.R_reads' hq
    refine (call N1 s q w gq cq hS hN h01 hl hok hrd.2.2 (by omega)).mono ?_
    rintro e w2 ⟨rfl, h2, h3, h4⟩
    obtain ⟨b1, b2, b3, b4, b5⟩ := hb
    have keep : ∀ {g : Nat} {o : Obj}, w.heap[g]? = some o → (N0 ≤ g ∧ g < N1) → w2.heap[g]? = some o := fun hb hg => (h4 _ hg.1 hg.2).trans hb
    exact ⟨rfl, ⟨keep b1 hg.1, keep b2 hg.2.1, keep b3 hg.2.2.1, keep b4 hg.2.2.2.1, keep b5 hg.2.2.2.2⟩, hl, Nat.le_trans hN h3, Kd.R_step hq (fun k hk _ => h4 k hk.1 hk.2), h2⟩
set_option maxHeartbeats 1000000 in
set_option maxRecDepth 2000 in
theorem wk_all {σ : Type} {ok : σ → List Int → Prop} {S : Nat → σ → World → Prop} {step : σ → List Int → σ} {s0 : σ} {R C cp : Nat} {A : Option Addr} {l : List Int} {fid : FuncId} {caps : Array Value} {w : World} (hR : 0 < R) (hR6 : R ≤ 6) (hC6 : C ≤ 6) (hlR : l.length = R) (hcp : l.length ≤ cp) (hok : ∀ L1 q' L2, plc C l 0 [] = L1 ++ q' :: L2 → ok (L1.foldl step s0) q')
    (hcall : ∀ (args : Array Value) (W : World), Sem.run Try.prog (callFunc fid args) W = .ok (.enter fid args) W)
    (start : ∀ w1, Below w.heap.size w w1 → S w1.heap.size s0 w1)
    (stab : ∀ N1 s w1 w2, S N1 s w1 → Below w.heap.size w1 w2 → (∀ k, N1 ≤ k → k < w1.heap.size → w2.heap[k]? = w1.heap[k]?) → S N1 s w2)
    (came : ∀ N1 s w1, S N1 s w1 → Kd.C (Kd.int .i64) w1 A l.length l)
    (call : ∀ N1 s q w1 gq cq, S N1 s w1 → N1 ≤ w1.heap.size → w.heap.size ≤ N1 → q.length = R → ok s q → Kd.C (Kd.int .i64) w1 (some ⟨gq, 0, none⟩) q.length q → q.length ≤ cq → Calls Try.prog fid (#[.slice (some ⟨gq, 0, none⟩) R cq] ++ caps) w1 fun e w2 => e = .returned (.bool true) ∧ S N1 (step s q) w2 ∧ w1.heap.size ≤ w2.heap.size ∧ ∀ k, w.heap.size ≤ k → k < N1 → w2.heap[k]? = w1.heap[k]?) :
    Calls Try.prog 53 #[.agg #[.int .i64 R, .int .i64 C, .slice A l.length cp], .func (.func fid) #[] caps] w fun e w' => e = .returned (.tuple #[]) ∧ ∃ N1, w.heap.size ≤ N1 ∧ S N1 ((plc C l 0 []).foldl step s0) w' := by
  have START := Aside0.mk start
  have STAB := Aside0.mk stab
  have CAME := Aside0.mk came
  have CALL := Aside0.mk call
  have HLR := Aside0.mk hlR
  have HOK := Aside0.mk hok
  have HCF := Aside0.mk hcall
  have HB := Aside0.mk (Below.refl w.heap.size w)
  have info3 := info3
  clear start stab came call hlR hcall hok
  have e0 : decide ((0 : Int) ≤ (R : Int)) = true := decide_eq_true (by omega)
  go_enter Try.func53, Try.ntmps53
  go_wp2_with (first
    | ((with_reducible refine gate_dst (N := 2) rfl ?_); refine box_event ?hg (N := 2) ?hd (cs := #[.int .i64 R, .int .i64 C, .slice A l.length cp]) (t := 29) ?hr ?_; (case hd => rfl); (case hg => rfl); (case hr => first | (go_simp; done) | (go_simp; rfl)); intro gb hgb w1 bb hb1; have GB := Aside0.mk hgb; have BB := Aside0.mk bb; have HB1 := Aside0.mk hb1; clear hgb bb hb1)
    | ((with_reducible refine gate_dst (N := 3) rfl ?_); refine box_event ?hg (N := 3) ?hd (cs := #[.func (.func fid) #[] caps]) (t := 64) ?hr ?_; (case hd => rfl); (case hg => rfl); (case hr => first | (go_simp; done) | (go_simp; rfl)); intro gd hgd w2 bd hb2; have GD := Aside0.mk hgd; have BD := Aside0.mk bd; have bb0 := BB.out; have cb := blk_cell (blk_below bb0 hb2) 0; have HB2 := Aside0.mk hb2; clear hgd bd hb2 bb0)
    | ((with_reducible refine gate_dst (N := 9) rfl ?_); refine Kd.R_make (Kd.int .i64) (w0 := w2) w2.heap.size 3 rfl (N := 9) rfl 22 _ _ rfl (R : Int) rfl rfl Try.underlying22 (.int .i64 0) 8 info3 rfl (by decide) (by omega) 0 (ok := fun _ => True) (okp := fun _ => True) rfl (fun _ hk => hk) trivial (by omega) (by omega) (Below.refl _ _) (Nat.le_refl _) ?_; intro v1 w3 ho hb3 hgr3 hnw3; rw [Int.toNat_natCast] at ho; obtain ⟨gq, cq, ev, hq1, hq2, hq3⟩ := Kd.R_form ho (by rw [List.length_replicate]; exact hR); rw [List.length_replicate] at ev; subst ev; have HQ1 := Aside0.mk hq1; have HQ2 := Aside0.mk hq2; clear hq1 hq2 hq3; have HO := Aside0.mk ho; have HB3 := Aside0.mk hb3; clear ho hb3 hgr3 hnw3 cb)
    | ((with_reducible refine gate_dst (N := 4) rfl ?_); refine box_event ?hg (N := 4) ?hd (cs := #[.slice none 0 0]) (t := 22) ?hr ?_; (case hd => rfl); (case hg => rfl); (case hr => first | (go_simp; done) | (go_simp; rfl)); intro gp hgp w4 bp hb4; have GP := Aside0.mk hgp; have BP := Aside0.mk bp; have HB4 := Aside0.mk hb4; clear hgp bp hb4)
    | ((with_reducible refine gate_dst (N := 5) rfl ?_); refine box_event ?hg (N := 5) ?hd (cs := #[.bool false]) (t := 4) ?hr ?_; (case hd => rfl); (case hg => rfl); (case hr => first | (go_simp; done) | (go_simp; rfl)); intro gg hgg w5 bg hb5; have GG := Aside0.mk hgg; have BG := Aside0.mk bg; have HB5 := Aside0.mk hb5; have cp0 := blk_cell (blk_below BP.out hb5) 0; have fp0 := blk_frozen (blk_below BP.out hb5) 0; have cg0 := blk_cell (blk_far bg (p := ⟨gp, 0, none⟩) (blk_ne bg (blk_below BP.out hb5) (by decide)) (.slice (some ⟨gq, 0, none⟩) R cq)) 0; have fg0 := blk_frozen (blk_far bg (p := ⟨gp, 0, none⟩) (blk_ne bg (blk_below BP.out hb5) (by decide)) (.slice (some ⟨gq, 0, none⟩) R cq)) 0; clear hgg bg hb5)
    | ((with_reducible refine gate_dst (N := 6) rfl ?_); clear cp0 fp0 cg0 fg0; refine box_event ?hg (N := 6) ?hd (cs := #[.nilFunc]) (t := 72) ?hr ?_; (case hd => rfl); (case hg => rfl); (case hr => first | (go_simp; done) | (go_simp; rfl)); intro gr hgr w7 br hb7; have GR := Aside0.mk hgr; have BR := Aside0.mk br; have HB7 := Aside0.mk hb7; have cr0 : w7.cell? ⟨gr, 0, none⟩ = some .nilFunc := (blk_cell br 0).trans rfl; have fr0 := blk_frozen br 0; have cr1 := blk_cell (blk_put (cs' := #[.func (.func 62) #[] #[.pointer (some ⟨gb, 0, none⟩), .pointer (some ⟨gd, 0, none⟩), .pointer (some ⟨gp, 0, none⟩), .pointer (some ⟨gg, 0, none⟩), .pointer (some ⟨gr, 0, none⟩)]]) br 0 (.func (.func 62) #[] #[.pointer (some ⟨gb, 0, none⟩), .pointer (some ⟨gd, 0, none⟩), .pointer (some ⟨gp, 0, none⟩), .pointer (some ⟨gg, 0, none⟩), .pointer (some ⟨gr, 0, none⟩)]) rfl) 0;  clear hgr br hb7)
    )
  clear cr0 fr0 cr1
  obtain ⟨V, hV⟩ : ∃ V : Value, V = .func (.func 62) #[] #[.pointer (some ⟨gb, 0, none⟩), .pointer (some ⟨gd, 0, none⟩), .pointer (some ⟨gp, 0, none⟩), .pointer (some ⟨gg, 0, none⟩), .pointer (some ⟨gr, 0, none⟩)] := ⟨_, rfl⟩
  obtain ⟨W6, hW6⟩ : ∃ W6 : World, W6 = (w5.setCell ⟨gp, 0, none⟩ (.slice (some ⟨gq, 0, none⟩) R cq)).setCell ⟨gg, 0, none⟩ (.bool true) := ⟨_, rfl⟩
  obtain ⟨W9, hW9⟩ : ∃ W9 : World, W9 = w7.setCell ⟨gr, 0, none⟩ V := ⟨_, rfl⟩
  rw [← hV, ← hW9]
  have hB1 := HB1.out
  have hB2 := HB2.out
  have hB3 := HB3.out
  have hB4 := HB4.out
  have hB5 := HB5.out
  have hB7 := HB7.out
  rw [← hW6] at hB7
  have hgb := GB.out
  have hgd := GD.out
  have hgp := GP.out
  have hgg := GG.out
  have hgr := GR.out
  rw [← hW6] at hgr
  have s1 := hB1.size
  have s2 := hB2.size
  have s3 := hB3.size
  have s4 := hB4.size
  have s5 := hB5.size
  have T5 : Below w.heap.size w w5 := below_step (below_step (below_step (below_step hB1 hB2) hB3) hB4) hB5
  have T6 : Below w.heap.size w W6 := by rw [hW6]; exact below_set (below_set T5 (by omega)) (by omega)
  have s6 := T6.size
  have T7 : Below w.heap.size w w7 := below_step T6 hB7
  have T9 : Below w.heap.size w W9 := by rw [hW9]; exact below_set T7 (by omega)
  have bgp5 := blk_below BP.out hB5
  have bgg5 := BG.out
  have bgp6 : W6.heap[gp]? = some (.cells #[.slice (some ⟨gq, 0, none⟩) R cq] 22 (0, 0)) := by
    rw [hW6]; exact blk_far (p := ⟨gg, 0, none⟩) (blk_put bgp5 0 _ rfl) (blk_ne bgp5 bgg5 (by decide)) _
  have bgg6 : W6.heap[gg]? = some (.cells #[.bool true] 4 (0, 0)) := by
    rw [hW6]; exact blk_put (blk_far (p := ⟨gp, 0, none⟩) bgg5 (blk_ne bgg5 bgp5 (by decide)) _) 0 _ rfl
  have bgr7 := BR.out
  have c56 : ∀ {g : Nat} {t : TypeId} {cs : Array Value}, w5.heap[g]? = some (.cells cs t (0, 0)) → t ≠ 22 → t ≠ 4 → W6.heap[g]? = some (.cells cs t (0, 0)) := by
    intro g t cs h h1 h2
    rw [hW6]
    exact blk_far (p := ⟨gg, 0, none⟩) (blk_far (p := ⟨gp, 0, none⟩) h (blk_ne h bgp5 h1) _) (blk_ne h bgg5 h2) _
  have c69 : ∀ {g : Nat} {t : TypeId} {cs : Array Value}, W6.heap[g]? = some (.cells cs t (0, 0)) → t ≠ 72 → W9.heap[g]? = some (.cells cs t (0, 0)) := by
    intro g t cs h h1
    rw [hW9]
    exact blk_far (p := ⟨gr, 0, none⟩) (blk_below h hB7) (blk_ne (blk_below h hB7) bgr7 h1) _
  have B1 := c69 (c56 (blk_below (blk_below (blk_below (blk_below BB.out hB2) hB3) hB4) hB5) (by decide) (by decide)) (by decide)
  have B2 := c69 (c56 (blk_below (blk_below (blk_below BD.out hB3) hB4) hB5) (by decide) (by decide)) (by decide)
  have B3 := c69 bgp6 (by decide)
  have B4 := c69 bgg6 (by decide)
  have B5 : W9.heap[gr]? = some (.cells #[V] 72 (0, 0)) := by rw [hW9]; exact blk_put bgr7 0 _ rfl
  have R5 := Kd.R_below (Kd.R_below HO.out hB4) hB5
  have R6 : Kd.R (Kd.int .i64) 3 W6 w2.heap.size (fun _ => True) (.slice (some ⟨gq, 0, none⟩) R cq) (List.replicate R 0) := by
    rw [hW6]
    exact Kd.R_set (Kd.R_set R5 bgp5 (by intro x hx; simp [Kd.int, Kd.scalar] at hx; subst hx; decide) 0 _) (blk_far (p := ⟨gp, 0, none⟩) bgg5 (blk_ne bgg5 bgp5 (by decide)) _) (by intro x hx; simp [Kd.int, Kd.scalar] at hx; subst hx; decide) 0 _
  have R9 : Kd.R (Kd.int .i64) 3 W9 w2.heap.size (fun _ => True) (.slice (some ⟨gq, 0, none⟩) R cq) (List.replicate R 0) := by
    rw [hW9]
    exact Kd.R_set (Kd.R_below R6 hB7) bgr7 (by intro x hx; simp [Kd.int, Kd.scalar] at hx; subst hx; decide) 0 _
  have R10 := Kd.R_mono (ok' := fun k => w.heap.size ≤ k ∧ k < W9.heap.size) (Kd.R_bound (Kd.R_lower R9 (show w.heap.size ≤ w2.heap.size by omega))) (fun k hk => ⟨hk.2.1, hk.2.2.1⟩)
  have l1 := blk_lt B1
  have l2 := blk_lt B2
  have l3 := blk_lt B3
  have l4 := blk_lt B4
  have l5 := blk_lt B5
  have HJ := wk_J (R := R) (C := C) (cp := cp) (cq := cq) (gq := gq) (fid := fid) (caps := caps) hR T9.size (gb := gb) (gd := gd) (gp := gp) (gg := gg) (gr := gr) ⟨⟨by omega, l1⟩, ⟨by omega, l2⟩, ⟨by omega, l3⟩, ⟨by omega, l4⟩, ⟨by omega, l5⟩⟩ STAB.out CAME.out CALL.out
  have hrow := wk_row HJ HCF.out HLR.out hR6 hC6 hcp R 0 0 [] (List.replicate R 0) s0 W9 (by omega) rfl HOK.out ⟨⟨B1, B2, B3, B4, by rw [← hV]; exact B5⟩, List.length_replicate, Nat.le_refl _, R10, START.out W9 T9⟩
  refine hrow.mono ?_
  rintro e w10 ⟨rfl, q', -, hj⟩
  have HS := Aside0.mk hj.2.2.2.2
  have HN := Aside0.mk T9.size
  clear hj hrow HJ R10 R9 R6 R5 B1 B2 B3 B4 B5 c69 c56 l1 l2 l3 l4 l5 bgp5 bgg5 bgp6 bgg6 bgr7 T5 T6 T7 T9
  go_wp2
  first | go_end0 | ((try simp only [Exit.inBlock, Exit.then]); refine bodyPost_ret (results_none rfl _ _ _) rfl ?_)
  exact ⟨rfl, _, HN.out, HS.out⟩

/-! ### impl_rooks: function 55 (by hand) -/
/-- How many numbers of a list are not -1. -/
def cntR : List Int → Int
  | [] => 0
  | x :: r => (if x = -1 then 0 else 1) + cntR r
theorem cntR_le : ∀ l : List Int, 0 ≤ cntR l ∧ cntR l ≤ l.length
  | [] => ⟨Int.le_refl _, Int.le_refl _⟩
  | x :: r => by
    have := cntR_le r
    simp only [cntR, List.length_cons]
    split <;> omega
def impl_rooks.f (l0 : List Int) : Option (Int) := if l0.length ≤ 2000000 then some (cntR l0) else none
-- (walk)
theorem cntR_step (l : List Int) (i : Nat) (h : i < l.length) : cntR (l.take (i + 1)) = cntR (l.take i) + (if l[i] = -1 then 0 else 1) := by
  have app : ∀ a b : List Int, cntR (a ++ b) = cntR a + cntR b := by
    intro a
    induction a with
    | nil => intro b; simp [cntR]
    | cons x a ih => intro b; simp only [List.cons_append, cntR, ih]; omega
  rw [List.take_succ_eq_append_getElem h, app]; simp [cntR]
set_option maxHeartbeats 1000000 in
theorem impl_rooks.calls (A0 : Option Addr) (c0 : Nat) (l0 : List Int) (r : Int) (w : World) (hr0 : Kd.C (Kd.int .i64) w A0 l0.length l0) (hc0 : l0.length ≤ c0) (h : impl_rooks.f l0 = some r) :
    Calls Try.prog 55 #[.slice A0 l0.length c0] w fun e w' => e = .returned (.int .i64 r) ∧ Drawn0 w w' := by
  have HR := Aside0.mk hr0
  clear hr0
  unfold impl_rooks.f at h
  by_cases hlen : l0.length ≤ 2000000
  · rw [if_pos hlen] at h
    obtain rfl := Option.some.inj h
    clear h
    go_enter Try.func55, Try.ntmps55
    go_wp2
    go_loopw [3, 8] (fun v3 v8 w' => ∃ i : Nat, i ≤ l0.length ∧ v8 = .int .i64 i ∧ v3 = .int .i64 (cntR (l0.take i)) ∧ Drawn0 w w') (fun _ v8 _ => l0.length - (intOf v8).toNat)
    case atStart => exact ⟨0, Nat.zero_le _, rfl, rfl, Drawn0.refl _⟩
    case round =>
      obtain ⟨i, hi, rfl, rfl, ⟨m1, rfl⟩⟩ := hrel
      have hb := cntR_le (l0.take i)
      have hl : (l0.take i).length ≤ 2000000 := by rw [List.length_take]; omega
      by_cases hlt : i < l0.length
      · obtain ⟨ad, e, hx⟩ := Kd.at_int HR.out (i : Int) (by omega) (by omega)
        cases e
        rw [Int.toNat_natCast, show rd l0 (i : Int) = l0[i] from by unfold rd; simp [List.getD, hlt]] at hx
        have HS := Aside0.mk (cntR_step l0 i hlt)
        by_cases hp : l0[i] = -1
        · have hb0 : (l0[i] != -1) = false := by simp [hp]
          have HP := Aside0.mk hp
          clear hp
          go_wp2
          go_roundw
          case rel => exact ⟨i + 1, by omega, by go_num, by rw [HS.out, if_pos HP.out, Int.add_zero], by repeat (first | exact Drawn0.refl _ | apply Drawn0.step)⟩
          case measure => simp [intOf]; omega
        · have hb0 : (l0[i] != -1) = true := by simp [hp]
          have HP := Aside0.mk hp
          clear hp
          go_wp2
          go_roundw
          case rel => exact ⟨i + 1, by omega, by go_num, by rw [HS.out, if_neg HP.out], by repeat (first | exact Drawn0.refl _ | apply Drawn0.step)⟩
          case measure => simp [intOf]; omega
      · have he : l0.take i = l0 := List.take_of_length_le (by omega)
        have HE := Aside0.mk he
        clear he
        go_wp2
        go_ret
        exact ⟨by rw [HE.out]; rfl, by repeat (first | exact Drawn0.refl _ | apply Drawn0.step)⟩
  · rw [if_neg hlen] at h; exact absurd h (by simp)

/-! ### slices_Clone_int_int: function 56 (by hand) -/
def slices_Clone_int_int.f (l0 : List Int) : Option (List Int) := if l0.length < 17592186044416 then some l0 else none
-- (walk)
set_option maxHeartbeats 8000000 in
set_option maxRecDepth 100000 in
theorem slices_Clone_int_int.calls (A0 : Option Addr) (c0 : Nat) (l0 : List Int) (r : List Int) (w : World) (hr0 : Kd.C (Kd.int .i64) w A0 l0.length l0) (hc0 : l0.length ≤ c0) (h : slices_Clone_int_int.f l0 = some r) :
    Calls Try.prog 56 #[.slice A0 l0.length c0] w fun e w' => ∃ v0_ : Value, e = .returned (v0_) ∧ Kd.R (Kd.int .i64) 3 w' w.heap.size (fun _ => True) v0_ r ∧ Below w.heap.size w w' := by
  have hu := Try.underlying22
  have HR0 := Aside0.mk hr0
  have HC0 := Aside0.mk hc0
  have HL0 := Aside0.mk (Kd.C_len hr0)
  have HZ0 := Aside0.mk (show A0 = none → l0 = [] from fun e => by
    subst e
    by_cases h0 : 0 < l0.length
    · obtain ⟨_, _, h3⟩ := hr0
      obtain ⟨ad, e, _⟩ := h3 h0
      cases e
    · exact List.eq_nil_of_length_eq_zero (by omega))
  clear hr0 hc0
  have HB := Aside0.mk (Below.refl w.heap.size w)
  unfold slices_Clone_int_int.f at h
  by_cases c2 : l0.length < 17592186044416
  · rw [if_pos c2] at h
    obtain rfl := Option.some.inj h
    have LM := Aside0.mk c2
    clear c2 h
    cases A0 with
    | none =>
      obtain rfl := HZ0.out rfl
      have hq := fun (W : World) => Lib.run_eql_slice_nil (P := Try.prog) W 22 3 none 0 c0 0 0 Try.underlying22
      go_enter Try.func56, Try.ntmps56
      go_wp2
      go_ret
      exact ⟨_, rfl, Kd.R_nil _ _ _ _ _, HB.out⟩
    | some a =>
      have hq := fun (W : World) => Lib.run_eql_slice_nil (P := Try.prog) W 22 3 (some a) l0.length c0 0 0 Try.underlying22
      go_enter Try.func56, Try.ntmps56
      have hd : (some a : Option Addr).isNone = false := rfl
      obtain ⟨y133, hy133⟩ : ∃ y_ : List Int, y_ = (([] : List Int)) := ⟨_, rfl⟩
      obtain ⟨y136, hy136⟩ : ∃ y_ : List Int, y_ = (y133 ++ l0) := ⟨_, rfl⟩
      have e136 := Aside0.mk (show y136 = l0 by rw [hy136, hy133]; rfl)
      have hl133 := Aside0.mk (show y133.length = 0 by rw [hy133]; rfl)
      have Ny133 := Aside0.mk hy133
      have Ny136 := Aside0.mk hy136
      clear hy133 hy136
      go_wp2_with (first | ((with_reducible refine gate_dst (N := 5) rfl ?_); refine Kd.R_lit (Kd.int .i64) _ 3 ?hg (N := 5) ?hd (xs := ([] : List Int)) (inner := []) (ok := fun _ => True) (okp := fun _ => True) ?hr ?hp (fun _ hk => hk) trivial (Below.refl _ _) (Nat.le_refl _) (by simp) ?_; (case hd => rfl); (case hg => rfl); (case hr => first | (go_simp; done) | (go_simp; rfl)); (case hp => exact (Reps.none _ _)); intro v134 w3 ho4 hb hg_ hnew_; clear hg_ hnew_; (first | rw [← Ny133.out] at ho4 | (simp only [Int.reduceToNat] at ho4; rw [← Ny133.out] at ho4)); have n0_ := Aside0.mk (Kd.R_lower ho4 (below_size (by repeat (first | (with_reducible first | exact HB.out | apply below_alloc | apply pw_below_drewN | apply below_drew1) | exact HB.out)))); have n1_ := Aside0.mk (below_step (by repeat (first | (with_reducible first | exact HB.out | apply below_alloc | apply pw_below_drewN | apply below_drew1) | exact HB.out)) hb); clear HB; have HO135 := n0_; have HB := n1_; clear n0_ n1_; clear hb ho4) | ((with_reducible refine gate_builtin (b := .append) (xs := #[.tmp 5, .tmp 6]) rfl ?_); at_builtin; refine Kd.R_append_rows (Kd.int .i64) (w0 := w) w.heap.size rfl (.tmp 5) (.tmp 6) 22 3 (.int .i64 0) 8 rfl Try.underlying22 info3 rfl (by decide) (by omega) v134 y133 l0 _ _ _ (fun _ => True) (fun _ => False) rfl rfl ?aO ?aR (fun _ _ h => h) (fun _ h => h.elim) ?aF ?aB ?aS ?aL ?_; (case aR => repeat (first | exact (Kd.C_below HR0.out HB.out) | (with_reducible refine Kd.C_alloc ?_ _) | (with_reducible refine Kd.C_drewN ?_ _) | (with_reducible refine Kd.C_drew ?_))); (case aB => exact (by repeat (first | (with_reducible first | exact HB.out | apply below_alloc | apply pw_below_drewN | apply below_drew1) | exact HB.out))); (case aF => exact (fun _ _ => trivial)); (case aO => exact (by (with_reducible repeat (first | apply Kd.R_alloc | apply Kd.R_drewN | apply Kd.R_drew)); exact HO135.out)); (case aS => exact (below_size (by repeat (first | (with_reducible first | exact HB.out | apply below_alloc | apply pw_below_drewN | apply below_drew1) | exact HB.out)))); (case aL => have := LM.out; have := hl133.out; omega); intro v137 w5 ho hb hg hat; rw [← Ny136.out] at ho; have n0_ := Aside0.mk (hb); have n1_ := Aside0.mk (ho); clear HB; clear HO135; have HB := n0_; have HO138 := n1_; clear n0_ n1_; clear ho hb hg hat))
      go_ret
      exact ⟨_, rfl, by rw [← e136.out]; (with_reducible repeat (first | apply Kd.R_alloc | apply Kd.R_drewN | apply Kd.R_drew)); exact HO138.out, by repeat (first | (with_reducible first | exact HB.out | apply below_alloc | apply pw_below_drewN | apply below_drew1) | exact HB.out)⟩
  · rw [if_neg c2] at h; exact absurd h (by simp)

/-! ### impl_Board_with: function 32 (by hand) -/
def impl_Board_with.f (a0_0 a0_1 : Int) (l0_2 : List Int) (a1 : Int) : Option (List (List Int)) := if 0 < a0_0 ∧ a0_0 ≤ 6 ∧ 0 ≤ a0_1 ∧ a0_1 ≤ 6 ∧ (l0_2.length : Int) = a0_0 then some ((plc a0_1.toNat l0_2 0 []).filter fun q => decide (cntR q = a1)) else none
-- (walk)
set_option maxHeartbeats 1000000 in
set_option maxRecDepth 4000 in
theorem wi_no {gv gk gq R cq : Nat} {k : Int} {q : List Int} {w : World} (hk : w.heap[gk]? = some (.cells #[.int .i64 k] 3 (0, 0)))
    (hq : Kd.C (Kd.int .i64) w (some ⟨gq, 0, none⟩) q.length q) (hqR : q.length = R) (hcq : q.length ≤ cq) (h6 : R ≤ 6) (hne : ¬ cntR q = k) :
    Calls Try.prog 54 #[.slice (some ⟨gq, 0, none⟩) R cq, .pointer (some ⟨gk, 0, none⟩), .pointer (some ⟨gv, 0, none⟩)] w fun e w2 => e = .returned (.bool true) ∧ Drawn0 w w2 := by
  subst hqR
  have c1 := blk_cell hk 0
  have hb := cntR_le q
  have hf : impl_rooks.f q = some (cntR q) := by unfold impl_rooks.f; rw [if_pos (by omega)]
  have hbq : (cntR q == k) = false := by simpa using hne
  have HQ := Aside0.mk hq
  have HF := Aside0.mk hf
  clear hq hf hk hne
  go_enter Try.func54, Try.ntmps54
  go_wp2
  go_region_with (go_at_call 55; (refine (impl_rooks.calls _ _ q (cntR q) _ ?side1 hcq HF.out).mono ?_); (case side1 => repeat (first | exact HQ.out | (with_reducible refine Kd.C_alloc ?_ _) | (with_reducible refine Kd.C_drewN ?_ _) | (with_reducible refine Kd.C_drew ?_))); rintro e w' ⟨rfl, ⟨nd, rfl⟩⟩)
  all_goals (simp only [Exit.then]; go_wp2; go_ret; exact ⟨rfl, by repeat (first | exact Drawn0.refl _ | apply Drawn0.step)⟩)
theorem wi_cl {gv n ql cc : Nat} {ok : Nat → Prop} {vout : Value} {out : List (List Int)} {q : List Int} {w0 w w9 : World} {Ac : Option Addr} (hv : w.heap[gv]? = some (.cells #[vout] 26 (0, 0)))
    (ho : Kd.S (Kd.slice 3 (Kd.int .i64)) 22 w w0.heap.size ok vout out) (HB : Below w0.heap.size w0 w) (hbase : w0.heap.size ≤ w.heap.size)
    (hoc : Kd.R (Kd.int .i64) 3 w9 (w.drewN n).heap.size (fun _ => True) (.slice Ac ql cc) q) (hb9 : Below (w.drewN n).heap.size (w.drewN n) w9) :
    w9.heap[gv]? = some (.cells #[vout] 26 (0, 0)) ∧ w.heap.size ≤ w9.heap.size ∧ Kd.S (Kd.slice 3 (Kd.int .i64)) 22 w9 w0.heap.size (fun k => ok k ∧ ¬ (w.heap.size ≤ k ∧ k < w9.heap.size)) vout out ∧ Below w0.heap.size w0 w9 ∧ (Kd.slice 3 (Kd.int .i64)).M w9 w0.heap.size (fun k => w.heap.size ≤ k ∧ k < w9.heap.size) q [.slice Ac ql cc] ∧ ∀ k, k < w.heap.size → w9.heap[k]? = w.heap[k]? :=
  ⟨blk_below (blk_drewN hv _) hb9, hb9.size, Kd.S_mono (Kd.S_old (Kd.S_drewN ho n) hb9) (fun k hk => ⟨hk.1, fun h => Nat.lt_irrefl _ (Nat.lt_of_lt_of_le hk.2 h.1)⟩), below_step (pw_below_drewN HB n) hb9, ⟨_, rfl, Kd.R_mono (Kd.R_lower (Kd.R_bound hoc) hbase) (fun k hk => ⟨hk.2.1, hk.2.2.1⟩)⟩, fun k hk => hb9.block k hk⟩
theorem wi_ap {gv : Nat} {ok : Nat → Prop} {vout v1 : Value} {out : List (List Int)} {q : List Int} {w0 w w9 w1 : World} (hv : w.heap[gv]? = some (.cells #[vout] 26 (0, 0))) (hgv : w0.heap.size ≤ gv) (hvn : some gv ≠ vout.ownBlock)
    (h9v : w9.heap[gv]? = some (.cells #[vout] 26 (0, 0))) (hs9 : w.heap.size ≤ w9.heap.size) (hk9 : ∀ k, k < w.heap.size → w9.heap[k]? = w.heap[k]?)
    (ho1 : Kd.S (Kd.slice 3 (Kd.int .i64)) 22 w1 w0.heap.size ok v1 (out ++ [q])) (hb1 : Below w0.heap.size w0 w1) (hg1 : w9.grownBy w1 vout.ownBlock) :
    w1.heap[gv]? = some (.cells #[vout] 26 (0, 0)) ∧ ∃ v2, (w1.setCell ⟨gv, 0, none⟩ v1).heap[gv]? = some (.cells #[v2] 26 (0, 0)) ∧ Kd.S (Kd.slice 3 (Kd.int .i64)) 22 (w1.setCell ⟨gv, 0, none⟩ v1) w0.heap.size ok v2 (out ++ [q]) ∧ Below w0.heap.size w0 (w1.setCell ⟨gv, 0, none⟩ v1) ∧ w.heap.size ≤ (w1.setCell ⟨gv, 0, none⟩ v1).heap.size ∧ ∀ k, k < w.heap.size → k ≠ gv → some k ≠ vout.ownBlock → (w1.setCell ⟨gv, 0, none⟩ v1).heap[k]? = w.heap[k]? := by
  have hgl := blk_lt hv
  have bv1 := (hg1.block gv (by omega) hvn).trans h9v
  have hs1 := hg1.size
  refine ⟨bv1, v1, blk_put bv1 0 _ rfl, Kd.S_set ho1 bv1 (by intro x hx; simp [Kd.slice, Kd.int, Kd.scalar] at hx; rcases hx with rfl | rfl <;> decide) 0 _, below_set hb1 hgv, ?_, ?_⟩
  · exact Nat.le_trans (Nat.le_trans hs9 hs1) ((Below.refl w0.heap.size w1).setCell (p := ⟨gv, 0, none⟩) hgv v1).size
  · intro k hk h1 h2
    exact (Below.heap_setCell w1 ⟨gv, 0, none⟩ v1 k h1).trans ((hg1.block k (by omega) h2).trans (hk9 k hk))
set_option maxHeartbeats 4000000 in
set_option maxRecDepth 4000 in
theorem wi_yes {gv gk gq R cq : Nat} {ok : Nat → Prop} {k : Int} {vout : Value} {out : List (List Int)} {q : List Int} {w0 w : World} (hk : w.heap[gk]? = some (.cells #[.int .i64 k] 3 (0, 0))) (hv : w.heap[gv]? = some (.cells #[vout] 26 (0, 0)))
    (ho : Kd.S (Kd.slice 3 (Kd.int .i64)) 22 w w0.heap.size ok vout out) (hfresh : ∀ k, w.heap.size ≤ k → ok k) (HB : Below w0.heap.size w0 w) (hbase : w0.heap.size ≤ w.heap.size) (hgv : w0.heap.size ≤ gv) (hout : out.length ≤ 1000000)
    (hq : Kd.C (Kd.int .i64) w (some ⟨gq, 0, none⟩) q.length q) (hqR : q.length = R) (hcq : q.length ≤ cq) (h6 : R ≤ 6) (hne : cntR q = k) :
    Calls Try.prog 54 #[.slice (some ⟨gq, 0, none⟩) R cq, .pointer (some ⟨gk, 0, none⟩), .pointer (some ⟨gv, 0, none⟩)] w fun e w2 => e = .returned (.bool true) ∧ ∃ v2, w2.heap[gv]? = some (.cells #[v2] 26 (0, 0)) ∧ Kd.S (Kd.slice 3 (Kd.int .i64)) 22 w2 w0.heap.size ok v2 (out ++ [q]) ∧ Below w0.heap.size w0 w2 ∧ w.heap.size ≤ w2.heap.size ∧ ∀ k, k < w.heap.size → k ≠ gv → some k ≠ vout.ownBlock → w2.heap[k]? = w.heap[k]? := by
  subst hqR
  have c1 := blk_cell hk 0
  have c2 := blk_cell hv 0
  have f2 := blk_frozen hv 0
  have hb := cntR_le q
  have hf : impl_rooks.f q = some (cntR q) := by unfold impl_rooks.f; rw [if_pos (by omega)]
  have hbq : (cntR q == k) = true := by simpa using hne
  have HLT := Aside0.mk (show ∀ k, vout.ownBlock = some k → k < w.heap.size from fun k hk => by
    obtain ⟨inner, hi⟩ := Kd.S_own ho
    exact own_lt hi k hk)
  have HVN := Aside0.mk (show some gv ≠ vout.ownBlock from Kd.S_ne ho hv (by decide))
  have INF := Aside0.mk (show (Try.prog.info? 22).map (fun i => (i.zero, i.size, i.bytes)) = some (some (.slice none 0 0), 1, 24) by kernel_rfl)
  have HQ := Aside0.mk hq
  have HF := Aside0.mk hf
  have HO := Aside0.mk ho
  have HV := Aside0.mk hv
  have HFR := Aside0.mk hfresh
  have HBB := Aside0.mk HB
  clear hq hf hk hne ho hv hfresh HB
  go_enter Try.func54, Try.ntmps54
  go_wp2
  go_region_with (go_at_call 55; (refine (impl_rooks.calls _ _ q (cntR q) _ ?side1 hcq HF.out).mono ?_); (case side1 => repeat (first | exact HQ.out | (with_reducible refine Kd.C_alloc ?_ _) | (with_reducible refine Kd.C_drewN ?_ _) | (with_reducible refine Kd.C_drew ?_))); rintro e w' ⟨rfl, ⟨nd, rfl⟩⟩)
  all_goals (simp only [Exit.then]; go_wp2)
  all_goals
    go_region_law (first
      | (go_simp; go_at_call 56; (refine (slices_Clone_int_int.calls _ _ q q _ ?side1 hcq (by unfold slices_Clone_int_int.f; rw [if_pos (by omega)])).mono ?_); (case side1 => repeat (first | exact HQ.out | (with_reducible refine Kd.C_alloc ?_ _) | (with_reducible refine Kd.C_drewN ?_ _) | (with_reducible refine Kd.C_drew ?_))); rintro e w9 ⟨vc, rfl, hoc, hb9⟩; obtain ⟨Ac, cc, rfl⟩ := Kd.R_slice hoc; have H9 := Aside0.mk (wi_cl HV.out HO.out HBB.out hbase hoc hb9); have c9 := blk_cell H9.out.1 0; have f9 := blk_frozen H9.out.1 0; have c9a := blk_cell (blk_alloc H9.out.1 (Obj.cells #[Value.slice Ac q.length cc] 22)) 0; clear hoc hb9)
      | (refine Kd.S_append_step (Kd.slice 3 (Kd.int .i64)) (w0 := w0) w0.heap.size (by rfl) (.tmp 9) (.tmp 12) 26 22 (.slice none 0 0) 24 rfl Try.underlying26 INF.out rfl (by decide) (by omega) vout out q [.slice Ac q.length cc] ok (fun k => w.heap.size ≤ k ∧ k < w9.heap.size) rfl rfl H9.out.2.2.2.2.1 (fun k hk => ⟨HFR.out k hk.1, fun he => Nat.lt_irrefl k (Nat.lt_of_lt_of_le (HLT.out k he.symm) hk.1)⟩) (fun k hk => HFR.out k (Nat.le_trans H9.out.2.1 hk)) H9.out.2.2.1 H9.out.2.2.2.1 (Nat.le_trans hbase H9.out.2.1) (by omega) ?_; intro v1 w1 ho1 hb1 hg1 _; obtain ⟨A1, cc1, rfl⟩ := Kd.S_slice ho1; have H1 := Aside0.mk (wi_ap HV.out hgv HVN.out H9.out.1 H9.out.2.1 H9.out.2.2.2.2.2 ho1 hb1 hg1); have c1v := blk_cell H1.out.1 0; have f1v := blk_frozen H1.out.1 0; clear ho1 hb1 hg1))
  all_goals (go_wp2; go_ret)
  all_goals
    have h2 := H1.out.2
    simp only [List.length_append, List.length_cons, List.length_nil, Nat.zero_add] at h2
    exact ⟨rfl, h2⟩
theorem wi_fold (p : List Int → Prop) [DecidablePred p] : ∀ (L s : List (List Int)), L.foldl (fun s q => if p q then s ++ [q] else s) s = s ++ L.filter fun q => decide (p q)
  | [], s => by simp
  | q :: L, s => by
    rw [List.foldl_cons, wi_fold p L]
    by_cases h : p q
    · rw [if_pos h, List.filter_cons_of_pos (by simpa using h), List.append_assoc]; rfl
    · rw [if_neg h, List.filter_cons_of_neg (by simpa using h)]
set_option maxHeartbeats 1000000 in
set_option maxRecDepth 4000 in
theorem wi_walk {R C cp gv gk : Nat} {k : Int} {A : Option Addr} {l : List Int} {v0 : Value} {w0 w : World} (hR : 0 < R) (hR6 : R ≤ 6) (hC6 : C ≤ 6) (hlR : l.length = R) (hcp : l.length ≤ cp)
    (B0 : Below w0.heap.size w0 w) (hk : w.heap[gk]? = some (.cells #[.int .i64 k] 3 (0, 0))) (hv : w.heap[gv]? = some (.cells #[v0] 26 (0, 0))) (hgv : w0.heap.size ≤ gv) (ho : Kd.S (Kd.slice 3 (Kd.int .i64)) 22 w w0.heap.size (fun _ => True) v0 []) (hA : Kd.C (Kd.int .i64) w0 A l.length l) :
    Calls Try.prog 53 #[.agg #[.int .i64 R, .int .i64 C, .slice A l.length cp], .func (.func 54) #[] #[.pointer (some ⟨gk, 0, none⟩), .pointer (some ⟨gv, 0, none⟩)]] w fun e w' => e = .returned (.tuple #[]) ∧ ∃ v1, w'.heap[gv]? = some (.cells #[v1] 26 (0, 0)) ∧ Kd.S (Kd.slice 3 (Kd.int .i64)) 22 w' w0.heap.size (fun _ => True) v1 ((plc C l 0 []).filter fun q => decide (cntR q = k)) ∧ Below w0.heap.size w0 w' := by
  have hB := B0.size
  have hlv := blk_lt hv
  have hlk := blk_lt hk
  have hkv : gk ≠ gv := blk_ne hk hv (by decide)
  have hmain := wk_all (σ := List (List Int)) (ok := fun s _ => s.length ≤ 200000) (S := fun N1 s w1 => w1.heap[gk]? = some (.cells #[.int .i64 k] 3 (0, 0)) ∧ ∃ v1, w1.heap[gv]? = some (.cells #[v1] 26 (0, 0)) ∧ Kd.S (Kd.slice 3 (Kd.int .i64)) 22 w1 w0.heap.size (fun k => k < w.heap.size ∨ N1 ≤ k) v1 s ∧ Below w0.heap.size w0 w1)
    (step := fun s q => if cntR q = k then s ++ [q] else s) (s0 := []) (A := A) (l := l) (cp := cp) (R := R) (C := C) (fid := 54) (caps := #[.pointer (some ⟨gk, 0, none⟩), .pointer (some ⟨gv, 0, none⟩)]) (w := w) hR hR6 hC6 hlR hcp
    (fun L1 q' L2 he => by
      have h1 := plc_len C hC6 l 0 []
      rw [he] at h1
      have h2 : 7 ^ l.length ≤ 117649 := Nat.le_trans (Nat.pow_le_pow_right (by omega) (by omega : l.length ≤ 6)) (by decide)
      have h3 := List.length_filter_le (fun q => decide (cntR q = k)) L1
      simp only [List.length_append, List.length_cons] at h1
      rw [wi_fold (fun q => cntR q = k), List.nil_append]
      omega)
    (fun _ _ => by kernel_rfl)
    (fun w1 hb => ⟨blk_below hk hb, v0, blk_below hv hb, Kd.S_below (Kd.S_mono (Kd.S_bound ho) (fun k hk => Or.inl hk.2.2.1)) hb, below_step B0 hb⟩)
    (fun N1 s w1 w2 hs hb hkp => by
      obtain ⟨h1, v1, h2, h3, h4⟩ := hs
      exact ⟨(hb.block gk hlk).trans h1, v1, (hb.block gv hlv).trans h2, Kd.S_step h3 (fun k hk hk2 => by rcases hk with hk | hk; exact hb.block k hk; exact hkp k hk hk2), below_weaken h4 hB hb⟩)
    (fun N1 s w1 hs => by
      obtain ⟨h1, v1, h2, h3, h4⟩ := hs
      exact Kd.C_below hA h4)
    (fun N1 s q w1 gq cq hs hN1 hN hq hoq hc hcq => by
      obtain ⟨hk1, v1, hv1, ho1, hb1⟩ := hs
      by_cases he : cntR q = k
      · refine (wi_yes hk1 hv1 ho1 (fun k hk => Or.inr (by omega)) hb1 hb1.size hgv (by omega) hc hq hcq hR6 he).mono ?_
        rintro e w2 ⟨rfl, v2, hv2, ho2, hb2, hs2, hkp⟩
        refine ⟨rfl, ⟨(hkp gk (blk_lt hk1) hkv (Kd.S_ne ho1 hk1 (by decide))).trans hk1, v2, hv2, by rw [if_pos he]; exact ho2, hb2⟩, hs2, ?_⟩
        intro k hk1 hk2
        exact hkp k (by omega) (by omega) (fun e => by rcases (Kd.S_R ho1).1 k e.symm with h | h <;> omega)
      · refine (wi_no hk1 hc hq hcq hR6 he).mono ?_
        rintro e w2 ⟨rfl, n, rfl⟩
        exact ⟨rfl, ⟨hk1, v1, hv1, by rw [if_neg he]; exact Kd.S_drewN ho1 n, pw_below_drewN hb1 n⟩, Nat.le_refl _, fun _ _ _ => rfl⟩)
  refine hmain.mono ?_
  rintro e w' ⟨rfl, N1, _, _, v1, h2, h3, h4⟩
  refine ⟨rfl, v1, h2, ?_, h4⟩
  rw [wi_fold (fun q => cntR q = k), List.nil_append] at h3
  exact Kd.S_mono h3 (fun _ _ => trivial)
set_option maxHeartbeats 1000000 in
set_option maxRecDepth 2000 in
theorem impl_Board_with.calls (a0_0 : Int) (a0_1 : Int) (A0_2 : Option Addr) (c0_2 : Nat) (l0_2 : List Int) (a1 : Int) (r : List (List Int)) (w : World) (hr0_2 : Kd.C (Kd.int .i64) w A0_2 l0_2.length l0_2) (hc0_2 : l0_2.length ≤ c0_2) (h : impl_Board_with.f a0_0 a0_1 l0_2 a1 = some r) :
    Calls Try.prog 32 #[.agg #[.int .i64 a0_0, .int .i64 a0_1, .slice A0_2 l0_2.length c0_2], .int .i64 a1] w fun e w' => ∃ v0_ : Value, e = .returned (v0_) ∧ Kd.S (Kd.slice 3 (Kd.int .i64)) 22 w' w.heap.size (fun _ => True) v0_ r ∧ Below w.heap.size w w' := by
  unfold impl_Board_with.f at h
  by_cases hc : 0 < a0_0 ∧ a0_0 ≤ 6 ∧ 0 ≤ a0_1 ∧ a0_1 ≤ 6 ∧ (l0_2.length : Int) = a0_0
  case neg => rw [if_neg hc] at h; exact absurd h (by simp)
  rw [if_pos hc] at h
  obtain ⟨h1, h2, h3, h4, h5⟩ := hc
  have HRes := Aside0.mk (Option.some.inj h)
  clear h
  obtain ⟨C, rfl⟩ := Int.eq_ofNat_of_zero_le h3
  obtain ⟨R, rfl⟩ := Int.eq_ofNat_of_zero_le (Int.le_of_lt h1)
  rw [Int.toNat_natCast] at HRes
  have hRl : l0_2.length = R := by omega
  have HR0 := Aside0.mk hr0_2
  have HRL := Aside0.mk hRl
  clear hr0_2 hRl h5
  go_enter Try.func32, Try.ntmps32
  go_wp2_with (first
    | ((with_reducible refine gate_dst (N := 2) rfl ?_); refine box_event ?hg (N := 2) ?hd (cs := #[.int .i64 R, .int .i64 C, .slice A0_2 l0_2.length c0_2]) (t := 29) ?hr ?_; (case hd => rfl); (case hg => rfl); (case hr => first | (go_simp; done) | (go_simp; rfl)); intro gb hgb w1 bb hb1; have GB := Aside0.mk hgb; have BB := Aside0.mk bb; have HB1 := Aside0.mk hb1; clear hgb bb hb1)
    | ((with_reducible refine gate_dst (N := 3) rfl ?_); refine box_event ?hg (N := 3) ?hd (cs := #[.int .i64 a1]) (t := 3) ?hr ?_; (case hd => rfl); (case hg => rfl); (case hr => first | (go_simp; done) | (go_simp; rfl)); intro gk hgk w2 bk hb2; have GK := Aside0.mk hgk; have BK := Aside0.mk bk; have HB2 := Aside0.mk hb2; clear hgk bk hb2)
    | ((with_reducible refine gate_dst (N := 6) rfl ?_); refine Kd.S_lit (Kd.slice 3 (Kd.int .i64)) (w0 := w2) w2.heap.size 22 ?hg (N := 6) ?hd (xs := ([] : List (List Int))) (inner := []) (ok := fun _ => True) (okp := fun _ => True) ?hr ?hp (fun _ hk => hk) trivial (Below.refl _ _) (Nat.le_refl _) (by simp) ?_; (case hd => rfl); (case hg => rfl); (case hr => first | (go_simp; done) | (go_simp; rfl)); (case hp => exact (Reps.none _ _)); intro v1 w3 ho hb3 hgr3 hnw3; obtain ⟨Av, cv, ev⟩ := Kd.S_slice ho; rw [List.length_nil] at ev; subst ev; have HO := Aside0.mk ho; have HB3 := Aside0.mk hb3; clear ho hb3 hgr3 hnw3)
    | ((with_reducible refine gate_dst (N := 5) rfl ?_); refine box_event ?hg (N := 5) ?hd (cs := #[.slice none 0 0]) (t := 26) ?hr ?_; (case hd => rfl); (case hg => rfl); (case hr => first | (go_simp; done) | (go_simp; rfl)); intro gv hgv w4 bv hb4; have cv0 := blk_cell bv 0; have fv0 := blk_frozen bv 0; have bb4 := blk_far (p := ⟨gv, 0, none⟩) (blk_below (blk_below (blk_below BB.out HB2.out) HB3.out) hb4) (blk_ne (blk_below (blk_below (blk_below BB.out HB2.out) HB3.out) hb4) bv (by decide)) (.slice Av 0 cv); have c20 := blk_cell bb4 0; have c21 := blk_cell bb4 1; have c22 := blk_cell bb4 2; have GV := Aside0.mk hgv; have BV := Aside0.mk bv; have HB4 := Aside0.mk hb4; clear bb4 hgv bv hb4)
    )
  have hB1 := HB1.out
  have hB2 := HB2.out
  have hB3 := HB3.out
  have hB4 := HB4.out
  have hgv := GV.out
  have s1 := hB1.size
  have s2 := hB2.size
  have s3 := hB3.size
  have T4 : Below w.heap.size w w4 := below_step (below_step (below_step hB1 hB2) hB3) hB4
  have T5 : Below w.heap.size w (w4.setCell ⟨gv, 0, none⟩ (.slice Av 0 cv)) := below_set T4 (by omega)
  have bk4 := blk_below (blk_below BK.out hB3) hB4
  have bk5 := blk_far (p := ⟨gv, 0, none⟩) bk4 (blk_ne bk4 BV.out (by decide)) (.slice Av 0 cv)
  have O4 := Kd.S_set (Kd.S_below HO.out hB4) BV.out (by intro x hx; simp [Kd.slice, Kd.int, Kd.scalar] at hx; rcases hx with rfl | rfl <;> decide) 0 (.slice Av 0 cv)
  have HW := wi_walk (R := R) (C := C) (cp := c0_2) (A := A0_2) (l := l0_2) (by omega) (by omega) (by omega) HRL.out hc0_2 T5 bk5 (blk_put BV.out 0 _ rfl) (by omega) (Kd.S_lower O4 (by omega)) HR0.out
  clear T4 T5 O4 cv0 fv0 c20 c21 c22 s1 s2 s3 hgv hB1 hB2 hB3 hB4 bk4 bk5
  refine HW.mono ?_
  rintro e w6 ⟨rfl, v6, hv6, ho6, hb6⟩
  obtain ⟨A6, c6, rfl⟩ := Kd.S_slice ho6
  have cv6 := blk_cell hv6 0
  have HO6 := Aside0.mk ho6
  have HB6 := Aside0.mk hb6
  clear HW hv6 ho6 hb6
  go_wp2
  go_ret
  exact ⟨_, rfl, by rw [← HRes.out]; exact HO6.out, HB6.out⟩

/-! ### impl_PlacementsOf: function 10 -/
def impl_PlacementsOf.j0 : Nat → Int → Bool → Int → Int → List Int → Option ((List (List Int)) × Bool)
  | 0, _, _, _, _, _ => none
  | k + 1, x1, x14, x210000, x210001, x210002 => if x14 = true then (some (([] : List (List Int)), false)) else ((impl_Board_with.f x210000 x210001 x210002 x1).bind fun t212 => (if (t212.length : Int) > 500 then (some (([] : List (List Int)), false)) else (some (t212, true))))
def impl_PlacementsOf.f (k : Nat) (a0_0 : Int) (a0_1 : Int) (l0_2 : List Int) (a1 : Int) : Option ((List (List Int)) × Bool) := (impl_IsBoard.f a0_0 a0_1 l0_2).bind fun t210 => (if t210 = true then ((impl_within.f a1 0 6).bind fun t211 => (impl_PlacementsOf.j0 k a1 (!t211) a0_0 a0_1 l0_2)) else (impl_PlacementsOf.j0 k a1 true a0_0 a0_1 l0_2))
theorem impl_PlacementsOf.mono_l : ∀ k, (∀ y0 y1 y2 y3 y4, LeO (impl_PlacementsOf.j0 k y0 y1 y2 y3 y4) (impl_PlacementsOf.j0 (k + 1) y0 y1 y2 y3 y4))
  | 0 => fun _ _ _ _ _ r h => by simp [impl_PlacementsOf.j0] at h
  | k + 1 => by
    have ih0 := impl_PlacementsOf.mono_l k
    · intro y0 y1 y2 y3 y4
      unfold impl_PlacementsOf.j0
      repeat' first
      | (with_reducible exact ih0 _ _ _ _ _)
      | (with_reducible exact LeO.refl _)
      | (with_reducible exact LeO.none _)
      | (with_reducible refine LeO.ite ?_ ?_)
      | (with_reducible refine LeO.bind ?_ (fun _ => ?_))
      | exact ih0 _ _ _ _ _
      | exact LeO.none _
      | refine LeO.ite ?_ ?_
      | refine LeO.bind ?_ (fun _ => ?_)
theorem impl_PlacementsOf.mono : ∀ a0 a1 a2 a3 k, LeO (impl_PlacementsOf.f k a0 a1 a2 a3) (impl_PlacementsOf.f (k + 1) a0 a1 a2 a3) := by
  intro a0 a1 a2 a3 k
  have ih0 := impl_PlacementsOf.mono_l k
  unfold impl_PlacementsOf.f
  repeat' first
      | (with_reducible exact ih0 _ _ _ _ _)
      | (with_reducible exact LeO.refl _)
      | (with_reducible exact LeO.none _)
      | (with_reducible refine LeO.ite ?_ ?_)
      | (with_reducible refine LeO.bind ?_ (fun _ => ?_))
      | exact ih0 _ _ _ _ _
      | exact LeO.none _
      | refine LeO.ite ?_ ?_
      | refine LeO.bind ?_ (fun _ => ?_)
set_option maxHeartbeats 8000000 in
set_option maxRecDepth 100000 in
theorem impl_PlacementsOf.calls (k : Nat) (a0_0 : Int) (a0_1 : Int) (A0_2 : Option Addr) (c0_2 : Nat) (l0_2 : List Int) (a1 : Int) (r1 : List (List Int)) (r2 : Bool) (w : World) (hr0_2 : Kd.C (Kd.int .i64) w A0_2 l0_2.length l0_2) (hc0_2 : l0_2.length ≤ c0_2) (h : impl_PlacementsOf.f k a0_0 a0_1 l0_2 a1 = some (r1, r2)) :
    Calls Try.prog 10 #[.agg #[.int .i64 a0_0, .int .i64 a0_1, .slice A0_2 l0_2.length c0_2], .int .i64 a1] w fun e w' => ∃ v0_ : Value, e = .returned (.tuple #[v0_, .bool r2]) ∧ Kd.S (Kd.slice 3 (Kd.int .i64)) 22 w' w.heap.size (fun _ => True) v0_ r1 ∧ Below w.heap.size w w' := by
  have hu29 := Try.underlying29
  have HR0_2 := Aside0.mk hr0_2
  have HC0_2 := Aside0.mk hc0_2
  clear hr0_2 hc0_2
  have HB := Aside0.mk (Below.refl w.heap.size w)
  have H : ((impl_IsBoard.f a0_0 a0_1 l0_2).bind fun t210 => (if t210 = true then ((impl_within.f a1 0 6).bind fun t211 => (impl_PlacementsOf.j0 k a1 (!t211) a0_0 a0_1 l0_2)) else (impl_PlacementsOf.j0 k a1 true a0_0 a0_1 l0_2))) = some (r1, r2) := h
  clear h
  have HC3 := Aside0.mk H
  clear H
  go_enter Try.func10, Try.ntmps10
  go_upto_region 1 with (first | ((with_reducible refine gate_dst (N := 2) rfl ?_); refine box_event ?hg (N := 2) ?hd (cs := #[.int .i64 a0_0, .int .i64 a0_1, .slice A0_2 l0_2.length c0_2]) (t := 29) ?hr ?_; (case hd => rfl); (case hg => rfl); (case hr => first | (go_simp; done) | (go_simp; rfl)); intro gb209 hg w4 hbox hb; have n0_ := Aside0.mk (below_step (by repeat (first | (with_reducible first | exact HB.out | apply below_alloc | apply pw_below_drewN | apply below_drew1) | exact HB.out)) hb); have n1_ := Aside0.mk (hbox); have n2_ := Aside0.mk ((by rw [hg]; exact (below_size (by repeat (first | (with_reducible first | exact HB.out | apply below_alloc | apply pw_below_drewN | apply below_drew1) | exact HB.out))) : w.heap.size ≤ gb209)); have n3_ := Aside0.mk ((by rw [hg]; exact (below_size (by repeat (first | (with_reducible first | exact HB.out | apply below_alloc | apply pw_below_drewN | apply below_drew1) | exact HB.out))) : w.heap.size ≤ gb209)); clear HB; have HB := n0_; have BK209 := n1_; have GW209 := n2_; have GE209 := n3_; clear n0_ n1_ n2_ n3_; clear hb hbox hg))
  (try simp only [Act.put, List.setIfInBounds_toArray, List.set_cons_zero, List.set_cons_succ])
  go_cut [14] (fun v14 wc => ∃ (kq : Nat) (x14_2 : Bool), v14 = .bool x14_2 ∧ Aside0 (impl_PlacementsOf.j0 kq a1 x14_2 a0_0 a0_1 l0_2 = some (r1, r2)) ∧ Aside0 (kq ≤ k) ∧ Aside0 (wc.heap[gb209]? = some (.cells #[.int .i64 a0_0, .int .i64 a0_1, (.slice A0_2 l0_2.length c0_2)] 29 (0, 0))) ∧ Aside0 (Below w.heap.size w wc))
  case first =>
    have H := HC3.out
    clear HC3
    replace H := Option.bind_eq_some_iff.mp H
    obtain ⟨t210, A50, H⟩ := H
    replace H : (if t210 = true then ((impl_within.f a1 0 6).bind fun t211 => (impl_PlacementsOf.j0 k a1 (!t211) a0_0 a0_1 l0_2)) else (impl_PlacementsOf.j0 k a1 true a0_0 a0_1 l0_2)) = some (r1, r2) := H
    have A5 := Aside0.mk A50
    clear A50
    by_cases c6 : t210 = true
    · subst c6
      have H1 : ((impl_within.f a1 0 6).bind fun t211 => (impl_PlacementsOf.j0 k a1 (!t211) a0_0 a0_1 l0_2)) = some (r1, r2) := by first | (rw [if_pos rfl] at H; exact H) | rfl
      clear H
      have H := H1
      clear H1
      replace H := Option.bind_eq_some_iff.mp H
      obtain ⟨t211, A70, H⟩ := H
      replace H : (impl_PlacementsOf.j0 k a1 (!t211) a0_0 a0_1 l0_2) = some (r1, r2) := H
      have A7 := Aside0.mk A70
      clear A70
      have H' := Aside0.mk H
      clear H
      have hcz8_0 : w4.cell? ⟨gb209, 0, none⟩ = some (.int .i64 a0_0) := (blk_cell BK209.out 0).trans rfl
      have hcz8_1 : w4.cell? ⟨gb209, 1, none⟩ = some (.int .i64 a0_1) := (blk_cell BK209.out 1).trans rfl
      have hcz8_2 : w4.cell? ⟨gb209, 2, none⟩ = some (.slice A0_2 l0_2.length c0_2) := (blk_cell BK209.out 2).trans rfl
      have hfz8_0 := blk_frozen BK209.out 0
      have hfz8_1 := blk_frozen BK209.out 1
      have hfz8_2 := blk_frozen BK209.out 2
      go_wp2_with (first | ((with_reducible refine gate_callee (f := 30) rfl ?_); refine goesL_ (some 8) rfl rfl Try.func30 (by kernel_rfl) rfl #[.agg #[.int .i64 a0_0, .int .i64 a0_1, .slice A0_2 l0_2.length c0_2]] rfl (by (try simp only [List.map_toArray, List.map_cons, List.map_nil]); first | done | rfl | (simp only [List.length_drop, List.length_take]; rfl)) ?_; (with_reducible refine (impl_IsBoard.calls a0_0 a0_1 _ _ l0_2 true _ ?side1 ?side2 A5.out).mono ?_); (case side1 => repeat (first | exact (Kd.C_below HR0_2.out HB.out) | (with_reducible refine Kd.C_alloc ?_ _) | (with_reducible refine Kd.C_drewN ?_ _) | (with_reducible refine Kd.C_drew ?_))); (case side2 => exact HC0_2.out); rintro e w9 ⟨rfl, hb⟩; refine ⟨_, rfl, ?_⟩; have n0_ := Aside0.mk (blk_below (g := gb209) (o := .cells #[.int .i64 a0_0, .int .i64 a0_1, .slice A0_2 l0_2.length c0_2] 29 (0, 0)) (by (with_reducible repeat (first | refine blk_drewN ?_ _ | refine blk_drew ?_ | refine blk_alloc ?_ _)); exact BK209.out) hb); have n1_ := Aside0.mk (below_step (by repeat (first | (with_reducible first | exact HB.out | apply below_alloc | apply pw_below_drewN | apply below_drew1 | refine below_set ?_ GE209.out) | exact HB.out)) hb); clear BK209; clear HB; have BK209 := n0_; have HB := n1_; clear n0_ n1_; (try clear hb); (try clear hb2); (try clear hk); (try clear hi)) | (go_at_call 31; (with_reducible refine (impl_within.calls a1 0 6 t211 _ A7.out).mono ?_); rintro e w' ⟨rfl, ⟨nd, rfl⟩⟩))
      go_meet
      case rel => exact ⟨_, (!t211), (by first | rfl | (simp; done) | (simp [*]; done)), H', ⟨by first | omega | exact Nat.le_refl _⟩, ⟨by (with_reducible repeat (first | refine blk_drewN ?_ _ | refine blk_drew ?_ | refine blk_alloc ?_ _)); exact BK209.out⟩, ⟨by repeat (first | (with_reducible first | exact HB.out | apply below_alloc | apply pw_below_drewN | apply below_drew1 | refine below_set ?_ GE209.out) | exact HB.out)⟩⟩
    · replace c6 := Bool.eq_false_iff.mpr c6
      subst c6
      have H1 : (impl_PlacementsOf.j0 k a1 true a0_0 a0_1 l0_2) = some (r1, r2) := by first | (rw [if_neg (show ¬ (false = true) by decide)] at H; exact H) | rfl
      clear H
      have H := H1
      clear H1
      have H' := Aside0.mk H
      clear H
      have hcz10_0 : w4.cell? ⟨gb209, 0, none⟩ = some (.int .i64 a0_0) := (blk_cell BK209.out 0).trans rfl
      have hcz10_1 : w4.cell? ⟨gb209, 1, none⟩ = some (.int .i64 a0_1) := (blk_cell BK209.out 1).trans rfl
      have hcz10_2 : w4.cell? ⟨gb209, 2, none⟩ = some (.slice A0_2 l0_2.length c0_2) := (blk_cell BK209.out 2).trans rfl
      have hfz10_0 := blk_frozen BK209.out 0
      have hfz10_1 := blk_frozen BK209.out 1
      have hfz10_2 := blk_frozen BK209.out 2
      go_wp2_with (first | ((with_reducible refine gate_callee (f := 30) rfl ?_); refine goesL_ (some 8) rfl rfl Try.func30 (by kernel_rfl) rfl #[.agg #[.int .i64 a0_0, .int .i64 a0_1, .slice A0_2 l0_2.length c0_2]] rfl (by (try simp only [List.map_toArray, List.map_cons, List.map_nil]); first | done | rfl | (simp only [List.length_drop, List.length_take]; rfl)) ?_; (with_reducible refine (impl_IsBoard.calls a0_0 a0_1 _ _ l0_2 false _ ?side1 ?side2 A5.out).mono ?_); (case side1 => repeat (first | exact (Kd.C_below HR0_2.out HB.out) | (with_reducible refine Kd.C_alloc ?_ _) | (with_reducible refine Kd.C_drewN ?_ _) | (with_reducible refine Kd.C_drew ?_))); (case side2 => exact HC0_2.out); rintro e w11 ⟨rfl, hb⟩; refine ⟨_, rfl, ?_⟩; have n0_ := Aside0.mk (blk_below (g := gb209) (o := .cells #[.int .i64 a0_0, .int .i64 a0_1, .slice A0_2 l0_2.length c0_2] 29 (0, 0)) (by (with_reducible repeat (first | refine blk_drewN ?_ _ | refine blk_drew ?_ | refine blk_alloc ?_ _)); exact BK209.out) hb); have n1_ := Aside0.mk (below_step (by repeat (first | (with_reducible first | exact HB.out | apply below_alloc | apply pw_below_drewN | apply below_drew1 | refine below_set ?_ GE209.out) | exact HB.out)) hb); clear BK209; clear HB; have BK209 := n0_; have HB := n1_; clear n0_ n1_; (try clear hb); (try clear hb2); (try clear hk); (try clear hi)))
      go_meet
      case rel => exact ⟨_, (true), (by first | rfl | (simp; done) | (simp [*]; done)), H', ⟨by first | omega | exact Nat.le_refl _⟩, ⟨by (with_reducible repeat (first | refine blk_drewN ?_ _ | refine blk_drew ?_ | refine blk_alloc ?_ _)); exact BK209.out⟩, ⟨by repeat (first | (with_reducible first | exact HB.out | apply below_alloc | apply pw_below_drewN | apply below_drew1 | refine below_set ?_ GE209.out) | exact HB.out)⟩⟩
  case rest =>
    clear HC3
    try clear c1
    try clear p2
    try clear c3
    try clear c6
    try clear c10
    try clear hcz10_0
    try clear hcz10_1
    try clear hcz10_2
    try clear hcz8_0
    try clear hcz8_1
    try clear hcz8_2
    try clear hfz10_0
    try clear hfz10_1
    try clear hfz10_2
    try clear hfz8_0
    try clear hfz8_1
    try clear hfz8_2
    obtain ⟨kq, x14_2, rfl, HA, HJ2, BK209, HB⟩ := hcut
    cases kq with
    | zero => exact absurd HA.out (by simp [impl_PlacementsOf.j0])
    | succ kj2 =>
      have H := HA.out
      clear HA
      simp only [impl_PlacementsOf.j0] at H
      by_cases c12 : x14_2 = true
      · subst c12
        have H1 : (some (([] : List (List Int)), false)) = some (r1, r2) := by first | (rw [if_pos rfl] at H; exact H) | rfl
        clear H
        have H := H1
        clear H1
        simp only [Option.some.injEq, Prod.mk.injEq] at H
        obtain ⟨rfl, rfl⟩ := H
        go_wp2
        go_ret2
        exact ⟨_, by first | rfl | (simp [errW_none, errW_some] <;> rfl) | (simp [*, errW_none, errW_some] <;> rfl), by first | exact Kd.S_nil _ _ _ _ _ | exact Kd.N_nil _ _ _ _ _ | exact Kd.V_nil _ _ _ _ _ | exact Kd.Q_nil _ _ _ _ _ | exact Kd.R_nil _ _ _ _ _, by repeat (first | (with_reducible first | exact HB.out | apply below_alloc | apply pw_below_drewN | apply below_drew1 | refine below_set ?_ GE209.out) | exact HB.out)⟩
      · replace c12 := Bool.eq_false_iff.mpr c12
        subst c12
        have H1 : ((impl_Board_with.f a0_0 a0_1 l0_2 a1).bind fun t212 => (if (t212.length : Int) > 500 then (some (([] : List (List Int)), false)) else (some (t212, true)))) = some (r1, r2) := by first | (rw [if_neg (show ¬ (false = true) by decide)] at H; exact H) | rfl
        clear H
        have H := H1
        clear H1
        replace H := Option.bind_eq_some_iff.mp H
        obtain ⟨t212, A130, H⟩ := H
        replace H : (if (t212.length : Int) > 500 then (some (([] : List (List Int)), false)) else (some (t212, true))) = some (r1, r2) := H
        have A13 := Aside0.mk A130
        clear A130
        by_cases c14 : (t212.length : Int) > 500
        · rw [if_pos c14] at H
          have c14b0 : decide (500 < (t212.length : Int)) = true := decide_eq_true c14
          have c14b1 : decide (500 < t212.length) = true := decide_eq_true (by omega)
          clear c14
          simp only [Option.some.injEq, Prod.mk.injEq] at H
          obtain ⟨rfl, rfl⟩ := H
          have hcz15_0 : wc.cell? ⟨gb209, 0, none⟩ = some (.int .i64 a0_0) := (blk_cell BK209.out 0).trans rfl
          have hcz15_1 : wc.cell? ⟨gb209, 1, none⟩ = some (.int .i64 a0_1) := (blk_cell BK209.out 1).trans rfl
          have hcz15_2 : wc.cell? ⟨gb209, 2, none⟩ = some (.slice A0_2 l0_2.length c0_2) := (blk_cell BK209.out 2).trans rfl
          have hfz15_0 := blk_frozen BK209.out 0
          have hfz15_1 := blk_frozen BK209.out 1
          have hfz15_2 := blk_frozen BK209.out 2
          go_wp2_with (first | ((with_reducible refine gate_callee (f := 32) rfl ?_); refine goesL_ (some 17) rfl rfl Try.func32 (by kernel_rfl) rfl #[.agg #[.int .i64 a0_0, .int .i64 a0_1, .slice A0_2 l0_2.length c0_2], .int .i64 a1] rfl (by (try simp only [List.map_toArray, List.map_cons, List.map_nil]); first | done | rfl | (simp only [List.length_drop, List.length_take]; rfl)) ?_; (with_reducible refine (impl_Board_with.calls a0_0 a0_1 _ _ l0_2 a1 t212 _ ?side1 ?side2 A13.out).mono ?_); (case side1 => repeat (first | exact (Kd.C_below HR0_2.out HB.out) | (with_reducible refine Kd.C_alloc ?_ _) | (with_reducible refine Kd.C_drewN ?_ _) | (with_reducible refine Kd.C_drew ?_))); (case side2 => exact HC0_2.out); rintro e w16 ⟨v213, rfl, ho0, hb⟩; refine ⟨_, rfl, ?_⟩; have n0_ := Aside0.mk (Kd.S_lower ho0 (below_size (by repeat (first | (with_reducible first | exact HB.out | apply below_alloc | apply pw_below_drewN | apply below_drew1 | refine below_set ?_ GE209.out) | exact HB.out)))); have n1_ := Aside0.mk (blk_below (g := gb209) (o := .cells #[.int .i64 a0_0, .int .i64 a0_1, .slice A0_2 l0_2.length c0_2] 29 (0, 0)) (by (with_reducible repeat (first | refine blk_drewN ?_ _ | refine blk_drew ?_ | refine blk_alloc ?_ _)); exact BK209.out) hb); have n2_ := Aside0.mk (below_step (by repeat (first | (with_reducible first | exact HB.out | apply below_alloc | apply pw_below_drewN | apply below_drew1 | refine below_set ?_ GE209.out) | exact HB.out)) hb); clear BK209; clear HB; have HO214 := n0_; have BK209 := n1_; have HB := n2_; clear n0_ n1_ n2_; (try clear hb); (try clear hb2); (try clear hk); (try clear hi); (try clear ho0); obtain ⟨Ao17, co17, eo17⟩ := Kd.S_slice HO214.out; subst eo17))
          go_ret2
          exact ⟨_, by first | rfl | (simp [errW_none, errW_some] <;> rfl) | (simp [*, errW_none, errW_some] <;> rfl), by first | exact Kd.S_nil _ _ _ _ _ | exact Kd.N_nil _ _ _ _ _ | exact Kd.V_nil _ _ _ _ _ | exact Kd.Q_nil _ _ _ _ _ | exact Kd.R_nil _ _ _ _ _, by repeat (first | (with_reducible first | exact HB.out | apply below_alloc | apply pw_below_drewN | apply below_drew1 | refine below_set ?_ GE209.out) | exact HB.out)⟩
        · rw [if_neg c14] at H
          have c14b0 : decide (500 < (t212.length : Int)) = false := decide_eq_false c14
          have c14b1 : decide (500 < t212.length) = false := decide_eq_false (by omega)
          clear c14
          simp only [Option.some.injEq, Prod.mk.injEq] at H
          obtain ⟨rfl, rfl⟩ := H
          have hcz18_0 : wc.cell? ⟨gb209, 0, none⟩ = some (.int .i64 a0_0) := (blk_cell BK209.out 0).trans rfl
          have hcz18_1 : wc.cell? ⟨gb209, 1, none⟩ = some (.int .i64 a0_1) := (blk_cell BK209.out 1).trans rfl
          have hcz18_2 : wc.cell? ⟨gb209, 2, none⟩ = some (.slice A0_2 l0_2.length c0_2) := (blk_cell BK209.out 2).trans rfl
          have hfz18_0 := blk_frozen BK209.out 0
          have hfz18_1 := blk_frozen BK209.out 1
          have hfz18_2 := blk_frozen BK209.out 2
          go_wp2_with (first | ((with_reducible refine gate_callee (f := 32) rfl ?_); refine goesL_ (some 17) rfl rfl Try.func32 (by kernel_rfl) rfl #[.agg #[.int .i64 a0_0, .int .i64 a0_1, .slice A0_2 l0_2.length c0_2], .int .i64 a1] rfl (by (try simp only [List.map_toArray, List.map_cons, List.map_nil]); first | done | rfl | (simp only [List.length_drop, List.length_take]; rfl)) ?_; (with_reducible refine (impl_Board_with.calls a0_0 a0_1 _ _ l0_2 a1 t212 _ ?side1 ?side2 A13.out).mono ?_); (case side1 => repeat (first | exact (Kd.C_below HR0_2.out HB.out) | (with_reducible refine Kd.C_alloc ?_ _) | (with_reducible refine Kd.C_drewN ?_ _) | (with_reducible refine Kd.C_drew ?_))); (case side2 => exact HC0_2.out); rintro e w19 ⟨v213, rfl, ho0, hb⟩; refine ⟨_, rfl, ?_⟩; have n0_ := Aside0.mk (Kd.S_lower ho0 (below_size (by repeat (first | (with_reducible first | exact HB.out | apply below_alloc | apply pw_below_drewN | apply below_drew1 | refine below_set ?_ GE209.out) | exact HB.out)))); have n1_ := Aside0.mk (blk_below (g := gb209) (o := .cells #[.int .i64 a0_0, .int .i64 a0_1, .slice A0_2 l0_2.length c0_2] 29 (0, 0)) (by (with_reducible repeat (first | refine blk_drewN ?_ _ | refine blk_drew ?_ | refine blk_alloc ?_ _)); exact BK209.out) hb); have n2_ := Aside0.mk (below_step (by repeat (first | (with_reducible first | exact HB.out | apply below_alloc | apply pw_below_drewN | apply below_drew1 | refine below_set ?_ GE209.out) | exact HB.out)) hb); clear BK209; clear HB; have HO214 := n0_; have BK209 := n1_; have HB := n2_; clear n0_ n1_ n2_; (try clear hb); (try clear hb2); (try clear hk); (try clear hi); (try clear ho0); obtain ⟨Ao20, co20, eo20⟩ := Kd.S_slice HO214.out; subst eo20))
          go_ret2
          exact ⟨_, by first | rfl | (simp [errW_none, errW_some] <;> rfl) | (simp [*, errW_none, errW_some] <;> rfl), by (with_reducible repeat (first | apply Kd.S_alloc | apply Kd.S_drewN | apply Kd.S_drew)); exact HO214.out, by repeat (first | (with_reducible first | exact HB.out | apply below_alloc | apply pw_below_drewN | apply below_drew1 | refine below_set ?_ GE209.out) | exact HB.out)⟩

end Go.Proofs.Ytcdikbiikmhmhaa.PFnExactPlacementsOf
