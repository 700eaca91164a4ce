/- BoardsTurned: the law's function comes to true. -/
import Derived.Test.YtllhofdgbpnkkaaDoorPFnBoardsTurnedx15
namespace Go.Proofs.YtllhofdgbpnkkaaDoor.Pure
open Go.RowKit Go.Proofs.YtllhofdgbpnkkaaDoor.PFnBoardsTurned Go.Proofs.YtllhofdgbpnkkaaDoorW.PrintWords Go.Proofs.YtllhofdgbpnkkaaDoorW.PrintLast
set_option linter.unusedVariables false
set_option linter.unusedSimpArgs false

theorem w64 {x : Int} (h0 : -9223372036854775808 ≤ x) (h1 : x < 9223372036854775808) : wrap64 x = x := by
  unfold wrap64; omega
theorem rd_nat (l : List Int) (i : Nat) (h : i < l.length) : rd l (i : Int) = l[i] := by
  unfold rd; simp [List.getD, h]

theorem wu64 (n : Int) : IntKind.u64.wrap n = n % 18446744073709551616 := by simp [IntKind.wrap, IntKind.bits, IntKind.signed]
theorem and255 (x : Int) (h0 : 0 ≤ x) (h1 : x < 18446744073709551616) : Go.bits .and .u64 x 255 = x % 256 := by
  have := Go.bits_mask .u64 64 (by decide) (fun n h0 h1 => by rw [wu64]; exact Int.emod_eq_of_lt h0 (by simpa using h1)) 8 (by decide) x h0 (by simpa using h1)
  simpa using this
theorem and255w (n : Int) : 0 ≤ wrap64 (Go.bits .and .u64 (IntKind.u64.wrap n / 1099511627776) 255) ∧ wrap64 (Go.bits .and .u64 (IntKind.u64.wrap n / 1099511627776) 255) ≤ 255 := by
  rw [and255 _ (by rw [wu64]; omega) (by rw [wu64]; omega), w64 (by omega) (by omega)]
  omega
def CodeOK (code : List Int) : Prop := code.length ≤ 1048576 ∧ ∀ x ∈ code, 0 ≤ x ∧ x ≤ 255
theorem code_ok (code : List Int) (h : code.length ≤ 1048576) (hw : ∀ x ∈ code, (Lit.int .u8 x).wf = true) : CodeOK code := by
  refine ⟨h, fun x hx => ?_⟩
  have := hw x hx
  simp only [Lit.wf, Bool.and_eq_true, decide_eq_true_eq] at this
  have h1 : IntKind.u8.min = 0 := rfl
  have h2 : IntKind.u8.max = 255 := rfl
  rw [h1, h2] at this
  exact this
/-- A place of the bytes that a draw may have come to. -/
def PL (n i : Int) : Prop := 0 ≤ i ∧ i ≤ n
theorem d_next (code : List Int) (hc : CodeOK code) (i u : Int) (hi : 0 ≤ i ∧ i ≤ 1000000000) : ∃ v u', spec_l1Cur_next.f code i u = some (v, i + 1, u') ∧ 0 ≤ v ∧ v ≤ 255 := by
  have hl := hc.1
  unfold spec_l1Cur_next.f
  rw [w64 (x := i + 1) (by omega) (by omega)]
  by_cases h : i < (code.length : Int)
  · rw [if_pos h, if_pos hi.1, if_pos (show i + 1 ≤ (code.length : Int) by omega)]
    refine ⟨_, _, rfl, ?_⟩
    obtain ⟨j, rfl⟩ := Int.eq_ofNat_of_zero_le hi.1
    have hj : j < code.length := by omega
    rw [rd_nat code j hj]
    have := hc.2 _ (List.getElem_mem hj)
    rw [w64 (by omega) (by omega)]
    exact this
  · rw [if_neg h, if_neg (show ¬ i + 1 ≤ (code.length : Int) by omega)]
    exact ⟨_, _, rfl, and255w _⟩
theorem d_pick (code : List Int) (hc : CodeOK code) (i u n : Int) (N : Int) (hi : PL N i) (hN : N ≤ 100000000) : ∃ v i' u', spec_l1Cur_pick.f code i u n = some (v, i', u') ∧ PL (N + 2) i' ∧ 0 ≤ v ∧ (1 ≤ n → v < n) := by
  unfold PL at hi ⊢
  unfold spec_l1Cur_pick.f
  by_cases h : n ≤ 1
  · rw [if_pos h]
    exact ⟨_, _, _, rfl, by omega, by omega, by omega⟩
  · rw [if_neg h]
    obtain ⟨v, u', e, h0, h1⟩ := d_next code hc i u (by omega)
    rw [e, Option.bind_some]
    by_cases h2 : n > 200
    · obtain ⟨v2, u2, e2, h3, h4⟩ := d_next code hc (i + 1) u' (by omega)
      rw [if_pos h2]
      simp only
      rw [e2, Option.bind_some, if_neg (show ¬ n = 0 by omega)]
      refine ⟨_, _, _, rfl, by simp only; omega, ?_⟩
      rw [w64 (x := v * 256) (by omega) (by omega), w64 (by omega) (by omega), Int.tmod_eq_emod_of_nonneg (by omega)]
      exact ⟨Int.emod_nonneg _ (by omega), fun _ => Int.emod_lt_of_pos _ (by omega)⟩
    · rw [if_neg h2, if_neg (show ¬ n = 0 by omega)]
      refine ⟨_, _, _, rfl, by simp only; omega, ?_⟩
      simp only
      rw [Int.tmod_eq_emod_of_nonneg (by omega)]
      exact ⟨Int.emod_nonneg _ (by omega), fun _ => Int.emod_lt_of_pos _ (by omega)⟩

theorem d_one (code : List Int) (hc : CodeOK code) (i u n : Int) (N : Int) (hi : PL N i) (hN : N ≤ 100000000) : ∃ v i' u', spec_l1Cur_one.f code i u n = some (v, i', u') ∧ PL (N + 2) i' := by
  unfold spec_l1Cur_one.f
  obtain ⟨v, i', u', e, h, _⟩ := d_pick code hc i u n N hi hN
  rw [e]
  exact ⟨_, _, _, rfl, h⟩

theorem d_boardOf_l0 (code : List Int) (hc : CodeOK code) (R C : Int) (hC : 0 ≤ C ∧ C ≤ 60) : ∀ (d j k : Nat) (i u : Int) (l : List Int) (N : Int), j + d = l.length → d < k → PL N i → N + 6 * d ≤ 10000000 → l.length ≤ 1000 → ∃ l' i' u', spec_l1Cur_boardOf.l0 k C (l.length : Int) (j : Int) code i u R C l = some (R, C, l', i', u') ∧ l'.length = l.length ∧ PL (N + 6 * d) i' := by
  intro d
  induction d with
  | zero =>
    intro j k i u l N hj hk hi hN hl
    obtain ⟨k, rfl⟩ : ∃ m, k = m + 1 := ⟨k - 1, by omega⟩
    rw [spec_l1Cur_boardOf.l0, if_neg (by omega)]
    exact ⟨_, _, _, rfl, rfl, by simpa using hi⟩
  | succ d ih =>
    intro j k i u l N hj hk hi hN hl
    obtain ⟨k, rfl⟩ : ∃ m, k = m + 1 := ⟨k - 1, by omega⟩
    rw [spec_l1Cur_boardOf.l0, if_pos (by omega), if_pos hC.1]
    obtain ⟨v1, i1, u1, e1, h1, _⟩ := d_pick code hc i u (shl .i64 1 C) N hi (by omega)
    rw [e1, Option.bind_some, if_pos (by omega), if_pos (by omega), Option.bind_some]
    obtain ⟨v2, i2, u2, e2, h2⟩ := d_one code hc i1 u1 3 (N + 2) h1 (by omega)
    simp only
    rw [e2, Option.bind_some, w64 (x := (j : Int) + 1) (by omega) (by omega), show ((j : Int) + 1) = ((j + 1 : Nat) : Int) from by omega]
    by_cases hb : v2 = true
    · rw [if_pos hb]
      obtain ⟨v3, i3, u3, e3, h3, h4, _⟩ := d_pick code hc i2 u2 (wrap64 (C + 1)) (N + 2 + 2) h2 (by omega)
      simp only
      rw [e3, Option.bind_some, if_pos h4]
      have := ih (j + 1) k i3 u3 ((l.set (j : Int).toNat v1).set (j : Int).toNat (wrap64 (shl .i64 1 v3 - 1))) (N + 2 + 2 + 2) (by simp; omega) (by omega) h3 (by omega) (by simp; omega)
      simp only [List.length_set] at this
      obtain ⟨l', i', u', e, h5, h6⟩ := this
      exact ⟨l', i', u', e, h5, by rw [show N + 6 * ((d + 1 : Nat) : Int) = N + 2 + 2 + 2 + 6 * d by omega]; exact h6⟩
    · rw [if_neg hb]
      have := ih (j + 1) k i2 u2 (l.set (j : Int).toNat v1) (N + 2 + 2) (by simp; omega) (by omega) h2 (by omega) (by simp; omega)
      simp only [List.length_set] at this
      obtain ⟨l', i', u', e, h5, h6⟩ := this
      exact ⟨l', i', u', e, h5, by unfold PL at h6 ⊢; omega⟩
theorem d_boardOf (k : Nat) (code : List Int) (hc : CodeOK code) (i u : Int) (N : Int) (R C : Int) (hR : 0 ≤ R ∧ R ≤ 100) (hC : 0 ≤ C ∧ C ≤ 60) (hi : PL N i) (hN : N ≤ 1000000) (hk : 1000 ≤ k) : ∃ l' i' u', spec_l1Cur_boardOf.f k code i u R C = some (R, C, l', i', u') ∧ (l'.length : Int) = R ∧ PL (N + 600) i' := by
  unfold spec_l1Cur_boardOf.f spec_boEmpty.f
  rw [if_pos hR.1, if_pos (by omega), Option.bind_some]
  simp only
  obtain ⟨l', i', u', e, h1, h2⟩ := d_boardOf_l0 code hc R C hC R.toNat 0 k i u (List.replicate R.toNat 0) N (by simp) (by omega) hi (by omega) (by simp; omega)
  rw [show ((0 : Nat) : Int) = 0 from rfl] at e
  refine ⟨l', i', u', e, by rw [h1]; simp; omega, by unfold PL at h2 ⊢; omega⟩

theorem d_sides (code : List Int) (hc : CodeOK code) (i u : Int) (N : Int) (hi : PL N i) (hN : N ≤ 10000000) : ∃ v i' u', spec_l1Cur_sides.f code i u = some (v, i', u') ∧ PL (N + 4) i' ∧ 1 ≤ v ∧ v ≤ 6 := by
  unfold spec_l1Cur_sides.f
  obtain ⟨b, i1, u1, e, h⟩ := d_one code hc i u 8 N hi (by omega)
  rw [e, Option.bind_some]
  by_cases hb : b = true
  · rw [if_pos hb]
    exact ⟨_, _, _, rfl, by unfold PL at h ⊢; simp only; omega, by omega, by omega⟩
  · rw [if_neg hb]
    obtain ⟨v, i2, u2, e2, h2, h3, h4⟩ := d_pick code hc i1 u1 5 (N + 2) h (by omega)
    have h5 := h4 (by omega)
    rw [e2]
    refine ⟨_, _, _, rfl, by rw [show N + 4 = N + 2 + 2 by omega]; exact h2, ?_⟩
    simp only
    rw [w64 (by omega) (by omega)]; omega

theorem rd_in (l : List Int) (i : Int) (h0 : 0 ≤ i) (h1 : i < (l.length : Int)) : rd l i ∈ l := by
  obtain ⟨j, rfl⟩ := Int.eq_ofNat_of_zero_le h0
  have hj : j < l.length := by omega
  rw [rd_nat l j hj]
  exact List.getElem_mem hj
theorem d_among (code : List Int) (hc : CodeOK code) (i u : Int) (l : List Int) (N : Int) (hl : l ≠ []) (hi : PL N i) (hN : N ≤ 100000000) : ∃ v i' u', spec_l1Cur_among.f code i u l = some (v, i', u') ∧ PL (N + 2) i' ∧ v ∈ l := by
  unfold spec_l1Cur_among.f
  have hp : 0 < l.length := by cases l with | nil => exact absurd rfl hl | cons a t => simp
  obtain ⟨v, i', u', e, h, h0, h1⟩ := d_pick code hc i u (l.length : Int) N hi hN
  have h2 := h1 (by omega)
  rw [e, Option.bind_some, if_pos h0, if_pos h2]
  exact ⟨_, _, _, rfl, h, rd_in l v h0 h2⟩

theorem d_board (k : Nat) (code : List Int) (hc : CodeOK code) (i u : Int) (N : Int) (hi : PL N i) (hN : N ≤ 100000) (hk : 1000 ≤ k) : ∃ r c l i' u', spec_l1Cur_board.f k code i u = some (r, c, l, i', u') ∧ 1 ≤ l.length ∧ l.length ≤ 7 ∧ PL (N + 1000) i' := by
  unfold spec_l1Cur_board.f
  obtain ⟨r, i1, u1, e1, h1, r1, r2⟩ := d_sides code hc i u N hi (by omega)
  rw [e1, Option.bind_some]
  simp only
  obtain ⟨c, i2, u2, e2, h2, c1, c2⟩ := d_sides code hc i1 u1 (N + 4) h1 (by omega)
  rw [e2, Option.bind_some]
  simp only
  obtain ⟨l, i3, u3, e3, h3, h4⟩ := d_boardOf k code hc i2 u2 (N + 4 + 4) r c (by omega) (by omega) h2 (by omega) hk
  rw [e3, Option.bind_some]
  simp only
  obtain ⟨v, i4, u4, e4, h5, _⟩ := d_pick code hc i3 u3 18 (N + 4 + 4 + 600) h4 (by omega)
  rw [e4, Option.bind_some]
  simp only
  split
  · obtain ⟨v5, i5, u5, e5, h6, _⟩ := d_among code hc i4 u4 [-1, 0, wrap64 (r + 1), 7] (N + 4 + 4 + 600 + 2) (by simp) h5 (by omega)
    rw [e5, Option.bind_some]
    exact ⟨_, _, _, _, _, rfl, by omega, by omega, by unfold PL at h6 ⊢; simp only; omega⟩
  · split
    · obtain ⟨v5, i5, u5, e5, h6, _⟩ := d_among code hc i4 u4 [-1, 0, 7, 4611686018427387904] (N + 4 + 4 + 600 + 2) (by simp) h5 (by omega)
      rw [e5, Option.bind_some]
      exact ⟨_, _, _, _, _, rfl, by omega, by omega, by unfold PL at h6 ⊢; simp only; omega⟩
    · split
      · obtain ⟨v5, i5, u5, e5, h6, h7, h8⟩ := d_pick code hc i4 u4 (l.length : Int) (N + 4 + 4 + 600 + 2) h5 (by omega)
        rw [e5, Option.bind_some]
        simp only
        obtain ⟨v6, i6, u6, e6, h9, _⟩ := d_among code hc i5 u5 [-1, 64, 4611686018427387904] (N + 4 + 4 + 600 + 2 + 2) (by simp) h6 (by omega)
        rw [e6, Option.bind_some, if_pos h7, if_pos (h8 (by omega))]
        exact ⟨_, _, _, _, _, rfl, by simp; omega, by simp; omega, by unfold PL at h9 ⊢; simp only; omega⟩
      · split
        · rw [if_pos (by omega)]
          exact ⟨_, _, _, _, _, rfl, by simp, by simp; omega, by unfold PL at h5 ⊢; omega⟩
        · exact ⟨_, _, _, _, _, rfl, by omega, by omega, by unfold PL at h5 ⊢; omega⟩

theorem d_order_l0 (code : List Int) (hc : CodeOK code) (r c : Int) (l : List Int) : ∀ (d j k : Nat) (i u : Int) (p : List Int) (N : Int), j + d = 8 → p.length = j → d < k → PL N i → N + 2 * d ≤ 1000000 → ∃ p', spec_DrawOrderRows.l0 k p (j : Int) code i u r c l = some (r, c, l, p') ∧ p'.length ≤ 9 := by
  have hL : ∀ a : Int, ∃ v, spec_l1Least.f a 8 = some v ∧ v ≤ 8 := by intro a; unfold spec_l1Least.f; split <;> exact ⟨_, rfl, by omega⟩
  obtain ⟨v, e0, hv⟩ := hL r
  have hend : ∀ (j k : Nat) (i u : Int) (p : List Int) (N : Int), ¬ ((j : Int) < v) → p.length = j → j ≤ 8 → PL N i → N ≤ 1000000 → ∃ p', spec_DrawOrderRows.l0 (k + 1) p (j : Int) code i u r c l = some (r, c, l, p') ∧ p'.length ≤ 9 := by
    intro j k i u p N hj hp h8 hi hN
    rw [spec_DrawOrderRows.l0, e0, Option.bind_some, if_neg hj]
    obtain ⟨b, i1, u1, e1, h1⟩ := d_one code hc i u 10 N hi (by omega)
    rw [e1, Option.bind_some]
    simp only
    split
    · obtain ⟨w, i2, u2, e2, h2, _⟩ := d_pick code hc i1 u1 4 (N + 2) h1 (by omega)
      rw [e2, Option.bind_some, if_pos (by omega)]
      exact ⟨_, rfl, by simp; omega⟩
    · exact ⟨_, rfl, by omega⟩
  intro d
  induction d with
  | zero =>
    intro j k i u p N hj hp hk hi hN
    obtain ⟨k, rfl⟩ : ∃ m, k = m + 1 := ⟨k - 1, by omega⟩
    exact hend j k i u p N (by omega) hp (by omega) hi (by omega)
  | succ d ih =>
    intro j k i u p N hj hp hk hi hN
    obtain ⟨k, rfl⟩ : ∃ m, k = m + 1 := ⟨k - 1, by omega⟩
    by_cases hjv : (j : Int) < v
    · rw [spec_DrawOrderRows.l0, e0, Option.bind_some, if_pos hjv, w64 (x := (j : Int) + 1) (by omega) (by omega)]
      obtain ⟨w, i1, u1, e1, h1, h2, h3⟩ := d_pick code hc i u ((j : Int) + 1) N hi (by omega)
      have h3 := h3 (by omega)
      rw [e1, Option.bind_some, if_pos h2, if_pos (by omega)]
      simp only
      unfold spec_l1Own.f
      have ht : (p.take w.toNat).length ≤ 8 := by rw [List.length_take]; omega
      rw [Option.bind_some, if_pos (by simp; omega), Option.bind_some, List.nil_append, if_pos (by omega), Option.bind_some, Option.bind_some]
      have htot : (p.take w.toNat ++ [(j : Int)]).length + (p.drop w.toNat).length = j + 1 := by
        rw [List.length_append, List.length_take, List.length_drop, List.length_singleton]; omega
      rw [if_pos (by omega), show ((j : Int) + 1) = ((j + 1 : Nat) : Int) from by omega]
      exact ih (j + 1) k i1 u1 _ (N + 2) (by omega) (by rw [List.length_append]; exact htot) (by omega) h1 (by omega)
    · exact hend j k i u p N hjv hp (by omega) hi (by omega)
theorem d_order (k : Nat) (code : List Int) (hc : CodeOK code) (hk : 2000 ≤ k) : ∃ r c l p, spec_DrawOrderRows.f k code = some (r, c, l, p) ∧ l.length ≤ 7 ∧ p.length ≤ 9 := by
  unfold spec_DrawOrderRows.f
  obtain ⟨r, c, l, i1, u1, e1, h1, h2, h3⟩ := d_board k code hc 0 0 0 (by unfold PL; omega) (by omega) (by omega)
  rw [e1, Option.bind_some]
  simp only
  obtain ⟨p', e2, h4⟩ := d_order_l0 code hc r c l 8 0 k i1 u1 [] _ (by omega) rfl (by omega) h3 (by omega)
  exact ⟨r, c, l, p', e2, h2, h4⟩

theorem e_l1In (a b c : Int) : spec_l1In.f a b c = some (decide (b ≤ a ∧ a ≤ c)) := by
  unfold spec_l1In.f
  by_cases h : b ≤ a
  · rw [if_pos h]; simp [h]
  · rw [if_neg h]; simp [h]

theorem e_l1All_l0 (lo hi : Int) (l : List Int) (hl : l.length ≤ 2000000) : ∀ (d i k : Nat), i + d = l.length → d < k →
    spec_l1All.l0 k lo hi l (l.length : Int) (i : Int) = some (decide (∀ x ∈ l.drop i, lo ≤ x ∧ x ≤ hi)) := by
  intro d
  induction d with
  | zero =>
    intro i k hi' hk
    obtain ⟨k, rfl⟩ : ∃ m, k = m + 1 := ⟨k - 1, by omega⟩
    simp only [spec_l1All.l0]; rw [if_neg (by omega), List.drop_eq_nil_of_le (by omega)]; simp
  | succ d ih =>
    intro i k hi' hk
    obtain ⟨k, rfl⟩ : ∃ m, k = m + 1 := ⟨k - 1, by omega⟩
    have hlt : i < l.length := by omega
    simp only [spec_l1All.l0]
    rw [if_pos (by omega), if_pos (by omega), if_pos (by omega), e_l1In, rd_nat l i hlt, List.drop_eq_getElem_cons hlt, w64 (by omega) (by omega)]
    simp only [Option.bind_some, decide_eq_true_eq, List.forall_mem_cons]
    by_cases h : lo ≤ l[i] ∧ l[i] ≤ hi
    · rw [if_pos h]
      have := ih (i + 1) k (by omega) (by omega)
      rw [show ((i : Int) + 1) = ((i + 1 : Nat) : Int) from by omega, this]; simp [h]
    · rw [if_neg h]; simp [h]
theorem e_l1All (k : Nat) (l : List Int) (lo hi : Int) (hl : l.length ≤ 2000000) (hk : l.length < k) : spec_l1All.f k l lo hi = some (decide (∀ x ∈ l, lo ≤ x ∧ x ≤ hi)) := by
  unfold spec_l1All.f; exact e_l1All_l0 lo hi l hl l.length 0 k (by omega) hk

theorem e_boSide (a : Int) : spec_boSide.f a = some (decide (1 ≤ a ∧ a ≤ 6)) := by
  unfold spec_boSide.f; rw [e_l1In]; rfl

/-- Is there a cell in the column c of a row m? -/
def cell (m c : Int) : Bool := decide (m / 2 ^ c.toNat % 2 = 1)
theorem fin_of (m : Int) (n : Nat) (h0 : 0 ≤ m) (h1 : m < n) : ∃ i : Fin n, m = (i.val : Int) := ⟨⟨m.toNat, by omega⟩, by simp; omega⟩
theorem cell_spec (m c : Int) (hm : 0 ≤ m ∧ m ≤ 63) (hc : 0 ≤ c ∧ c ≤ 6) : (Int.tmod (shr .i64 m c) 2 == 1) = cell m c := by
  have h : ∀ m : Fin 64, ∀ c : Fin 7, (Int.tmod (shr .i64 (m.val : Int) (c.val : Int)) 2 == 1) = cell (m.val : Int) (c.val : Int) := by decide +kernel
  obtain ⟨i, rfl⟩ := fin_of m 64 hm.1 (by omega)
  obtain ⟨j, rfl⟩ := fin_of c 7 hc.1 (by omega)
  exact h i j
theorem cell_impl (m c : Int) (hm : 0 ≤ m ∧ m ≤ 63) (hc : 0 ≤ c ∧ c ≤ 6) : (Go.bits .and .i64 (shr .i64 m c) 1 == 1) = cell m c := by
  have h : ∀ m : Fin 64, ∀ c : Fin 7, (Go.bits .and .i64 (shr .i64 (m.val : Int) (c.val : Int)) 1 == 1) = cell (m.val : Int) (c.val : Int) := by decide +kernel
  obtain ⟨i, rfl⟩ := fin_of m 64 hm.1 (by omega)
  obtain ⟨j, rfl⟩ := fin_of c 7 hc.1 (by omega)
  exact h i j
theorem pow_le (a : Int) (h : 1 ≤ a ∧ a ≤ 6) : 2 ≤ (2 : Int) ^ a.toNat ∧ (2 : Int) ^ a.toNat ≤ 64 := by
  obtain ⟨h0, h1⟩ := h
  obtain h | h | h | h | h | h : a = 1 ∨ a = 2 ∨ a = 3 ∨ a = 4 ∨ a = 5 ∨ a = 6 := by omega
  all_goals (subst h; decide +kernel)
theorem rd_mem (l : List Int) (i : Int) (h0 : 0 ≤ i) (h1 : i < l.length) : rd l i ∈ l := by
  obtain ⟨n, rfl⟩ := Int.eq_ofNat_of_zero_le h0
  rw [rd_nat l n (by omega)]; exact List.getElem_mem _

theorem i_IsBoard (r c : Int) (l : List Int) : impl_IsBoard.f r c l = some (decide (GoodB r c l)) := rfl

theorem goodB_le {r c : Int} {l : List Int} (h : GoodB r c l) : ∀ x ∈ l, 0 ≤ x ∧ x ≤ 63 := by
  intro x hx
  have := h.2.2.2 x hx
  have := pow_le c h.2.1
  omega
theorem goodB_len {r c : Int} {l : List Int} (h : GoodB r c l) : l.length ≤ 6 := by
  have := h.1; have := h.2.2.1; omega
/-- Is it a place of a board? -/
def Place (r c i j : Int) : Prop := (0 ≤ i ∧ i ≤ r - 1) ∧ (0 ≤ j ∧ j ≤ c - 1)
instance (r c i j : Int) : Decidable (Place r c i j) := by unfold Place; exact inferInstance

theorem sh1 (a : Int) (h : 1 ≤ a ∧ a ≤ 6) : wrap64 (shl .i64 1 a - 1) = 2 ^ a.toNat - 1 := by
  obtain ⟨h0, h1⟩ := h
  obtain h | h | h | h | h | h : a = 1 ∨ a = 2 ∨ a = 3 ∨ a = 4 ∨ a = 5 ∨ a = 6 := by omega
  all_goals (subst h; decide +kernel)
theorem e_boGood (k : Nat) (r c : Int) (l : List Int) (hl : l.length ≤ 2000000) (hk : l.length < k) : spec_boGood.f k r c l = some (decide (GoodB r c l)) := by
  unfold spec_boGood.f
  rw [e_boSide, e_boSide]
  simp only [Option.bind_some, decide_eq_true_eq]
  by_cases h0 : 1 ≤ r ∧ r ≤ 6
  · by_cases h1 : 1 ≤ c ∧ c ≤ 6
    · by_cases h2 : (l.length : Int) = r
      · rw [if_pos h0, if_pos h1, if_pos h2, if_pos (by omega), sh1 c h1, e_l1All k l _ _ hl hk]
        simp [GoodB, h0, h1, h2]
      · rw [if_pos h0, if_pos h1, if_neg h2]; simp [GoodB, h2]
    · rw [if_pos h0, if_neg h1]; simp [GoodB, h1]
  · rw [if_neg h0]; simp [GoodB, h0]

theorem sh_valF : ∀ c v : Fin 7, v.val ≤ c.val → 0 ≤ wrap64 (shl .i64 1 (v.val : Int) - 1) ∧ wrap64 (shl .i64 1 (v.val : Int) - 1) ≤ 2 ^ c.val - 1 := by decide +kernel
theorem sh_powF : ∀ c : Fin 7, shl .i64 1 (c.val : Int) = 2 ^ c.val ∧ (1 : Int) ≤ 2 ^ c.val := by decide +kernel
theorem d_boardOfB_l0 (code : List Int) (hc : CodeOK code) (R C : Int) (hC : 1 ≤ C ∧ C ≤ 6) : ∀ (d j k : Nat) (i u : Int) (l : List Int) (N : Int), j + d = l.length → d < k → PL N i → N + 6 * d ≤ 10000000 → l.length ≤ 1000 → (∀ x ∈ l, 0 ≤ x ∧ x ≤ 2 ^ C.toNat - 1) → ∃ l' i' u', spec_l1Cur_boardOf.l0 k C (l.length : Int) (j : Int) code i u R C l = some (R, C, l', i', u') ∧ l'.length = l.length ∧ PL (N + 6 * d) i' ∧ ∀ x ∈ l', 0 ≤ x ∧ x ≤ 2 ^ C.toNat - 1 := by
  intro d
  have hs := sh_powF ⟨C.toNat, by omega⟩
  simp only at hs
  rw [show ((C.toNat : Nat) : Int) = C by omega] at hs
  induction d with
  | zero =>
    intro j k i u l N hj hk hi hN hl hb
    obtain ⟨k, rfl⟩ : ∃ m, k = m + 1 := ⟨k - 1, by omega⟩
    rw [spec_l1Cur_boardOf.l0, if_neg (by omega)]
    exact ⟨_, _, _, rfl, rfl, by simpa using hi, hb⟩
  | succ d ih =>
    intro j k i u l N hj hk hi hN hl hb
    obtain ⟨k, rfl⟩ : ∃ m, k = m + 1 := ⟨k - 1, by omega⟩
    rw [spec_l1Cur_boardOf.l0, if_pos (by omega), if_pos (by omega)]
    obtain ⟨v1, i1, u1, e1, h1, v10, v11⟩ := d_pick code hc i u (shl .i64 1 C) N hi (by omega)
    have v1b : 0 ≤ v1 ∧ v1 ≤ 2 ^ C.toNat - 1 := by have := v11 (by omega); omega
    rw [e1, Option.bind_some, if_pos (by omega), if_pos (by omega), Option.bind_some]
    obtain ⟨v2, i2, u2, e2, h2⟩ := d_one code hc i1 u1 3 (N + 2) h1 (by omega)
    simp only
    rw [e2, Option.bind_some, w64 (x := (j : Int) + 1) (by omega) (by omega), show ((j : Int) + 1) = ((j + 1 : Nat) : Int) from by omega]
    have hset : ∀ x ∈ l.set (j : Int).toNat v1, 0 ≤ x ∧ x ≤ 2 ^ C.toNat - 1 := by
      intro x hx
      rcases List.mem_or_eq_of_mem_set hx with h | h
      · exact hb x h
      · rw [h]; exact v1b
    by_cases hbv : v2 = true
    · rw [if_pos hbv]
      obtain ⟨v3, i3, u3, e3, h3, h4, h5⟩ := d_pick code hc i2 u2 (wrap64 (C + 1)) (N + 2 + 2) h2 (by omega)
      rw [w64 (x := C + 1) (by omega) (by omega)] at e3 h5
      have h5 := h5 (by omega)
      simp only
      rw [w64 (x := C + 1) (by omega) (by omega), e3, Option.bind_some, if_pos h4]
      have hv := sh_valF ⟨C.toNat, by omega⟩ ⟨v3.toNat, by omega⟩ (by show v3.toNat ≤ C.toNat; omega)
      simp only at hv
      rw [show ((v3.toNat : Nat) : Int) = v3 by omega] at hv
      have := ih (j + 1) k i3 u3 ((l.set (j : Int).toNat v1).set (j : Int).toNat (wrap64 (shl .i64 1 v3 - 1))) (N + 2 + 2 + 2) (by simp; omega) (by omega) h3 (by omega) (by simp; omega) (fun x hx => by
        rcases List.mem_or_eq_of_mem_set hx with h | h
        · exact hset x h
        · rw [h]; exact hv)
      simp only [List.length_set] at this
      obtain ⟨l', i', u', e, h5, h6, h7⟩ := this
      exact ⟨l', i', u', e, h5, by unfold PL at h6 ⊢; omega, h7⟩
    · rw [if_neg hbv]
      have := ih (j + 1) k i2 u2 (l.set (j : Int).toNat v1) (N + 2 + 2) (by simp; omega) (by omega) h2 (by omega) (by simp; omega) hset
      simp only [List.length_set] at this
      obtain ⟨l', i', u', e, h5, h6, h7⟩ := this
      exact ⟨l', i', u', e, h5, by unfold PL at h6 ⊢; omega, h7⟩
theorem d_boardOfB (k : Nat) (code : List Int) (hc : CodeOK code) (i u : Int) (N : Int) (R C : Int) (hR : 1 ≤ R ∧ R ≤ 6) (hC : 1 ≤ C ∧ C ≤ 6) (hi : PL N i) (hN : N ≤ 1000000) (hk : 1000 ≤ k) : ∃ l' i' u', spec_l1Cur_boardOf.f k code i u R C = some (R, C, l', i', u') ∧ GoodB R C l' ∧ PL (N + 600) i' := by
  unfold spec_l1Cur_boardOf.f spec_boEmpty.f
  rw [if_pos (by omega), if_pos (by omega), Option.bind_some]
  simp only
  have hp := pow_le C hC
  obtain ⟨l', i', u', e, h1, h2, h3⟩ := d_boardOfB_l0 code hc R C hC R.toNat 0 k i u (List.replicate R.toNat 0) N (by simp) (by omega) hi (by omega) (by simp; omega) (fun x hx => by rw [List.eq_of_mem_replicate hx]; omega)
  rw [show ((0 : Nat) : Int) = 0 from rfl] at e
  exact ⟨l', i', u', e, ⟨hR, hC, by rw [h1]; simp; omega, h3⟩, by unfold PL at h2 ⊢; omega⟩

theorem e_boHas (r c : Int) (l : List Int) (i j : Int) (h : GoodB r c l) (hp : Place r c i j) : spec_boHas.f r c l i j = some (cell (rd l i) j) := by
  unfold spec_boHas.f
  have h1 := h.1; have h2 := h.2.1; have h3 := h.2.2.1; have h4 := hp.1; have h5 := hp.2
  have hm := goodB_le h (rd l i) (rd_mem l i (by omega) (by omega))
  rw [if_pos (by omega), if_pos (by omega), if_pos (by omega), cell_spec _ _ hm (by omega)]

/-- The byte of a cell. -/
def dig (m : Int) (j : Nat) : Int := if cell m (j : Int) = true then 49 else 48
/-- A row's text, from a column on. -/
def rowT (m : Int) : Nat → Nat → List Int
  | _, 0 => []
  | j, d + 1 => dig m j :: rowT m (j + 1) d
def rowB (m : Int) (C : Nat) : ByteArray := strOfNums (rowT m 0 C)
theorem son_app (a b : List Int) : strOfNums (a ++ b) = strOfNums a ++ strOfNums b := by
  apply ByteArray.ext; apply Array.toList_inj.1
  rw [ByteArray.data_append, Array.toList_append]
  simp [strOfNums]
theorem son_nil : strOfNums [] = (⟨#[]⟩ : ByteArray) := rfl
theorem ba_nil (b : ByteArray) : b ++ (⟨#[]⟩ : ByteArray) = b := ByteArray.append_empty
theorem ba_nil' (b : ByteArray) : (⟨#[]⟩ : ByteArray) ++ b = b := ByteArray.empty_append
theorem rowT_len (m : Int) : ∀ d j, (rowT m j d).length = d
  | 0, _ => rfl
  | d + 1, j => by simp [rowT, rowT_len m d]
theorem dig_spec (m : Int) (hm : 0 ≤ m ∧ m ≤ 63) (j : Nat) (hj : j ≤ 6) (k : Nat) : spec_l1Num.f (k + 1) (Int.tmod (shr .i64 m (j : Int)) 2) = some (strOfNums [dig m j]) := by
  have h : ∀ m : Fin 64, ∀ j : Fin 7, Int.tmod (shr .i64 (m.val : Int) (j.val : Int)) 2 = if cell (m.val : Int) (j.val : Int) = true then 1 else 0 := by decide +kernel
  obtain ⟨i, rfl⟩ := fin_of m 64 hm.1 (by omega)
  have := h i ⟨j, by omega⟩
  simp only at this
  rw [this, spec_l1Num.f]
  unfold dig
  by_cases h : cell (i.val : Int) (j : Int) = true
  · rw [if_pos h, if_pos h, if_pos (by decide), w64 (by omega) (by omega)]; rfl
  · rw [if_neg h, if_neg h, if_pos (by decide), w64 (by omega) (by omega)]; rfl
theorem boText_l1 (r c : Int) (l : List Int) (g : GoodB r c l) (i : Nat) (hi : i < l.length) : ∀ (d j k : Nat) (out : ByteArray), (j : Int) + d = c → out.size + d ≤ 1000 →
    spec_boText.l1 (k + d + 2) out (i : Int) (j : Int) r c l = spec_boText.l0 (k + 1) (out ++ strOfNums (rowT l[i] j d)) ((i + 1 : Nat) : Int) r c l := by
  have hr := g.2.2.1; have hc := g.2.1; have hn := goodB_len g
  intro d
  induction d with
  | zero =>
    intro j k out hj ho
    rw [show k + 0 + 2 = (k + 1) + 1 by omega]
    simp only [spec_boText.l1]
    rw [if_neg (by omega), w64 (by omega) (by omega), rowT, son_nil, ba_nil]; rfl
  | succ d ih =>
    intro j k out hj ho
    obtain ⟨K, hK⟩ : ∃ K, K = k + d + 2 := ⟨_, rfl⟩
    have h63 := goodB_le g _ (List.getElem_mem hi)
    rw [show k + (d + 1) + 2 = K + 1 from by omega]
    simp only [spec_boText.l1]
    rw [if_pos (show (j : Int) < c by omega), if_pos (show (0 : Int) ≤ (i : Int) by omega), if_pos (show (i : Int) < (l.length : Int) by omega), if_pos (show (0 : Int) ≤ (j : Int) by omega), rd_nat l i hi]
    rw [show K = (K - 1) + 1 by omega, dig_spec l[i] h63 j (by omega) (K - 1), ← show K = (K - 1) + 1 by omega, Option.bind_some, strOfNums_size, if_pos (by simp; omega), w64 (by omega) (by omega), show ((j : Int) + 1) = ((j + 1 : Nat) : Int) from by omega, hK, ih (j + 1) k _ (by omega) (by rw [ByteArray.size_append, strOfNums_size]; simp; omega), rowT, show dig l[i] j :: rowT l[i] (j + 1) d = [dig l[i] j] ++ rowT l[i] (j + 1) d from rfl, son_app, ByteArray.append_assoc]
def boxT (C : Nat) (out : ByteArray) : List Int → ByteArray
  | [] => out
  | m :: t => boxT C ((out ++ (⟨#[47]⟩ : ByteArray)) ++ rowB m C) t
theorem boText_l0 (r c : Int) (l : List Int) (g : GoodB r c l) (C : Nat) (hC : (C : Int) = c) : ∀ (d i k : Nat) (out : ByteArray), i + d = l.length → 0 < i → out.size + d * 10 ≤ 900 → d * (C + 10) < k →
    spec_boText.l0 k out (i : Int) r c l = some (boxT C out (l.drop i)) := by
  have hr := g.2.2.1; have hc := g.2.1; have hn := goodB_len g
  intro d
  induction d with
  | zero =>
    intro i k out hi _ ho hk
    obtain ⟨k, rfl⟩ : ∃ m, k = m + 1 := ⟨k - 1, by omega⟩
    simp only [spec_boText.l0]; rw [if_neg (by omega), List.drop_eq_nil_of_le (by omega)]; rfl
  | succ d ih =>
    intro i k out hi h0 ho hk
    rw [Nat.succ_mul] at hk
    obtain ⟨k, rfl⟩ : ∃ m, k = (m + C + 2) + 2 := ⟨k - C - 4, by omega⟩
    have hlt : i < l.length := by omega
    simp only [spec_boText.l0]
    rw [if_pos (by omega), if_pos (by omega), if_pos (by omega)]
    simp only [spec_boText.j1]
    have hs : (out ++ (⟨#[47]⟩ : ByteArray)).size = out.size + 1 := by rw [ByteArray.size_append]; rfl
    have := boText_l1 r c l g i hlt C 0 k (out ++ (⟨#[47]⟩ : ByteArray)) (by omega) (by omega)
    rw [show ((0 : Nat) : Int) = 0 from rfl] at this
    rw [this, ih (i + 1) (k + 1) _ (by omega) (by omega) (by rw [ByteArray.size_append, strOfNums_size, rowT_len]; omega) (by omega), List.drop_eq_getElem_cons hlt]
    rfl
def boardT (C : Nat) (l : List Int) : ByteArray := match l with | [] => ⟨#[]⟩ | m :: t => boxT C (rowB m C) t
theorem e_boText (k : Nat) (r c : Int) (l : List Int) (g : GoodB r c l) (hk : 200 ≤ k) : spec_boText.f k r c l = some (boardT c.toNat l) := by
  have hr := g.2.2.1; have hc := g.2.1; have hn := goodB_len g; have h1 := g.1
  unfold spec_boText.f
  obtain ⟨C, rfl⟩ := Int.eq_ofNat_of_zero_le (show 0 ≤ c by omega)
  obtain ⟨k, rfl⟩ : ∃ m, k = (m + C + 2) + 2 := ⟨k - C - 4, by omega⟩
  have hlt : 0 < l.length := by omega
  simp only [spec_boText.l0]
  rw [if_pos (by omega), if_neg (by omega)]
  simp only [spec_boText.j1]
  have := boText_l1 r C l g 0 hlt C 0 k (⟨#[]⟩ : ByteArray) (by omega) (by show 0 + C ≤ 1000; omega)
  rw [show ((0 : Nat) : Int) = 0 from rfl, ba_nil'] at this
  have hmul : (l.length - 1) * (C + 10) ≤ 5 * 16 := Nat.mul_le_mul (by omega) (by omega)
  rw [this, boText_l0 r C l g C rfl (l.length - 1) 1 (k + 1) _ (by omega) (by omega) (by rw [strOfNums_size, rowT_len]; omega) (by omega)]
  cases l with
  | nil => simp at hlt
  | cons m t => rfl
theorem boxT_fold (C : Nat) : ∀ (t : List Int) (out : ByteArray), boxT C out t = (t.map fun m => rowB m C).foldl (fun a y => a ++ (⟨#[47]⟩ : ByteArray) ++ y) out
  | [], _ => rfl
  | m :: t, out => by rw [boxT, boxT_fold C t]; rfl
theorem boxT_size (C : Nat) : ∀ (t : List Int) (out : ByteArray), (boxT C out t).size = out.size + t.length * (C + 1)
  | [], _ => by simp [boxT]
  | m :: t, out => by
    rw [boxT, boxT_size C t, ByteArray.size_append, ByteArray.size_append]
    have h1 : (⟨#[47]⟩ : ByteArray).size = 1 := rfl
    have h2 : (rowB m C).size = C := by unfold rowB; rw [strOfNums_size, rowT_len]
    rw [h1, h2, List.length_cons, Nat.succ_mul]; omega

theorem ext_le (s : ByteArray) (a b : Nat) (hb : b ≤ s.size) : (s.extract a b).size ≤ s.size := by
  rw [ByteArray.size_extract]; omega
theorem d_spoilt_l0 (code : List Int) (hc : CodeOK code) (w : ByteArray) (hw : w.size = 4) : ∀ (d k : Nat) (i u : Int) (t : ByteArray) (N : Int), 2 * d + 2 ≤ k → t.size + d ≤ 1000 → PL N i → N + 6 * d ≤ 10000000 → d ≤ 10 → ∃ t' i' u', spec_l1Cur_spoilt.l0 k t w (d : Int) code i u = some (t', i', u')
  | 0, k, i, u, t, N, hk, ht, hi, hN, _ => by
    obtain ⟨k, rfl⟩ : ∃ m, k = m + 2 := ⟨k - 2, by omega⟩
    rw [spec_l1Cur_spoilt.l0, if_neg (by omega), spec_l1Cur_spoilt.j1, if_neg (by decide)]
    exact ⟨_, _, _, rfl⟩
  | d + 1, k, i, u, t, N, hk, ht, hi, hN, hd10 => by
    obtain ⟨k, rfl⟩ : ∃ m, k = m + 2 := ⟨k - 2, by omega⟩
    rw [spec_l1Cur_spoilt.l0, if_pos (by omega), spec_l1Cur_spoilt.j1]
    by_cases h0 : (t.size : Int) > 0
    · rw [if_pos (decide_eq_true h0), w64 (x := ((d + 1 : Nat) : Int) - 1) (by omega) (by omega), show (((d + 1 : Nat) : Int) - 1) = (d : Int) by omega]
      obtain ⟨a, i1, u1, e1, h1, a0, a1⟩ := d_pick code hc i u (t.size : Int) N hi (by omega)
      have a1 := a1 (by omega)
      rw [e1, Option.bind_some]
      simp only
      obtain ⟨b, i2, u2, e2, h2, b0, b1⟩ := d_pick code hc i1 u1 (w.size : Int) (N + 2) h1 (by omega)
      have b1 := b1 (by omega)
      rw [e2, Option.bind_some]
      simp only
      rw [if_pos b0, if_pos b1, Option.bind_some]
      obtain ⟨v, i3, u3, e3, h3, _⟩ := d_pick code hc i2 u2 3 (N + 2 + 2) h2 (by omega)
      rw [e3, Option.bind_some]
      simp only
      have hs : (strOfNums [bt w b]).size = 1 := by rw [strOfNums_size]; rfl
      have s1 : (t.extract 0 a.toNat).size ≤ t.size := ext_le t _ _ (by omega)
      have s2 : (t.extract a.toNat t.size).size ≤ t.size := ext_le t _ _ (by omega)
      have s3 : (t.extract (a + 1).toNat t.size).size ≤ t.size := ext_le t _ _ (by omega)
      have q1 : (t.extract 0 a.toNat).size = a.toNat := by rw [ByteArray.size_extract]; omega
      have q2 : (t.extract a.toNat t.size).size = t.size - a.toNat := by rw [ByteArray.size_extract]; omega
      have q3 : (t.extract (a + 1).toNat t.size).size = t.size - (a + 1).toNat := by rw [ByteArray.size_extract]; omega
      have next := fun (t' : ByteArray) (h : t'.size + d ≤ 1000) => d_spoilt_l0 code hc w hw d k i3 u3 t' (N + 6) (by omega) h (by unfold PL at h3 ⊢; omega) (by omega) (by omega)
      rw [w64 (x := a + 1) (by omega) (by omega)]
      have f1 : (t.extract 0 a.toNat).size + (strOfNums [bt w b]).size ≤ 9223372036854775807 := by omega
      have f2 : (t.extract 0 a.toNat ++ strOfNums [bt w b]).size + (t.extract a.toNat t.size).size ≤ 9223372036854775807 := by rw [ByteArray.size_append]; omega
      have f3 : (t.extract 0 a.toNat ++ strOfNums [bt w b]).size + (t.extract (a + 1).toNat t.size).size ≤ 9223372036854775807 := by rw [ByteArray.size_append]; omega
      have f4 : (t.extract 0 a.toNat).size + (t.extract (a + 1).toNat t.size).size ≤ 9223372036854775807 := by omega
      have f5 : a ≤ (t.size : Int) := by omega
      have f6 : 0 ≤ a + 1 := by omega
      have f7 : a + 1 ≤ (t.size : Int) := by omega
      simp only [if_pos a0, if_pos f1, if_pos f2, if_pos f3, if_pos f4, if_pos f5, if_pos f6, if_pos f7]
      split
      · skip
        exact next _ (by rw [ByteArray.size_append, ByteArray.size_append]; omega)
      · split
        · exact next _ (by rw [ByteArray.size_append, ByteArray.size_append]; omega)
        · exact next _ (by rw [ByteArray.size_append]; omega)
    · rw [if_neg (by simpa using h0)]
      exact ⟨_, _, _, rfl⟩
theorem boardT_size (r c : Int) (l : List Int) (g : GoodB r c l) : (boardT c.toNat l).size ≤ 100 := by
  have h6 := goodB_len g
  have g2 := g.2.1
  match l, h6 with
  | [], _ => exact (by decide : (boardT 0 []).size ≤ 100)
  | m :: t, h6 =>
    simp only [List.length_cons] at h6
    have h2 : (rowB m c.toNat).size = c.toNat := by unfold rowB; rw [strOfNums_size, rowT_len]
    have : t.length * (c.toNat + 1) ≤ 5 * 7 := Nat.mul_le_mul (by omega) (by omega)
    unfold boardT
    rw [boxT_size, h2]; omega
theorem d_parse (k : Nat) (code : List Int) (hc : CodeOK code) (hk : 2000 ≤ k) : ∃ t, spec_DrawParseBoard.f k code = some t := by
  unfold spec_DrawParseBoard.f
  obtain ⟨r, i1, u1, e1, h1, r1, r2⟩ := d_sides code hc 0 0 0 (by unfold PL; omega) (by omega)
  rw [e1, Option.bind_some]
  simp only
  obtain ⟨c, i2, u2, e2, h2, c1, c2⟩ := d_sides code hc i1 u1 _ h1 (by omega)
  rw [e2, Option.bind_some]
  simp only
  obtain ⟨l, i3, u3, e3, g, h4⟩ := d_boardOfB k code hc i2 u2 _ r c (by omega) (by omega) h2 (by omega) (by omega)
  rw [e3, Option.bind_some]
  simp only
  rw [e_boText k r c l g (by omega), Option.bind_some]
  obtain ⟨b, i4, u4, e4, h5⟩ := d_one code hc i3 u3 3 _ h4 (by omega)
  rw [e4, Option.bind_some]
  simp only
  split
  · unfold spec_l1Cur_spoilt.f
    obtain ⟨v, i5, u5, e5, h6, v0, v1⟩ := d_pick code hc i4 u4 2 _ h5 (by omega)
    have v1 := v1 (by omega)
    have hs := boardT_size r c l g
    rw [e5, Option.bind_some]
    simp only
    rw [w64 (x := 1 + v) (by omega) (by omega), show (1 + v) = (((1 + v).toNat : Nat) : Int) by omega]
    obtain ⟨t', i', u', e6⟩ := d_spoilt_l0 code hc (⟨#[48, 49, 47, 50]⟩ : ByteArray) rfl (1 + v).toNat k i5 u5 (boardT c.toNat l) _ (by omega) (by omega) h6 (by omega) (by omega)
    rw [e6]
    exact ⟨_, rfl⟩
  · exact ⟨_, rfl⟩

/-- The cells of a row from a column on. -/
def rowC (m i : Int) : Nat → Nat → List (List Int)
  | 0, _ => []
  | d + 1, j => (if cell m (j : Int) = true then [[i, (j : Int)]] else []) ++ rowC m i d (j + 1)
/-- The cells of rows. -/
def cellsC (c : Nat) : List Int → Int → List (List Int)
  | [], _ => []
  | m :: r, i => rowC m i c 0 ++ cellsC c r (i + 1)
theorem rowC_len (m i : Int) : ∀ d j, (rowC m i d j).length ≤ d
  | 0, _ => Nat.le_refl _
  | d + 1, j => by
    have := rowC_len m i d (j + 1)
    simp only [rowC, List.length_append]
    split <;> simp <;> omega
theorem cellsC_len (c : Nat) : ∀ l i, (cellsC c l i).length ≤ l.length * c
  | [], _ => by simp [cellsC]
  | m :: r, i => by
    have := cellsC_len c r (i + 1); have := rowC_len m i c 0
    simp only [cellsC, List.length_append, List.length_cons, Nat.add_mul]
    omega
theorem place_nat {r c : Int} {i j : Nat} (hi : (i : Int) < r) (hj : (j : Int) < c) : Place r c (i : Int) (j : Int) := ⟨⟨by omega, by omega⟩, by omega, by omega⟩

theorem rdL (l : List (List Int)) (i : Nat) (h : i < l.length) : rd_L2 l (i : Int) = l[i] := by
  unfold rd_L2; simp [List.getD, h]
theorem rd_set_self (l : List Int) (i : Nat) (v : Int) (h : i < l.length) : rd (l.set i v) (i : Int) = v := by
  rw [rd_nat _ i (by simpa using h)]; simp
theorem rowC_mem (m i : Int) : ∀ d j x, x ∈ rowC m i d j → ∃ c : Nat, x = [i, (c : Int)] ∧ j ≤ c ∧ c < j + d
  | 0, _, x, h => by simp [rowC] at h
  | d + 1, j, x, h => by
    simp only [rowC, List.mem_append] at h
    rcases h with h | h
    · split at h
      · simp at h; exact ⟨j, h, Nat.le_refl _, by omega⟩
      · simp at h
    · obtain ⟨c, e, h1, h2⟩ := rowC_mem m i d (j + 1) x h
      exact ⟨c, e, by omega, by omega⟩
theorem cellsC_mem (c : Nat) : ∀ (l : List Int) (i : Nat) x, x ∈ cellsC c l (i : Int) → ∃ a b : Nat, x = [(a : Int), (b : Int)] ∧ i ≤ a ∧ a < i + l.length ∧ b < c
  | [], _, x, h => by simp [cellsC] at h
  | m :: t, i, x, h => by
    simp only [cellsC, List.mem_append] at h
    rcases h with h | h
    · obtain ⟨b, e, _, h2⟩ := rowC_mem _ _ _ _ x h
      exact ⟨i, b, e, Nat.le_refl _, by simp, by omega⟩
    · rw [show ((i : Int) + 1) = ((i + 1 : Nat) : Int) from by omega] at h
      obtain ⟨a, b, e, h1, h2, h3⟩ := cellsC_mem c t (i + 1) x h
      exact ⟨a, b, e, by omega, by simp; omega, h3⟩

/-- Each cell changes the number of its column by its row. -/
def foldCol (f : Int → Int → Int) : List (List Int) → List Int → List Int
  | [], out => out
  | x :: t, out => foldCol f t (out.set (rd x 1).toNat (f (rd out (rd x 1)) (rd x 0)))
theorem foldCol_app (f : Int → Int → Int) : ∀ a b out, foldCol f (a ++ b) out = foldCol f b (foldCol f a out)
  | [], _, _ => rfl
  | x :: t, b, out => by simp only [List.cons_append, foldCol, foldCol_app f t b]
theorem foldCol_len (f : Int → Int → Int) : ∀ cs out, (foldCol f cs out).length = out.length
  | [], _ => rfl
  | x :: t, out => by simp only [foldCol, foldCol_len f t, List.length_set]
/-- Numbers below 2 to i from a column on. -/
def Low (i : Nat) (j : Nat) (out : List Int) : Prop := ∀ b (h : b < out.length), 0 ≤ out[b] ∧ out[b] < (if j ≤ b then 2 ^ i else 2 ^ (i + 1))
theorem foldCol_row (f g : Int → Int → Int) (hfg : ∀ (v : Int) (a : Nat), 0 ≤ v → v < 2 ^ a → a ≤ 5 → f v a = g v a ∧ 0 ≤ f v a ∧ f v a < 2 ^ (a + 1)) (m : Int) (i : Nat) (hi : i ≤ 5) :
    ∀ (d j : Nat) (out : List Int), j + d ≤ out.length → Low i j out → foldCol f (rowC m (i : Int) d j) out = foldCol g (rowC m (i : Int) d j) out ∧ Low i (j + d) (foldCol f (rowC m (i : Int) d j) out)
  | 0, j, out, _, hl => ⟨rfl, hl⟩
  | d + 1, j, out, hd, hl => by
    simp only [rowC, foldCol_app]
    have hlt : j < out.length := by omega
    have hj := hl j hlt
    rw [if_pos (Nat.le_refl j)] at hj
    have hf := hfg out[j] i hj.1 hj.2 hi
    by_cases hc : cell m (j : Int) = true
    · simp only [hc, if_true, foldCol]
      have e0 : rd [(i : Int), (j : Int)] 0 = (i : Int) := rfl
      have e1 : rd [(i : Int), (j : Int)] 1 = (j : Int) := rfl
      rw [e0, e1, Int.toNat_natCast, rd_nat out j hlt, ← hf.1]
      have hl' : Low i (j + 1) (out.set j (f out[j] i)) := by
        intro b hb
        rw [List.length_set] at hb
        by_cases hjb : j = b
        · subst hjb
          rw [List.getElem_set_self, if_neg (by omega)]; exact hf.2
        · rw [List.getElem_set_ne hjb]
          have := hl b hb
          by_cases h1 : j ≤ b
          · rw [if_pos h1] at this; rw [if_pos (by omega)]; exact this
          · rw [if_neg h1] at this; rw [if_neg (by omega)]; exact this
      have := foldCol_row f g hfg m i hi d (j + 1) _ (by simpa using (by omega : j + 1 + d ≤ out.length)) hl'
      rw [show j + (d + 1) = j + 1 + d from by omega]; exact this
    · simp only [hc, Bool.false_eq_true, if_false, foldCol]
      have hl' : Low i (j + 1) out := by
        intro b hb
        have := hl b hb
        by_cases h1 : j + 1 ≤ b
        · rw [if_pos (by omega)] at this; rw [if_pos h1]; exact this
        · rw [if_neg h1]
          by_cases h2 : j ≤ b
          · rw [if_pos h2] at this
            have : (2 : Int) ^ i ≤ 2 ^ (i + 1) := by rw [Int.pow_succ]; have : (0 : Int) < 2 ^ i := Int.pow_pos (by omega); omega
            omega
          · rw [if_neg h2] at this; exact this
      have := foldCol_row f g hfg m i hi d (j + 1) out (by omega) hl'
      rw [show j + (d + 1) = j + 1 + d from by omega]; exact this
theorem foldCol_cells (f g : Int → Int → Int) (hfg : ∀ (v : Int) (a : Nat), 0 ≤ v → v < 2 ^ a → a ≤ 5 → f v a = g v a ∧ 0 ≤ f v a ∧ f v a < 2 ^ (a + 1)) (c : Nat) :
    ∀ (l : List Int) (i : Nat) (out : List Int), i + l.length ≤ 6 → out.length = c → Low i 0 out → foldCol f (cellsC c l (i : Int)) out = foldCol g (cellsC c l (i : Int)) out
  | [], _, _, _, _, _ => rfl
  | m :: t, i, out, hi, hc, hl => by
    simp only [List.length_cons] at hi
    simp only [cellsC, foldCol_app]
    have := foldCol_row f g hfg m i (by omega) c 0 out (by omega) hl
    rw [← this.1, show ((i : Int) + 1) = ((i + 1 : Nat) : Int) from by omega]
    refine foldCol_cells f g hfg c t (i + 1) _ (by omega) (by rw [foldCol_len, hc]) ?_
    intro b hb
    have h2 := this.2 b hb
    rw [foldCol_len] at hb
    rw [if_neg (by omega)] at h2
    rw [if_pos (Nat.zero_le b)]; exact h2
theorem low_zero (n : Nat) : Low 0 0 (List.replicate n 0) := by
  intro b hb
  rw [if_pos (Nat.zero_le b)]; simp
def addT (v a : Int) : Int := wrap64 (v + shl .i64 1 a)
def orT (v a : Int) : Int := Go.bits .or .i64 v (shl .i64 1 a)
theorem add_or (v : Int) (a : Nat) (h0 : 0 ≤ v) (h1 : v < 2 ^ a) (ha : a ≤ 5) : addT v a = orT v a ∧ 0 ≤ addT v a ∧ addT v a < 2 ^ (a + 1) := by
  have key : ∀ a : Fin 6, ∀ v : Fin 32, (v.val : Int) < 2 ^ a.val → addT (v.val : Int) (a.val : Int) = orT (v.val : Int) (a.val : Int) ∧ 0 ≤ addT (v.val : Int) (a.val : Int) ∧ addT (v.val : Int) (a.val : Int) < 2 ^ (a.val + 1) := by decide +kernel
  have hp : (2 : Int) ^ a ≤ 32 := by
    have : ∀ a : Fin 6, (2 : Int) ^ a.val ≤ 32 := by decide +kernel
    exact this ⟨a, by omega⟩
  obtain ⟨i, rfl⟩ := fin_of v 32 h0 (by omega)
  exact key ⟨a, by omega⟩ i h1

theorem boCells_l1 (r c : Int) (l : List Int) (g : GoodB r c l) (i : Nat) (hi : i < l.length) : ∀ (d j k : Nat) (acc : List (List Int)), (j : Int) + d = c → acc.length + d ≤ 1000 →
    spec_boCells.l1 (k + d + 1) acc (i : Int) (j : Int) r c l = spec_boCells.l0 k (acc ++ rowC l[i] (i : Int) d j) ((i + 1 : Nat) : Int) r c l := by
  have hr := g.2.2.1; have hc := g.2.1; have hn := goodB_len g
  intro d
  induction d with
  | zero =>
    intro j k acc hj ha
    simp only [Nat.add_zero, spec_boCells.l1]
    rw [if_neg (by omega), w64 (by omega) (by omega)]; simp [rowC]
  | succ d ih =>
    intro j k acc hj ha
    obtain ⟨K, hK⟩ : ∃ K, K = k + d + 1 := ⟨_, rfl⟩
    rw [show k + (d + 1) + 1 = K + 1 from by omega]
    simp only [spec_boCells.l1]
    rw [if_pos (by omega), e_boHas r c l _ _ g (place_nat (by omega) (by omega)), rd_nat l i hi, w64 (by omega) (by omega), show ((j : Int) + 1) = ((j + 1 : Nat) : Int) from by omega]
    simp only [Option.bind_some]
    by_cases h : cell l[i] (j : Int) = true
    · rw [if_pos h, if_pos (by omega), hK, ih (j + 1) k _ (by omega) (by simp; omega)]
      simp only [rowC, h, if_true, List.append_assoc]
    · rw [if_neg h, hK, ih (j + 1) k _ (by omega) (by omega)]
      simp only [rowC, h, if_false, List.nil_append, Bool.false_eq_true]
theorem boCells_l0 (r c : Int) (l : List Int) (g : GoodB r c l) (C : Nat) (hC : (C : Int) = c) : ∀ (d i k : Nat) (acc : List (List Int)), i + d = l.length → acc.length + d * C ≤ 900 → d * (C + 2) < k →
    spec_boCells.l0 k acc (i : Int) r c l = some (acc ++ cellsC C (l.drop i) (i : Int)) := by
  have hr := g.2.2.1; have hc := g.2.1; have hn := goodB_len g
  intro d
  induction d with
  | zero =>
    intro i k acc hi ha hk
    obtain ⟨k, rfl⟩ : ∃ m, k = m + 1 := ⟨k - 1, by omega⟩
    simp only [spec_boCells.l0]
    rw [if_neg (by omega), List.drop_eq_nil_of_le (by omega)]; simp [cellsC]
  | succ d ih =>
    intro i k acc hi ha hk
    rw [Nat.add_mul] at ha hk
    obtain ⟨k, rfl⟩ : ∃ m, k = (m + C + 1) + 1 := ⟨k - C - 2, by omega⟩
    have hlt : i < l.length := by omega
    simp only [spec_boCells.l0]
    have := boCells_l1 r c l g i hlt C 0 k acc (by omega) (by omega)
    rw [if_pos (by omega), show (0 : Int) = ((0 : Nat) : Int) from rfl, this]
    have hl := rowC_len l[i] (i : Int) C 0
    rw [ih (i + 1) k _ (by omega) (by rw [List.length_append]; omega) (by omega), List.drop_eq_getElem_cons hlt]
    simp only [cellsC, List.append_assoc]
    rw [show ((i : Int) + 1) = ((i + 1 : Nat) : Int) from by omega]
theorem e_boCells (k : Nat) (r c : Int) (l : List Int) (g : GoodB r c l) (hk : 100 ≤ k) : spec_boCells.f k r c l = some (cellsC c.toNat l 0) := by
  unfold spec_boCells.f
  have hr := g.2.2.1; have hc := g.2.1; have hn := goodB_len g
  have hb : l.length * c.toNat ≤ 6 * 6 := Nat.mul_le_mul (by omega) (by omega)
  have hb2 : l.length * (c.toNat + 2) ≤ 6 * 8 := Nat.mul_le_mul (by omega) (by omega)
  have := boCells_l0 r c l g c.toNat (by omega) l.length 0 k [] (by omega) (by simp; omega) (by omega)
  simpa using this

theorem e_boEmpty (r c : Int) (h : 0 ≤ r ∧ r ≤ 6) : spec_boEmpty.f r c = some (r, c, List.replicate r.toNat 0) := by
  unfold spec_boEmpty.f; rw [if_pos (by omega), if_pos (by omega)]

theorem i_newBoard (r c : Int) (h : 0 ≤ r ∧ r ≤ 6) : impl_newBoard.f r c = some (r, c, List.replicate r.toNat 0) := by
  unfold impl_newBoard.f; rw [if_pos (by omega), if_pos (by omega)]

theorem i_has (r c : Int) (l : List Int) (i j : Int) (h : GoodB r c l) (hp : Place r c i j) : impl_Board_has.f r c l i j = some (cell (rd l i) j) := by
  unfold impl_Board_has.f
  have h1 := h.1; have h2 := h.2.1; have h3 := h.2.2.1; have h4 := hp.1; have h5 := hp.2
  have hm := goodB_le h (rd l i) (rd_mem l i (by omega) (by omega))
  rw [if_pos (by omega), if_pos (by omega), if_pos (by omega), cell_impl _ _ hm (by omega)]

theorem boTurn_l0 (cs : List (List Int)) (hl : cs.length ≤ 1000) (n : Nat) (hx : ∀ x ∈ cs, ∃ a b : Nat, x = [(a : Int), (b : Int)] ∧ b < n) (R C : Int) : ∀ (d i k : Nat) (out : List Int), out.length = n → i + d = cs.length → d < k →
    spec_boTurn.l0 k cs (cs.length : Int) (i : Int) R C out = some (R, C, foldCol addT (cs.drop i) out) := by
  intro d
  induction d with
  | zero =>
    intro i k out ho hi hk
    obtain ⟨k, rfl⟩ : ∃ m, k = m + 1 := ⟨k - 1, by omega⟩
    simp only [spec_boTurn.l0]; rw [if_neg (by omega), List.drop_eq_nil_of_le (by omega)]; rfl
  | succ d ih =>
    intro i k out ho hi hk
    obtain ⟨k, rfl⟩ : ∃ m, k = m + 1 := ⟨k - 1, by omega⟩
    have hlt : i < cs.length := by omega
    obtain ⟨a, b, e, hb⟩ := hx cs[i] (List.getElem_mem _)
    simp only [spec_boTurn.l0]
    rw [rdL cs i hlt, List.drop_eq_getElem_cons hlt]
    simp only [foldCol]
    rw [e]
    have e0 : rd [(a : Int), (b : Int)] 0 = (a : Int) := rfl
    have e1 : rd [(a : Int), (b : Int)] 1 = (b : Int) := rfl
    rw [e0, e1, if_pos (by omega), if_pos (by omega), if_pos (by omega), if_pos (by simp), if_pos (by omega), if_pos (by omega), if_pos (by simp), if_pos (by omega), w64 (x := (i : Int) + 1) (by omega) (by omega), show ((i : Int) + 1) = ((i + 1 : Nat) : Int) from by omega]
    exact ih (i + 1) k _ (by simpa using ho) (by omega) (by omega)
theorem turned_l1 (r c : Int) (l : List Int) (g : GoodB r c l) (R C : Int) (i : Nat) (hi : i < l.length) : ∀ (d j k : Nat) (out : List Int), (j : Int) + d = c → (out.length : Int) = c →
    impl_Board_turned.l1 (k + d + 1) (i : Int) r (i : Int) c (j : Int) r c l R C out = impl_Board_turned.l0 k r ((i + 1 : Nat) : Int) r c l R C (foldCol orT (rowC l[i] (i : Int) d j) out) := by
  have hr := g.2.2.1; have hc := g.2.1; have hn := goodB_len g
  intro d
  induction d with
  | zero =>
    intro j k out hj ho
    simp only [Nat.add_zero, impl_Board_turned.l1]
    rw [if_neg (by omega), w64 (by omega) (by omega)]; simp [rowC, foldCol]
  | succ d ih =>
    intro j k out hj ho
    obtain ⟨K, hK⟩ : ∃ K, K = k + d + 1 := ⟨_, rfl⟩
    rw [show k + (d + 1) + 1 = K + 1 from by omega]
    simp only [impl_Board_turned.l1]
    rw [if_pos (by omega), i_has r c l _ _ g (place_nat (by omega) (by omega)), rd_nat l i hi, w64 (x := (j : Int) + 1) (by omega) (by omega), show ((j : Int) + 1) = ((j + 1 : Nat) : Int) from by omega]
    simp only [Option.bind_some]
    by_cases h : cell l[i] (j : Int) = true
    · rw [if_pos h, if_pos (by omega), if_pos (by omega), if_pos (by omega), hK, ih (j + 1) k _ (by omega) (by simpa using ho)]
      simp only [rowC, h, if_true, List.singleton_append, foldCol]
      rfl
    · rw [if_neg h, hK, ih (j + 1) k _ (by omega) ho]
      simp only [rowC, h, if_false, List.nil_append, Bool.false_eq_true]
theorem turned_l0 (r c : Int) (l : List Int) (g : GoodB r c l) (R C : Int) (C' : Nat) (hC : (C' : Int) = c) : ∀ (d i k : Nat) (out : List Int), i + d = l.length → (out.length : Int) = c → d * (C' + 2) < k →
    impl_Board_turned.l0 k r (i : Int) r c l R C out = some (R, C, foldCol orT (cellsC C' (l.drop i) (i : Int)) out) := by
  have hr := g.2.2.1; have hc := g.2.1; have hn := goodB_len g
  intro d
  induction d with
  | zero =>
    intro i k out hi ho hk
    obtain ⟨k, rfl⟩ : ∃ m, k = m + 1 := ⟨k - 1, by omega⟩
    simp only [impl_Board_turned.l0]
    rw [if_neg (by omega), List.drop_eq_nil_of_le (by omega)]; simp [cellsC, foldCol]
  | succ d ih =>
    intro i k out hi ho hk
    rw [Nat.add_mul] at hk
    obtain ⟨k, rfl⟩ : ∃ m, k = (m + C' + 1) + 1 := ⟨k - C' - 2, by omega⟩
    have hlt : i < l.length := by omega
    simp only [impl_Board_turned.l0]
    have := turned_l1 r c l g R C i hlt C' 0 k out (by omega) ho
    rw [if_pos (by omega), show (0 : Int) = ((0 : Nat) : Int) from rfl, this]
    rw [ih (i + 1) k _ (by omega) (by rw [foldCol_len]; exact ho) (by omega), List.drop_eq_getElem_cons hlt]
    simp only [cellsC, foldCol_app]
    rw [show ((i : Int) + 1) = ((i + 1 : Nat) : Int) from by omega]
/-- The numbers of a turned board. -/
def turnL (r c : Int) (l : List Int) : List Int := foldCol addT (cellsC c.toNat l 0) (List.replicate c.toNat 0)
theorem turnL_len (r c : Int) (l : List Int) : (turnL r c l).length = c.toNat := by unfold turnL; rw [foldCol_len]; simp
theorem e_boTurn (k : Nat) (r c : Int) (l : List Int) (g : GoodB r c l) (hk : 1000 ≤ k) : spec_boTurn.f k r c l = some (c, r, turnL r c l) := by
  unfold spec_boTurn.f turnL
  have h1 := g.1; have h2 := g.2.1; have hn := goodB_len g; have h3 := g.2.2.1
  rw [e_boEmpty c r (by omega), e_boCells k r c l g (by omega)]
  simp only [Option.bind_some]
  have hb := cellsC_len c.toNat l 0
  have hb2 : l.length * c.toNat ≤ 6 * 6 := Nat.mul_le_mul (by omega) (by omega)
  have := boTurn_l0 (cellsC c.toNat l 0) (by omega) c.toNat (fun x hx => by
    obtain ⟨a, b, e, _, _, h6⟩ := cellsC_mem c.toNat l 0 x hx
    exact ⟨a, b, e, by omega⟩) c r (cellsC c.toNat l 0).length 0 k (List.replicate c.toNat 0) (by simp) (by omega) (by omega)
  simpa using this
theorem i_turned (k : Nat) (r c : Int) (l : List Int) (g : GoodB r c l) (hk : 1000 ≤ k) : impl_Board_turned.f k r c l = some (c, r, turnL r c l) := by
  unfold impl_Board_turned.f turnL
  have h1 := g.1; have h2 := g.2.1; have hn := goodB_len g; have h3 := g.2.2.1
  have hb2 : l.length * (c.toNat + 2) ≤ 6 * 8 := Nat.mul_le_mul (by omega) (by omega)
  rw [i_newBoard c r (by omega)]
  simp only [Option.bind_some]
  have := turned_l0 r c l g c r c.toNat (by omega) l.length 0 k (List.replicate c.toNat 0) (by omega) (by simp; omega) (by omega)
  rw [show ((0 : Nat) : Int) = 0 from rfl] at this
  rw [this]
  have e := foldCol_cells addT orT add_or c.toNat l 0 (List.replicate c.toNat 0) (by omega) (by simp) (low_zero _)
  rw [show ((0 : Nat) : Int) = 0 from rfl] at e
  simp only [List.drop_zero, e]

def turnOut (r c : Int) (l : List Int) : Int × Int × List Int × Bool := if GoodB r c l then (c, r, turnL r c l, true) else (0, 0, [], false)
theorem turnOut_len (r c : Int) (l : List Int) : (turnOut r c l).2.2.1.length ≤ 6 := by
  unfold turnOut
  split
  · rename_i h; have := h.2.1; simp only [turnL_len]; omega
  · simp
theorem e_TurnBoard (k : Nat) (r c : Int) (l : List Int) (hl : l.length ≤ 2000000) (hk : l.length < k) (hk2 : 1000 ≤ k) : spec_TurnBoard.f k r c l = some (turnOut r c l) := by
  unfold spec_TurnBoard.f turnOut
  rw [e_boGood k r c l hl hk]
  simp only [Option.bind_some, decide_eq_true_eq]
  by_cases g : GoodB r c l
  · rw [if_pos g, if_pos g, e_boTurn k r c l g hk2]; rfl
  · rw [if_neg g, if_neg g]
theorem i_TurnBoard (k : Nat) (r c : Int) (l : List Int) (hk2 : 1000 ≤ k) : impl_TurnBoard.f k r c l = some (turnOut r c l) := by
  unfold impl_TurnBoard.f turnOut
  rw [i_IsBoard]
  simp only [Option.bind_some, decide_eq_true_eq]
  by_cases g : GoodB r c l
  · rw [if_pos g, if_pos g, i_turned k r c l g hk2]; rfl
  · rw [if_neg g, if_neg g]

theorem addT_val (v : Int) (i : Nat) (h0 : 0 ≤ v) (h1 : v < 2 ^ i) (hi : i ≤ 5) : addT v i = v + 2 ^ i := by
  have key : ∀ a : Fin 6, ∀ v : Fin 32, addT (v.val : Int) (a.val : Int) = v.val + 2 ^ a.val := by decide +kernel
  have hp : (2 : Int) ^ i ≤ 32 := by
    have : ∀ a : Fin 6, (2 : Int) ^ a.val ≤ 32 := by decide +kernel
    exact this ⟨i, by omega⟩
  obtain ⟨f, rfl⟩ := fin_of v 32 h0 (by omega)
  exact key ⟨i, by omega⟩ f
theorem cell_add (v : Int) (i : Nat) (h0 : 0 ≤ v) (h1 : v < 2 ^ i) (hi : i ≤ 5) (b : Bool) : (0 ≤ v + (if b = true then 2 ^ i else 0) ∧ v + (if b = true then 2 ^ i else 0) < 2 ^ (i + 1)) ∧ (∀ q : Nat, q < i → cell (v + (if b = true then 2 ^ i else 0)) (q : Int) = cell v (q : Int)) ∧ cell (v + (if b = true then 2 ^ i else 0)) (i : Int) = b := by
  have key : ∀ a : Fin 6, ∀ v : Fin 32, (v.val : Int) < 2 ^ a.val → ∀ b : Bool, (0 ≤ (v.val : Int) + (if b = true then 2 ^ a.val else 0) ∧ (v.val : Int) + (if b = true then 2 ^ a.val else 0) < 2 ^ (a.val + 1)) ∧ (∀ q : Fin 6, q.val < a.val → cell ((v.val : Int) + (if b = true then 2 ^ a.val else 0)) (q.val : Int) = cell (v.val : Int) (q.val : Int)) ∧ cell ((v.val : Int) + (if b = true then 2 ^ a.val else 0)) (a.val : Int) = b := by decide +kernel
  have hp : (2 : Int) ^ i ≤ 32 := by
    have : ∀ a : Fin 6, (2 : Int) ^ a.val ≤ 32 := by decide +kernel
    exact this ⟨i, by omega⟩
  obtain ⟨f, rfl⟩ := fin_of v 32 h0 (by omega)
  obtain ⟨k1, k2, k3⟩ := key ⟨i, by omega⟩ f h1 b
  exact ⟨k1, fun q hq => k2 ⟨q, by omega⟩ hq, k3⟩
theorem row_val (m : Int) (i : Nat) (hi : i ≤ 5) : ∀ (d j : Nat) (out : List Int), j + d ≤ out.length → Low i j out → ∀ b : Nat, b < out.length → rd (foldCol addT (rowC m (i : Int) d j) out) (b : Int) = if j ≤ b ∧ b < j + d then rd out (b : Int) + (if cell m (b : Int) = true then 2 ^ i else 0) else rd out (b : Int)
  | 0, j, out, _, _, b, hb => by rw [if_neg (by omega)]; rfl
  | d + 1, j, out, hd, hl, b, hb => by
    simp only [rowC, foldCol_app]
    have hlt : j < out.length := by omega
    have hj := hl j hlt
    rw [if_pos (Nat.le_refl j)] at hj
    have hf := add_or out[j] i hj.1 hj.2 hi
    have hv := addT_val out[j] i hj.1 hj.2 hi
    by_cases hc : cell m (j : Int) = true
    · simp only [hc, if_true, foldCol]
      have e0 : rd [(i : Int), (j : Int)] 0 = (i : Int) := rfl
      have e1 : rd [(i : Int), (j : Int)] 1 = (j : Int) := rfl
      rw [e0, e1, Int.toNat_natCast, rd_nat out j hlt]
      have hl' : Low i (j + 1) (out.set j (addT out[j] i)) := by
        intro b hb
        rw [List.length_set] at hb
        by_cases hjb : j = b
        · subst hjb
          rw [List.getElem_set_self, if_neg (by omega)]; exact hf.2
        · rw [List.getElem_set_ne hjb]
          have := hl b hb
          by_cases h1 : j ≤ b
          · rw [if_pos h1] at this; rw [if_pos (by omega)]; exact this
          · rw [if_neg h1] at this; rw [if_neg (by omega)]; exact this
      rw [row_val m i hi d (j + 1) _ (by rw [List.length_set]; omega) hl' b (by rw [List.length_set]; exact hb)]
      have hs : rd (out.set j (addT out[j] i)) (b : Int) = if j = b then addT out[j] i else rd out (b : Int) := by
        unfold rd
        simp only [List.getD, Int.toNat_natCast, List.getElem?_set]
        by_cases hij : j = b
        · subst hij; simp [hlt]
        · simp [hij]
      rw [hs]
      by_cases hjb : j = b
      · subst hjb
        rw [if_neg (by omega), if_pos rfl, if_pos (by omega), if_pos hc, hv, rd_nat out j hlt]
      · rw [if_neg hjb]
        by_cases h2 : j + 1 ≤ b ∧ b < j + 1 + d
        · rw [if_pos h2, if_pos (show j ≤ b ∧ b < j + (d + 1) by omega)]
        · rw [if_neg h2, if_neg (show ¬ (j ≤ b ∧ b < j + (d + 1)) by omega)]
    · simp only [hc, Bool.false_eq_true, if_false, foldCol]
      have hl' : Low i (j + 1) out := by
        intro b hb
        have := hl b hb
        by_cases h1 : j + 1 ≤ b
        · rw [if_pos (by omega)] at this; rw [if_pos h1]; exact this
        · rw [if_neg h1]
          by_cases h2 : j ≤ b
          · rw [if_pos h2] at this
            have : (2 : Int) ^ i ≤ 2 ^ (i + 1) := by rw [Int.pow_succ]; have : (0 : Int) < 2 ^ i := Int.pow_pos (by omega); omega
            omega
          · rw [if_neg h2] at this; exact this
      rw [row_val m i hi d (j + 1) out (by omega) hl' b hb]
      by_cases hjb : j = b
      · subst hjb
        rw [if_neg (by omega), if_pos (by omega), if_neg hc, Int.add_zero]
      · by_cases h2 : j + 1 ≤ b ∧ b < j + 1 + d
        · rw [if_pos h2, if_pos (show j ≤ b ∧ b < j + (d + 1) by omega)]
        · rw [if_neg h2, if_neg (show ¬ (j ≤ b ∧ b < j + (d + 1)) by omega)]
theorem turn_cells (c : Nat) : ∀ (l : List Int) (i : Nat) (out : List Int), i + l.length ≤ 6 → out.length = c → Low i 0 out → ∀ j : Nat, j < c → (0 ≤ rd (foldCol addT (cellsC c l (i : Int)) out) (j : Int) ∧ rd (foldCol addT (cellsC c l (i : Int)) out) (j : Int) < 2 ^ (i + l.length)) ∧ ∀ q : Nat, q < i + l.length → cell (rd (foldCol addT (cellsC c l (i : Int)) out) (j : Int)) (q : Int) = if q < i then cell (rd out (j : Int)) (q : Int) else cell (rd l ((q - i : Nat) : Int)) (j : Int)
  | [], i, out, hi, hc, hl, j, hj => by
    have := hl j (by omega)
    rw [if_pos (Nat.zero_le j), ← rd_nat out j (by omega)] at this
    simp only [cellsC, foldCol, List.length_nil, Nat.add_zero]
    exact ⟨this, fun q hq => by rw [if_pos hq]⟩
  | m :: t, i, out, hi, hc, hl, j, hj => by
    simp only [List.length_cons] at hi ⊢
    simp only [cellsC, foldCol_app]
    have hlow := (foldCol_row addT addT (fun v a h0 h1 ha => ⟨rfl, (add_or v a h0 h1 ha).2⟩) m i (by omega) c 0 out (by omega) hl).2
    have hv := row_val m i (by omega) c 0 out (by omega) hl j (by omega)
    rw [if_pos (by omega)] at hv
    have hlo := hl j (by omega)
    rw [if_pos (Nat.zero_le j), ← rd_nat out j (by omega)] at hlo
    have hl2 : Low (i + 1) 0 (foldCol addT (rowC m (i : Int) c 0) out) := by
      intro b hb
      have h2 := hlow b hb
      rw [foldCol_len] at hb
      rw [if_neg (by omega)] at h2
      rw [if_pos (Nat.zero_le b)]; exact h2
    obtain ⟨h1, h2⟩ := turn_cells c t (i + 1) _ (by omega) (by rw [foldCol_len, hc]) hl2 j hj
    rw [show ((i + 1 : Nat) : Int) = (i : Int) + 1 by omega] at h1 h2
    obtain ⟨_, k2, k3⟩ := cell_add (rd out (j : Int)) i hlo.1 hlo.2 (by omega) (cell m (j : Int))
    refine ⟨by rw [show i + (t.length + 1) = i + 1 + t.length by omega]; exact h1, fun q hq => ?_⟩
    rw [h2 q (by omega), hv]
    by_cases a1 : q < i
    · rw [if_pos (by omega), if_pos a1, k2 q a1]
    · rw [if_neg a1]
      by_cases a2 : q = i
      · subst a2
        rw [if_pos (by omega), k3, Nat.sub_self]; rfl
      · rw [if_neg (by omega), show q - i = (q - (i + 1)) + 1 by omega]
        congr 1
/-- The cells of a turned board. -/
theorem turn_good (r c : Int) (l : List Int) (g : GoodB r c l) (T : List Int) (hT : T = foldCol addT (cellsC c.toNat l 0) (List.replicate c.toNat 0)) : GoodB c r T ∧ ∀ i j : Nat, (i : Int) < r → (j : Int) < c → cell (rd T (j : Int)) (i : Int) = cell (rd l (i : Int)) (j : Int) := by
  subst hT
  have g1 := g.1; have g2 := g.2.1; have g3 := g.2.2.1
  have key := turn_cells c.toNat l 0 (List.replicate c.toNat 0) (by omega) (by simp) (low_zero _)
  rw [show ((0 : Nat) : Int) = 0 from rfl] at key
  have hlen : (foldCol addT (cellsC c.toNat l 0) (List.replicate c.toNat 0)).length = c.toNat := by rw [foldCol_len]; simp
  refine ⟨⟨g2, g1, by omega, fun x hx => ?_⟩, fun i j hi hj => ?_⟩
  · obtain ⟨j, hj, rfl⟩ := List.getElem_of_mem hx
    have := (key j (by omega)).1
    rw [rd_nat _ j hj, show 0 + l.length = r.toNat by omega] at this
    omega
  · have := (key j (by omega)).2 i (by omega)
    rw [if_neg (by omega), Nat.sub_zero] at this
    exact this

theorem rowC_any (m i i' : Int) : ∀ d j, (rowC m i d j).length = (rowC m i' d j).length
  | 0, _ => rfl
  | d + 1, j => by
    simp only [rowC, List.length_append, rowC_any m i i' d (j + 1)]
    split <;> rfl
/-- How many cells a row has. -/
def pcN (m : Int) (c : Nat) : Nat := (rowC m 0 c 0).length
theorem cellsC_sum (c : Nat) : ∀ (l : List Int) (i : Int), (cellsC c l i).length = (l.map fun m => pcN m c).sum
  | [], _ => rfl
  | m :: t, i => by simp only [cellsC, List.length_append, List.map_cons, List.sum_cons, cellsC_sum c t (i + 1), pcN, rowC_any m i 0 c 0]

theorem fin64 (m : Int) (c : Int) (hc : 1 ≤ c ∧ c ≤ 6) (h : 0 ≤ m ∧ m ≤ 2 ^ c.toNat - 1) : ∃ f : Fin 64, m = (f.val : Int) := fin_of m 64 h.1 (by have := pow_le c hc; omega)
theorem flipF : ∀ c : Fin 7, ∀ m : Fin 64, (m.val : Int) ≤ 2 ^ c.val - 1 → ((0 ≤ cmE (c.val : Int) (m.val : Int) ∧ cmE (c.val : Int) (m.val : Int) ≤ 2 ^ c.val - 1) ∧ cmE (c.val : Int) (cmE (c.val : Int) (m.val : Int)) = m.val ∧ pcN (m.val : Int) c.val + pcN (cmE (c.val : Int) (m.val : Int)) c.val = c.val) ∧ ((0 ≤ mirR (c.val : Int) (m.val : Int) ∧ mirR (c.val : Int) (m.val : Int) ≤ 2 ^ c.val - 1) ∧ mirR (c.val : Int) (mirR (c.val : Int) (m.val : Int)) = m.val) ∧ ∀ j : Fin 6, j.val < c.val → cell (cmE (c.val : Int) (m.val : Int)) (j.val : Int) = !cell (m.val : Int) (j.val : Int) ∧ cell (mirR (c.val : Int) (m.val : Int)) (((c.val - 1 - j.val : Nat)) : Int) = cell (m.val : Int) (j.val : Int) := by decide +kernel
theorem flip (c : Int) (hc : 1 ≤ c ∧ c ≤ 6) (m : Int) (hm : 0 ≤ m ∧ m ≤ 2 ^ c.toNat - 1) : ((0 ≤ cmE c m ∧ cmE c m ≤ 2 ^ c.toNat - 1) ∧ cmE c (cmE c m) = m ∧ pcN m c.toNat + pcN (cmE c m) c.toNat = c.toNat) ∧ ((0 ≤ mirR c m ∧ mirR c m ≤ 2 ^ c.toNat - 1) ∧ mirR c (mirR c m) = m) ∧ ∀ j : Nat, (j : Int) < c → cell (cmE c m) (j : Int) = !cell m (j : Int) ∧ cell (mirR c m) (c - 1 - (j : Int)) = cell m (j : Int) := by
  obtain ⟨f, rfl⟩ := fin64 m c hc hm
  obtain ⟨k1, k2, k3⟩ := flipF ⟨c.toNat, by omega⟩ f hm.2
  simp only at k1 k2 k3
  have e : ((c.toNat : Nat) : Int) = c := by omega
  rw [e] at k1 k2 k3
  refine ⟨k1, k2, fun j hj => ?_⟩
  have := k3 ⟨j, by omega⟩ (by show j < c.toNat; omega)
  simp only at this
  rw [show ((c.toNat - 1 - j : Nat) : Int) = c - 1 - (j : Int) by omega] at this
  exact this
theorem map_good (f : Int → Int) (r c : Int) (l : List Int) (g : GoodB r c l) (h : ∀ m : Int, 0 ≤ m ∧ m ≤ 2 ^ c.toNat - 1 → 0 ≤ f m ∧ f m ≤ 2 ^ c.toNat - 1) : GoodB r c (l.map f) := by
  refine ⟨g.1, g.2.1, by rw [List.length_map]; exact g.2.2.1, fun x hx => ?_⟩
  obtain ⟨m, hm, rfl⟩ := List.mem_map.1 hx
  exact h m (g.2.2.2 m hm)
theorem map_map_id (f : Int → Int) (l : List Int) (h : ∀ m ∈ l, f (f m) = m) : (l.map f).map f = l := by
  rw [List.map_map]
  conv => rhs; rw [← List.map_id l]
  exact List.map_congr_left fun m hm => h m hm
theorem sum_flip (c : Nat) (f : Int → Int) : ∀ l : List Int, (∀ m ∈ l, pcN m c + pcN (f m) c = c) → (l.map fun m => pcN m c).sum + ((l.map f).map fun m => pcN m c).sum = l.length * c
  | [], _ => by simp
  | m :: t, h => by
    have ih := sum_flip c f t (fun x hx => h x (by simp [hx]))
    have := h m (by simp)
    simp only [List.map_cons, List.sum_cons, List.length_cons, Nat.add_mul, Nat.one_mul] at ih ⊢
    omega

theorem cell_hiF : ∀ c : Fin 7, ∀ m : Fin 64, (m.val : Int) ≤ 2 ^ c.val - 1 → ∀ j : Fin 6, c.val ≤ j.val → cell (m.val : Int) (j.val : Int) = false := by decide +kernel
theorem cell_injF : ∀ m n : Fin 64, (∀ j : Fin 6, cell (m.val : Int) (j.val : Int) = cell (n.val : Int) (j.val : Int)) → m = n := by decide +kernel
theorem cell_inj (c : Int) (hc : 1 ≤ c ∧ c ≤ 6) (m n : Int) (hm : 0 ≤ m ∧ m ≤ 2 ^ c.toNat - 1) (hn : 0 ≤ n ∧ n ≤ 2 ^ c.toNat - 1) (h : ∀ j : Nat, (j : Int) < c → cell m (j : Int) = cell n (j : Int)) : m = n := by
  obtain ⟨f, rfl⟩ := fin64 m c hc hm
  obtain ⟨g, rfl⟩ := fin64 n c hc hn
  rw [cell_injF f g fun j => ?_]
  by_cases hj : (j.val : Int) < c
  · exact h j.val hj
  · rw [cell_hiF ⟨c.toNat, by omega⟩ f hm.2 j (by show c.toNat ≤ j.val; omega), cell_hiF ⟨c.toNat, by omega⟩ g hn.2 j (by show c.toNat ≤ j.val; omega)]
theorem turn_back (r c : Int) (l : List Int) (g : GoodB r c l) (T : List Int) (gT : GoodB c r T) (hT : ∀ i j : Nat, (i : Int) < r → (j : Int) < c → cell (rd T (j : Int)) (i : Int) = cell (rd l (i : Int)) (j : Int)) (U : List Int) (gU : GoodB r c U) (hU : ∀ i j : Nat, (i : Int) < c → (j : Int) < r → cell (rd U (j : Int)) (i : Int) = cell (rd T (i : Int)) (j : Int)) : U = l := by
  have g2 := g.2.1; have g3 := g.2.2.1; have u3 := gU.2.2.1
  apply List.ext_getElem (by omega)
  intro i h1 h2
  refine cell_inj c g2 _ _ (gU.2.2.2 _ (List.getElem_mem h1)) (g.2.2.2 _ (List.getElem_mem h2)) fun j hj => ?_
  rw [← rd_nat U i h1, ← rd_nat l i h2, hU j i hj (by omega), hT i j (by omega) hj]

/-- A cell's column counted into its row. -/
def addM (C : Int) (out x : List Int) : List Int := out.set (rd x 0).toNat (wrap64 (rd out (rd x 0) + shl .i64 1 (wrap64 (wrap64 (C - 1) - rd x 1))))
def sumR (C m : Int) : Nat → Nat → Int → Int
  | 0, _, acc => acc
  | d + 1, j, acc => sumR C m d (j + 1) (if cell m (j : Int) = true then wrap64 (acc + shl .i64 1 (wrap64 (wrap64 (C - 1) - (j : Int)))) else acc)
theorem sumR_mir (C m : Int) (hC : 0 ≤ C ∧ C ≤ 6) (hm : 0 ≤ m ∧ m ≤ 63) : sumR C m C.toNat 0 0 = mirR C m := by
  have key : ∀ C : Fin 7, ∀ m : Fin 64, sumR (C.val : Int) (m.val : Int) C.val 0 0 = mirR (C.val : Int) (m.val : Int) := by decide +kernel
  obtain ⟨C, rfl⟩ := fin_of C 7 hC.1 (by omega)
  obtain ⟨m, rfl⟩ := fin_of m 64 hm.1 (by omega)
  exact key C m
theorem set_mid (pre rest : List Int) (a v : Int) : (pre ++ a :: rest).set pre.length v = pre ++ v :: rest := by
  rw [List.set_append_right _ _ (Nat.le_refl _), Nat.sub_self, List.set_cons_zero]
theorem rd_mid (pre rest : List Int) (a : Int) : rd (pre ++ a :: rest) ((pre.length : Nat) : Int) = a := by
  rw [rd_nat _ _ (by simp)]; simp
theorem row_fold (C m : Int) (pre rest : List Int) : ∀ (d j : Nat) (acc : Int), (rowC m (pre.length : Int) d j).foldl (addM C) (pre ++ acc :: rest) = pre ++ sumR C m d j acc :: rest
  | 0, _, _ => rfl
  | d + 1, j, acc => by
    rw [rowC, List.foldl_append, sumR]
    by_cases h : cell m (j : Int) = true
    · rw [if_pos h, if_pos h, List.foldl_cons, List.foldl_nil]
      unfold addM
      rw [show rd [(pre.length : Int), (j : Int)] 0 = (pre.length : Int) from rfl, show rd [(pre.length : Int), (j : Int)] 1 = (j : Int) from rfl, Int.toNat_natCast, rd_mid, set_mid]
      exact row_fold C m pre rest d (j + 1) _
    · rw [if_neg h, if_neg h, List.foldl_nil]
      exact row_fold C m pre rest d (j + 1) _
theorem cells_fold (C : Nat) (hC : C ≤ 6) : ∀ (l pre : List Int), (∀ x ∈ l, 0 ≤ x ∧ x ≤ 63) → (cellsC C l (pre.length : Int)).foldl (addM C) (pre ++ List.replicate l.length 0) = pre ++ l.map (mirR C)
  | [], pre, _ => by simp [cellsC]
  | m :: l, pre, hl => by
    rw [cellsC, List.foldl_append, List.length_cons, List.replicate_succ, row_fold]
    have e := sumR_mir (C : Int) m ⟨by omega, by omega⟩ (hl m (by simp))
    rw [Int.toNat_natCast] at e
    rw [e]
    have ih := cells_fold C hC l (pre ++ [mirR C m]) (fun x hx => hl x (by simp [hx]))
    rw [List.length_append, List.length_singleton, show (((pre.length + 1 : Nat)) : Int) = (pre.length : Int) + 1 by omega, List.append_assoc, List.append_assoc] at ih
    rw [List.map_cons]
    exact ih
theorem cells_le (C : Nat) : ∀ (l : List Int) (n : Nat), ∀ x ∈ cellsC C l (n : Int), ∃ a b : Nat, x = [(a : Int), (b : Int)] ∧ a < n + l.length ∧ b < C := by
  intro l
  induction l with
  | nil => intro n x h; simp [cellsC] at h
  | cons m l ih =>
    intro n x h
    rw [cellsC] at h
    rcases List.mem_append.1 h with h | h
    · obtain ⟨c, e, h1, h2⟩ := rowC_mem m n C 0 x h
      exact ⟨n, c, e, by simp, by omega⟩
    · rw [show ((n : Int) + 1) = ((n + 1 : Nat) : Int) by omega] at h
      obtain ⟨a, b, e, h1, h2⟩ := ih (n + 1) x h
      exact ⟨a, b, e, by simp only [List.length_cons]; omega, h2⟩
theorem mir_l0 (C : Nat) (hC : 1 ≤ C ∧ C ≤ 6) (r : Int) (l : List Int) (n : Nat) (cs : List (List Int)) (hl : cs.length ≤ 1000) (hx : ∀ x ∈ cs, ∃ a b : Nat, x = [(a : Int), (b : Int)] ∧ a < n ∧ b < C) (R C' : Int) : ∀ (d i k : Nat) (out : List Int), out.length = n → i + d = cs.length → d < k →
    spec_MirrorBoard.l0 k cs (cs.length : Int) (i : Int) r (C : Int) l R C' out = some (R, C', (cs.drop i).foldl (addM C) out, true) := by
  intro d
  induction d with
  | zero =>
    intro i k out ho hi hk
    obtain ⟨k, rfl⟩ : ∃ m, k = m + 1 := ⟨k - 1, by omega⟩
    rw [spec_MirrorBoard.l0, if_neg (by omega), List.drop_eq_nil_of_le (by omega)]; rfl
  | succ d ih =>
    intro i k out ho hi hk
    obtain ⟨k, rfl⟩ : ∃ m, k = m + 1 := ⟨k - 1, by omega⟩
    have hlt : i < cs.length := by omega
    obtain ⟨a, b, e, ha, hb⟩ := hx cs[i] (List.getElem_mem _)
    have e0 : rd [(a : Int), (b : Int)] 0 = (a : Int) := rfl
    have e1 : rd [(a : Int), (b : Int)] 1 = (b : Int) := rfl
    have hw : wrap64 (wrap64 ((C : Int) - 1) - (b : Int)) = (C : Int) - 1 - b := by rw [w64 (x := (C : Int) - 1) (by omega) (by omega), w64 (by omega) (by omega)]
    rw [spec_MirrorBoard.l0, rdL cs i hlt, e, e0, e1, if_pos (by omega), if_pos (by omega), if_pos (by omega), if_pos (by simp), if_pos (by omega), if_pos (by omega), if_pos (by simp), if_pos (by rw [hw]; omega), w64 (x := (i : Int) + 1) (by omega) (by omega), show ((i : Int) + 1) = ((i + 1 : Nat) : Int) from by omega, ih (i + 1) k _ (by simpa using ho) (by omega) (by omega), List.drop_eq_getElem_cons hlt, List.foldl_cons, e]
    rfl
def mirOut (r c : Int) (l : List Int) : Int × Int × List Int × Bool := if GoodB r c l then (r, c, l.map (mirR c), true) else (0, 0, [], false)
theorem mirOut_len (r c : Int) (l : List Int) : (mirOut r c l).2.2.1.length ≤ 6 := by
  unfold mirOut
  split
  · rename_i h; have := goodB_len h; simp only [List.length_map]; omega
  · simp
theorem e_MirrorBoard (k : Nat) (r c : Int) (l : List Int) (hl : l.length ≤ 2000000) (hk : l.length < k) (hk2 : 2000 ≤ k) : spec_MirrorBoard.f k r c l = some (mirOut r c l) := by
  unfold spec_MirrorBoard.f mirOut
  rw [e_boGood k r c l hl hk]
  simp only [Option.bind_some, decide_eq_true_eq]
  by_cases g : GoodB r c l
  · have h1 := g.1
    have h2 := g.2.1
    have h3 := g.2.2.1
    have hl6 := goodB_len g
    obtain ⟨C, rfl⟩ := Int.eq_ofNat_of_zero_le (show 0 ≤ c by omega)
    have hcl := cellsC_len C l 0
    have hb : l.length * C ≤ 6 * 6 := Nat.mul_le_mul (by omega) (by omega)
    rw [if_pos g, if_pos g, e_boEmpty r _ (by omega), Option.bind_some, e_boCells k r _ l g (by omega), Option.bind_some]
    simp only
    rw [Int.toNat_natCast]
    have := mir_l0 C (by omega) r l l.length (cellsC C l 0) (by omega) (fun x hx => by
      obtain ⟨a, b, e, h1, h2⟩ := cells_le C l 0 x hx
      exact ⟨a, b, e, by omega, h2⟩) r (C : Int) (cellsC C l 0).length 0 k (List.replicate r.toNat 0) (by simp; omega) (by omega) (by omega)
    rw [show ((0 : Nat) : Int) = 0 from rfl] at this
    rw [this, List.drop_zero, show r.toNat = l.length by omega]
    have h9 := cells_fold C (by omega) l [] (goodB_le g)
    rw [List.length_nil, List.nil_append, List.nil_append] at h9
    rw [← h9]; rfl
  · rw [if_neg g, if_neg g]

theorem own_id (l : List Int) (h : l.length ≤ 1000000) (r c : Int) : spec_boOwn.f r c l = some (r, c, l) := by
  unfold spec_boOwn.f spec_l1Own.f
  rw [Option.bind_some, if_pos (by simp; omega), List.nil_append]; rfl
theorem sh64 (c : Int) (h : 1 ≤ c ∧ c ≤ 6) : wrap64 (shl .i64 1 c - 1) = wrap64 (wrap64 (2 ^ c.toNat) - 1) := by
  rw [sh1 c h]
  obtain ⟨h0, h1⟩ := h
  obtain h | h | h | h | h | h : c = 1 ∨ c = 2 ∨ c = 3 ∨ c = 4 ∨ c = 5 ∨ c = 6 := by omega
  all_goals (subst h; decide +kernel)
theorem boOther_l0 (r c : Int) (l : List Int) (hc : 1 ≤ c ∧ c ≤ 6) (hl : l.length ≤ 6) (R C : Int) : ∀ (d i k : Nat) (y : List Int), i + d = l.length → d < k → y = (l.take i).map (cmE c) ++ l.drop i → spec_boOther.l0 k (l.length : Int) (i : Int) r c l R C y = some (R, C, l.map (cmE c)) := by
  intro d
  induction d with
  | zero =>
    intro i k y hi hk hy
    obtain ⟨k, rfl⟩ : ∃ m, k = m + 1 := ⟨k - 1, by omega⟩
    rw [spec_boOther.l0, if_neg (by omega), hy, List.take_of_length_le (by omega), List.drop_eq_nil_of_le (by omega), List.append_nil]
  | succ d ih =>
    intro i k y hi hk hy
    obtain ⟨k, rfl⟩ : ∃ m, k = m + 1 := ⟨k - 1, by omega⟩
    have hlt : i < l.length := by omega
    have hyl : y.length = l.length := by rw [hy]; simp; omega
    rw [spec_boOther.l0, if_pos (by omega), if_pos (by omega), if_pos (by omega), if_pos (by omega), if_pos (by omega), w64 (x := (i : Int) + 1) (by omega) (by omega), show ((i : Int) + 1) = ((i + 1 : Nat) : Int) from by omega, Int.toNat_natCast, rd_nat l i hlt, sh64 c hc]
    refine ih (i + 1) k _ (by omega) (by omega) ?_
    rw [hy, List.set_append_right _ _ (by simp; omega), List.length_map, List.length_take, Nat.min_eq_left (by omega), Nat.sub_self, List.drop_eq_getElem_cons hlt, List.set_cons_zero, List.take_succ_eq_append_getElem hlt, List.map_append, List.append_assoc]
    rfl
def compOut (r c : Int) (l : List Int) : Int × Int × List Int × Bool := if GoodB r c l then (r, c, l.map (cmE c), true) else (0, 0, [], false)
theorem compOut_len (r c : Int) (l : List Int) : (compOut r c l).2.2.1.length ≤ 6 := by
  unfold compOut
  split
  · rename_i h; have := goodB_len h; simp only [List.length_map]; omega
  · simp
theorem e_ComplementOf (k : Nat) (r c : Int) (l : List Int) (hl : l.length ≤ 2000000) (hk : l.length < k) (hk2 : 100 ≤ k) : spec_ComplementOf.f k r c l = some (compOut r c l) := by
  unfold spec_ComplementOf.f compOut spec_boOther.f
  rw [e_boGood k r c l hl hk]
  simp only [Option.bind_some, decide_eq_true_eq]
  by_cases g : GoodB r c l
  · have h3 := g.2.2.1
    have hl6 := goodB_len g
    rw [if_pos g, if_pos g, own_id l (by omega), Option.bind_some]
    simp only
    have := boOther_l0 r c l g.2.1 hl6 r c l.length 0 k l (by omega) (by omega) (by simp)
    rw [show ((0 : Nat) : Int) = 0 from rfl] at this
    rw [this]; rfl
  · rw [if_neg g, if_neg g]

theorem l1Has_l0 (a : Int) (l : List Int) (hl : l.length ≤ 2000000) : ∀ (d i k : Nat), i + d = l.length → d < k →
    spec_l1Has.l0 k a l (l.length : Int) (i : Int) = some ((l.drop i).contains a) := by
  intro d
  induction d with
  | zero =>
    intro i k hi hk
    obtain ⟨k, rfl⟩ : ∃ m, k = m + 1 := ⟨k - 1, by omega⟩
    simp only [spec_l1Has.l0]; rw [if_neg (by omega), List.drop_eq_nil_of_le (by omega)]; rfl
  | succ d ih =>
    intro i k hi hk
    obtain ⟨k, rfl⟩ : ∃ m, k = m + 1 := ⟨k - 1, by omega⟩
    have hlt : i < l.length := by omega
    simp only [spec_l1Has.l0]
    rw [if_pos (by omega), if_pos (by omega), if_pos (by omega), rd_nat l i hlt, w64 (by omega) (by omega), show ((i : Int) + 1) = ((i + 1 : Nat) : Int) from by omega, List.drop_eq_getElem_cons hlt, List.contains_cons]
    by_cases h : l[i] = a
    · rw [if_pos h]; simp [h]
    · rw [if_neg h, ih (i + 1) k (by omega) (by omega)]
      have : (a == l[i]) = false := beq_eq_false_iff_ne.2 (fun e => h e.symm)
      rw [this, Bool.false_or]
theorem e_l1Has (k : Nat) (l : List Int) (a : Int) (hl : l.length ≤ 2000000) (hk : l.length < k) : spec_l1Has.f k l a = some (l.contains a) := by
  unfold spec_l1Has.f
  have := l1Has_l0 a l hl l.length 0 k (by omega) hk
  simpa using this

theorem e_within (a b c : Int) : impl_within.f a b c = some (decide (b ≤ a ∧ a ≤ c)) := by
  unfold impl_within.f
  by_cases h : b ≤ a
  · rw [if_pos h]; simp [h]
  · rw [if_neg h]; simp [h]

theorem sIndex_l0 (a : Int) (l : List Int) (hl : l.length ≤ 2000000) : ∀ (d i k : Nat), i + d = l.length → d < k →
    ∃ r, slices_Index_int_int.l0 k l a (l.length : Int) (i : Int) = some r ∧ (decide (r ≥ 0)) = (l.drop i).contains a := by
  intro d
  induction d with
  | zero =>
    intro i k hi hk
    obtain ⟨k, rfl⟩ : ∃ m, k = m + 1 := ⟨k - 1, by omega⟩
    simp only [slices_Index_int_int.l0]; rw [if_neg (by omega), List.drop_eq_nil_of_le (by omega)]; exact ⟨_, rfl, rfl⟩
  | succ d ih =>
    intro i k hi hk
    obtain ⟨k, rfl⟩ : ∃ m, k = m + 1 := ⟨k - 1, by omega⟩
    have hlt : i < l.length := by omega
    simp only [slices_Index_int_int.l0]
    rw [if_pos (by omega), if_pos (by omega), if_pos (by omega), rd_nat l i hlt, w64 (by omega) (by omega), show ((i : Int) + 1) = ((i + 1 : Nat) : Int) from by omega, List.drop_eq_getElem_cons hlt, List.contains_cons]
    by_cases h : a = l[i]
    · rw [if_pos h]; exact ⟨_, rfl, by simp [h]⟩
    · rw [if_neg h]
      obtain ⟨r, h1, h2⟩ := ih (i + 1) k (by omega) (by omega)
      have : (a == l[i]) = false := beq_eq_false_iff_ne.2 h
      exact ⟨r, h1, by rw [this, Bool.false_or]; exact h2⟩
theorem i_Contains (k : Nat) (l : List Int) (a : Int) (hl : l.length ≤ 2000000) (hk : l.length < k) : slices_Contains_int_int.f k l a = some (l.contains a) := by
  unfold slices_Contains_int_int.f slices_Index_int_int.f
  obtain ⟨r, h1, h2⟩ := sIndex_l0 a l hl l.length 0 k (by omega) hk
  rw [show ((0 : Nat) : Int) = 0 from rfl] at h1
  rw [h1]; simp only [Option.bind_some]; rw [h2]; simp

/-- From i on, no number stands before. -/
def preP (p : List Int) : Nat → Nat → Bool
  | 0, _ => true
  | d + 1, i => !((p.take i).contains (rd p (i : Int))) && preP p d (i + 1)
/-- Is a list an order of n rows? -/
def permB (p : List Int) (n : Int) : Bool := decide ((p.length : Int) = n) && (decide (∀ x ∈ p, 0 ≤ x ∧ x ≤ n - 1) && preP p p.length 0)
theorem all_cons (a lo hi : Int) (t : List Int) : (decide (∀ x ∈ a :: t, lo ≤ x ∧ x ≤ hi)) = (decide (lo ≤ a ∧ a ≤ hi) && decide (∀ x ∈ t, lo ≤ x ∧ x ≤ hi)) := by simp only [List.forall_mem_cons, Bool.decide_and]
theorem isPerm_l0 (p : List Int) (n : Int) (hn : 1 ≤ n ∧ n ≤ 6) (hp : p.length ≤ 2000) : ∀ (d i k : Nat), i + d = p.length → d + 3000 < k → impl_isPerm.l0 k p n p (p.length : Int) (i : Int) = some (decide (∀ x ∈ p.drop i, 0 ≤ x ∧ x ≤ n - 1) && preP p d i) := by
  intro d
  induction d with
  | zero =>
    intro i k hi hk
    obtain ⟨k, rfl⟩ : ∃ m, k = m + 1 := ⟨k - 1, by omega⟩
    rw [impl_isPerm.l0, if_neg (by omega), List.drop_eq_nil_of_le (by omega)]; simp [preP]
  | succ d ih =>
    intro i k hi hk
    obtain ⟨k, rfl⟩ : ∃ m, k = m + 1 := ⟨k - 1, by omega⟩
    have hlt : i < p.length := by omega
    rw [impl_isPerm.l0, if_pos (by omega), if_pos (by omega), if_pos (by omega), w64 (x := n - 1) (by omega) (by omega), e_within, Option.bind_some, List.drop_eq_getElem_cons hlt, rd_nat p i hlt]
    rw [all_cons, preP, rd_nat p i hlt]
    by_cases hw : 0 ≤ p[i] ∧ p[i] ≤ n - 1
    · rw [decide_eq_true hw, if_pos rfl, if_pos (by omega), Int.toNat_natCast, i_Contains k _ _ (by rw [List.length_take]; omega) (by rw [List.length_take]; omega), w64 (x := (i : Int) + 1) (by omega) (by omega), show ((i : Int) + 1) = ((i + 1 : Nat) : Int) from by omega, ih (i + 1) k (by omega) (by omega), Option.bind_some]
      generalize (p.take i).contains p[i] = q
      cases q <;> simp
    · rw [decide_eq_false hw, if_neg (by decide)]; simp
theorem i_isPerm (k : Nat) (p : List Int) (n : Int) (hn : 1 ≤ n ∧ n ≤ 6) (hk : 10000 ≤ k) : impl_isPerm.f k p n = some (permB p n) := by
  unfold impl_isPerm.f permB
  by_cases h : (p.length : Int) = n
  · have := isPerm_l0 p n hn (by omega) p.length 0 k (by omega) (by omega)
    rw [show ((0 : Nat) : Int) = 0 from rfl] at this
    rw [if_pos h, this, decide_eq_true h]; simp
  · rw [if_neg h, decide_eq_false h]; simp
def ordOut (r c : Int) (l p : List Int) : Int × Int × List Int × Bool := if GoodB r c l ∧ permB p r = true then (r, c, p.map (fun x => rd l x), true) else (0, 0, [], false)
theorem ordOut_len (r c : Int) (l p : List Int) : (ordOut r c l p).2.2.1.length ≤ 6 := by
  unfold ordOut
  split
  · rename_i h
    have h1 := h.1.1
    have h2 := h.2
    unfold permB at h2
    simp only [Bool.and_eq_true, decide_eq_true_eq] at h2
    simp only [List.length_map]; omega
  · simp
theorem i_OrderRows (k : Nat) (r c : Int) (l p : List Int) (hk : 10000 ≤ k) : impl_OrderRows.f k r c l p = some (ordOut r c l p) := by
  unfold impl_OrderRows.f ordOut
  by_cases g : GoodB r c l
  · have h1 := g.1
    have h3 := g.2.2.1
    rw [if_pos g, i_isPerm k p r h1 hk, Option.bind_some]
    by_cases hb : permB p r = true
    · have h2 := hb
      unfold permB at h2
      simp only [Bool.and_eq_true, decide_eq_true_eq] at h2
      rw [if_pos hb, if_pos (show p.length = l.length ∧ (p.all fun x => decide (0 ≤ x ∧ x < (l.length : Int))) = true from ⟨by omega, List.all_eq_true.2 fun x hx => decide_eq_true (by have := h2.2.1 x hx; omega)⟩), if_pos ⟨g, hb⟩]
    · rw [if_neg hb, if_neg (fun x => hb x.2)]
  · rw [if_neg g, if_neg (fun x => g x.1)]

theorem boOrder_l0 (p : List Int) (hp : p.length ≤ 2000) : ∀ (d i k : Nat), i + d = p.length → d + 3000 < k → spec_boOrder.l0 k p p (p.length : Int) (i : Int) = some (preP p d i) := by
  intro d
  induction d with
  | zero =>
    intro i k hi hk
    obtain ⟨k, rfl⟩ : ∃ m, k = m + 1 := ⟨k - 1, by omega⟩
    rw [spec_boOrder.l0, if_neg (by omega)]; rfl
  | succ d ih =>
    intro i k hi hk
    obtain ⟨k, rfl⟩ : ∃ m, k = m + 1 := ⟨k - 1, by omega⟩
    have hlt : i < p.length := by omega
    rw [spec_boOrder.l0, if_pos (by omega), if_pos (by omega), if_pos (by omega), if_pos (by omega), Int.toNat_natCast, e_l1Has k _ _ (by rw [List.length_take]; omega) (by rw [List.length_take]; omega), w64 (x := (i : Int) + 1) (by omega) (by omega), show ((i : Int) + 1) = ((i + 1 : Nat) : Int) from by omega, ih (i + 1) k (by omega) (by omega), Option.bind_some, preP]
    generalize (p.take i).contains (rd p (i : Int)) = q
    cases q <;> simp
theorem e_boOrder (k : Nat) (p : List Int) (n : Int) (hn : 1 ≤ n ∧ n ≤ 6) (hp : p.length ≤ 1048576) (hk : 2000000 ≤ k) : spec_boOrder.f k p n = some (permB p n) := by
  unfold spec_boOrder.f permB
  obtain ⟨k, rfl⟩ : ∃ m, k = m + 1 := ⟨k - 1, by omega⟩
  by_cases h : (p.length : Int) = n
  · rw [if_pos h, w64 (by omega) (by omega), e_l1All _ p _ _ (by omega) (by omega), Option.bind_some, spec_boOrder.j0, decide_eq_true h]
    by_cases ha : ∀ x ∈ p, 0 ≤ x ∧ x ≤ n - 1
    · rw [decide_eq_true ha, if_neg (by decide)]
      have := boOrder_l0 p (by omega) p.length 0 k (by omega) (by omega)
      rw [show ((0 : Nat) : Int) = 0 from rfl] at this
      rw [this]; simp
    · rw [decide_eq_false ha, if_pos (by decide)]; simp
  · rw [if_neg h, spec_boOrder.j0, if_pos rfl, decide_eq_false h]; simp
theorem order_l0 (r c : Int) (l p : List Int) (hl : p.length = l.length) (hl6 : l.length ≤ 6) (hp : ∀ x ∈ p, 0 ≤ x ∧ x < (l.length : Int)) (R C : Int) : ∀ (d i k : Nat) (y : List Int), i + d = p.length → d < k → y = (p.take i).map (fun x => rd l x) ++ l.drop i → spec_OrderRows.l0 k p (p.length : Int) (i : Int) r c l R C y = some (R, C, p.map (fun x => rd l x), true) := by
  intro d
  induction d with
  | zero =>
    intro i k y hi hk hy
    obtain ⟨k, rfl⟩ : ∃ m, k = m + 1 := ⟨k - 1, by omega⟩
    rw [spec_OrderRows.l0, if_neg (by omega), hy, List.take_of_length_le (by omega), List.drop_eq_nil_of_le (by omega), List.append_nil]
  | succ d ih =>
    intro i k y hi hk hy
    obtain ⟨k, rfl⟩ : ∃ m, k = m + 1 := ⟨k - 1, by omega⟩
    have hlt : i < p.length := by omega
    have hpi := hp p[i] (List.getElem_mem hlt)
    have hyl : y.length = l.length := by rw [hy]; simp; omega
    rw [spec_OrderRows.l0, if_pos (by omega), if_pos (by omega), if_pos (by omega), rd_nat p i hlt, if_pos (by omega), if_pos (by omega), if_pos (by omega), w64 (x := (i : Int) + 1) (by omega) (by omega), show ((i : Int) + 1) = ((i + 1 : Nat) : Int) from by omega, Int.toNat_natCast]
    refine ih (i + 1) k _ (by omega) (by omega) ?_
    rw [hy, List.set_append_right _ _ (by simp; omega), List.length_map, List.length_take, Nat.min_eq_left (by omega), Nat.sub_self, List.drop_eq_getElem_cons (by omega), List.set_cons_zero, List.take_succ_eq_append_getElem hlt, List.map_append, List.append_assoc]
    rfl
theorem e_OrderRows (k : Nat) (r c : Int) (l p : List Int) (hl : l.length ≤ 1048576) (hp : p.length ≤ 1048576) (hk2 : 2000010 ≤ k) : spec_OrderRows.f k r c l p = some (ordOut r c l p) := by
  unfold spec_OrderRows.f ordOut
  rw [e_boGood k r c l (by omega) (by omega)]
  simp only [Option.bind_some, decide_eq_true_eq]
  obtain ⟨k, rfl⟩ : ∃ m, k = m + 1 := ⟨k - 1, by omega⟩
  by_cases g : GoodB r c l
  · have h1 := g.1
    have h3 := g.2.2.1
    have hl6 := goodB_len g
    rw [if_pos g, e_boOrder _ p r h1 hp (by omega), Option.bind_some]
    by_cases hb : permB p r = true
    · have h2 := hb
      unfold permB at h2
      simp only [Bool.and_eq_true, decide_eq_true_eq] at h2
      rw [if_pos ⟨g, hb⟩, hb, spec_OrderRows.j0, if_neg (by decide), own_id l (by omega), Option.bind_some]
      simp only
      have := order_l0 r c l p (by omega) hl6 (fun x hx => by have := h2.2.1 x hx; omega) r c p.length 0 k l (by omega) (by omega) (by simp)
      rw [show ((0 : Nat) : Int) = 0 from rfl] at this
      rw [this]
    · rw [if_neg (fun x => hb x.2), Bool.eq_false_iff.2 hb, spec_OrderRows.j0]; rfl
  · rw [if_neg g, if_neg (fun x => g x.1), spec_OrderRows.j0]; rfl

theorem ph_f (m : Int) : ∀ p : List Int, p.Pairwise (fun a b => a ≠ b) → p.length ≤ (p.filter fun x => decide (x ≠ m)).length + 1
  | [], _ => by simp
  | a :: t, h => by
    rw [List.pairwise_cons] at h
    by_cases e : a = m
    · have : t.filter (fun x => decide (x ≠ m)) = t := List.filter_eq_self.2 fun x hx => by
        have := h.1 x hx
        simp; omega
      rw [List.filter_cons_of_neg (by simp [e]), this]; simp
    · rw [List.filter_cons_of_pos (by simp [e])]
      have := ph_f m t h.2
      simp only [List.length_cons]; omega
theorem ph : ∀ (m : Nat) (p : List Int), p.Pairwise (fun a b => a ≠ b) → (∀ x ∈ p, 0 ≤ x ∧ x < (m : Int)) → p.length ≤ m
  | 0, [], _, _ => by simp
  | 0, a :: t, _, h => by have := h a (by simp); omega
  | m + 1, p, hp, h => by
    have h1 := ph_f (m : Int) p hp
    have h2 := ph m (p.filter fun x => decide (x ≠ (m : Int))) (hp.filter _) (fun x hx => by
      have hm := List.mem_filter.1 hx
      have := h x hm.1
      have h3 := hm.2
      simp at h3
      omega)
    omega
theorem ph_all (p : List Int) (hp : p.Pairwise (fun a b => a ≠ b)) (h : ∀ x ∈ p, 0 ≤ x ∧ x < (p.length : Int)) (r : Int) (hr : 0 ≤ r ∧ r < (p.length : Int)) : r ∈ p := by
  by_cases hm : r ∈ p
  · exact hm
  · exfalso
    have := ph p.length (r :: p) (List.pairwise_cons.2 ⟨fun x hx e => hm (e ▸ hx), hp⟩) (fun x hx => by
      rcases List.mem_cons.1 hx with rfl | hx
      · exact hr
      · exact h x hx)
    simp only [List.length_cons] at this
    omega
theorem preP_to (p : List Int) : ∀ (d i : Nat), i + d = p.length → preP p d i = true → ∀ a b : Nat, a < b → i ≤ b → b < p.length → rd p (a : Int) ≠ rd p (b : Int)
  | 0, i, hi, _, a, b, _, h2, h3 => by omega
  | d + 1, i, hi, h, a, b, h1, h2, h3 => by
    rw [preP, Bool.and_eq_true, Bool.not_eq_true'] at h
    by_cases e : b = i
    · subst e
      intro he
      have hm : rd p (b : Int) ∈ p.take b := by
        rw [← he, rd_nat p a (by omega), List.mem_iff_getElem]
        exact ⟨a, by rw [List.length_take]; omega, by rw [List.getElem_take]⟩
      have := h.1
      rw [List.contains_iff_mem.2 hm] at this
      cases this
    · exact preP_to p d (i + 1) (by omega) h.2 a b h1 (by omega) h3
theorem preP_of (p : List Int) (h : ∀ a b : Nat, a < b → b < p.length → rd p (a : Int) ≠ rd p (b : Int)) : ∀ (d i : Nat), i + d = p.length → preP p d i = true
  | 0, _, _ => rfl
  | d + 1, i, hi => by
    rw [preP, preP_of p h d (i + 1) (by omega), Bool.and_true, Bool.not_eq_true', ← Bool.not_eq_true, List.contains_iff_mem]
    intro hm
    obtain ⟨a, ha, e⟩ := List.mem_iff_getElem.1 hm
    rw [List.length_take] at ha
    rw [List.getElem_take] at e
    exact h a i (by omega) (by omega) (by rw [rd_nat p a (by omega)]; exact e)
theorem perm_facts (p : List Int) (n : Int) (h : permB p n = true) : (p.length : Int) = n ∧ (∀ a : Nat, a < p.length → 0 ≤ rd p (a : Int) ∧ rd p (a : Int) < n) ∧ (∀ a b : Nat, a < b → b < p.length → rd p (a : Int) ≠ rd p (b : Int)) ∧ ∀ r : Nat, (r : Int) < n → ∃ a : Nat, a < p.length ∧ rd p (a : Int) = (r : Int) := by
  unfold permB at h
  simp only [Bool.and_eq_true, decide_eq_true_eq] at h
  obtain ⟨h1, h2, h3⟩ := h
  have hd := preP_to p p.length 0 (by omega) h3
  refine ⟨h1, fun a ha => ?_, fun a b hab hb => hd a b hab (by omega) hb, fun r hr => ?_⟩
  · rw [rd_nat p a ha]
    have := h2 _ (List.getElem_mem ha); omega
  · have hm := ph_all p (List.pairwise_iff_getElem.2 fun i j hi hj hij e => hd i j hij (by omega) hj (by rw [rd_nat p i hi, rd_nat p j hj]; exact e)) (fun x hx => by have := h2 x hx; omega) (r : Int) (by omega)
    obtain ⟨a, ha, e⟩ := List.mem_iff_getElem.1 hm
    exact ⟨a, ha, by rw [rd_nat p a ha]; exact e⟩
/-- Where each number stands. -/
def bkL (p : List Int) : Nat → Nat → List Int → List Int
  | 0, _, out => out
  | d + 1, i, out => bkL p d (i + 1) (out.set (rd p (i : Int)).toNat (i : Int))
theorem bkL_len (p : List Int) : ∀ d i out, (bkL p d i out).length = out.length
  | 0, _, _ => rfl
  | d + 1, i, out => by rw [bkL, bkL_len p d, List.length_set]
theorem bkL_miss (p : List Int) (j : Nat) : ∀ (d i : Nat) (out : List Int), (∀ q : Nat, i ≤ q → q < i + d → 0 ≤ rd p (q : Int) ∧ rd p (q : Int) < (out.length : Int)) → (∀ q : Nat, i ≤ q → q < i + d → rd p (q : Int) ≠ (j : Int)) → rd (bkL p d i out) (j : Int) = rd out (j : Int)
  | 0, i, out, _, _ => rfl
  | d + 1, i, out, hb, h => by
    have b0 := hb i (Nat.le_refl i) (by omega)
    have h0 := h i (Nat.le_refl i) (by omega)
    rw [bkL, bkL_miss p j d (i + 1) _ (fun q h1 h2 => by rw [List.length_set]; exact hb q (by omega) (by omega)) (fun q h1 h2 => h q (by omega) (by omega))]
    unfold rd
    simp only [List.getD, Int.toNat_natCast, List.getElem?_set]
    rw [if_neg]
    unfold rd at h0 b0
    simp only [List.getD, Int.toNat_natCast] at h0 b0
    omega
theorem bkL_hit (p : List Int) (j a : Nat) (ha : rd p (a : Int) = (j : Int)) : ∀ (d i : Nat) (out : List Int), i ≤ a → a < i + d → j < out.length → (∀ q : Nat, i ≤ q → q < i + d → 0 ≤ rd p (q : Int) ∧ rd p (q : Int) < (out.length : Int)) → (∀ q : Nat, a < q → q < i + d → rd p (q : Int) ≠ (j : Int)) → rd (bkL p d i out) (j : Int) = (a : Int)
  | 0, i, out, h1, h2, _, _, _ => by omega
  | d + 1, i, out, h1, h2, hj, hb, hd => by
    rw [bkL]
    by_cases e : i = a
    · subst e
      rw [bkL_miss p j d (i + 1) _ (fun q h1 h2 => by rw [List.length_set]; exact hb q (by omega) (by omega)) (fun q h1 h2 => hd q (by omega) (by omega)), ha, Int.toNat_natCast, rd_nat _ j (by simpa using hj)]
      simp
    · exact bkL_hit p j a ha d (i + 1) _ (by omega) (by omega) (by simpa using hj) (fun q h1 h2 => by rw [List.length_set]; exact hb q (by omega) (by omega)) (fun q h1 h2 => hd q h1 (by omega))
theorem rd_map (f : Int → Int) (p : List Int) (a : Nat) (h : a < p.length) : rd (p.map f) (a : Int) = f (rd p (a : Int)) := by
  rw [rd_nat _ a (by simpa using h), rd_nat p a h]; simp
theorem order_back (l p : List Int) (n : Int) (hn : (l.length : Int) = n) (h : permB p n = true) : permB (bkL p p.length 0 (List.replicate p.length 0)) n = true ∧ (bkL p p.length 0 (List.replicate p.length 0)).map (fun x => rd (p.map fun x => rd l x) x) = l := by
  obtain ⟨h1, h2, h3, h4⟩ := perm_facts p n h
  have hb : ∀ q : Nat, 0 ≤ q → q < 0 + p.length → 0 ≤ rd p (q : Int) ∧ rd p (q : Int) < ((List.replicate p.length (0 : Int)).length : Int) := fun q _ hq => by
    have := h2 q (by omega)
    rw [List.length_replicate]; omega
  have hit : ∀ a j : Nat, a < p.length → rd p (a : Int) = (j : Int) → rd (bkL p p.length 0 (List.replicate p.length 0)) (j : Int) = (a : Int) := by
    intro a j ha e
    have := h2 a ha
    exact bkL_hit p j a e p.length 0 _ (by omega) (by omega) (by rw [List.length_replicate]; omega) hb (fun q k1 k2 k3 => h3 a q k1 (by omega) (by rw [e, k3]))
  have hbl : (bkL p p.length 0 (List.replicate p.length 0)).length = p.length := by rw [bkL_len, List.length_replicate]
  generalize bkL p p.length 0 (List.replicate p.length 0) = q at hit hbl
  constructor
  · unfold permB
    rw [decide_eq_true (show (q.length : Int) = n by omega), preP_of q (fun a b hab hb e => ?_) q.length 0 (by omega), decide_eq_true]
    · rfl
    · intro x hx
      obtain ⟨j, hj, rfl⟩ := List.getElem_of_mem hx
      obtain ⟨a, ha, e⟩ := h4 j (by omega)
      have := hit a j ha e
      rw [rd_nat q j hj] at this
      omega
    · obtain ⟨a', ha', e1⟩ := h4 a (by omega)
      obtain ⟨b', hb', e2⟩ := h4 b (by omega)
      have k1 := hit a' a ha' e1
      have k2 := hit b' b hb' e2
      have : a' = b' := by omega
      subst this
      omega
  · apply List.ext_getElem
    · rw [List.length_map]; omega
    · intro j k1 k2
      rw [List.length_map] at k1
      obtain ⟨a, ha, e⟩ := h4 j (by omega)
      have := hit a j ha e
      rw [List.getElem_map, ← rd_nat q j k1, this, rd_map _ p a ha, e, rd_nat l j k2]

theorem e_isSide (a : Int) : impl_isSide.f a = some (decide (1 ≤ a ∧ a ≤ 6)) := by
  unfold impl_isSide.f; rw [e_within]; rfl

def mkB (l : List UInt8) : ByteArray := ⟨l.toArray⟩
theorem mkB_data (s : ByteArray) : mkB s.data.toList = s := rfl
theorem mkB_toList (l : List UInt8) : (mkB l).data.toList = l := rfl
theorem spl_eq (s : ByteArray) : spl s = (splitL s.data.toList).map mkB := rfl
theorem ba_size (s : ByteArray) : s.size = s.data.toList.length := by simp
theorem bt_get (s : ByteArray) (i : Nat) (h : i < s.data.toList.length) : bt s (i : Int) = ((s.data.toList[i]).toNat : Int) := by
  have h2 : i < s.size := by rw [ba_size]; exact h
  unfold bt
  rw [dif_pos (by simpa using h2)]
  rfl
theorem rdOf_nat (l : List ByteArray) (i : Nat) (h : i < l.length) : rdOf ByteArray.empty l (i : Int) = l[i] := by
  unfold rdOf; simp [List.getD, h]
theorem spl_none : ∀ (L : List UInt8), 47 ∉ L → splitL L = [L]
  | [], _ => rfl
  | b :: t, h => by
    simp only [List.mem_cons, not_or] at h
    rw [splitL, if_neg (fun e => h.1 e.symm), spl_none t h.2]
theorem spl_cut : ∀ (A B : List UInt8), 47 ∉ A → splitL (A ++ 47 :: B) = A :: splitL B
  | [], B, _ => by rw [List.nil_append, splitL, if_pos rfl]
  | b :: A, B, h => by
    simp only [List.mem_cons, not_or] at h
    rw [List.cons_append, splitL, if_neg (fun e => h.1 e.symm), spl_cut A B h.2]
theorem splitL_len : ∀ L : List UInt8, 1 ≤ (splitL L).length ∧ (splitL L).length ≤ L.length + 1
  | [] => by simp [splitL]
  | b :: t => by
    have := splitL_len t
    rw [splitL]
    split
    · simp; omega
    · split
      · simp
      · rename_i h r e; rw [e] at this; simp at this ⊢; omega
theorem splitL_ne (L : List UInt8) : splitL L ≠ [] := by intro h; have := (splitL_len L).1; rw [h] at this; simp at this
theorem splitL_part : ∀ (L : List UInt8), ∀ w ∈ splitL L, w.length ≤ L.length ∧ 47 ∉ w
  | [], w, h => by simp [splitL] at h; subst h; simp
  | b :: t, w, h => by
    rw [splitL] at h
    split at h
    · rcases List.mem_cons.1 h with rfl | h
      · simp
      · have := splitL_part t w h; exact ⟨by simp; omega, this.2⟩
    · rename_i hb
      split at h
      · rename_i e; exact absurd e (splitL_ne t)
      · rename_i hh r e
        rcases List.mem_cons.1 h with rfl | h
        · have := splitL_part t hh (by rw [e]; simp)
          exact ⟨by simp; omega, by simp only [List.mem_cons, not_or]; exact ⟨fun x => hb x.symm, this.2⟩⟩
        · have := splitL_part t w (by rw [e]; simp [h]); exact ⟨by simp; omega, this.2⟩
theorem extr (s : ByteArray) (a b : Nat) : s.extract a b = mkB ((s.data.toList.drop a).take (b - a)) := by
  apply ByteArray.ext; apply Array.toList_inj.1
  rw [ByteArray.data_extract, Array.toList_extract, List.extract_eq_take_drop]; rfl
theorem split_l0 (s : ByteArray) (hs : s.size ≤ 1000) : ∀ (d i a k : Nat) (out : List ByteArray), i + d = s.data.toList.length → a ≤ i → d < k → out.length ≤ i → (∀ j (h : j < s.data.toList.length), a ≤ j → j < i → s.data.toList[j] ≠ 47) →
    spec_l1Split.l0 k s 47 out (a : Int) (i : Int) = some (out ++ (splitL (s.data.toList.drop a)).map mkB) := by
  have hsz := ba_size s
  intro d
  induction d with
  | zero =>
    intro i a k out hi ha hk ho hno
    obtain ⟨k, rfl⟩ : ∃ m, k = m + 1 := ⟨k - 1, by omega⟩
    simp only [spec_l1Split.l0]
    rw [if_neg (by omega), if_pos (by omega), if_pos (by omega), if_pos (by omega), Int.toNat_natCast, extr, spl_none]
    · rw [List.take_of_length_le (by rw [List.length_drop]; omega)]; rfl
    · intro hm
      obtain ⟨j, hj, e⟩ := List.getElem_of_mem hm
      rw [List.length_drop] at hj
      rw [List.getElem_drop] at e
      exact hno (a + j) (by omega) (by omega) (by omega) e
  | succ d ih =>
    intro i a k out hi ha hk ho hno
    obtain ⟨k, rfl⟩ : ∃ m, k = m + 1 := ⟨k - 1, by omega⟩
    have hlt : i < s.data.toList.length := by omega
    simp only [spec_l1Split.l0]
    rw [if_pos (show (i : Int) < (s.size : Int) by omega), if_pos (show (0 : Int) ≤ (i : Int) by omega), bt_get s i hlt, w64 (by omega) (by omega), show ((i : Int) + 1) = ((i + 1 : Nat) : Int) from by omega]
    by_cases e : s.data.toList[i] = 47
    · rw [if_pos (by rw [e]; rfl), if_pos (show (0 : Int) ≤ (a : Int) by omega), if_pos (show (a : Int) ≤ (i : Int) by omega), if_pos (show (i : Int) ≤ (s.size : Int) by omega), if_pos (by omega), Int.toNat_natCast, Int.toNat_natCast, ih (i + 1) (i + 1) k _ (by omega) (by omega) (by omega) (by simp; omega) (fun j _ h1 h2 => by omega), extr]
      have hcut : s.data.toList.drop a = (s.data.toList.drop a).take (i - a) ++ 47 :: s.data.toList.drop (i + 1) := by
        conv => lhs; rw [← List.take_append_drop (i - a) (s.data.toList.drop a)]
        rw [List.drop_drop, show a + (i - a) = i by omega, List.drop_eq_getElem_cons hlt, e]
      conv => rhs; rw [hcut]
      rw [spl_cut]
      · rw [List.map_cons, List.append_assoc]; rfl
      · intro hm
        obtain ⟨j, hj, e2⟩ := List.getElem_of_mem hm
        simp only [List.length_take, List.length_drop] at hj
        rw [List.getElem_take, List.getElem_drop] at e2
        exact hno (a + j) (by omega) (by omega) (by omega) e2
    · rw [if_neg (by intro h; exact e (by
        have := UInt8.toNat_inj (a := s.data.toList[i]) (b := 47)
        exact this.1 (by have h3 : (s.data.toList[i]).toNat = 47 := by omega
                         rw [h3]; rfl))), ih (i + 1) a k out (by omega) (by omega) (by omega) (by omega) (fun j hj h1 h2 => by
        by_cases h3 : j = i
        · subst h3; exact e
        · exact hno j hj h1 (by omega))]
theorem e_l1Split (k : Nat) (s : ByteArray) (hs : s.size ≤ 1000) (hk : s.size < k) : spec_l1Split.f k s 47 = some (spl s) := by
  unfold spec_l1Split.f
  have := split_l0 s hs s.data.toList.length 0 0 k [] (by omega) (by omega) (by rw [← ba_size]; omega) (by simp) (fun j _ _ h => by omega)
  rw [List.drop_zero, List.nil_append] at this
  simpa [spl_eq] using this
/-- What a row's bytes say, from a column on. -/
def evL : List UInt8 → Nat → Int
  | [], _ => 0
  | b :: t, c => (if b = 49 then 2 ^ c else 0) + evL t (c + 1)
def okD (t : List UInt8) : Bool := t.all fun b => b == 48 || b == 49
theorem evL_bd : ∀ (t : List UInt8) (c : Nat), 0 ≤ evL t c ∧ evL t c ≤ 2 ^ (c + t.length) - 2 ^ c
  | [], c => by simp [evL]
  | b :: t, c => by
    have := evL_bd t (c + 1)
    have hp : (2 : Int) ^ (c + 1) = 2 * 2 ^ c := by rw [Int.pow_succ]; omega
    have h0 : (0 : Int) < 2 ^ c := Int.pow_pos (by decide)
    rw [evL, List.length_cons, show c + (t.length + 1) = c + 1 + t.length by omega]
    split <;> omega
theorem shl_pow2 (c : Nat) (h : c ≤ 61) : shl .i64 1 (c : Int) = 2 ^ c := by
  have : ∀ c : Fin 62, shl .i64 1 (c.val : Int) = 2 ^ c.val := by decide +kernel
  exact this ⟨c, by omega⟩
theorem pow_61 (c : Nat) (h : c ≤ 61) : (2 : Int) ^ c ≤ 2305843009213693952 := by
  have : ∀ c : Fin 62, (2 : Int) ^ c.val ≤ 2305843009213693952 := by decide +kernel
  exact this ⟨c, by omega⟩
theorem u8_ne (b : UInt8) (n : Nat) (hn : n < 256) (h : b ≠ UInt8.ofNat n) : ((b.toNat : Int)) ≠ (n : Int) := by
  intro e
  apply h
  have h1 : b.toNat = n := by omega
  rw [← h1]; simp
theorem pars_l1 (s w : ByteArray) (parts : List ByteArray) (n i : Int) (R C : Int) (m : List Int) (hw : w.size ≤ 60) (hm : m.length ≤ 1000) : ∀ (t : List UInt8) (c k : Nat) (v : Int), w.data.toList.drop c = t → c + t.length = w.data.toList.length → 0 ≤ v → v < 2 ^ c →
    spec_boParse.l1 (k + t.length + 1) s w v (c : Int) parts n i R C m = spec_boParse.l0 k s parts n (wrap64 (i + 1)) R (w.size : Int) (m ++ [v + evL t c]) := by
  have hsz := ba_size w
  intro t
  induction t with
  | nil =>
    intro c k v ht hc h0 h1
    simp only [List.length_nil, Nat.add_zero] at hc ⊢
    simp only [spec_boParse.l1]
    rw [if_neg (by omega), if_pos (by omega), evL, Int.add_zero]
  | cons b t ih =>
    intro c k v ht hc h0 h1
    simp only [List.length_cons] at hc ⊢
    have hlt : c < w.data.toList.length := by omega
    have hd := List.drop_eq_getElem_cons hlt
    rw [ht] at hd
    injection hd with e1 e2
    have hp := pow_61 (c + 1) (by omega)
    have hp2 : (2 : Int) ^ (c + 1) = 2 * 2 ^ c := by rw [Int.pow_succ]; omega
    have h2c : (0 : Int) < 2 ^ c := Int.pow_pos (by decide)
    obtain ⟨K, hK⟩ : ∃ K, K = k + t.length + 1 := ⟨_, rfl⟩
    rw [show k + (t.length + 1) + 1 = K + 1 by omega]
    simp only [spec_boParse.l1]
    rw [hK]
    rw [if_pos (show (c : Int) < (w.size : Int) by omega), if_pos (show (0 : Int) ≤ (c : Int) by omega), bt_get w c hlt, ← e1]
    rw [w64 (x := (c : Int) + 1) (by omega) (by omega), show ((c : Int) + 1) = ((c + 1 : Nat) : Int) from by omega]
    by_cases e : b = 49
    · subst e
      rw [if_pos (show (((49 : UInt8).toNat : Nat) : Int) = 49 from rfl), shl_pow2 c (by omega), w64 (by omega) (by omega), ih (c + 1) k _ e2.symm (by omega) (by omega) (by omega), evL, if_pos rfl, Int.add_assoc]
    · rw [if_neg (show ¬ ((b.toNat : Int) = 49) from u8_ne b 49 (by decide) e), ih (c + 1) k v e2.symm (by omega) h0 (by omega), evL, if_neg e, Int.zero_add]
def lastC (C : Int) : List ByteArray → Int
  | [] => C
  | w :: t => lastC (w.size : Int) t
def spTail (s : ByteArray) (m : List Int) (C : Int) : Int × Int × List Int × Bool := if GoodB (m.length : Int) C m ∧ boardT C.toNat m = s then ((m.length : Int), C, m, true) else (0, 0, [], false)
theorem pars_l0 (s : ByteArray) (parts : List ByteArray) (hp : parts.length ≤ 100) (hw : ∀ w ∈ parts, w.size ≤ 60) : ∀ (t : List ByteArray) (i k : Nat) (R C : Int) (m : List Int), parts.drop i = t → i + t.length = parts.length → t.length * 62 + 1000 < k → m.length = i →
    spec_boParse.l0 k s parts (parts.length : Int) (i : Int) R C m = some (spTail s (m ++ t.map fun w => evL w.data.toList 0) (lastC C t)) := by
  intro t
  induction t with
  | nil =>
    intro i k R C m ht hi hk hm
    obtain ⟨k, rfl⟩ : ∃ m, k = m + 1 := ⟨k - 1, by omega⟩
    simp only [List.length_nil, Nat.zero_mul] at hi hk
    simp only [spec_boParse.l0]
    rw [if_neg (by omega), e_boGood k _ _ _ (by omega) (by omega), List.map_nil, List.append_nil]
    simp only [Option.bind_some, decide_eq_true_eq, lastC]
    unfold spTail
    by_cases g : GoodB (m.length : Int) C m
    · rw [if_pos g, e_boText k _ _ _ g (by omega), Option.bind_some]
      by_cases e : boardT C.toNat m = s
      · rw [if_pos (by rw [e]), if_pos ⟨g, e⟩]
      · rw [if_neg (by
          intro h; apply e
          apply ByteArray.ext; apply Array.toList_inj.1
          rw [ByteArray.toList_eq, ByteArray.toList_eq] at h; exact h), if_neg (fun h => e h.2)]
    · rw [if_neg g, if_neg (fun h => g h.1)]
  | cons w t ih =>
    intro i k R C m ht hi hk hm
    simp only [List.length_cons, Nat.succ_mul] at hi hk
    have hlt : i < parts.length := by omega
    have hd := List.drop_eq_getElem_cons hlt
    rw [ht] at hd
    injection hd with e1 e2
    have hws : w.size ≤ 60 := hw w (by rw [e1]; exact List.getElem_mem hlt)
    have hsz := ba_size w
    obtain ⟨k, rfl⟩ : ∃ j, k = (j + w.data.toList.length + 1) + 1 := ⟨k - w.data.toList.length - 2, by omega⟩
    simp only [spec_boParse.l0]
    rw [if_pos (by omega), if_pos (by omega), if_pos (by omega), rdOf_nat parts i hlt, ← e1]
    have := pars_l1 s w parts (parts.length : Int) (i : Int) R C m hws (by omega) w.data.toList 0 k 0 (by simp) (by omega) (by omega) (by decide)
    rw [show ((0 : Nat) : Int) = 0 from rfl] at this
    rw [this, w64 (by omega) (by omega), show ((i : Int) + 1) = ((i + 1 : Nat) : Int) from by omega, ih (i + 1) k _ _ _ e2.symm (by omega) (by omega) (by simp; omega), List.map_cons, lastC, List.append_assoc, Int.zero_add]
    rfl
/-! ### the program's way -/
theorem add_or2 (v : Int) (c : Nat) (h0 : 0 ≤ v) (h1 : v < 2 ^ c) (hc : c ≤ 5) : Go.bits .or .i64 v (shl .i64 1 (c : Int)) = v + 2 ^ c := by
  have h : ∀ v : Fin 32, ∀ c : Fin 6, (v.val : Int) < 2 ^ c.val → Go.bits .or .i64 (v.val : Int) (shl .i64 1 (c.val : Int)) = (v.val : Int) + 2 ^ c.val := by decide +kernel
  have h32 : v < 32 := by
    have : ∀ c : Fin 6, (2 : Int) ^ c.val ≤ 32 := by decide +kernel
    have := this ⟨c, by omega⟩
    simp only at this
    omega
  obtain ⟨i, rfl⟩ := fin_of v 32 h0 (by omega)
  exact h i ⟨c, by omega⟩ h1
theorem iPar_l1 (i : Nat) (w : ByteArray) (parts : List ByteArray) (n : Int) (R C : Int) (hw : w.size ≤ 6) : ∀ (t : List UInt8) (c k : Nat) (m : List Int) (hi : i < m.length), w.data.toList.drop c = t → c + t.length = w.data.toList.length → 0 ≤ m[i] → m[i] < 2 ^ c → i ≤ 1000 →
    impl_ParseBoard.l1 (k + t.length + 1) (i : Int) w parts n (i : Int) (w.size : Int) (c : Int) R C m = if okD t = true then impl_ParseBoard.l0 k parts n ((i + 1 : Nat) : Int) R C (m.set i (m[i] + evL t c)) else some (0, 0, [], false) := by
  have hsz := ba_size w
  intro t
  induction t with
  | nil =>
    intro c k m hi ht hc h0 h1 h2
    simp only [List.length_nil, Nat.add_zero] at hc ⊢
    simp only [impl_ParseBoard.l1]
    rw [if_neg (by omega), w64 (by omega) (by omega), if_pos (by rfl), evL, Int.add_zero, List.set_getElem_self]; rfl
  | cons b t ih =>
    intro c k m hi ht hc h0 h1 h2
    simp only [List.length_cons] at hc ⊢
    have hlt : c < w.data.toList.length := by omega
    have hd := List.drop_eq_getElem_cons hlt
    rw [ht] at hd
    injection hd with e1 e2
    have hp2 : (2 : Int) ^ (c + 1) = 2 * 2 ^ c := by rw [Int.pow_succ]; omega
    have h2c : (0 : Int) < 2 ^ c := Int.pow_pos (by decide)
    obtain ⟨K, hK⟩ : ∃ K, K = k + t.length + 1 := ⟨_, rfl⟩
    rw [show k + (t.length + 1) + 1 = K + 1 by omega]
    simp only [impl_ParseBoard.l1]
    rw [hK, if_pos (show (c : Int) < (w.size : Int) by omega), if_pos (show (0 : Int) ≤ (c : Int) by omega)]
    rw [bt_get w c hlt, ← e1, w64 (x := (c : Int) + 1) (by omega) (by omega), show ((c : Int) + 1) = ((c + 1 : Nat) : Int) from by omega]
    have hok : okD (b :: t) = ((b == 48 || b == 49) && okD t) := rfl
    by_cases e : b = 49
    · subst e
      have hs1 : i < (m.set i (m[i] + 2 ^ c)).length := by simpa using hi
      have hs2 : (m.set i (m[i] + 2 ^ c))[i]'hs1 = m[i] + 2 ^ c := by simp
      have := ih (c + 1) k (m.set i (m[i] + 2 ^ c)) hs1 e2.symm (by omega) (by rw [hs2]; omega) (by rw [hs2]; omega) h2
      rw [hs2, List.set_set] at this
      simp only [show (((49 : UInt8).toNat : Nat) : Int) = 49 from rfl, if_true]
      simp only [show (c : Int) < (w.size : Int) by omega, show (0 : Int) ≤ (c : Int) by omega, show (0 : Int) ≤ (i : Int) by omega, show (i : Int) < (m.length : Int) by omega, if_true]
      rw [rd_nat m i hi, add_or2 m[i] c h0 h1 (by omega), Int.toNat_natCast, this, hok, evL, if_pos rfl, Int.add_assoc]
      rfl
    · have hn49 : ¬ ((b.toNat : Int) = 49) := u8_ne b 49 (by decide) e
      by_cases e0 : b = 48
      · subst e0
        have := ih (c + 1) k m hi e2.symm (by omega) h0 (by omega) h2
        simp only [show ¬ ((((48 : UInt8).toNat : Nat) : Int) = 49) from by decide, show (((48 : UInt8).toNat : Nat) : Int) = 48 from rfl, if_true, if_false, show (c : Int) < (w.size : Int) by omega, show (0 : Int) ≤ (c : Int) by omega]
        simp only [show ¬ ((48 : Int) = 49) by decide, if_false]
        rw [this, hok, evL, if_neg (show ¬ ((48 : UInt8) = 49) by decide), Int.zero_add]
        rfl
      · have hn48 : ¬ ((b.toNat : Int) = 48) := u8_ne b 48 (by decide) e0
        simp only [hn49, hn48, if_false, show (c : Int) < (w.size : Int) by omega, show (0 : Int) ≤ (c : Int) by omega, if_true]
        rw [hok, if_neg (by simp [e, e0])]
def rowOK (C : Int) (w : ByteArray) : Bool := decide ((w.size : Int) = C) && okD w.data.toList
theorem iPar_l0 (parts : List ByteArray) (hp : parts.length ≤ 6) (R C : Int) (hC : 0 ≤ C ∧ C ≤ 6) : ∀ (t : List ByteArray) (i k : Nat) (acc : List Int), parts.drop i = t → i + t.length = parts.length → acc.length = i → t.length * 9 < k →
    impl_ParseBoard.l0 k parts (parts.length : Int) (i : Int) R C (acc ++ List.replicate t.length 0) = some (if t.all (rowOK C) = true then (R, C, acc ++ t.map fun w => evL w.data.toList 0, true) else (0, 0, [], false)) := by
  intro t
  induction t with
  | nil =>
    intro i k acc ht hi ha hk
    obtain ⟨k, rfl⟩ : ∃ m, k = m + 1 := ⟨k - 1, by omega⟩
    simp only [List.length_nil] at hi
    simp only [impl_ParseBoard.l0]
    rw [if_neg (by omega)]; simp
  | cons w t ih =>
    intro i k acc ht hi ha hk
    simp only [List.length_cons, Nat.succ_mul] at hi hk
    have hlt : i < parts.length := by omega
    have hd := List.drop_eq_getElem_cons hlt
    rw [ht] at hd
    injection hd with e1 e2
    have hsz := ba_size w
    obtain ⟨k, rfl⟩ : ∃ m, k = m + 1 := ⟨k - 1, by omega⟩
    simp only [impl_ParseBoard.l0]
    rw [if_pos (show (i : Int) < (parts.length : Int) by omega), if_pos (show (0 : Int) ≤ (i : Int) by omega), if_pos (show (i : Int) < (parts.length : Int) by omega), rdOf_nat parts i hlt, ← e1]
    by_cases hw : (w.size : Int) = C
    · obtain ⟨k, rfl⟩ : ∃ j, k = j + w.data.toList.length + 1 := ⟨k - w.data.toList.length - 1, by omega⟩
      have hm : i < (acc ++ List.replicate (t.length + 1) (0 : Int)).length := by simp; omega
      have hv : (acc ++ List.replicate (t.length + 1) (0 : Int))[i]'hm = 0 := by
        rw [List.getElem_append_right (by omega)]; simp
      have := iPar_l1 i w parts (parts.length : Int) R C (by omega) w.data.toList 0 k _ hm (by simp) (by omega) (by rw [hv]; omega) (by rw [hv]; decide) (by omega)
      rw [if_pos hw, List.length_cons, show (0 : Int) = ((0 : Nat) : Int) from rfl]
      rw [show ((0 : Nat) : Int) = 0 from rfl] at this ⊢
      rw [this, hv, Int.zero_add]
      have hset : (acc ++ List.replicate (t.length + 1) (0 : Int)).set i (evL w.data.toList 0) = (acc ++ [evL w.data.toList 0]) ++ List.replicate t.length 0 := by
        rw [List.set_append_right _ _ (by omega), show i - acc.length = 0 by omega, List.replicate_succ, List.set_cons_zero, List.append_assoc]; rfl
      rw [hset, ih (i + 1) k (acc ++ [evL w.data.toList 0]) e2.symm (by omega) (by simp; omega) (by omega)]
      have hr : rowOK C w = okD w.data.toList := by unfold rowOK; rw [decide_eq_true hw, Bool.true_and]
      rw [List.all_cons, hr]
      cases okD w.data.toList with
      | true => simp
      | false => simp
    · rw [if_neg hw, List.all_cons]
      have hr : rowOK C w = false := by unfold rowOK; rw [decide_eq_false hw, Bool.false_and]
      rw [hr]; rfl
def prOut (s : ByteArray) : Int × Int × List Int × Bool := if 42 < s.size then (0, 0, [], false) else if (1 ≤ ((spl s).length : Int) ∧ ((spl s).length : Int) ≤ 6) ∧ (1 ≤ (((spl s).getD 0 ByteArray.empty).size : Int) ∧ (((spl s).getD 0 ByteArray.empty).size : Int) ≤ 6) ∧ (spl s).all (rowOK (((spl s).getD 0 ByteArray.empty).size : Int)) = true then (((spl s).length : Int), (((spl s).getD 0 ByteArray.empty).size : Int), (spl s).map (fun w => evL w.data.toList 0), true) else (0, 0, [], false)
theorem spl_pos (s : ByteArray) : 1 ≤ (spl s).length := by rw [spl_eq, List.length_map]; exact (splitL_len _).1
theorem i_ParseBoard (k : Nat) (s : ByteArray) (hk : 1000 ≤ k) : impl_ParseBoard.f k s = some (prOut s) := by
  unfold impl_ParseBoard.f prOut
  by_cases h42 : (s.size : Int) > 42
  · rw [if_pos h42, if_pos (by omega)]
  · rw [if_neg h42, if_neg (by omega)]
    have hp := spl_pos s
    unfold strings_Split.f
    rw [if_pos ⟨rfl, by omega⟩, Option.bind_some, e_isSide, Option.bind_some]
    obtain ⟨k, rfl⟩ : ∃ m, k = m + 1 := ⟨k - 1, by omega⟩
    have hr : rdOf ByteArray.empty (spl s) 0 = (spl s).getD 0 ByteArray.empty := rfl
    rw [hr]
    by_cases h6 : 1 ≤ ((spl s).length : Int) ∧ ((spl s).length : Int) ≤ 6
    · rw [decide_eq_true h6, if_pos rfl, if_pos (by omega), e_isSide, Option.bind_some]
      by_cases hc : 1 ≤ (((spl s).getD 0 ByteArray.empty).size : Int) ∧ (((spl s).getD 0 ByteArray.empty).size : Int) ≤ 6
      · rw [decide_eq_true hc]
        simp only [impl_ParseBoard.j0]
        rw [if_neg (by decide), if_pos (by omega), hr, i_newBoard _ _ (by omega), Option.bind_some, Int.toNat_natCast]
        have := iPar_l0 (spl s) (by omega) ((spl s).length : Int) (((spl s).getD 0 ByteArray.empty).size : Int) (by omega) (spl s) 0 k [] (by simp) (by omega) rfl (by omega)
        rw [List.nil_append, List.nil_append] at this
        rw [show ((0 : Nat) : Int) = 0 from rfl] at this
        simp only
        rw [this]
        by_cases ha : (spl s).all (rowOK (((spl s).getD 0 ByteArray.empty).size : Int)) = true
        · rw [if_pos ha, if_pos ⟨h6, hc, ha⟩]
        · rw [if_neg ha, if_neg (fun h => ha h.2.2)]
      · rw [decide_eq_false hc]
        simp only [impl_ParseBoard.j0]
        rw [if_pos (show (!false) = true from rfl), if_neg (show ¬ ((1 ≤ ((spl s).length : Int) ∧ ((spl s).length : Int) ≤ 6) ∧ (1 ≤ (((spl s).getD 0 ByteArray.empty).size : Int) ∧ (((spl s).getD 0 ByteArray.empty).size : Int) ≤ 6) ∧ (spl s).all (rowOK (((spl s).getD 0 ByteArray.empty).size : Int)) = true) from fun h => hc h.2.1)]
    · rw [decide_eq_false h6, if_neg (by decide)]
      simp only [impl_ParseBoard.j0]
      rw [if_pos (show True from trivial), if_neg (show ¬ ((1 ≤ ((spl s).length : Int) ∧ ((spl s).length : Int) ≤ 6) ∧ (1 ≤ (((spl s).getD 0 ByteArray.empty).size : Int) ∧ (((spl s).getD 0 ByteArray.empty).size : Int) ≤ 6) ∧ (spl s).all (rowOK (((spl s).getD 0 ByteArray.empty).size : Int)) = true) from fun h => h6 h.1)]
theorem e_ParseBoard (k : Nat) (s : ByteArray) (hk : 10000 ≤ k) : spec_ParseBoard.f k s = some (if 60 < s.size then (0, 0, [], false) else spTail s ((spl s).map fun w => evL w.data.toList 0) (lastC 0 (spl s))) := by
  unfold spec_ParseBoard.f spec_boParse.f
  by_cases h60 : (s.size : Int) > 60
  · rw [if_pos h60, if_pos (by omega)]; rfl
  · rw [if_neg h60, if_neg (by omega), e_l1Split k s (by omega) (by omega), Option.bind_some]
    have hsz := ba_size s
    have hl := (splitL_len s.data.toList).2
    have hln : (spl s).length ≤ 61 := by rw [spl_eq, List.length_map]; omega
    have hw : ∀ w ∈ spl s, w.size ≤ 60 := by
      intro w hw
      rw [spl_eq] at hw
      obtain ⟨x, hx, rfl⟩ := List.mem_map.1 hw
      have := (splitL_part _ x hx).1
      rw [ba_size, mkB_toList]; omega
    have := pars_l0 s (spl s) (by omega) hw (spl s) 0 k 0 0 [] (by simp) (by omega) (by omega) rfl
    rw [List.nil_append, show ((0 : Nat) : Int) = 0 from rfl] at this
    rw [this, Option.bind_some]
/-! ### the two ways are one -/
def digB (m : Int) (j : Nat) : UInt8 := if cell m (j : Int) = true then 49 else 48
def rowL (m : Int) : Nat → Nat → List UInt8
  | _, 0 => []
  | j, d + 1 => digB m j :: rowL m (j + 1) d
theorem rowT_L (m : Int) : ∀ d j, (rowT m j d).map (fun n => UInt8.ofNat n.toNat) = rowL m j d
  | 0, _ => rfl
  | d + 1, j => by
    rw [rowT, List.map_cons, rowT_L m d, rowL]
    congr 1
    unfold dig digB
    split <;> rfl
theorem rowB_L (m : Int) (C : Nat) : (rowB m C).data.toList = rowL m 0 C := by rw [rowB, strOfNums_data, rowT_L]
theorem rowL_len (m : Int) : ∀ d j, (rowL m j d).length = d
  | 0, _ => rfl
  | d + 1, j => by simp [rowL, rowL_len m d]
theorem rowL_ok (m : Int) : ∀ d j, okD (rowL m j d) = true
  | 0, _ => rfl
  | d + 1, j => by
    have := rowL_ok m d (j + 1)
    unfold okD at this ⊢
    rw [rowL, List.all_cons, this]
    unfold digB
    split <;> rfl
theorem okD_no : ∀ (w : List UInt8), okD w = true → 47 ∉ w := by
  intro w h hm
  unfold okD at h
  have := List.all_eq_true.1 h 47 hm
  revert this; decide
def joinL : List (List UInt8) → List UInt8
  | [] => []
  | a :: t => a ++ t.flatMap fun x => 47 :: x
theorem join_split : ∀ L : List UInt8, joinL (splitL L) = L
  | [] => rfl
  | b :: t => by
    have ih := join_split t
    rw [splitL]
    split
    · rename_i e
      subst e
      cases h : splitL t with
      | nil => exact absurd h (splitL_ne t)
      | cons a r => rw [h] at ih; simp only [joinL] at ih ⊢; rw [List.flatMap_cons, List.nil_append, List.cons_append, ih]
    · cases h : splitL t with
      | nil => exact absurd h (splitL_ne t)
      | cons a r => rw [h] at ih; simp only [joinL] at ih ⊢; rw [List.cons_append, ih]
theorem split_join : ∀ (t : List (List UInt8)) (a : List UInt8), (∀ w ∈ a :: t, 47 ∉ w) → splitL (joinL (a :: t)) = a :: t
  | [], a, h => by simp only [joinL, List.flatMap_nil, List.append_nil]; exact spl_none a (h a (by simp))
  | b :: r, a, h => by
    have ih := split_join r b (fun w hw => h w (by simp [hw]))
    simp only [joinL] at ih ⊢
    rw [List.flatMap_cons, List.cons_append, spl_cut _ _ (h a (by simp)), ih]
theorem boxT_L (C : Nat) : ∀ (t : List Int) (out : ByteArray), (boxT C out t).data.toList = out.data.toList ++ (t.map fun m => rowL m 0 C).flatMap fun x => 47 :: x
  | [], out => by simp [boxT]
  | m :: t, out => by
    rw [boxT, boxT_L C t, ByteArray.data_append, Array.toList_append, ByteArray.data_append, Array.toList_append, rowB_L, List.map_cons, List.flatMap_cons]
    simp
theorem boardT_L (C : Nat) (l : List Int) : (boardT C l).data.toList = joinL (l.map fun m => rowL m 0 C) := by
  cases l with
  | nil => rfl
  | cons m t => rw [boardT, boxT_L, rowB_L, List.map_cons, joinL]
theorem ba_inj {a b : ByteArray} (h : a.data.toList = b.data.toList) : a = b := ByteArray.ext (Array.toList_inj.1 h)
def bins : Nat → List (List UInt8)
  | 0 => [[]]
  | n + 1 => (bins n).flatMap fun t => [48 :: t, 49 :: t]
theorem bins_mem : ∀ (w : List UInt8), okD w = true → w ∈ bins w.length
  | [], _ => by simp [bins]
  | b :: t, h => by
    have h' : (b == 48 || b == 49) = true ∧ okD t = true := by
      have h2 : okD (b :: t) = ((b == 48 || b == 49) && okD t) := rfl
      rw [h2, Bool.and_eq_true] at h; exact h
    have := bins_mem t h'.2
    rw [List.length_cons, bins, List.mem_flatMap]
    refine ⟨t, this, ?_⟩
    rcases Bool.or_eq_true _ _ ▸ h'.1 with e | e
    · rw [beq_iff_eq] at e; subst e; simp
    · rw [beq_iff_eq] at e; subst e; simp
theorem rowL_ev (w : List UInt8) (h : okD w = true) (hl : w.length ≤ 6) : rowL (evL w 0) 0 w.length = w := by
  have : ∀ n : Fin 7, ∀ w ∈ bins n.val, rowL (evL w 0) 0 n.val = w := by decide +kernel
  exact this ⟨w.length, by omega⟩ w (bins_mem w h)
theorem ev_rowL (m : Int) (C : Nat) (hC : C ≤ 6) (hm : 0 ≤ m) (h2 : m ≤ 2 ^ C - 1) : evL (rowL m 0 C) 0 = m := by
  have : ∀ C : Fin 7, ∀ m : Fin 64, (m.val : Int) ≤ 2 ^ C.val - 1 → evL (rowL (m.val : Int) 0 C.val) 0 = (m.val : Int) := by decide +kernel
  have h64 : m < 64 := by
    have : ∀ C : Fin 7, (2 : Int) ^ C.val ≤ 64 := by decide +kernel
    have := this ⟨C, by omega⟩
    simp only at this
    omega
  obtain ⟨i, rfl⟩ := fin_of m 64 hm h64
  exact this ⟨C, by omega⟩ i h2
theorem lastC_all (C : Int) : ∀ (l : List ByteArray) (c : Int), l ≠ [] → (∀ w ∈ l, (w.size : Int) = C) → lastC c l = C
  | [], _, h, _ => absurd rfl h
  | [w], c, _, h => by rw [lastC, lastC]; exact h w (by simp)
  | w :: x :: t, c, _, h => by rw [lastC]; exact lastC_all C (x :: t) _ (by simp) (fun y hy => h y (by simp [hy]))
def PQ (s : ByteArray) : Prop := (1 ≤ ((spl s).length : Int) ∧ ((spl s).length : Int) ≤ 6) ∧ (1 ≤ (((spl s).getD 0 ByteArray.empty).size : Int) ∧ (((spl s).getD 0 ByteArray.empty).size : Int) ≤ 6) ∧ (spl s).all (rowOK (((spl s).getD 0 ByteArray.empty).size : Int)) = true
instance (s : ByteArray) : Decidable (PQ s) := by unfold PQ; exact inferInstance
theorem pq_to (s : ByteArray) (q : PQ s) : (GoodB (((spl s).map fun w => evL w.data.toList 0).length : Int) (lastC 0 (spl s)) ((spl s).map fun w => evL w.data.toList 0) ∧ boardT (lastC 0 (spl s)).toNat ((spl s).map fun w => evL w.data.toList 0) = s) ∧ lastC 0 (spl s) = (((spl s).getD 0 ByteArray.empty).size : Int) := by
  obtain ⟨q1, q2, q3⟩ := q
  have hall : ∀ w ∈ spl s, (w.size : Int) = (((spl s).getD 0 ByteArray.empty).size : Int) ∧ okD w.data.toList = true := by
    intro w hw
    have := List.all_eq_true.1 q3 w hw
    unfold rowOK at this
    rw [Bool.and_eq_true, decide_eq_true_eq] at this
    exact this
  have hne : spl s ≠ [] := by intro h; have := spl_pos s; rw [h] at this; simp at this
  have hC := lastC_all _ (spl s) 0 hne (fun w hw => (hall w hw).1)
  generalize (((spl s).getD 0 ByteArray.empty).size : Int) = C at q2 hall hC
  refine ⟨⟨?_, ?_⟩, hC⟩
  · rw [hC, List.length_map]
    refine ⟨q1, q2, by rw [List.length_map], ?_⟩
    intro x hx
    obtain ⟨w, hw, rfl⟩ := List.mem_map.1 hx
    have h1 := (hall w hw).1
    have h2 := evL_bd w.data.toList 0
    have hsz := ba_size w
    rw [show C.toNat = w.data.toList.length by omega]
    rw [show (2 : Int) ^ 0 = 1 from rfl, Nat.zero_add] at h2
    exact h2
  · rw [hC]
    apply ba_inj
    rw [boardT_L, List.map_map]
    have : (spl s).map ((fun m => rowL m 0 C.toNat) ∘ fun w => evL w.data.toList 0) = splitL s.data.toList := by
      have h1 : (spl s).map ((fun m => rowL m 0 C.toNat) ∘ fun w => evL w.data.toList 0) = (spl s).map fun w => w.data.toList := by
        apply List.map_congr_left
        intro w hw
        have h1 := hall w hw
        have hsz := ba_size w
        show rowL (evL w.data.toList 0) 0 C.toNat = w.data.toList
        rw [show C.toNat = w.data.toList.length by omega]
        exact rowL_ev _ h1.2 (by omega)
      rw [h1, spl_eq, List.map_map]
      conv => rhs; rw [← List.map_id (splitL s.data.toList)]
      apply List.map_congr_left
      intro w _
      rfl
    rw [this, join_split]
theorem pq_of (s : ByteArray) (C : Int) (l : List Int) (g : GoodB (l.length : Int) C l) (h : boardT C.toNat l = s) : s.size ≤ 42 ∧ PQ s := by
  obtain ⟨g1, g2, _, g4⟩ := g
  have hs : s.data.toList = joinL (l.map fun m => rowL m 0 C.toNat) := by rw [← h, boardT_L]
  have hne : l ≠ [] := by intro e; rw [e] at g1; simp at g1
  have hsp : splitL s.data.toList = l.map fun m => rowL m 0 C.toNat := by
    rw [hs]
    cases l with
    | nil => exact absurd rfl hne
    | cons m t =>
      rw [List.map_cons]
      apply split_join
      intro w hw
      rw [← List.map_cons (f := fun m => rowL m 0 C.toNat)] at hw
      obtain ⟨x, _, rfl⟩ := List.mem_map.1 hw
      exact okD_no _ (rowL_ok _ _ _)
  have hspl : spl s = l.map fun m => mkB (rowL m 0 C.toNat) := by rw [spl_eq, hsp, List.map_map]; rfl
  have hsz : ∀ w ∈ spl s, (w.size : Int) = C ∧ okD w.data.toList = true := by
    intro w hw
    rw [hspl] at hw
    obtain ⟨x, _, rfl⟩ := List.mem_map.1 hw
    refine ⟨?_, ?_⟩
    · rw [ba_size, mkB_toList, rowL_len]; omega
    · rw [mkB_toList]; exact rowL_ok _ _ _
  have hlen : (spl s).length = l.length := by rw [hspl, List.length_map]
  have h0 : (((spl s).getD 0 ByteArray.empty).size : Int) = C := by
    have hp := spl_pos s
    rw [List.getD_eq_getElem?_getD, List.getElem?_eq_getElem (by omega), Option.getD_some]
    exact (hsz _ (List.getElem_mem _)).1
  refine ⟨?_, ?_, ?_, ?_⟩
  · rw [← h]
    cases l with
    | nil => exact absurd rfl hne
    | cons m t =>
      rw [boardT, boxT_size]
      have h2 : (rowB m C.toNat).size = C.toNat := by unfold rowB; rw [strOfNums_size, rowT_len]
      rw [h2]
      simp only [List.length_cons] at g1
      have := Nat.mul_le_mul (show t.length ≤ 5 by omega) (show C.toNat + 1 ≤ 7 by omega)
      omega
  · rw [hlen]; exact g1
  · rw [h0]; exact g2
  · rw [h0, List.all_eq_true]
    intro w hw
    have := hsz w hw
    unfold rowOK
    rw [decide_eq_true this.1, this.2]; rfl
theorem prEq (s : ByteArray) : (if 60 < s.size then (0, 0, [], false) else spTail s ((spl s).map fun w => evL w.data.toList 0) (lastC 0 (spl s))) = prOut s := by
  unfold prOut spTail
  by_cases q : PQ s
  · have h := pq_to s q
    have h42 := (pq_of s _ _ h.1.1 h.1.2).1
    rw [if_neg (show ¬ (60 < s.size) by omega), if_neg (show ¬ (42 < s.size) by omega), if_pos h.1, if_pos (show _ ∧ _ ∧ _ from q), h.2, List.length_map]
  · have hn : ¬ (GoodB (((spl s).map fun w => evL w.data.toList 0).length : Int) (lastC 0 (spl s)) ((spl s).map fun w => evL w.data.toList 0) ∧ boardT (lastC 0 (spl s)).toNat ((spl s).map fun w => evL w.data.toList 0) = s) := fun h => q (pq_of s _ _ h.1 h.2).2
    rw [if_neg hn, if_neg (show ¬ (_ ∧ _ ∧ _) from q), ite_self, ite_self]
theorem prOut_len (s : ByteArray) : (prOut s).2.2.1.length ≤ 6 := by
  unfold prOut
  split
  · simp
  · split
    · rename_i h; simp only [List.length_map]; omega
    · simp

theorem dig_impl (m : Int) (hm : 0 ≤ m ∧ m ≤ 63) (j : Nat) (hj : j ≤ 6) : (48 + (Go.bits .and .i64 (shr .i64 m (j : Int)) 1)) % 256 = dig m j := by
  have h : ∀ m : Fin 64, ∀ j : Fin 7, (48 + (Go.bits .and .i64 (shr .i64 (m.val : Int) (j.val : Int)) 1)) % 256 = dig (m.val : Int) j.val := by decide +kernel
  obtain ⟨i, rfl⟩ := fin_of m 64 hm.1 (by omega)
  exact h i ⟨j, by omega⟩
theorem iText_l1 (r c : Int) (l : List Int) (g : GoodB r c l) (x9 : Int) (rows : List ByteArray) (hrows : rows.length ≤ 100) (i : Nat) (hi : i < l.length) : ∀ (d j k : Nat) (row : List Int), (j : Int) + d = c → row.length + d ≤ 1000 →
    impl_Board_text.l1 (k + d + 1) rows (i : Int) row x9 (i : Int) c (j : Int) r c l = impl_Board_text.l0 k (rows ++ [strOfNums (row ++ rowT l[i] j d)]) x9 ((i + 1 : Nat) : Int) r c l := by
  have hr := g.2.2.1; have hc := g.2.1; have hn := goodB_len g
  intro d
  induction d with
  | zero =>
    intro j k row hj ho
    simp only [Nat.add_zero, impl_Board_text.l1]
    rw [if_neg (by omega), if_pos (by omega), w64 (by omega) (by omega), rowT, List.append_nil]; rfl
  | succ d ih =>
    intro j k row hj ho
    obtain ⟨K, hK⟩ : ∃ K, K = k + d + 1 := ⟨_, rfl⟩
    have h63 := goodB_le g _ (List.getElem_mem hi)
    rw [show k + (d + 1) + 1 = K + 1 from by omega]
    simp only [impl_Board_text.l1]
    rw [if_pos (show (j : Int) < c by omega), if_pos (show (0 : Int) ≤ (i : Int) by omega), if_pos (show (i : Int) < (l.length : Int) by omega), if_pos (show (0 : Int) ≤ (j : Int) by omega), rd_nat l i hi, dig_impl l[i] h63 j (by omega), if_pos (by omega), w64 (by omega) (by omega), show ((j : Int) + 1) = ((j + 1 : Nat) : Int) from by omega, hK, ih (j + 1) k _ (by omega) (by simp; omega), rowT, List.append_assoc]
    rfl
theorem iText_l0 (r c : Int) (l : List Int) (g : GoodB r c l) (C : Nat) (hC : (C : Int) = c) : ∀ (d i k : Nat) (rows : List ByteArray), i + d = l.length → rows.length = i → d * (C + 3) < k →
    impl_Board_text.l0 k rows r (i : Int) r c l = (strings_Join.f (rows ++ (l.drop i).map fun m => rowB m C) (⟨#[47]⟩ : ByteArray)).bind fun t => some t := by
  have hr := g.2.2.1; have hc := g.2.1; have hn := goodB_len g
  intro d
  induction d with
  | zero =>
    intro i k rows hi ho hk
    obtain ⟨k, rfl⟩ : ∃ m, k = m + 1 := ⟨k - 1, by omega⟩
    simp only [impl_Board_text.l0]; rw [if_neg (by omega), List.drop_eq_nil_of_le (by omega), List.map_nil, List.append_nil]
  | succ d ih =>
    intro i k rows hi ho hk
    rw [Nat.succ_mul] at hk
    obtain ⟨k, rfl⟩ : ∃ m, k = (m + C + 1) + 1 := ⟨k - C - 2, by omega⟩
    have hlt : i < l.length := by omega
    simp only [impl_Board_text.l0]
    rw [if_pos (by omega)]
    have := iText_l1 r c l g r rows (by omega) i hlt C 0 k [] (by omega) (by simp; omega)
    rw [show ((0 : Nat) : Int) = 0 from rfl, List.nil_append] at this
    rw [this, ih (i + 1) k _ (by omega) (by simp; omega) (by omega), List.drop_eq_getElem_cons hlt, List.map_cons, List.append_assoc]
    rfl
theorem i_text (k : Nat) (r c : Int) (l : List Int) (g : GoodB r c l) (hk : 200 ≤ k) : impl_Board_text.f k r c l = some (boardT c.toNat l) := by
  have hr := g.2.2.1; have hc := g.2.1; have hn := goodB_len g; have h1 := g.1
  unfold impl_Board_text.f
  obtain ⟨C, rfl⟩ := Int.eq_ofNat_of_zero_le (show 0 ≤ c by omega)
  have hmul : l.length * (C + 3) ≤ 6 * 9 := Nat.mul_le_mul (by omega) (by omega)
  have := iText_l0 r C l g C rfl l.length 0 k [] (by omega) rfl (by omega)
  rw [show ((0 : Nat) : Int) = 0 from rfl] at this
  rw [this, List.drop_zero, List.nil_append]
  have hj : joinB (⟨#[47]⟩ : ByteArray) (l.map fun m => rowB m C) = boardT C l := by
    cases l with
    | nil => rfl
    | cons m t => rw [List.map_cons, joinB, boardT, boxT_fold]
  have hsz : (boardT C l).size ≤ 1000 := by
    cases l with
    | nil => show 0 ≤ 1000; omega
    | cons m t =>
      rw [boardT, boxT_size]
      have h2 : (rowB m C).size = C := by unfold rowB; rw [strOfNums_size, rowT_len]
      have : t.length * (C + 1) ≤ 5 * 7 := Nat.mul_le_mul (by simp at hn; omega) (by omega)
      omega
  unfold strings_Join.f
  rw [hj, if_pos ⟨by simp; omega, by omega⟩]; rfl

def btOut (r c : Int) (l : List Int) : ByteArray × Bool := if GoodB r c l then (boardT c.toNat l, true) else (⟨#[]⟩, false)
theorem i_BoardText (k : Nat) (r c : Int) (l : List Int) (hk2 : 200 ≤ k) : impl_BoardText.f k r c l = some (btOut r c l) := by
  unfold impl_BoardText.f btOut
  rw [i_IsBoard]
  simp only [Option.bind_some, decide_eq_true_eq]
  by_cases g : GoodB r c l
  · rw [if_pos g, if_pos g, i_text k r c l g hk2]; rfl
  · rw [if_neg g, if_neg g]

def fbL (v : Int) : Nat → Nat → List Int → List Int
  | 0, _, y => y
  | d + 1, j, y => fbL v d (j + 1) (y.set j v)
theorem fbL_len (v : Int) : ∀ d j y, (fbL v d j y).length = y.length
  | 0, _, _ => rfl
  | d + 1, j, y => by rw [fbL, fbL_len v d, List.length_set]
theorem fb_l0 (c R C : Int) (hc : 0 ≤ c) : ∀ (d j k : Nat) (y : List Int), j + d = y.length → d < k → y.length ≤ 1000 → impl_FullBoard.l0 k c (y.length : Int) (j : Int) R C y = some (R, C, fbL (wrap64 (shl .i64 1 c - 1)) d j y, true) ∧ spec_boFull.l0 k c (y.length : Int) (j : Int) R C y = some (R, C, fbL (wrap64 (shl .i64 1 c - 1)) d j y)
  | 0, j, k, y, hj, hk, hl => by
    obtain ⟨k, rfl⟩ : ∃ m, k = m + 1 := ⟨k - 1, by omega⟩
    rw [impl_FullBoard.l0, spec_boFull.l0, if_neg (by omega), if_neg (by omega)]
    exact ⟨rfl, rfl⟩
  | d + 1, j, k, y, hj, hk, hl => by
    obtain ⟨k, rfl⟩ : ∃ m, k = m + 1 := ⟨k - 1, by omega⟩
    have ih := fb_l0 c R C hc d (j + 1) k (y.set j (wrap64 (shl .i64 1 c - 1))) (by rw [List.length_set]; omega) (by omega) (by rw [List.length_set]; exact hl)
    rw [List.length_set] at ih
    rw [impl_FullBoard.l0, spec_boFull.l0]
    have c1 : (j : Int) < (y.length : Int) := by omega
    have c2 : 0 ≤ (j : Int) := by omega
    simp only [if_pos c1, if_pos c2, if_pos hc, Int.toNat_natCast]
    rw [w64 (x := (j : Int) + 1) (by omega) (by omega), show ((j : Int) + 1) = ((j + 1 : Nat) : Int) from by omega]
    exact ih
def fbOut (a b : Int) : Int × Int × List Int × Bool := if (1 ≤ a ∧ a ≤ 6) ∧ (1 ≤ b ∧ b ≤ 6) then (a, b, fbL (wrap64 (shl .i64 1 b - 1)) a.toNat 0 (List.replicate a.toNat 0), true) else (0, 0, [], false)
theorem fbOut_len (a b : Int) : (fbOut a b).2.2.1.length ≤ 6 := by
  unfold fbOut
  split
  · simp only [fbL_len, List.length_replicate]; omega
  · simp
theorem both_FullBoard (k : Nat) (a b : Int) (hk : 100 ≤ k) : impl_FullBoard.f k a b = some (fbOut a b) ∧ spec_FullBoard.f k a b = some (fbOut a b) := by
  unfold impl_FullBoard.f spec_FullBoard.f
  rw [e_boSide, e_boSide, e_isSide, e_isSide]
  simp only [Option.bind_some]
  obtain ⟨k, rfl⟩ : ∃ m, k = m + 1 := ⟨k - 1, by omega⟩
  by_cases h0 : 1 ≤ a ∧ a ≤ 6
  · by_cases h1 : 1 ≤ b ∧ b ≤ 6
    · rw [decide_eq_true h0, decide_eq_true h1, show fbOut a b = (a, b, fbL (wrap64 (shl .i64 1 b - 1)) a.toNat 0 (List.replicate a.toNat 0), true) by unfold fbOut; rw [if_pos ⟨h0, h1⟩]]
      simp only [if_true, Bool.not_true]
      rw [impl_FullBoard.j0, if_neg (by decide), i_newBoard a b (by omega), Option.bind_some]
      unfold spec_boFull.f
      rw [e_boEmpty a b (by omega), Option.bind_some]
      simp only
      obtain ⟨x1, _⟩ := fb_l0 b a b (by omega) a.toNat 0 k (List.replicate a.toNat 0) (by simp) (by omega) (by simp; omega)
      obtain ⟨_, x2⟩ := fb_l0 b a b (by omega) a.toNat 0 (k + 1) (List.replicate a.toNat 0) (by simp) (by omega) (by simp; omega)
      rw [show ((0 : Nat) : Int) = 0 from rfl] at x1 x2
      rw [x1, x2]
      exact ⟨rfl, rfl⟩
    · rw [decide_eq_true h0, decide_eq_false h1, show fbOut a b = (0, 0, [], false) by unfold fbOut; rw [if_neg (fun x => h1 x.2)]]
      simp only [if_true, Bool.not_false]
      rw [impl_FullBoard.j0]
      exact ⟨rfl, rfl⟩
  · rw [decide_eq_false h0, show fbOut a b = (0, 0, [], false) by unfold fbOut; rw [if_neg (fun x => h0 x.1)]]
    simp only [Bool.false_eq_true, if_false]
    rw [impl_FullBoard.j0]
    exact ⟨rfl, trivial⟩

theorem CellsOf_l1 (r c : Int) (l : List Int) (g : GoodB r c l) (i : Nat) (hi : i < l.length) : ∀ (d j k : Nat) (acc : List (List Int)), (j : Int) + d = c → acc.length + d ≤ 1000 →
    impl_CellsOf.l1 (k + d + 1) acc (i : Int) r (i : Int) c (j : Int) r c l = impl_CellsOf.l0 k (acc ++ rowC l[i] (i : Int) d j) r ((i + 1 : Nat) : Int) r c l := by
  have hr := g.2.2.1; have hc := g.2.1; have hn := goodB_len g
  intro d
  induction d with
  | zero =>
    intro j k acc hj ha
    simp only [Nat.add_zero, impl_CellsOf.l1]
    rw [if_neg (by omega), w64 (by omega) (by omega)]; simp [rowC]
  | succ d ih =>
    intro j k acc hj ha
    obtain ⟨K, hK⟩ : ∃ K, K = k + d + 1 := ⟨_, rfl⟩
    rw [show k + (d + 1) + 1 = K + 1 from by omega]
    simp only [impl_CellsOf.l1]
    rw [if_pos (by omega), i_has r c l _ _ g (place_nat (by omega) (by omega)), rd_nat l i hi, w64 (x := (j : Int) + 1) (by omega) (by omega), show ((j : Int) + 1) = ((j + 1 : Nat) : Int) from by omega]
    simp only [Option.bind_some]
    by_cases h : cell l[i] (j : Int) = true
    · rw [if_pos h, if_pos (by omega), hK, ih (j + 1) k _ (by omega) (by simp; omega)]
      simp only [rowC, h, if_true, List.append_assoc]
    · rw [if_neg h, hK, ih (j + 1) k _ (by omega) (by omega)]
      simp only [rowC, h, if_false, List.nil_append, Bool.false_eq_true]
theorem CellsOf_l0 (r c : Int) (l : List Int) (g : GoodB r c l) (C : Nat) (hC : (C : Int) = c) : ∀ (d i k : Nat) (acc : List (List Int)), i + d = l.length → acc.length + d * C ≤ 900 → d * (C + 2) < k →
    impl_CellsOf.l0 k acc r (i : Int) r c l = some (acc ++ cellsC C (l.drop i) (i : Int), true) := by
  have hr := g.2.2.1; have hc := g.2.1; have hn := goodB_len g
  intro d
  induction d with
  | zero =>
    intro i k acc hi ha hk
    obtain ⟨k, rfl⟩ : ∃ m, k = m + 1 := ⟨k - 1, by omega⟩
    simp only [impl_CellsOf.l0]
    rw [if_neg (by omega), List.drop_eq_nil_of_le (by omega)]; simp [cellsC]
  | succ d ih =>
    intro i k acc hi ha hk
    rw [Nat.add_mul] at ha hk
    obtain ⟨k, rfl⟩ : ∃ m, k = (m + C + 1) + 1 := ⟨k - C - 2, by omega⟩
    have hlt : i < l.length := by omega
    simp only [impl_CellsOf.l0]
    have := CellsOf_l1 r c l g i hlt C 0 k acc (by omega) (by omega)
    rw [if_pos (by omega), show (0 : Int) = ((0 : Nat) : Int) from rfl, this]
    have hl := rowC_len l[i] (i : Int) C 0
    rw [ih (i + 1) k _ (by omega) (by rw [List.length_append]; omega) (by omega), List.drop_eq_getElem_cons hlt]
    simp only [cellsC, List.append_assoc]
    rw [show ((i : Int) + 1) = ((i + 1 : Nat) : Int) from by omega]
theorem i_CellsOf (k : Nat) (r c : Int) (l : List Int) (hk : 100 ≤ k) : impl_CellsOf.f k r c l = some (if GoodB r c l then (cellsC c.toNat l 0, true) else ([], false)) := by
  unfold impl_CellsOf.f
  rw [i_IsBoard]
  simp only [Option.bind_some, decide_eq_true_eq]
  by_cases g : GoodB r c l
  · have hr := g.2.2.1; have hc := g.2.1; have hn := goodB_len g
    have hb : l.length * c.toNat ≤ 6 * 6 := Nat.mul_le_mul (by omega) (by omega)
    have hb2 : l.length * (c.toNat + 2) ≤ 6 * 8 := Nat.mul_le_mul (by omega) (by omega)
    rw [if_pos g, if_pos g]
    have := CellsOf_l0 r c l g c.toNat (by omega) l.length 0 k [] (by omega) (by simp; omega) (by omega)
    simpa using this
  · rw [if_neg g, if_neg g]

def cntOut (r c : Int) (l : List Int) : Int × Bool := if GoodB r c l then (((cellsC c.toNat l 0).length : Int), true) else (0, false)
theorem cc_impl (k : Nat) (r c : Int) (l : List Int) (hk2 : 100 ≤ k) : impl_CountCells.f k r c l = some (cntOut r c l) := by
  unfold impl_CountCells.f cntOut
  rw [i_CellsOf k r c l hk2]
  by_cases g : GoodB r c l
  · rw [if_pos g, if_pos g]; rfl
  · rw [if_neg g, if_neg g]; rfl
theorem cc_good (k : Nat) (r c : Int) (l : List Int) (g : GoodB r c l) (hk2 : 100 ≤ k) : impl_CountCells.f k r c l = some (((cellsC c.toNat l 0).length : Int), true) := by
  rw [cc_impl k r c l hk2]; unfold cntOut; rw [if_pos g]
theorem cc_le (r c : Int) (l : List Int) (g : GoodB r c l) (i : Int) : (cellsC c.toNat l i).length ≤ 36 := by
  have h1 := cellsC_len c.toNat l i
  have h2 := goodB_len g
  have h3 := g.2.1
  have : l.length * c.toNat ≤ 6 * 6 := Nat.mul_le_mul h2 (by omega)
  omega

theorem i_place (r c : Int) (l : List Int) (i j : Int) (h : GoodB r c l) : impl_Board_place.f r c l i j = some (decide (Place r c i j)) := by
  unfold impl_Board_place.f
  have h1 := h.1; have h2 := h.2.1
  rw [w64 (by omega) (by omega), w64 (by omega) (by omega), e_within, e_within]
  simp only [Option.bind_some, decide_eq_true_eq]
  by_cases h : 0 ≤ i ∧ i ≤ r - 1
  · rw [if_pos h]; simp [Place, h]
  · rw [if_neg h]; simp [Place, h]

def hasOut (r c : Int) (l : List Int) (i j : Int) : Bool × Bool := if GoodB r c l ∧ Place r c i j then (cell (rd l i) j, true) else (false, false)
theorem i_HasCell (r c : Int) (l : List Int) (i j : Int) : impl_HasCell.f r c l i j = some (hasOut r c l i j) := by
  unfold impl_HasCell.f hasOut
  rw [i_IsBoard]
  simp only [Option.bind_some, decide_eq_true_eq]
  by_cases g : GoodB r c l
  · rw [if_pos g, i_place r c l i j g]
    simp only [Option.bind_some, decide_eq_true_eq]
    by_cases p : Place r c i j
    · rw [if_pos p, if_pos ⟨g, p⟩, i_has r c l i j g p]; rfl
    · rw [if_neg p, if_neg (fun x => p x.2)]
  · rw [if_neg g, if_neg (fun x => g x.1)]

theorem rOn_eq (r c : Int) (l : List Int) (i j : Int) : laws_rOn.f r c l i j = some (decide (GoodB r c l ∧ Place r c i j) && cell (rd l i) j) := by
  unfold laws_rOn.f
  rw [i_HasCell, Option.bind_some]
  unfold hasOut
  by_cases g : GoodB r c l ∧ Place r c i j
  · rw [if_pos g, if_pos rfl, decide_eq_true g, Bool.true_and]
  · rw [if_neg g, if_neg (by decide), decide_eq_false g, Bool.false_and]
theorem rOn_in (r c : Int) (l : List Int) (i j : Int) (g : GoodB r c l) (p : Place r c i j) : laws_rOn.f r c l i j = some (cell (rd l i) j) := by
  rw [rOn_eq, decide_eq_true ⟨g, p⟩, Bool.true_and]

theorem rSame_l0 (a b : List Int) (hl : a.length ≤ 2000000) (hab : a.length = b.length) : ∀ (d i k : Nat), i + d = a.length → d < k → laws_rSame.l0 k a b (a.length : Int) (i : Int) = some (decide (a.drop i = b.drop i)) := by
  intro d
  induction d with
  | zero =>
    intro i k hi hk
    obtain ⟨k, rfl⟩ : ∃ m, k = m + 1 := ⟨k - 1, by omega⟩
    rw [laws_rSame.l0, if_neg (by omega), List.drop_of_length_le (by omega), List.drop_of_length_le (by omega)]; simp
  | succ d ih =>
    intro i k hi hk
    obtain ⟨k, rfl⟩ : ∃ m, k = m + 1 := ⟨k - 1, by omega⟩
    have h1 : i < a.length := by omega
    have h2 : i < b.length := by omega
    rw [laws_rSame.l0, if_pos (by omega), if_pos (by omega), if_pos (by omega), if_pos (by omega), w64 (by omega) (by omega), show ((i : Int) + 1) = ((i + 1 : Nat) : Int) from by omega, rd_nat a i h1, rd_nat b i h2, List.drop_eq_getElem_cons h1, List.drop_eq_getElem_cons h2]
    by_cases e : a[i] = b[i]
    · rw [if_pos e, ih (i + 1) k (by omega) (by omega), e]; simp only [List.cons.injEq, true_and]
    · rw [if_neg e]; simp only [List.cons.injEq, e, false_and, decide_false]
theorem rSame_eq (k : Nat) (a b : List Int) (hl : a.length ≤ 1000000) (hk : a.length < k) : laws_rSame.f k a b = some (decide (a = b)) := by
  unfold laws_rSame.f
  by_cases h : a.length = b.length
  · rw [if_pos (by omega)]
    have := rSame_l0 a b (by omega) h a.length 0 k (by omega) hk
    rw [List.drop_zero, List.drop_zero] at this
    exact this
  · rw [if_neg (by omega), decide_eq_false (fun e => h (by rw [e]))]
theorem rSame_self (k : Nat) (a : List Int) (hl : a.length ≤ 1000000) (hk : a.length < k) : laws_rSame.f k a a = some true := by
  rw [rSame_eq k a a hl hk, decide_eq_true rfl]

theorem rSameBoard_eq (k : Nat) (r c : Int) (l : List Int) (r' c' : Int) (l' : List Int) (hl : l.length ≤ 1000000) (hk : l.length < k) : laws_rSameBoard.f k r c l r' c' l' = some (decide (r = r' ∧ c = c' ∧ l = l')) := by
  unfold laws_rSameBoard.f
  rw [rSame_eq k l l' hl hk]
  by_cases h1 : r = r'
  · by_cases h2 : c = c'
    · rw [if_pos h1, if_pos h2]; simp [h1, h2]
    · rw [if_pos h1, if_neg h2]; simp [h2]
  · rw [if_neg h1]; simp [h1]
theorem rSameBoard_self (k : Nat) (r c : Int) (l : List Int) (hl : l.length ≤ 1000000) (hk : l.length < k) : laws_rSameBoard.f k r c l r c l = some true := by
  rw [rSameBoard_eq k r c l r c l hl hk, decide_eq_true ⟨rfl, rfl, rfl⟩]

theorem pr_true (s : ByteArray) (h : (prOut s).2.2.2 = true) : ∃ C m, prOut s = ((m.length : Int), C, m, true) ∧ GoodB (m.length : Int) C m ∧ boardT C.toNat m = s := by
  rw [← prEq] at h ⊢
  by_cases h6 : 60 < s.size
  · rw [if_pos h6] at h; cases h
  · rw [if_neg h6] at h ⊢
    unfold spTail at h ⊢
    split at h
    · rename_i hh
      rw [if_pos hh]
      exact ⟨_, _, rfl, hh.1, hh.2⟩
    · cases h
theorem law_l2 (r c : Int) (l T : List Int) (g : GoodB r c l) (gT : GoodB c r T) (hT : ∀ i j : Nat, (i : Int) < r → (j : Int) < c → cell (rd T (j : Int)) (i : Int) = cell (rd l (i : Int)) (j : Int)) (gM : GoodB r c (l.map (mirR c))) (gC : GoodB r c (l.map (cmE c))) (b1 b2 b3 b4 b5 : Bool) (n1 n2 : Int) (R1 C1 : Int) (L1 : List Int) (R2 C2 : Int) (L2 : List Int) (R3 C3 : Int) (L3 : List Int) (i : Nat) (hi : (i : Int) < r) : ∀ (d j k : Nat), (j : Int) + d = c → laws_FnBoardsTurned.l2 (k + d + 1) b1 b2 b3 n1 b4 n2 b5 (i : Int) (j : Int) r c l c r T r c (l.map (mirR c)) r c (l.map (cmE c)) R1 C1 L1 R2 C2 L2 R3 C3 L3 = laws_FnBoardsTurned.l1 k b1 b2 b3 n1 b4 n2 b5 ((i + 1 : Nat) : Int) r c l c r T r c (l.map (mirR c)) r c (l.map (cmE c)) R1 C1 L1 R2 C2 L2 R3 C3 L3
  | 0, j, k, hj => by
    have g1 := g.1
    rw [laws_FnBoardsTurned.l2, if_neg (by omega), w64 (x := (i : Int) + 1) (by omega) (by omega)]; rfl
  | d + 1, j, k, hj => by
    have g1 := g.1; have g2 := g.2.1; have g3 := g.2.2.1
    have hm := g.2.2.2 _ (rd_mem l (i : Int) (by omega) (by omega))
    obtain ⟨_, _, k3⟩ := flip c g2 (rd l (i : Int)) hm
    obtain ⟨k1, k2⟩ := k3 j (by omega)
    rw [show k + (d + 1) + 1 = (k + d + 1) + 1 by omega, laws_FnBoardsTurned.l2, if_pos (by omega), rOn_in r c l _ _ g ⟨by omega, by omega⟩, Option.bind_some, rOn_in c r T _ _ gT ⟨by omega, by omega⟩, Option.bind_some, hT i j hi (by omega), bne_self_eq_false, if_neg (by decide), w64 (x := c - 1) (by omega) (by omega), w64 (x := c - 1 - (j : Int)) (by omega) (by omega), rOn_in r c _ _ _ gM ⟨by omega, by omega⟩, Option.bind_some, rd_map _ l i (by omega), k2, bne_self_eq_false, if_neg (by decide), rOn_in r c _ _ _ gC ⟨by omega, by omega⟩, Option.bind_some, rd_map _ l i (by omega), k1, if_neg (by cases cell (rd l (i : Int)) (j : Int) <;> decide), w64 (x := (j : Int) + 1) (by omega) (by omega), show ((j : Int) + 1) = ((j + 1 : Nat) : Int) from by omega]
    exact law_l2 r c l T g gT hT gM gC b1 b2 b3 b4 b5 n1 n2 R1 C1 L1 R2 C2 L2 R3 C3 L3 i hi d (j + 1) k (by omega)
theorem law_l1 (r c : Int) (l T : List Int) (g : GoodB r c l) (gT : GoodB c r T) (hT : ∀ i j : Nat, (i : Int) < r → (j : Int) < c → cell (rd T (j : Int)) (i : Int) = cell (rd l (i : Int)) (j : Int)) (gM : GoodB r c (l.map (mirR c))) (gC : GoodB r c (l.map (cmE c))) (n1 n2 : Int) (hn : wrap64 (n1 + n2) = wrap64 (r * c)) : ∀ (d i k : Nat), (i : Int) + d = r → 100 + 20 * d ≤ k → laws_FnBoardsTurned.l1 k true true true n1 true n2 true (i : Int) r c l c r T r c (l.map (mirR c)) r c (l.map (cmE c)) r c l r c l r c l = some true
  | 0, i, k, hi, hk => by
    obtain ⟨k, rfl⟩ : ∃ m, k = m + 1 := ⟨k - 1, by omega⟩
    have h6 := goodB_len g
    have hs := rSameBoard_self k r c l (by omega) (by omega)
    rw [laws_FnBoardsTurned.l1, if_neg (by omega)]
    simp only [if_true]
    rw [hs, Option.bind_some, if_pos rfl, Option.bind_some, if_pos rfl, Option.bind_some, if_pos rfl, hn]
    simp
  | d + 1, i, k, hi, hk => by
    have g2 := g.2.1
    obtain ⟨k, rfl⟩ : ∃ m, k = (m + c.toNat + 1) + 1 := ⟨k - c.toNat - 2, by omega⟩
    have := law_l2 r c l T g gT hT gM gC true true true true true n1 n2 r c l r c l r c l i (by omega) c.toNat 0 k (by omega)
    rw [show ((0 : Nat) : Int) = 0 from rfl] at this
    rw [laws_FnBoardsTurned.l1, if_pos (by omega), this]
    exact law_l1 r c l T g gT hT gM gC n1 n2 hn d (i + 1) k (by omega) (by omega)
theorem law_j5 (k : Nat) (x : List Int) (hx : CodeOK x) (r c : Int) (l : List Int) (hk : 20000 ≤ k) : laws_FnBoardsTurned.j5 k x (turnOut r c l).2.2.2 r c l (turnOut r c l).1 (turnOut r c l).2.1 (turnOut r c l).2.2.1 (mirOut r c l).1 (mirOut r c l).2.1 (mirOut r c l).2.2.1 (compOut r c l).1 (compOut r c l).2.1 (compOut r c l).2.2.1 = some true := by
  obtain ⟨k, rfl⟩ : ∃ m, k = m + 2 := ⟨k - 2, by omega⟩
  rw [laws_FnBoardsTurned.j5]
  unfold spec_DrawFullBoard.f
  obtain ⟨v1, i1, u1, e1, h1, _⟩ := d_pick x hx 0 0 9 0 (by unfold PL; omega) (by omega)
  rw [e1, Option.bind_some]
  simp only
  obtain ⟨v2, i2, u2, e2, h2, _⟩ := d_pick x hx i1 u1 9 _ h1 (by omega)
  rw [e2, Option.bind_some, Option.bind_some]
  simp only
  obtain ⟨f1, f2⟩ := both_FullBoard (k + 1) (wrap64 (v1 - 1)) (wrap64 (v2 - 1)) (by omega)
  have fl := fbOut_len (wrap64 (v1 - 1)) (wrap64 (v2 - 1))
  rw [f1, Option.bind_some, f2, Option.bind_some, bne_self_eq_false, if_neg (by decide), rSameBoard_self _ _ _ _ (by omega) (by omega), Option.bind_some, laws_FnBoardsTurned.j6, if_neg (by decide)]
  by_cases g : GoodB r c l
  · have g1 := g.1; have g2 := g.2.1; have g3 := g.2.2.1
    have e1 : turnOut r c l = (c, r, turnL r c l, true) := by unfold turnOut; rw [if_pos g]
    have e2 : mirOut r c l = (r, c, l.map (mirR c), true) := by unfold mirOut; rw [if_pos g]
    have e3 : compOut r c l = (r, c, l.map (cmE c), true) := by unfold compOut; rw [if_pos g]
    obtain ⟨gT, hT⟩ := turn_good r c l g (turnL r c l) rfl
    obtain ⟨gU, hU⟩ := turn_good c r (turnL r c l) gT (turnL c r (turnL r c l)) rfl
    have eU := turn_back r c l g (turnL r c l) gT hT (turnL c r (turnL r c l)) gU hU
    have gM := map_good (mirR c) r c l g fun m hm => (flip c g2 m hm).2.1.1
    have gC := map_good (cmE c) r c l g fun m hm => (flip c g2 m hm).1.1
    have iM := map_map_id (mirR c) l fun m hm => (flip c g2 m (g.2.2.2 m hm)).2.1.2
    have iC := map_map_id (cmE c) l fun m hm => (flip c g2 m (g.2.2.2 m hm)).1.2.1
    have hsum := sum_flip c.toNat (cmE c) l fun m hm => (flip c g2 m (g.2.2.2 m hm)).1.2.2
    have t1 : turnOut c r (turnL r c l) = (r, c, l, true) := by unfold turnOut; rw [if_pos gT, eU]
    have t2 : impl_MirrorBoard.f r c (l.map (mirR c)) = some (r, c, l, true) := by unfold impl_MirrorBoard.f; rw [if_pos gM, iM]
    have t3 : impl_ComplementOf.f r c (l.map (cmE c)) = some (r, c, l, true) := by unfold impl_ComplementOf.f; rw [if_pos gC, iC]
    rw [e1, e2, e3]
    simp only [if_true]
    rw [i_TurnBoard _ _ _ _ (by omega), Option.bind_some, t1, t2, Option.bind_some, t3, Option.bind_some, cc_good _ _ _ _ g (by omega), Option.bind_some, cc_good _ _ _ _ gC (by omega), Option.bind_some]
    simp only
    have hn : (((cellsC c.toNat l 0).length : Int)) + ((cellsC c.toNat (l.map (cmE c)) 0).length : Int) = r * c := by
      rw [cellsC_sum, cellsC_sum, ← g3, ← Int.natCast_add, hsum, Int.natCast_mul]
      congr 1
      omega
    have := law_l1 r c l (turnL r c l) g gT hT gM gC ((cellsC c.toNat l 0).length : Int) ((cellsC c.toNat (l.map (cmE c)) 0).length : Int) (by rw [hn]) r.toNat 0 k (by omega) (by omega)
    rw [show ((0 : Nat) : Int) = 0 from rfl] at this
    exact this
  · have e1 : turnOut r c l = (0, 0, [], false) := by unfold turnOut; rw [if_neg g]
    rw [e1, if_neg (by decide)]
theorem law_j3 (k : Nat) (x y : List Int) (hx : CodeOK x) (hy : CodeOK y) (r c : Int) (l : List Int) (hk : 30000 ≤ k) : laws_FnBoardsTurned.j3 k x y (turnOut r c l).2.2.2 r c l (turnOut r c l).1 (turnOut r c l).2.1 (turnOut r c l).2.2.1 (mirOut r c l).1 (mirOut r c l).2.1 (mirOut r c l).2.2.1 (compOut r c l).1 (compOut r c l).2.1 (compOut r c l).2.2.1 = some true := by
  obtain ⟨k, rfl⟩ : ∃ m, k = m + 2 := ⟨k - 2, by omega⟩
  rw [laws_FnBoardsTurned.j3]
  obtain ⟨s, e⟩ := d_parse (k + 1) y hy (by omega)
  have hl := prOut_len s
  rw [e, Option.bind_some, i_ParseBoard _ s (by omega), Option.bind_some, e_ParseBoard _ s (by omega), prEq, Option.bind_some, bne_self_eq_false, if_neg (by decide), rSameBoard_self _ _ _ _ (by omega) (by omega), Option.bind_some, laws_FnBoardsTurned.j4, if_neg (by decide)]
  by_cases h : (prOut s).2.2.2 = true
  · obtain ⟨C, m, e1, gm, hs⟩ := pr_true s h
    have eb : btOut (m.length : Int) C m = (s, true) := by unfold btOut; rw [if_pos gm, hs]
    rw [e1]
    simp only [if_true]
    rw [i_BoardText _ _ _ _ (by omega), Option.bind_some, eb]
    simp only [if_true]
    exact law_j5 k x hx r c l (by omega)
  · rw [if_neg h]
    exact law_j5 k x hx r c l (by omega)
theorem law_l0 (x y : List Int) (b : Bool) (p : List Int) (R1 C1 : Int) (L1 : List Int) (R2 C2 : Int) (L2 : List Int) (R3 C3 : Int) (L3 : List Int) (R4 C4 : Int) (L4 : List Int) (R5 C5 : Int) (L5 : List Int) (R6 C6 : Int) (L6 : List Int) (hp : p.length ≤ 100) : ∀ (d i k : Nat) (out : List Int), i + d = p.length → out.length = p.length → (∀ a : Nat, a < p.length → 0 ≤ rd p (a : Int) ∧ rd p (a : Int) < (p.length : Int)) → laws_FnBoardsTurned.l0 (k + d + 1) x y b out p (p.length : Int) (i : Int) R1 C1 L1 R2 C2 L2 R3 C3 L3 R4 C4 L4 R5 C5 L5 R6 C6 L6 = laws_FnBoardsTurned.l0 (k + 1) x y b (bkL p d i out) p (p.length : Int) (p.length : Int) R1 C1 L1 R2 C2 L2 R3 C3 L3 R4 C4 L4 R5 C5 L5 R6 C6 L6
  | 0, i, k, out, hi, ho, hb => by
    rw [bkL, show (i : Int) = (p.length : Int) by omega]
  | d + 1, i, k, out, hi, ho, hb => by
    have := hb i (by omega)
    rw [show k + (d + 1) + 1 = (k + d + 1) + 1 by omega, laws_FnBoardsTurned.l0, if_pos (by omega), if_pos (by omega), if_pos (by omega), if_pos (by omega), if_pos (by omega), w64 (x := (i : Int) + 1) (by omega) (by omega), show ((i : Int) + 1) = ((i + 1 : Nat) : Int) from by omega, bkL]
    exact law_l0 x y b p R1 C1 L1 R2 C2 L2 R3 C3 L3 R4 C4 L4 R5 C5 L5 R6 C6 L6 hp d (i + 1) k _ (by omega) (by rw [List.length_set]; exact ho) hb
theorem law_j0 (k : Nat) (x y : List Int) (hx : CodeOK x) (hy : CodeOK y) (r c : Int) (l : List Int) (hk : 2000100 ≤ k) : laws_FnBoardsTurned.j0 k x y (turnOut r c l).2.2.2 false r c l (turnOut r c l).1 (turnOut r c l).2.1 (turnOut r c l).2.2.1 (mirOut r c l).1 (mirOut r c l).2.1 (mirOut r c l).2.2.1 (compOut r c l).1 (compOut r c l).2.1 (compOut r c l).2.2.1 = some true := by
  obtain ⟨k, rfl⟩ : ∃ m, k = m + 2 := ⟨k - 2, by omega⟩
  rw [laws_FnBoardsTurned.j0, if_neg (by decide)]
  obtain ⟨r', c', l', p, e, h1, h2⟩ := d_order (k + 1) y hy (by omega)
  have hl := ordOut_len r' c' l' p
  rw [e, Option.bind_some]
  simp only
  rw [i_OrderRows _ r' c' l' p (by omega), Option.bind_some, e_OrderRows _ r' c' l' p (by omega) (by omega) (by omega), Option.bind_some, bne_self_eq_false, if_neg (by decide), rSameBoard_self _ _ _ _ (by omega) (by omega), Option.bind_some, laws_FnBoardsTurned.j1, if_neg (by decide)]
  by_cases h : GoodB r' c' l' ∧ permB p r' = true
  · obtain ⟨g, hp⟩ := h
    have g3 := g.2.2.1
    have eo : ordOut r' c' l' p = (r', c', p.map (fun x => rd l' x), true) := by unfold ordOut; rw [if_pos ⟨g, hp⟩]
    obtain ⟨p1, p2, p3, p4⟩ := perm_facts p r' hp
    obtain ⟨q1, q2⟩ := order_back l' p r' g3 hp
    have gm : GoodB r' c' (p.map fun x => rd l' x) := by
      refine ⟨g.1, g.2.1, by rw [List.length_map]; exact p1, fun z hz => ?_⟩
      obtain ⟨w, hw, rfl⟩ := List.mem_map.1 hz
      obtain ⟨a, ha, rfl⟩ := List.getElem_of_mem hw
      have := p2 a ha
      rw [rd_nat p a ha] at this
      exact g.2.2.2 _ (rd_mem l' _ this.1 (by omega))
    have eb : ordOut r' c' (p.map fun x => rd l' x) (bkL p p.length 0 (List.replicate p.length 0)) = (r', c', l', true) := by
      unfold ordOut
      rw [if_pos ⟨gm, q1⟩, q2]
    rw [eo]
    simp only [if_true]
    rw [if_pos (by omega), if_pos (by omega), Int.toNat_natCast]
    obtain ⟨k', rfl⟩ : ∃ m, k = m + p.length + 1 := ⟨k - p.length - 1, by omega⟩
    have hb : ∀ a : Nat, a < p.length → 0 ≤ rd p (a : Int) ∧ rd p (a : Int) < (p.length : Int) := fun a ha => by have := p2 a ha; omega
    have hloop := law_l0 x y (turnOut r c l).2.2.2 p r c l (turnOut r c l).1 (turnOut r c l).2.1 (turnOut r c l).2.2.1 (mirOut r c l).1 (mirOut r c l).2.1 (mirOut r c l).2.2.1 (compOut r c l).1 (compOut r c l).2.1 (compOut r c l).2.2.1 r' c' l' r' c' (p.map fun x => rd l' x) (by omega) p.length 0 k' (List.replicate p.length 0) (by omega) (by simp) hb
    rw [show ((0 : Nat) : Int) = 0 from rfl] at hloop
    rw [hloop, laws_FnBoardsTurned.l0, if_neg (by omega), i_OrderRows _ _ _ _ _ (by omega), Option.bind_some, eb]
    simp only [if_true]
    rw [rSameBoard_self _ _ _ _ (by omega) (by omega), Option.bind_some, if_pos rfl]
    exact law_j3 k' x y hx hy r c l (by omega)
  · have eo : ordOut r' c' l' p = (0, 0, [], false) := by unfold ordOut; rw [if_neg h]
    rw [eo, if_neg (by decide)]
    exact law_j3 k x y hx hy r c l (by omega)
theorem FnBoardsTurned : laws_FnBoardsTurned.Pure := by
  intro a b _ ha _ hb
  refine ⟨3000000, ?_⟩
  unfold laws_FnBoardsTurned.f laws_big.f
  by_cases h : (a.length : Int) > 1048576
  · rw [if_pos h]; rfl
  · rw [if_neg h, Option.bind_some, w64 (by omega) (by omega)]
    by_cases h2 : (b.length : Int) > 1048576 - a.length
    · rw [decide_eq_true h2, if_pos rfl]
    · have hca := code_ok a (by omega) ha
      have hcb := code_ok b (by omega) hb
      rw [decide_eq_false h2, if_neg (by decide)]
      unfold spec_DrawTurnBoard.f spec_DrawIsBoard.f
      obtain ⟨r, c, l, i1, u1, e1, h3, h4, _⟩ := d_board 3000000 a hca 0 0 0 (by unfold PL; omega) (by omega) (by omega)
      have n1 := turnOut_len r c l
      have n2 := mirOut_len r c l
      have n3 := compOut_len r c l
      have hM : impl_MirrorBoard.f r c l = some (mirOut r c l) := rfl
      have hC : impl_ComplementOf.f r c l = some (compOut r c l) := rfl
      rw [e1, Option.bind_some, Option.bind_some, Option.bind_some]
      simp only
      rw [i_TurnBoard _ r c l (by omega), Option.bind_some, e_TurnBoard _ r c l (by omega) (by omega) (by omega), Option.bind_some, hM, Option.bind_some, e_MirrorBoard _ r c l (by omega) (by omega) (by omega), Option.bind_some, hC, Option.bind_some, e_ComplementOf _ r c l (by omega) (by omega) (by omega), Option.bind_some]
      rw [bne_self_eq_false, if_neg (by decide), rSameBoard_self _ _ _ _ (by omega) (by omega), Option.bind_some, if_pos rfl, bne_self_eq_false, if_neg (by decide), rSameBoard_self _ _ _ _ (by omega) (by omega), Option.bind_some, if_pos rfl, bne_self_eq_false, if_neg (by decide), rSameBoard_self _ _ _ _ (by omega) (by omega), Option.bind_some, if_pos rfl]
      have j0 := law_j0 3000000 a b hca hcb r c l (by omega)
      by_cases g : GoodB r c l
      · have q1 : (turnOut r c l).2.2.2 = true := by unfold turnOut; rw [if_pos g]
        have q2 : (mirOut r c l).2.2.2 = true := by unfold mirOut; rw [if_pos g]
        have q3 : (compOut r c l).2.2.2 = true := by unfold compOut; rw [if_pos g]
        rw [q1] at j0 ⊢
        rw [q2, q3, if_neg (by decide)]
        exact j0
      · have q1 : (turnOut r c l).2.2.2 = false := by unfold turnOut; rw [if_neg g]
        have q2 : (mirOut r c l).2.2.2 = false := by unfold mirOut; rw [if_neg g]
        have q3 : (compOut r c l).2.2.2 = false := by unfold compOut; rw [if_neg g]
        rw [q1] at j0 ⊢
        rw [q2, q3, if_neg (by decide)]
        exact j0

end Go.Proofs.YtllhofdgbpnkkaaDoor.Pure
