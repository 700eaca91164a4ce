/- BoardsJoined: the law's function comes to true. -/
import Derived.Test.YtllhofdgbpnkkaaPFnBoardsJoinedx15
namespace Go.Proofs.Ytllhofdgbpnkkaa.Pure
open Go.RowKit Go.Proofs.Ytllhofdgbpnkkaa.PFnBoardsJoined Go.Proofs.YtllhofdgbpnkkaaW.PrintWords Go.Proofs.YtllhofdgbpnkkaaW.PrintLast
set_option linter.unusedVariables false
set_option linter.unusedSimpArgs false

theorem w64 {x : Int} (h0 : -9223372036854775808 ≤ x) (h1 : x < 9223372036854775808) : wrap64 x = x := by
  unfold wrap64; omega
theorem rd_nat (l : List Int) (i : Nat) (h : i < l.length) : rd l (i : Int) = l[i] := by
  unfold rd; simp [List.getD, h]

theorem wu64 (n : Int) : IntKind.u64.wrap n = n % 18446744073709551616 := by simp [IntKind.wrap, IntKind.bits, IntKind.signed]
theorem and255 (x : Int) (h0 : 0 ≤ x) (h1 : x < 18446744073709551616) : Go.bits .and .u64 x 255 = x % 256 := by
  have := Go.bits_mask .u64 64 (by decide) (fun n h0 h1 => by rw [wu64]; exact Int.emod_eq_of_lt h0 (by simpa using h1)) 8 (by decide) x h0 (by simpa using h1)
  simpa using this
theorem and255w (n : Int) : 0 ≤ wrap64 (Go.bits .and .u64 (IntKind.u64.wrap n / 1099511627776) 255) ∧ wrap64 (Go.bits .and .u64 (IntKind.u64.wrap n / 1099511627776) 255) ≤ 255 := by
  rw [and255 _ (by rw [wu64]; omega) (by rw [wu64]; omega), w64 (by omega) (by omega)]
  omega
def CodeOK (code : List Int) : Prop := code.length ≤ 1048576 ∧ ∀ x ∈ code, 0 ≤ x ∧ x ≤ 255
theorem code_ok (code : List Int) (h : code.length ≤ 1048576) (hw : ∀ x ∈ code, (Lit.int .u8 x).wf = true) : CodeOK code := by
  refine ⟨h, fun x hx => ?_⟩
  have := hw x hx
  simp only [Lit.wf, Bool.and_eq_true, decide_eq_true_eq] at this
  have h1 : IntKind.u8.min = 0 := rfl
  have h2 : IntKind.u8.max = 255 := rfl
  rw [h1, h2] at this
  exact this
/-- A place of the bytes that a draw may have come to. -/
def PL (n i : Int) : Prop := 0 ≤ i ∧ i ≤ n
theorem d_next (code : List Int) (hc : CodeOK code) (i u : Int) (hi : 0 ≤ i ∧ i ≤ 1000000000) : ∃ v u', spec_l1Cur_next.f code i u = some (v, i + 1, u') ∧ 0 ≤ v ∧ v ≤ 255 := by
  have hl := hc.1
  unfold spec_l1Cur_next.f
  rw [w64 (x := i + 1) (by omega) (by omega)]
  by_cases h : i < (code.length : Int)
  · rw [if_pos h, if_pos hi.1, if_pos (show i + 1 ≤ (code.length : Int) by omega)]
    refine ⟨_, _, rfl, ?_⟩
    obtain ⟨j, rfl⟩ := Int.eq_ofNat_of_zero_le hi.1
    have hj : j < code.length := by omega
    rw [rd_nat code j hj]
    have := hc.2 _ (List.getElem_mem hj)
    rw [w64 (by omega) (by omega)]
    exact this
  · rw [if_neg h, if_neg (show ¬ i + 1 ≤ (code.length : Int) by omega)]
    exact ⟨_, _, rfl, and255w _⟩
theorem d_pick (code : List Int) (hc : CodeOK code) (i u n : Int) (N : Int) (hi : PL N i) (hN : N ≤ 100000000) : ∃ v i' u', spec_l1Cur_pick.f code i u n = some (v, i', u') ∧ PL (N + 2) i' ∧ 0 ≤ v ∧ (1 ≤ n → v < n) := by
  unfold PL at hi ⊢
  unfold spec_l1Cur_pick.f
  by_cases h : n ≤ 1
  · rw [if_pos h]
    exact ⟨_, _, _, rfl, by omega, by omega, by omega⟩
  · rw [if_neg h]
    obtain ⟨v, u', e, h0, h1⟩ := d_next code hc i u (by omega)
    rw [e, Option.bind_some]
    by_cases h2 : n > 200
    · obtain ⟨v2, u2, e2, h3, h4⟩ := d_next code hc (i + 1) u' (by omega)
      rw [if_pos h2]
      simp only
      rw [e2, Option.bind_some, if_neg (show ¬ n = 0 by omega)]
      refine ⟨_, _, _, rfl, by simp only; omega, ?_⟩
      rw [w64 (x := v * 256) (by omega) (by omega), w64 (by omega) (by omega), Int.tmod_eq_emod_of_nonneg (by omega)]
      exact ⟨Int.emod_nonneg _ (by omega), fun _ => Int.emod_lt_of_pos _ (by omega)⟩
    · rw [if_neg h2, if_neg (show ¬ n = 0 by omega)]
      refine ⟨_, _, _, rfl, by simp only; omega, ?_⟩
      simp only
      rw [Int.tmod_eq_emod_of_nonneg (by omega)]
      exact ⟨Int.emod_nonneg _ (by omega), fun _ => Int.emod_lt_of_pos _ (by omega)⟩

theorem d_one (code : List Int) (hc : CodeOK code) (i u n : Int) (N : Int) (hi : PL N i) (hN : N ≤ 100000000) : ∃ v i' u', spec_l1Cur_one.f code i u n = some (v, i', u') ∧ PL (N + 2) i' := by
  unfold spec_l1Cur_one.f
  obtain ⟨v, i', u', e, h, _⟩ := d_pick code hc i u n N hi hN
  rw [e]
  exact ⟨_, _, _, rfl, h⟩

theorem d_boardOf_l0 (code : List Int) (hc : CodeOK code) (R C : Int) (hC : 0 ≤ C ∧ C ≤ 60) : ∀ (d j k : Nat) (i u : Int) (l : List Int) (N : Int), j + d = l.length → d < k → PL N i → N + 6 * d ≤ 10000000 → l.length ≤ 1000 → ∃ l' i' u', spec_l1Cur_boardOf.l0 k C (l.length : Int) (j : Int) code i u R C l = some (R, C, l', i', u') ∧ l'.length = l.length ∧ PL (N + 6 * d) i' := by
  intro d
  induction d with
  | zero =>
    intro j k i u l N hj hk hi hN hl
    obtain ⟨k, rfl⟩ : ∃ m, k = m + 1 := ⟨k - 1, by omega⟩
    rw [spec_l1Cur_boardOf.l0, if_neg (by omega)]
    exact ⟨_, _, _, rfl, rfl, by simpa using hi⟩
  | succ d ih =>
    intro j k i u l N hj hk hi hN hl
    obtain ⟨k, rfl⟩ : ∃ m, k = m + 1 := ⟨k - 1, by omega⟩
    rw [spec_l1Cur_boardOf.l0, if_pos (by omega), if_pos hC.1]
    obtain ⟨v1, i1, u1, e1, h1, _⟩ := d_pick code hc i u (shl .i64 1 C) N hi (by omega)
    rw [e1, Option.bind_some, if_pos (by omega), if_pos (by omega), Option.bind_some]
    obtain ⟨v2, i2, u2, e2, h2⟩ := d_one code hc i1 u1 3 (N + 2) h1 (by omega)
    simp only
    rw [e2, Option.bind_some, w64 (x := (j : Int) + 1) (by omega) (by omega), show ((j : Int) + 1) = ((j + 1 : Nat) : Int) from by omega]
    by_cases hb : v2 = true
    · rw [if_pos hb]
      obtain ⟨v3, i3, u3, e3, h3, h4, _⟩ := d_pick code hc i2 u2 (wrap64 (C + 1)) (N + 2 + 2) h2 (by omega)
      simp only
      rw [e3, Option.bind_some, if_pos h4]
      have := ih (j + 1) k i3 u3 ((l.set (j : Int).toNat v1).set (j : Int).toNat (wrap64 (shl .i64 1 v3 - 1))) (N + 2 + 2 + 2) (by simp; omega) (by omega) h3 (by omega) (by simp; omega)
      simp only [List.length_set] at this
      obtain ⟨l', i', u', e, h5, h6⟩ := this
      exact ⟨l', i', u', e, h5, by rw [show N + 6 * ((d + 1 : Nat) : Int) = N + 2 + 2 + 2 + 6 * d by omega]; exact h6⟩
    · rw [if_neg hb]
      have := ih (j + 1) k i2 u2 (l.set (j : Int).toNat v1) (N + 2 + 2) (by simp; omega) (by omega) h2 (by omega) (by simp; omega)
      simp only [List.length_set] at this
      obtain ⟨l', i', u', e, h5, h6⟩ := this
      exact ⟨l', i', u', e, h5, by unfold PL at h6 ⊢; omega⟩
theorem d_boardOf (k : Nat) (code : List Int) (hc : CodeOK code) (i u : Int) (N : Int) (R C : Int) (hR : 0 ≤ R ∧ R ≤ 100) (hC : 0 ≤ C ∧ C ≤ 60) (hi : PL N i) (hN : N ≤ 1000000) (hk : 1000 ≤ k) : ∃ l' i' u', spec_l1Cur_boardOf.f k code i u R C = some (R, C, l', i', u') ∧ (l'.length : Int) = R ∧ PL (N + 600) i' := by
  unfold spec_l1Cur_boardOf.f spec_boEmpty.f
  rw [if_pos hR.1, if_pos (by omega), Option.bind_some]
  simp only
  obtain ⟨l', i', u', e, h1, h2⟩ := d_boardOf_l0 code hc R C hC R.toNat 0 k i u (List.replicate R.toNat 0) N (by simp) (by omega) hi (by omega) (by simp; omega)
  rw [show ((0 : Nat) : Int) = 0 from rfl] at e
  refine ⟨l', i', u', e, by rw [h1]; simp; omega, by unfold PL at h2 ⊢; omega⟩

theorem d_sides (code : List Int) (hc : CodeOK code) (i u : Int) (N : Int) (hi : PL N i) (hN : N ≤ 10000000) : ∃ v i' u', spec_l1Cur_sides.f code i u = some (v, i', u') ∧ PL (N + 4) i' ∧ 1 ≤ v ∧ v ≤ 6 := by
  unfold spec_l1Cur_sides.f
  obtain ⟨b, i1, u1, e, h⟩ := d_one code hc i u 8 N hi (by omega)
  rw [e, Option.bind_some]
  by_cases hb : b = true
  · rw [if_pos hb]
    exact ⟨_, _, _, rfl, by unfold PL at h ⊢; simp only; omega, by omega, by omega⟩
  · rw [if_neg hb]
    obtain ⟨v, i2, u2, e2, h2, h3, h4⟩ := d_pick code hc i1 u1 5 (N + 2) h (by omega)
    have h5 := h4 (by omega)
    rw [e2]
    refine ⟨_, _, _, rfl, by rw [show N + 4 = N + 2 + 2 by omega]; exact h2, ?_⟩
    simp only
    rw [w64 (by omega) (by omega)]; omega

theorem rd_in (l : List Int) (i : Int) (h0 : 0 ≤ i) (h1 : i < (l.length : Int)) : rd l i ∈ l := by
  obtain ⟨j, rfl⟩ := Int.eq_ofNat_of_zero_le h0
  have hj : j < l.length := by omega
  rw [rd_nat l j hj]
  exact List.getElem_mem hj
theorem d_among (code : List Int) (hc : CodeOK code) (i u : Int) (l : List Int) (N : Int) (hl : l ≠ []) (hi : PL N i) (hN : N ≤ 100000000) : ∃ v i' u', spec_l1Cur_among.f code i u l = some (v, i', u') ∧ PL (N + 2) i' ∧ v ∈ l := by
  unfold spec_l1Cur_among.f
  have hp : 0 < l.length := by cases l with | nil => exact absurd rfl hl | cons a t => simp
  obtain ⟨v, i', u', e, h, h0, h1⟩ := d_pick code hc i u (l.length : Int) N hi hN
  have h2 := h1 (by omega)
  rw [e, Option.bind_some, if_pos h0, if_pos h2]
  exact ⟨_, _, _, rfl, h, rd_in l v h0 h2⟩

theorem d_board (k : Nat) (code : List Int) (hc : CodeOK code) (i u : Int) (N : Int) (hi : PL N i) (hN : N ≤ 100000) (hk : 1000 ≤ k) : ∃ r c l i' u', spec_l1Cur_board.f k code i u = some (r, c, l, i', u') ∧ 1 ≤ l.length ∧ l.length ≤ 7 ∧ PL (N + 1000) i' := by
  unfold spec_l1Cur_board.f
  obtain ⟨r, i1, u1, e1, h1, r1, r2⟩ := d_sides code hc i u N hi (by omega)
  rw [e1, Option.bind_some]
  simp only
  obtain ⟨c, i2, u2, e2, h2, c1, c2⟩ := d_sides code hc i1 u1 (N + 4) h1 (by omega)
  rw [e2, Option.bind_some]
  simp only
  obtain ⟨l, i3, u3, e3, h3, h4⟩ := d_boardOf k code hc i2 u2 (N + 4 + 4) r c (by omega) (by omega) h2 (by omega) hk
  rw [e3, Option.bind_some]
  simp only
  obtain ⟨v, i4, u4, e4, h5, _⟩ := d_pick code hc i3 u3 18 (N + 4 + 4 + 600) h4 (by omega)
  rw [e4, Option.bind_some]
  simp only
  split
  · obtain ⟨v5, i5, u5, e5, h6, _⟩ := d_among code hc i4 u4 [-1, 0, wrap64 (r + 1), 7] (N + 4 + 4 + 600 + 2) (by simp) h5 (by omega)
    rw [e5, Option.bind_some]
    exact ⟨_, _, _, _, _, rfl, by omega, by omega, by unfold PL at h6 ⊢; simp only; omega⟩
  · split
    · obtain ⟨v5, i5, u5, e5, h6, _⟩ := d_among code hc i4 u4 [-1, 0, 7, 4611686018427387904] (N + 4 + 4 + 600 + 2) (by simp) h5 (by omega)
      rw [e5, Option.bind_some]
      exact ⟨_, _, _, _, _, rfl, by omega, by omega, by unfold PL at h6 ⊢; simp only; omega⟩
    · split
      · obtain ⟨v5, i5, u5, e5, h6, h7, h8⟩ := d_pick code hc i4 u4 (l.length : Int) (N + 4 + 4 + 600 + 2) h5 (by omega)
        rw [e5, Option.bind_some]
        simp only
        obtain ⟨v6, i6, u6, e6, h9, _⟩ := d_among code hc i5 u5 [-1, 64, 4611686018427387904] (N + 4 + 4 + 600 + 2 + 2) (by simp) h6 (by omega)
        rw [e6, Option.bind_some, if_pos h7, if_pos (h8 (by omega))]
        exact ⟨_, _, _, _, _, rfl, by simp; omega, by simp; omega, by unfold PL at h9 ⊢; simp only; omega⟩
      · split
        · rw [if_pos (by omega)]
          exact ⟨_, _, _, _, _, rfl, by simp, by simp; omega, by unfold PL at h5 ⊢; omega⟩
        · exact ⟨_, _, _, _, _, rfl, by omega, by omega, by unfold PL at h5 ⊢; omega⟩

theorem e_l1In (a b c : Int) : spec_l1In.f a b c = some (decide (b ≤ a ∧ a ≤ c)) := by
  unfold spec_l1In.f
  by_cases h : b ≤ a
  · rw [if_pos h]; simp [h]
  · rw [if_neg h]; simp [h]

theorem e_l1All_l0 (lo hi : Int) (l : List Int) (hl : l.length ≤ 2000000) : ∀ (d i k : Nat), i + d = l.length → d < k →
    spec_l1All.l0 k lo hi l (l.length : Int) (i : Int) = some (decide (∀ x ∈ l.drop i, lo ≤ x ∧ x ≤ hi)) := by
  intro d
  induction d with
  | zero =>
    intro i k hi' hk
    obtain ⟨k, rfl⟩ : ∃ m, k = m + 1 := ⟨k - 1, by omega⟩
    simp only [spec_l1All.l0]; rw [if_neg (by omega), List.drop_eq_nil_of_le (by omega)]; simp
  | succ d ih =>
    intro i k hi' hk
    obtain ⟨k, rfl⟩ : ∃ m, k = m + 1 := ⟨k - 1, by omega⟩
    have hlt : i < l.length := by omega
    simp only [spec_l1All.l0]
    rw [if_pos (by omega), if_pos (by omega), if_pos (by omega), e_l1In, rd_nat l i hlt, List.drop_eq_getElem_cons hlt, w64 (by omega) (by omega)]
    simp only [Option.bind_some, decide_eq_true_eq, List.forall_mem_cons]
    by_cases h : lo ≤ l[i] ∧ l[i] ≤ hi
    · rw [if_pos h]
      have := ih (i + 1) k (by omega) (by omega)
      rw [show ((i : Int) + 1) = ((i + 1 : Nat) : Int) from by omega, this]; simp [h]
    · rw [if_neg h]; simp [h]
theorem e_l1All (k : Nat) (l : List Int) (lo hi : Int) (hl : l.length ≤ 2000000) (hk : l.length < k) : spec_l1All.f k l lo hi = some (decide (∀ x ∈ l, lo ≤ x ∧ x ≤ hi)) := by
  unfold spec_l1All.f; exact e_l1All_l0 lo hi l hl l.length 0 k (by omega) hk

theorem e_boSide (a : Int) : spec_boSide.f a = some (decide (1 ≤ a ∧ a ≤ 6)) := by
  unfold spec_boSide.f; rw [e_l1In]; rfl

/-- Is there a cell in the column c of a row m? -/
def cell (m c : Int) : Bool := decide (m / 2 ^ c.toNat % 2 = 1)
theorem fin_of (m : Int) (n : Nat) (h0 : 0 ≤ m) (h1 : m < n) : ∃ i : Fin n, m = (i.val : Int) := ⟨⟨m.toNat, by omega⟩, by simp; omega⟩
theorem cell_spec (m c : Int) (hm : 0 ≤ m ∧ m ≤ 63) (hc : 0 ≤ c ∧ c ≤ 6) : (Int.tmod (shr .i64 m c) 2 == 1) = cell m c := by
  have h : ∀ m : Fin 64, ∀ c : Fin 7, (Int.tmod (shr .i64 (m.val : Int) (c.val : Int)) 2 == 1) = cell (m.val : Int) (c.val : Int) := by decide +kernel
  obtain ⟨i, rfl⟩ := fin_of m 64 hm.1 (by omega)
  obtain ⟨j, rfl⟩ := fin_of c 7 hc.1 (by omega)
  exact h i j
theorem cell_impl (m c : Int) (hm : 0 ≤ m ∧ m ≤ 63) (hc : 0 ≤ c ∧ c ≤ 6) : (Go.bits .and .i64 (shr .i64 m c) 1 == 1) = cell m c := by
  have h : ∀ m : Fin 64, ∀ c : Fin 7, (Go.bits .and .i64 (shr .i64 (m.val : Int) (c.val : Int)) 1 == 1) = cell (m.val : Int) (c.val : Int) := by decide +kernel
  obtain ⟨i, rfl⟩ := fin_of m 64 hm.1 (by omega)
  obtain ⟨j, rfl⟩ := fin_of c 7 hc.1 (by omega)
  exact h i j
theorem pow_le (a : Int) (h : 1 ≤ a ∧ a ≤ 6) : 2 ≤ (2 : Int) ^ a.toNat ∧ (2 : Int) ^ a.toNat ≤ 64 := by
  obtain ⟨h0, h1⟩ := h
  obtain h | h | h | h | h | h : a = 1 ∨ a = 2 ∨ a = 3 ∨ a = 4 ∨ a = 5 ∨ a = 6 := by omega
  all_goals (subst h; decide +kernel)
theorem rd_mem (l : List Int) (i : Int) (h0 : 0 ≤ i) (h1 : i < l.length) : rd l i ∈ l := by
  obtain ⟨n, rfl⟩ := Int.eq_ofNat_of_zero_le h0
  rw [rd_nat l n (by omega)]; exact List.getElem_mem _

theorem i_IsBoard (r c : Int) (l : List Int) : impl_IsBoard.f r c l = some (decide (GoodB r c l)) := rfl

theorem goodB_le {r c : Int} {l : List Int} (h : GoodB r c l) : ∀ x ∈ l, 0 ≤ x ∧ x ≤ 63 := by
  intro x hx
  have := h.2.2.2 x hx
  have := pow_le c h.2.1
  omega
theorem goodB_len {r c : Int} {l : List Int} (h : GoodB r c l) : l.length ≤ 6 := by
  have := h.1; have := h.2.2.1; omega
/-- Is it a place of a board? -/
def Place (r c i j : Int) : Prop := (0 ≤ i ∧ i ≤ r - 1) ∧ (0 ≤ j ∧ j ≤ c - 1)
instance (r c i j : Int) : Decidable (Place r c i j) := by unfold Place; exact inferInstance

theorem sh1 (a : Int) (h : 1 ≤ a ∧ a ≤ 6) : wrap64 (shl .i64 1 a - 1) = 2 ^ a.toNat - 1 := by
  obtain ⟨h0, h1⟩ := h
  obtain h | h | h | h | h | h : a = 1 ∨ a = 2 ∨ a = 3 ∨ a = 4 ∨ a = 5 ∨ a = 6 := by omega
  all_goals (subst h; decide +kernel)
theorem e_boGood (k : Nat) (r c : Int) (l : List Int) (hl : l.length ≤ 2000000) (hk : l.length < k) : spec_boGood.f k r c l = some (decide (GoodB r c l)) := by
  unfold spec_boGood.f
  rw [e_boSide, e_boSide]
  simp only [Option.bind_some, decide_eq_true_eq]
  by_cases h0 : 1 ≤ r ∧ r ≤ 6
  · by_cases h1 : 1 ≤ c ∧ c ≤ 6
    · by_cases h2 : (l.length : Int) = r
      · rw [if_pos h0, if_pos h1, if_pos h2, if_pos (by omega), sh1 c h1, e_l1All k l _ _ hl hk]
        simp [GoodB, h0, h1, h2]
      · rw [if_pos h0, if_pos h1, if_neg h2]; simp [GoodB, h2]
    · rw [if_pos h0, if_neg h1]; simp [GoodB, h1]
  · rw [if_neg h0]; simp [GoodB, h0]

theorem d_fit_l0 (code : List Int) (i u r c : Int) (l : List Int) (R C : Int) : ∀ (d j k : Nat) (y : List Int), j + d = y.length → y.length = l.length → y.length ≤ 100 → d < k → ∃ y', y'.length = y.length ∧ spec_l1Cur_fittingBoards.l0 k (y.length : Int) (j : Int) code i u r c l R C y = some (r, c, l, R, C, y', i, u)
  | 0, j, k, y, hj, hy, hl, hk => by
    obtain ⟨k, rfl⟩ : ∃ m, k = m + 1 := ⟨k - 1, by omega⟩
    rw [spec_l1Cur_fittingBoards.l0, if_neg (by omega)]
    exact ⟨y, rfl, rfl⟩
  | d + 1, j, k, y, hj, hy, hl, hk => by
    obtain ⟨k, rfl⟩ : ∃ m, k = m + 1 := ⟨k - 1, by omega⟩
    rw [spec_l1Cur_fittingBoards.l0, if_pos (by omega), if_pos (by omega), if_pos (by omega), if_pos (by omega), w64 (x := (j : Int) + 1) (by omega) (by omega), show ((j : Int) + 1) = ((j + 1 : Nat) : Int) from by omega]
    obtain ⟨y', h1, h2⟩ := d_fit_l0 code i u r c l R C d (j + 1) k (y.set (j : Int).toNat (Go.bits .or .i64 (rd y (j : Int)) (rd l (j : Int)))) (by simp; omega) (by simpa using hy) (by simpa using hl) (by omega)
    rw [List.length_set] at h1 h2
    exact ⟨y', h1, h2⟩
theorem d_fit (k : Nat) (code : List Int) (hc : CodeOK code) (i u : Int) (N : Int) (hi : PL N i) (hN : N ≤ 10000) (hk : 2000 ≤ k) : ∃ r c l r' c' l' i' u', spec_l1Cur_fittingBoards.f k code i u = some (r, c, l, r', c', l', i', u') ∧ l.length ≤ 7 ∧ l'.length ≤ 7 ∧ PL (N + 3000) i' := by
  unfold spec_l1Cur_fittingBoards.f
  obtain ⟨r, c, l, i1, u1, e1, h1, h2, h3⟩ := d_board k code hc i u N hi (by omega) (by omega)
  obtain ⟨K, rfl⟩ : ∃ m, k = m + 1 := ⟨k - 1, by omega⟩
  have hj : ∀ i2 u2 : Int, PL (N + 1002) i2 → ∃ r' c' l' i' u', spec_l1Cur_fittingBoards.j0 (K + 1) true code i2 u2 r c l = some (r, c, l, r', c', l', i', u') ∧ l'.length ≤ 7 ∧ PL (N + 3000) i' := by
    intro i2 u2 h
    rw [spec_l1Cur_fittingBoards.j0, if_pos rfl]
    obtain ⟨r', c', l', i3, u3, e3, h4, h5, h6⟩ := d_board K code hc i2 u2 (N + 1002) h (by omega) (by omega)
    rw [e3]
    exact ⟨r', c', l', i3, u3, rfl, h5, by unfold PL at h6 ⊢; omega⟩
  rw [e1, Option.bind_some]
  simp only
  rw [e_boGood _ r c l (by omega) (by omega), Option.bind_some]
  by_cases g : GoodB r c l
  · have g1 := g.1; have g2 := g.2.1; have g3 := g.2.2.1
    rw [if_pos (decide_eq_true g)]
    obtain ⟨v2, i2, u2, e2, h4⟩ := d_one code hc i1 u1 6 (N + 1000) h3 (by omega)
    rw [e2, Option.bind_some]
    simp only
    by_cases hv : v2 = true
    · rw [hv]
      obtain ⟨r', c', l', i', u', e3, h5, h6⟩ := hj i2 u2 (by unfold PL at h4 ⊢; omega)
      exact ⟨r, c, l, r', c', l', i', u', e3, h2, h5, h6⟩
    · rw [Bool.eq_false_iff.mpr hv, spec_l1Cur_fittingBoards.j0, if_neg (by decide)]
      obtain ⟨l', i3, u3, e3, h5, h6⟩ := d_boardOf K code hc i2 u2 (N + 1002) r c (by omega) (by omega) (by unfold PL at h4 ⊢; omega) (by omega) (by omega)
      rw [e3, Option.bind_some]
      simp only
      obtain ⟨v4, i4, u4, e4, h7⟩ := d_one code hc i3 u3 3 (N + 1002 + 600) h6 (by omega)
      rw [e4, Option.bind_some]
      simp only
      by_cases hv4 : v4 = true
      · rw [if_pos hv4]
        obtain ⟨y', h8, h9⟩ := d_fit_l0 code i4 u4 r c l r c l'.length 0 K l' (by omega) (by omega) (by omega) (by omega)
        rw [show ((0 : Nat) : Int) = 0 from rfl] at h9
        exact ⟨_, _, _, _, _, _, _, _, h9, h2, by omega, by unfold PL at h7 ⊢; omega⟩
      · rw [if_neg hv4]
        exact ⟨_, _, _, _, _, _, _, _, rfl, h2, by omega, by unfold PL at h7 ⊢; omega⟩
  · rw [if_neg (by simpa using g)]
    obtain ⟨r', c', l', i', u', e3, h5, h6⟩ := hj i1 u1 (by unfold PL at h3 ⊢; omega)
    exact ⟨r, c, l, r', c', l', i', u', e3, h2, h5, h6⟩

theorem d_stack (k : Nat) (code : List Int) (hc : CodeOK code) (hk : 2000 ≤ k) : ∃ r c l r' c' l', spec_DrawStackBoards.f k code = some (r, c, l, r', c', l') ∧ l.length ≤ 7 ∧ l'.length ≤ 7 := by
  unfold spec_DrawStackBoards.f
  obtain ⟨v1, i1, u1, e1, h1⟩ := d_one code hc 0 0 5 0 (by unfold PL; omega) (by omega)
  rw [e1, Option.bind_some]
  simp only
  by_cases hv : v1 = true
  · rw [if_pos hv]
    obtain ⟨r, c, l, i2, u2, e2, h2, h3, h4⟩ := d_board k code hc i1 u1 _ h1 (by omega) (by omega)
    rw [e2, Option.bind_some]
    simp only
    obtain ⟨r', c', l', i3, u3, e3, h5, h6, h7⟩ := d_board k code hc i2 u2 _ h4 (by omega) (by omega)
    rw [e3, Option.bind_some]
    exact ⟨_, _, _, _, _, _, rfl, h3, h6⟩
  · rw [if_neg hv]
    obtain ⟨a, i2, u2, e2, h2, a0, a1⟩ := d_pick code hc i1 u1 3 _ h1 (by omega)
    rw [e2, Option.bind_some]
    simp only
    obtain ⟨b, i3, u3, e3, h3, b0, b1⟩ := d_pick code hc i2 u2 3 _ h2 (by omega)
    rw [e3, Option.bind_some]
    simp only
    have a1 := a1 (by omega)
    have b1 := b1 (by omega)
    rw [w64 (x := 1 + a) (by omega) (by omega), w64 (x := 1 + b) (by omega) (by omega)]
    obtain ⟨l, i4, u4, e4, h4, h5⟩ := d_boardOf k code hc i3 u3 _ (1 + a) (1 + b) (by omega) (by omega) h3 (by omega) (by omega)
    rw [e4, Option.bind_some]
    simp only
    obtain ⟨a', i5, u5, e5, h6, a0', a1'⟩ := d_pick code hc i4 u4 3 _ h5 (by omega)
    rw [e5, Option.bind_some]
    simp only
    obtain ⟨b', i6, u6, e6, h7, b0', b1'⟩ := d_pick code hc i5 u5 3 _ h6 (by omega)
    rw [e6, Option.bind_some]
    simp only
    have a1' := a1' (by omega)
    have b1' := b1' (by omega)
    rw [w64 (x := 1 + a') (by omega) (by omega), w64 (x := 1 + b') (by omega) (by omega)]
    obtain ⟨l', i7, u7, e7, h8, h9⟩ := d_boardOf k code hc i6 u6 _ (1 + a') (1 + b') (by omega) (by omega) h7 (by omega) (by omega)
    rw [e7, Option.bind_some]
    exact ⟨_, _, _, _, _, _, rfl, by show l.length ≤ 7; omega, by show l'.length ≤ 7; omega⟩

theorem d_strike (k : Nat) (code : List Int) (hc : CodeOK code) (hk : 2000 ≤ k) : ∃ r c l i j, spec_DrawStrikeCell.f k code = some (r, c, l, i, j) ∧ l.length ≤ 7 := by
  unfold spec_DrawStrikeCell.f
  obtain ⟨r, c, l, i1, u1, e1, h1, h2, h3⟩ := d_board k code hc 0 0 0 (by unfold PL; omega) (by omega) (by omega)
  have hL : ∀ a b : Int, ∃ v, spec_l1Least.f a b = some v := by intro a b; unfold spec_l1Least.f; split <;> exact ⟨_, rfl⟩
  have hM : ∀ a b : Int, ∃ v, spec_l1Most.f a b = some v := by intro a b; unfold spec_l1Most.f; split <;> exact ⟨_, rfl⟩
  rw [e1, Option.bind_some]
  simp only
  obtain ⟨v1, q1⟩ := hL r 7
  obtain ⟨v2, q2⟩ := hM 1 v1
  rw [q1, Option.bind_some, q2, Option.bind_some]
  obtain ⟨a, i2, u2, e2, h4, _⟩ := d_pick code hc i1 u1 (wrap64 (v2 + 1)) _ h3 (by omega)
  rw [e2, Option.bind_some]
  simp only
  obtain ⟨v3, q3⟩ := hL c 7
  obtain ⟨v4, q4⟩ := hM 1 v3
  rw [q3, Option.bind_some, q4, Option.bind_some]
  obtain ⟨b, i3, u3, e3, h5, _⟩ := d_pick code hc i2 u2 (wrap64 (v4 + 1)) _ h4 (by omega)
  rw [e3, Option.bind_some]
  exact ⟨_, _, _, _, _, rfl, h2⟩

theorem e_boFit (k : Nat) (r c : Int) (l : List Int) (r' c' : Int) (l' : List Int) (hl : l.length ≤ 2000000) (hk : l.length < k) (hl' : l'.length ≤ 2000000) (hk' : l'.length < k) :
    spec_boFit.f k r c l r' c' l' = some (decide ((GoodB r c l ∧ GoodB r' c' l') ∧ r = r' ∧ c = c')) := by
  unfold spec_boFit.f
  rw [e_boGood k r c l hl hk, e_boGood k r' c' l' hl' hk']
  simp only [Option.bind_some, Bool.decide_and]
  generalize decide (GoodB r c l) = p
  generalize decide (GoodB r' c' l') = q
  by_cases h : r = r' <;> by_cases h2 : c = c' <;> cases p <;> cases q <;> simp [h, h2]

theorem own_id (l : List Int) (h : l.length ≤ 1000000) (r c : Int) : spec_boOwn.f r c l = some (r, c, l) := by
  unfold spec_boOwn.f spec_l1Own.f
  rw [Option.bind_some, if_pos (by simp; omega), List.nil_append]; rfl
theorem join_l0 (r c : Int) (l p : List Int) (hl : l.length ≤ 6) (hlp : p.length = l.length) (R C : Int) : ∀ (d i k : Nat) (y : List Int), i + d = l.length → d < k → y = (List.range i).map (fun j => Go.bits .or .i64 (l.getD j 0) (p.getD j 0)) ++ l.drop i → spec_UnionOf.l0 k (l.length : Int) (i : Int) r c p R C y = some (R, C, (List.range l.length).map (fun j => Go.bits .or .i64 (l.getD j 0) (p.getD j 0)), true) := by
  intro d
  induction d with
  | zero =>
    intro i k y hi hk hy
    obtain ⟨k, rfl⟩ : ∃ m, k = m + 1 := ⟨k - 1, by omega⟩
    rw [spec_UnionOf.l0, if_neg (by omega), hy, List.drop_eq_nil_of_le (by omega), List.append_nil, show i = l.length by omega]
  | succ d ih =>
    intro i k y hi hk hy
    obtain ⟨k, rfl⟩ : ∃ m, k = m + 1 := ⟨k - 1, by omega⟩
    have hlt : i < l.length := by omega
    have hyl : y.length = l.length := by rw [hy]; simp; omega
    have hyi : rd y (i : Int) = l.getD i 0 := by
      rw [hy, List.drop_eq_getElem_cons hlt, rd_nat _ _ (by simp; omega), List.getElem_append_right (by simp)]
      simp [List.getD, hlt]
    rw [spec_UnionOf.l0, if_pos (by omega), if_pos (by omega), if_pos (by omega), if_pos (by omega), w64 (x := (i : Int) + 1) (by omega) (by omega), show ((i : Int) + 1) = ((i + 1 : Nat) : Int) from by omega, Int.toNat_natCast, hyi, show rd p (i : Int) = p.getD i 0 from rfl]
    refine ih (i + 1) k _ (by omega) (by omega) ?_
    rw [hy, List.set_append_right _ _ (by simp), List.length_map, List.length_range, Nat.sub_self, List.drop_eq_getElem_cons hlt, List.set_cons_zero, List.range_succ, List.map_append, List.append_assoc]
    rfl
def joinOut (r c : Int) (l : List Int) (r' c' : Int) (l' : List Int) : Int × Int × List Int × Bool := if GoodB r c l ∧ GoodB r' c' l' ∧ r = r' ∧ c = c' then (r, c, (List.range l.length).map (fun j => Go.bits .or .i64 (l.getD j 0) (l'.getD j 0)), true) else (0, 0, [], false)
theorem joinOut_len (r c : Int) (l : List Int) (r' c' : Int) (l' : List Int) : (joinOut r c l r' c' l').2.2.1.length ≤ 6 := by
  unfold joinOut
  split
  · rename_i h; have := goodB_len h.1; simp only [List.length_map, List.length_range]; omega
  · simp
theorem e_UnionOf (k : Nat) (r c : Int) (l : List Int) (r' c' : Int) (l' : List Int) (hl : l.length ≤ 2000000) (hk : l.length < k) (hl' : l'.length ≤ 2000000) (hk' : l'.length < k) (hk2 : 100 ≤ k) : spec_UnionOf.f k r c l r' c' l' = some (joinOut r c l r' c' l') := by
  unfold spec_UnionOf.f joinOut
  rw [e_boFit k r c l r' c' l' hl hk hl' hk']
  simp only [Option.bind_some, decide_eq_true_eq]
  by_cases g : (GoodB r c l ∧ GoodB r' c' l') ∧ r = r' ∧ c = c'
  · have h3 := g.1.1.2.2.1
    have h4 := g.1.2.2.2.1
    have hl6 := goodB_len g.1.1
    rw [if_pos g, if_pos ⟨g.1.1, g.1.2, g.2.1, g.2.2⟩, own_id l (by omega), Option.bind_some]
    simp only
    have := join_l0 r' c' l l' hl6 (by omega) r c l.length 0 k l (by omega) (by omega) (by simp)
    rw [show ((0 : Nat) : Int) = 0 from rfl] at this
    exact this
  · rw [if_neg g, if_neg (fun x => g ⟨⟨x.1, x.2.1⟩, x.2.2⟩)]

theorem meet_l0 (r c : Int) (l p : List Int) (hl : l.length ≤ 6) (hlp : p.length = l.length) (R C : Int) : ∀ (d i k : Nat) (y : List Int), i + d = l.length → d < k → y = (List.range i).map (fun j => Go.bits .and .i64 (l.getD j 0) (p.getD j 0)) ++ l.drop i → spec_MeetOf.l0 k (l.length : Int) (i : Int) r c p R C y = some (R, C, (List.range l.length).map (fun j => Go.bits .and .i64 (l.getD j 0) (p.getD j 0)), true) := by
  intro d
  induction d with
  | zero =>
    intro i k y hi hk hy
    obtain ⟨k, rfl⟩ : ∃ m, k = m + 1 := ⟨k - 1, by omega⟩
    rw [spec_MeetOf.l0, if_neg (by omega), hy, List.drop_eq_nil_of_le (by omega), List.append_nil, show i = l.length by omega]
  | succ d ih =>
    intro i k y hi hk hy
    obtain ⟨k, rfl⟩ : ∃ m, k = m + 1 := ⟨k - 1, by omega⟩
    have hlt : i < l.length := by omega
    have hyl : y.length = l.length := by rw [hy]; simp; omega
    have hyi : rd y (i : Int) = l.getD i 0 := by
      rw [hy, List.drop_eq_getElem_cons hlt, rd_nat _ _ (by simp; omega), List.getElem_append_right (by simp)]
      simp [List.getD, hlt]
    rw [spec_MeetOf.l0, if_pos (by omega), if_pos (by omega), if_pos (by omega), if_pos (by omega), w64 (x := (i : Int) + 1) (by omega) (by omega), show ((i : Int) + 1) = ((i + 1 : Nat) : Int) from by omega, Int.toNat_natCast, hyi, show rd p (i : Int) = p.getD i 0 from rfl]
    refine ih (i + 1) k _ (by omega) (by omega) ?_
    rw [hy, List.set_append_right _ _ (by simp), List.length_map, List.length_range, Nat.sub_self, List.drop_eq_getElem_cons hlt, List.set_cons_zero, List.range_succ, List.map_append, List.append_assoc]
    rfl
def meetOut (r c : Int) (l : List Int) (r' c' : Int) (l' : List Int) : Int × Int × List Int × Bool := if GoodB r c l ∧ GoodB r' c' l' ∧ r = r' ∧ c = c' then (r, c, (List.range l.length).map (fun j => Go.bits .and .i64 (l.getD j 0) (l'.getD j 0)), true) else (0, 0, [], false)
theorem meetOut_len (r c : Int) (l : List Int) (r' c' : Int) (l' : List Int) : (meetOut r c l r' c' l').2.2.1.length ≤ 6 := by
  unfold meetOut
  split
  · rename_i h; have := goodB_len h.1; simp only [List.length_map, List.length_range]; omega
  · simp
theorem e_MeetOf (k : Nat) (r c : Int) (l : List Int) (r' c' : Int) (l' : List Int) (hl : l.length ≤ 2000000) (hk : l.length < k) (hl' : l'.length ≤ 2000000) (hk' : l'.length < k) (hk2 : 100 ≤ k) : spec_MeetOf.f k r c l r' c' l' = some (meetOut r c l r' c' l') := by
  unfold spec_MeetOf.f meetOut
  rw [e_boFit k r c l r' c' l' hl hk hl' hk']
  simp only [Option.bind_some, decide_eq_true_eq]
  by_cases g : (GoodB r c l ∧ GoodB r' c' l') ∧ r = r' ∧ c = c'
  · have h3 := g.1.1.2.2.1
    have h4 := g.1.2.2.2.1
    have hl6 := goodB_len g.1.1
    rw [if_pos g, if_pos ⟨g.1.1, g.1.2, g.2.1, g.2.2⟩, own_id l (by omega), Option.bind_some]
    simp only
    have := meet_l0 r' c' l l' hl6 (by omega) r c l.length 0 k l (by omega) (by omega) (by simp)
    rw [show ((0 : Nat) : Int) = 0 from rfl] at this
    exact this
  · rw [if_neg g, if_neg (fun x => g ⟨⟨x.1, x.2.1⟩, x.2.2⟩)]

theorem i_fit (r c : Int) (l : List Int) (r' c' : Int) (l' : List Int) : impl_fit.f r c l r' c' l' = some (decide (r = r' ∧ c = c'), decide (GoodB r c l ∧ GoodB r' c' l')) := by
  unfold impl_fit.f
  rw [i_IsBoard, i_IsBoard]
  simp only [Option.bind_some, Bool.decide_and]
  generalize decide (GoodB r c l) = p
  generalize decide (GoodB r' c' l') = q
  by_cases h : r = r' <;> by_cases h2 : c = c' <;> cases p <;> cases q <;> simp [h, h2]

/-- Is each cell of rows in other rows? -/
def partL : List Int → List Int → Bool
  | [], _ => true
  | m :: t, n :: s => decide (Go.bits .andNot .i64 m n = 0) && partL t s
  | _ :: _, [] => true
theorem part_same : ∀ (k : Nat) (l : List Int) (n i r c : Int) (l' : List Int), impl_IsPartOf.l0 k l n i r c l' = spec_IsPartOf.l0 k l n i r c l' := by
  intro k
  induction k with
  | zero => intros; rfl
  | succ k ih => intro l n i r c l'; simp only [impl_IsPartOf.l0, spec_IsPartOf.l0, ih]
theorem part_l0 (l l' : List Int) (hl : l.length ≤ 100) (hll : l.length = l'.length) (r c : Int) : ∀ (d i k : Nat), i + d = l.length → d < k →
    spec_IsPartOf.l0 k l (l.length : Int) (i : Int) r c l' = some (partL (l.drop i) (l'.drop i), true) := by
  intro d
  induction d with
  | zero =>
    intro i k hi hk
    obtain ⟨k, rfl⟩ : ∃ m, k = m + 1 := ⟨k - 1, by omega⟩
    simp only [spec_IsPartOf.l0]; rw [if_neg (by omega), List.drop_eq_nil_of_le (by omega)]; simp [partL]
  | succ d ih =>
    intro i k hi hk
    obtain ⟨k, rfl⟩ : ∃ m, k = m + 1 := ⟨k - 1, by omega⟩
    have hlt : i < l.length := by omega
    have hlt' : i < l'.length := by omega
    simp only [spec_IsPartOf.l0]
    rw [if_pos (by omega), if_pos (by omega), if_pos (by omega), if_pos (by omega), w64 (by omega) (by omega), show ((i : Int) + 1) = ((i + 1 : Nat) : Int) from by omega, List.drop_eq_getElem_cons hlt, List.drop_eq_getElem_cons hlt', rd_nat l i hlt, rd_nat l' i hlt']
    simp only [partL]
    by_cases h : Go.bits .andNot .i64 l[i] l'[i] = 0
    · rw [if_pos h, ih (i + 1) k (by omega) (by omega)]; simp only [h, decide_true, Bool.true_and]
    · rw [if_neg h]; simp only [h, decide_false, Bool.false_and]
def partOut (r c : Int) (l : List Int) (r' c' : Int) (l' : List Int) : Bool × Bool := if GoodB r c l ∧ GoodB r' c' l' then (if r = r' ∧ c = c' then (partL l l', true) else (false, true)) else (false, false)
theorem e_IsPartOf (k : Nat) (r c : Int) (l : List Int) (r' c' : Int) (l' : List Int) (hl : l.length ≤ 2000000) (hk : l.length + 1 < k) (hl' : l'.length ≤ 2000000) (hk' : l'.length + 1 < k) : spec_IsPartOf.f k r c l r' c' l' = some (partOut r c l r' c' l') := by
  unfold spec_IsPartOf.f partOut
  rw [e_boGood k r c l hl (by omega), e_boGood k r' c' l' hl' (by omega)]
  obtain ⟨k, rfl⟩ : ∃ m, k = m + 1 := ⟨k - 1, by omega⟩
  simp only [Option.bind_some, decide_eq_true_eq, spec_IsPartOf.j0]
  by_cases g : GoodB r c l
  · by_cases g' : GoodB r' c' l'
    · rw [if_pos g, if_pos (show GoodB r c l ∧ GoodB r' c' l' from ⟨g, g'⟩)]
      simp only [decide_eq_true g', Bool.not_true, Bool.false_eq_true, if_false]
      rw [e_boFit k r c l r' c' l' hl (by omega) hl' (by omega)]
      simp only [Option.bind_some, decide_eq_true_eq]
      by_cases h : r = r' ∧ c = c'
      · rw [if_pos ⟨⟨g, g'⟩, h⟩, if_pos h]
        have hn := goodB_len g; have h1 := g.2.2.1; have h2 := g'.2.2.1
        have := part_l0 l l' (by omega) (by omega) r' c' l.length 0 k (by omega) (by omega)
        simpa using this
      · rw [if_neg (fun x => h x.2), if_neg h]
    · rw [if_pos g, if_neg (show ¬ (GoodB r c l ∧ GoodB r' c' l') from fun x => g' x.2)]; simp only [decide_eq_false g', Bool.not_false, if_true]
  · rw [if_neg g, if_neg (show ¬ (GoodB r c l ∧ GoodB r' c' l') from fun x => g x.1)]; simp only [if_true]
theorem i_IsPartOf (k : Nat) (r c : Int) (l : List Int) (r' c' : Int) (l' : List Int) (hk : 100 ≤ k) : impl_IsPartOf.f k r c l r' c' l' = some (partOut r c l r' c' l') := by
  unfold impl_IsPartOf.f partOut
  rw [i_fit]
  obtain ⟨k, rfl⟩ : ∃ m, k = m + 1 := ⟨k - 1, by omega⟩
  simp only [Option.bind_some, decide_eq_true_eq, impl_IsPartOf.j0]
  by_cases h : r = r' ∧ c = c'
  · by_cases g : GoodB r c l ∧ GoodB r' c' l'
    · rw [if_pos h, if_pos g, if_pos h, part_same]
      simp only [decide_eq_true g, Bool.not_true, Bool.false_eq_true, if_false]
      have hn := goodB_len g.1; have h1 := g.1.2.2.1; have h2 := g.2.2.2.1
      have := part_l0 l l' (by omega) (by omega) r' c' l.length 0 k (by omega) (by omega)
      simpa using this
    · rw [if_pos h, if_neg g]; simp only [decide_eq_false g, Bool.not_false, if_true]
  · rw [if_neg h]
    by_cases g : GoodB r c l ∧ GoodB r' c' l'
    · rw [if_pos g, if_neg h]; simp only [decide_eq_true g, if_true]
    · rw [if_neg g]; simp only [decide_eq_false g, if_true]

/-- A row without a column. -/
def strikeE (m c : Int) : Int := Go.bits .or .i64 (Go.bits .and .i64 m (wrap64 ((shl .i64 1 c) - 1))) (shl .i64 (shr .i64 m (wrap64 (c + 1))) c)
/-- Rows from i on, without the row r, each without the column c. -/
def strikeL : List Int → Int → Int → Int → List Int
  | [], _, _, _ => []
  | m :: t, i, r, c => (if i = r then [] else [strikeE m c]) ++ strikeL t (i + 1) r c
theorem strikeL_len : ∀ l i r c, (strikeL l i r c).length ≤ l.length
  | [], _, _, _ => Nat.le_refl _
  | m :: t, i, r, c => by
    have := strikeL_len t (i + 1) r c
    simp only [strikeL, List.length_append, List.length_cons]
    split <;> simp <;> omega
theorem boStrike_l0 (r c : Int) (l : List Int) (hl : l.length ≤ 100) (hc : 0 ≤ c ∧ c ≤ 100) (R C : Int) : ∀ (d i k : Nat) (acc : List Int), i + d = l.length → d < k → acc.length + d ≤ 1000 →
    spec_boStrike.l0 k r c l (l.length : Int) (i : Int) R C acc = some (R, C, acc ++ strikeL (l.drop i) (i : Int) r c) := by
  intro d
  induction d with
  | zero =>
    intro i k acc hi hk ha
    obtain ⟨k, rfl⟩ : ∃ m, k = m + 1 := ⟨k - 1, by omega⟩
    simp only [spec_boStrike.l0]; rw [if_neg (by omega), List.drop_eq_nil_of_le (by omega)]; simp [strikeL]
  | succ d ih =>
    intro i k acc hi hk ha
    obtain ⟨k, rfl⟩ : ∃ m, k = m + 1 := ⟨k - 1, by omega⟩
    have hlt : i < l.length := by omega
    simp only [spec_boStrike.l0]
    rw [if_pos (by omega), if_pos (by omega), if_pos (by omega), w64 (x := (i : Int) + 1) (by omega) (by omega), show ((i : Int) + 1) = ((i + 1 : Nat) : Int) from by omega, List.drop_eq_getElem_cons hlt]
    simp only [strikeL]
    by_cases h : (i : Int) = r
    · rw [if_pos h, ih (i + 1) k acc (by omega) (by omega) (by omega), if_pos h, show ((i : Int) + 1) = ((i + 1 : Nat) : Int) from by omega]; rfl
    · rw [if_neg h, if_pos (by omega), if_pos (by rw [w64 (by omega) (by omega)]; omega), if_pos (by omega), ih (i + 1) k _ (by omega) (by omega) (by simp; omega), if_neg h, rd_nat l i hlt, show ((i : Int) + 1) = ((i + 1 : Nat) : Int) from by omega]
      simp only [List.append_assoc]; rfl
theorem e_boStrike (k : Nat) (r c : Int) (l : List Int) (i j : Int) (g : GoodB r c l) (p : Place r c i j) (hk : 100 ≤ k) : spec_boStrike.f k r c l i j = some (r - 1, c - 1, strikeL l 0 i j) := by
  have h1 := g.1; have h2 := g.2.1; have hn := goodB_len g; have := p.2
  unfold spec_boStrike.f
  rw [w64 (by omega) (by omega), w64 (by omega) (by omega)]
  have := boStrike_l0 i j l (by omega) (by omega) (r - 1) (c - 1) l.length 0 k [] (by omega) (by omega) (by simp; omega)
  simpa using this

theorem strike_same : ∀ (k : Nat) (a b : Int) (l : List Int) (n i R C : Int) (acc : List Int), impl_Board_strike.l0 k a b l n i R C acc = spec_boStrike.l0 k a b l n i R C acc := by
  intro k
  induction k with
  | zero => intros; rfl
  | succ k ih => intro a b l n i R C acc; simp only [impl_Board_strike.l0, spec_boStrike.l0, ih]
theorem i_strike (k : Nat) (r c : Int) (l : List Int) (i j : Int) (g : GoodB r c l) (p : Place r c i j) (hk : 100 ≤ k) : impl_Board_strike.f k r c l i j = some (r - 1, c - 1, strikeL l 0 i j) := by
  rw [← e_boStrike k r c l i j g p hk]; unfold impl_Board_strike.f spec_boStrike.f; rw [strike_same]

theorem e_boPlace (k : Nat) (r c : Int) (l : List Int) (i j : Int) (hl : l.length ≤ 2000000) (hk : l.length < k) : spec_boPlace.f k r c l i j = some (decide (GoodB r c l ∧ Place r c i j)) := by
  unfold spec_boPlace.f
  rw [e_boGood k r c l hl hk]
  simp only [Option.bind_some, decide_eq_true_eq]
  by_cases g : GoodB r c l
  · have h1 := g.1; have h2 := g.2.1
    rw [if_pos g, w64 (by omega) (by omega), w64 (by omega) (by omega), e_l1In, e_l1In]
    simp only [Option.bind_some, decide_eq_true_eq]
    by_cases h : 0 ≤ i ∧ i ≤ r - 1
    · rw [if_pos h]; simp [Place, h, g]
    · rw [if_neg h]; simp [Place, h]
  · rw [if_neg g]; simp [g]

theorem e_within (a b c : Int) : impl_within.f a b c = some (decide (b ≤ a ∧ a ≤ c)) := by
  unfold impl_within.f
  by_cases h : b ≤ a
  · rw [if_pos h]; simp [h]
  · rw [if_neg h]; simp [h]

theorem i_place (r c : Int) (l : List Int) (i j : Int) (h : GoodB r c l) : impl_Board_place.f r c l i j = some (decide (Place r c i j)) := by
  unfold impl_Board_place.f
  have h1 := h.1; have h2 := h.2.1
  rw [w64 (by omega) (by omega), w64 (by omega) (by omega), e_within, e_within]
  simp only [Option.bind_some, decide_eq_true_eq]
  by_cases h : 0 ≤ i ∧ i ≤ r - 1
  · rw [if_pos h]; simp [Place, h]
  · rw [if_neg h]; simp [Place, h]

def strikeOut (r c : Int) (l : List Int) (i j : Int) : Int × Int × List Int × Bool := if (GoodB r c l ∧ Place r c i j) ∧ r ≠ 1 ∧ c ≠ 1 then (r - 1, c - 1, strikeL l 0 i j, true) else (0, 0, [], false)
theorem strikeOut_len (r c : Int) (l : List Int) (i j : Int) : (strikeOut r c l i j).2.2.1.length ≤ 6 := by
  unfold strikeOut
  split
  · rename_i h; have := goodB_len h.1.1; have := strikeL_len l 0 i j; simp only; omega
  · simp
theorem e_StrikeCell (k : Nat) (r c : Int) (l : List Int) (i j : Int) (hl : l.length ≤ 2000000) (hk : l.length < k) (hk2 : 100 ≤ k) : spec_StrikeCell.f k r c l i j = some (strikeOut r c l i j) := by
  unfold spec_StrikeCell.f strikeOut
  rw [e_boPlace k r c l i j hl hk]
  simp only [Option.bind_some, decide_eq_true_eq]
  by_cases g : GoodB r c l ∧ Place r c i j
  · rw [if_pos g]
    by_cases h1 : r = 1
    · rw [if_pos h1, if_neg (fun x => x.2.1 h1)]
    · by_cases h2 : c = 1
      · rw [if_neg h1, if_pos h2, if_neg (fun x => x.2.2 h2)]
      · rw [if_neg h1, if_neg h2, if_pos ⟨g, h1, h2⟩, e_boStrike k r c l i j g.1 g.2 hk2]; rfl
  · rw [if_neg g, if_neg (fun x => g x.1)]
theorem i_StrikeCell (k : Nat) (r c : Int) (l : List Int) (i j : Int) (hk2 : 100 ≤ k) : impl_StrikeCell.f k r c l i j = some (strikeOut r c l i j) := by
  unfold impl_StrikeCell.f strikeOut
  rw [i_IsBoard]
  simp only [Option.bind_some, decide_eq_true_eq]
  by_cases g : GoodB r c l
  · rw [if_pos g, i_place r c l i j g]
    simp only [Option.bind_some, decide_eq_true_eq]
    by_cases p : Place r c i j
    · rw [if_pos p]
      by_cases h1 : r = 1
      · rw [if_pos h1, if_neg (fun x => x.2.1 h1)]
      · by_cases h2 : c = 1
        · rw [if_neg h1, if_pos h2, if_neg (fun x => x.2.2 h2)]
        · rw [if_neg h1, if_neg h2, if_pos ⟨⟨g, p⟩, h1, h2⟩, i_strike k r c l i j g p hk2]; rfl
    · rw [if_neg p, if_neg (fun x => p x.1.2)]
  · rw [if_neg g, if_neg (fun x => g x.1.1)]

theorem e_isSide (a : Int) : impl_isSide.f a = some (decide (1 ≤ a ∧ a ≤ 6)) := by
  unfold impl_isSide.f; rw [e_within]; rfl

theorem st_spec (p : List Int) (c r : Int) (l : List Int) (hp : p.length ≤ 100) (hc : 0 ≤ c) (R C : Int) : ∀ (d i k : Nat) (acc : List Int), i + d = p.length → d < k → acc.length + d ≤ 1000 → spec_StackBoards.l0 k p (p.length : Int) (i : Int) r c l R C acc = some (R, C, acc ++ (p.drop i).map (fun m => shl .i64 m c), true) := by
  intro d
  induction d with
  | zero =>
    intro i k acc hi hk ha
    obtain ⟨k, rfl⟩ : ∃ m, k = m + 1 := ⟨k - 1, by omega⟩
    rw [spec_StackBoards.l0, if_neg (by omega), List.drop_eq_nil_of_le (by omega)]; simp
  | succ d ih =>
    intro i k acc hi hk ha
    obtain ⟨k, rfl⟩ : ∃ m, k = m + 1 := ⟨k - 1, by omega⟩
    have hlt : i < p.length := by omega
    rw [spec_StackBoards.l0, if_pos (by omega), if_pos (by omega), if_pos (by omega), if_pos hc, if_pos (by omega), w64 (x := (i : Int) + 1) (by omega) (by omega), show ((i : Int) + 1) = ((i + 1 : Nat) : Int) from by omega, rd_nat p i hlt, ih (i + 1) k _ (by omega) (by omega) (by simp; omega), List.drop_eq_getElem_cons hlt, List.map_cons, List.append_assoc]
    rfl
theorem st_impl (p : List Int) (c r : Int) (l : List Int) (hp : p.length ≤ 100) (hc : 0 ≤ c) (R C : Int) : ∀ (d i k : Nat) (acc : List Int), i + d = p.length → d < k → acc.length + d ≤ 1000 → impl_StackBoards.l0 k p (p.length : Int) (i : Int) r c l R C acc = some (R, C, acc ++ (p.drop i).map (fun m => shl .i64 m c), true) := by
  intro d
  induction d with
  | zero =>
    intro i k acc hi hk ha
    obtain ⟨k, rfl⟩ : ∃ m, k = m + 1 := ⟨k - 1, by omega⟩
    rw [impl_StackBoards.l0, if_neg (by omega), List.drop_eq_nil_of_le (by omega)]; simp
  | succ d ih =>
    intro i k acc hi hk ha
    obtain ⟨k, rfl⟩ : ∃ m, k = m + 1 := ⟨k - 1, by omega⟩
    have hlt : i < p.length := by omega
    rw [impl_StackBoards.l0, if_pos (by omega), if_pos (by omega), if_pos (by omega), if_pos hc, if_pos (by omega), w64 (x := (i : Int) + 1) (by omega) (by omega), show ((i : Int) + 1) = ((i + 1 : Nat) : Int) from by omega, rd_nat p i hlt, ih (i + 1) k _ (by omega) (by omega) (by simp; omega), List.drop_eq_getElem_cons hlt, List.map_cons, List.append_assoc]
    rfl
def stOut (r c : Int) (l : List Int) (r' c' : Int) (l' : List Int) : Int × Int × List Int × Bool := if (GoodB r c l ∧ GoodB r' c' l') ∧ r + r' ≤ 6 ∧ c + c' ≤ 6 then (r + r', c + c', l ++ l'.map (fun m => shl .i64 m c), true) else (0, 0, [], false)
theorem stOut_len (r c : Int) (l : List Int) (r' c' : Int) (l' : List Int) : (stOut r c l r' c' l').2.2.1.length ≤ 12 := by
  unfold stOut
  split
  · rename_i h; have := goodB_len h.1.1; have := goodB_len h.1.2; simp only [List.length_append, List.length_map]; omega
  · simp
theorem spec_no (k : Nat) (r c : Int) (l : List Int) (r' c' : Int) (l' : List Int) (hk : 1 ≤ k) : spec_StackBoards.j0 k true r c l r' c' l' = some (0, 0, [], false) := by
  obtain ⟨k, rfl⟩ : ∃ m, k = m + 1 := ⟨k - 1, by omega⟩
  rw [spec_StackBoards.j0, if_pos rfl]
theorem impl_no (k : Nat) (r c : Int) (l : List Int) (r' c' : Int) (l' : List Int) (hk : 1 ≤ k) : impl_StackBoards.j0 k true r c l r' c' l' = some (0, 0, [], false) := by
  obtain ⟨k, rfl⟩ : ∃ m, k = m + 1 := ⟨k - 1, by omega⟩
  rw [impl_StackBoards.j0, if_pos rfl]
theorem e_StackBoards (k : Nat) (r c : Int) (l : List Int) (r' c' : Int) (l' : List Int) (hl : l.length ≤ 2000000) (hk : l.length < k) (hl' : l'.length ≤ 2000000) (hk' : l'.length < k) (hk2 : 200 ≤ k) : spec_StackBoards.f k r c l r' c' l' = some (stOut r c l r' c' l') := by
  unfold spec_StackBoards.f stOut
  rw [e_boGood k r c l hl hk, e_boGood k r' c' l' hl' hk', e_boSide, e_boSide]
  simp only [Option.bind_some, decide_eq_true_eq]
  have hno := spec_no k r c l r' c' l' (by omega)
  by_cases g : GoodB r c l
  · by_cases g' : GoodB r' c' l'
    · have h1 := g.1; have h2 := g.2.1; have h1' := g'.1; have h2' := g'.2.1
      have h3 := goodB_len g; have h4 := goodB_len g'
      rw [if_pos g, if_pos g', w64 (x := r + r') (by omega) (by omega), w64 (x := c + c') (by omega) (by omega)]
      by_cases hr : r + r' ≤ 6
      · rw [if_pos (by omega)]
        by_cases hc : c + c' ≤ 6
        · rw [if_pos ⟨⟨g, g'⟩, hr, hc⟩, decide_eq_true (show 1 ≤ c + c' ∧ c + c' ≤ 6 by omega)]
          obtain ⟨k, rfl⟩ : ∃ m, k = m + 1 := ⟨k - 1, by omega⟩
          rw [spec_StackBoards.j0, if_neg (by decide)]
          unfold spec_l1Own.f
          rw [Option.bind_some, if_pos (by simp; omega), List.nil_append, Option.bind_some, w64 (x := r + r') (by omega) (by omega), w64 (x := c + c') (by omega) (by omega)]
          have := st_spec l' c r l (by omega) (by omega) (r + r') (c + c') l'.length 0 k l (by omega) (by omega) (by omega)
          rw [show ((0 : Nat) : Int) = 0 from rfl, List.drop_zero] at this
          exact this
        · rw [if_neg (fun x => hc x.2.2), decide_eq_false (show ¬ (1 ≤ c + c' ∧ c + c' ≤ 6) by omega)]; exact hno
      · rw [if_neg (by omega), if_neg (fun x => hr x.2.1)]; exact hno
    · rw [if_pos g, if_neg g', if_neg (fun x => g' x.1.2)]; exact hno
  · rw [if_neg g, if_neg (fun x => g x.1.1)]; exact hno
theorem i_StackBoards (k : Nat) (r c : Int) (l : List Int) (r' c' : Int) (l' : List Int) (hk2 : 200 ≤ k) : impl_StackBoards.f k r c l r' c' l' = some (stOut r c l r' c' l') := by
  unfold impl_StackBoards.f stOut
  rw [i_IsBoard, i_IsBoard, e_isSide, e_isSide]
  simp only [Option.bind_some, decide_eq_true_eq]
  have hno := impl_no k r c l r' c' l' (by omega)
  by_cases g : GoodB r c l
  · by_cases g' : GoodB r' c' l'
    · have h1 := g.1; have h2 := g.2.1; have h1' := g'.1; have h2' := g'.2.1
      have h3 := goodB_len g; have h4 := goodB_len g'
      rw [if_pos g, if_pos g', w64 (x := r + r') (by omega) (by omega), w64 (x := c + c') (by omega) (by omega)]
      by_cases hr : r + r' ≤ 6
      · rw [if_pos (by omega)]
        by_cases hc : c + c' ≤ 6
        · rw [if_pos ⟨⟨g, g'⟩, hr, hc⟩, decide_eq_true (show 1 ≤ c + c' ∧ c + c' ≤ 6 by omega)]
          obtain ⟨k, rfl⟩ : ∃ m, k = m + 1 := ⟨k - 1, by omega⟩
          rw [impl_StackBoards.j0, if_neg (by decide)]
          unfold slices_Clone_int_int.f
          rw [if_pos (by omega), Option.bind_some, w64 (x := r + r') (by omega) (by omega), w64 (x := c + c') (by omega) (by omega)]
          have := st_impl l' c r l (by omega) (by omega) (r + r') (c + c') l'.length 0 k l (by omega) (by omega) (by omega)
          rw [show ((0 : Nat) : Int) = 0 from rfl, List.drop_zero] at this
          exact this
        · rw [if_neg (fun x => hc x.2.2), decide_eq_false (show ¬ (1 ≤ c + c' ∧ c + c' ≤ 6) by omega)]; exact hno
      · rw [if_neg (by omega), if_neg (fun x => hr x.2.1)]; exact hno
    · rw [if_pos g, if_neg g', if_neg (fun x => g' x.1.2)]; exact hno
  · rw [if_neg g, if_neg (fun x => g x.1.1)]; exact hno

/-- The cells of a row from a column on. -/
def rowC (m i : Int) : Nat → Nat → List (List Int)
  | 0, _ => []
  | d + 1, j => (if cell m (j : Int) = true then [[i, (j : Int)]] else []) ++ rowC m i d (j + 1)
/-- The cells of rows. -/
def cellsC (c : Nat) : List Int → Int → List (List Int)
  | [], _ => []
  | m :: r, i => rowC m i c 0 ++ cellsC c r (i + 1)
theorem rowC_len (m i : Int) : ∀ d j, (rowC m i d j).length ≤ d
  | 0, _ => Nat.le_refl _
  | d + 1, j => by
    have := rowC_len m i d (j + 1)
    simp only [rowC, List.length_append]
    split <;> simp <;> omega
theorem cellsC_len (c : Nat) : ∀ l i, (cellsC c l i).length ≤ l.length * c
  | [], _ => by simp [cellsC]
  | m :: r, i => by
    have := cellsC_len c r (i + 1); have := rowC_len m i c 0
    simp only [cellsC, List.length_append, List.length_cons, Nat.add_mul]
    omega
theorem place_nat {r c : Int} {i j : Nat} (hi : (i : Int) < r) (hj : (j : Int) < c) : Place r c (i : Int) (j : Int) := ⟨⟨by omega, by omega⟩, by omega, by omega⟩

theorem i_has (r c : Int) (l : List Int) (i j : Int) (h : GoodB r c l) (hp : Place r c i j) : impl_Board_has.f r c l i j = some (cell (rd l i) j) := by
  unfold impl_Board_has.f
  have h1 := h.1; have h2 := h.2.1; have h3 := h.2.2.1; have h4 := hp.1; have h5 := hp.2
  have hm := goodB_le h (rd l i) (rd_mem l i (by omega) (by omega))
  rw [if_pos (by omega), if_pos (by omega), if_pos (by omega), cell_impl _ _ hm (by omega)]

theorem CellsOf_l1 (r c : Int) (l : List Int) (g : GoodB r c l) (i : Nat) (hi : i < l.length) : ∀ (d j k : Nat) (acc : List (List Int)), (j : Int) + d = c → acc.length + d ≤ 1000 →
    impl_CellsOf.l1 (k + d + 1) acc (i : Int) r (i : Int) c (j : Int) r c l = impl_CellsOf.l0 k (acc ++ rowC l[i] (i : Int) d j) r ((i + 1 : Nat) : Int) r c l := by
  have hr := g.2.2.1; have hc := g.2.1; have hn := goodB_len g
  intro d
  induction d with
  | zero =>
    intro j k acc hj ha
    simp only [Nat.add_zero, impl_CellsOf.l1]
    rw [if_neg (by omega), w64 (by omega) (by omega)]; simp [rowC]
  | succ d ih =>
    intro j k acc hj ha
    obtain ⟨K, hK⟩ : ∃ K, K = k + d + 1 := ⟨_, rfl⟩
    rw [show k + (d + 1) + 1 = K + 1 from by omega]
    simp only [impl_CellsOf.l1]
    rw [if_pos (by omega), i_has r c l _ _ g (place_nat (by omega) (by omega)), rd_nat l i hi, w64 (x := (j : Int) + 1) (by omega) (by omega), show ((j : Int) + 1) = ((j + 1 : Nat) : Int) from by omega]
    simp only [Option.bind_some]
    by_cases h : cell l[i] (j : Int) = true
    · rw [if_pos h, if_pos (by omega), hK, ih (j + 1) k _ (by omega) (by simp; omega)]
      simp only [rowC, h, if_true, List.append_assoc]
    · rw [if_neg h, hK, ih (j + 1) k _ (by omega) (by omega)]
      simp only [rowC, h, if_false, List.nil_append, Bool.false_eq_true]
theorem CellsOf_l0 (r c : Int) (l : List Int) (g : GoodB r c l) (C : Nat) (hC : (C : Int) = c) : ∀ (d i k : Nat) (acc : List (List Int)), i + d = l.length → acc.length + d * C ≤ 900 → d * (C + 2) < k →
    impl_CellsOf.l0 k acc r (i : Int) r c l = some (acc ++ cellsC C (l.drop i) (i : Int), true) := by
  have hr := g.2.2.1; have hc := g.2.1; have hn := goodB_len g
  intro d
  induction d with
  | zero =>
    intro i k acc hi ha hk
    obtain ⟨k, rfl⟩ : ∃ m, k = m + 1 := ⟨k - 1, by omega⟩
    simp only [impl_CellsOf.l0]
    rw [if_neg (by omega), List.drop_eq_nil_of_le (by omega)]; simp [cellsC]
  | succ d ih =>
    intro i k acc hi ha hk
    rw [Nat.add_mul] at ha hk
    obtain ⟨k, rfl⟩ : ∃ m, k = (m + C + 1) + 1 := ⟨k - C - 2, by omega⟩
    have hlt : i < l.length := by omega
    simp only [impl_CellsOf.l0]
    have := CellsOf_l1 r c l g i hlt C 0 k acc (by omega) (by omega)
    rw [if_pos (by omega), show (0 : Int) = ((0 : Nat) : Int) from rfl, this]
    have hl := rowC_len l[i] (i : Int) C 0
    rw [ih (i + 1) k _ (by omega) (by rw [List.length_append]; omega) (by omega), List.drop_eq_getElem_cons hlt]
    simp only [cellsC, List.append_assoc]
    rw [show ((i : Int) + 1) = ((i + 1 : Nat) : Int) from by omega]
theorem i_CellsOf (k : Nat) (r c : Int) (l : List Int) (hk : 100 ≤ k) : impl_CellsOf.f k r c l = some (if GoodB r c l then (cellsC c.toNat l 0, true) else ([], false)) := by
  unfold impl_CellsOf.f
  rw [i_IsBoard]
  simp only [Option.bind_some, decide_eq_true_eq]
  by_cases g : GoodB r c l
  · have hr := g.2.2.1; have hc := g.2.1; have hn := goodB_len g
    have hb : l.length * c.toNat ≤ 6 * 6 := Nat.mul_le_mul (by omega) (by omega)
    have hb2 : l.length * (c.toNat + 2) ≤ 6 * 8 := Nat.mul_le_mul (by omega) (by omega)
    rw [if_pos g, if_pos g]
    have := CellsOf_l0 r c l g c.toNat (by omega) l.length 0 k [] (by omega) (by simp; omega) (by omega)
    simpa using this
  · rw [if_neg g, if_neg g]

def cntOut (r c : Int) (l : List Int) : Int × Bool := if GoodB r c l then (((cellsC c.toNat l 0).length : Int), true) else (0, false)
theorem cc_impl (k : Nat) (r c : Int) (l : List Int) (hk2 : 100 ≤ k) : impl_CountCells.f k r c l = some (cntOut r c l) := by
  unfold impl_CountCells.f cntOut
  rw [i_CellsOf k r c l hk2]
  by_cases g : GoodB r c l
  · rw [if_pos g, if_pos g]; rfl
  · rw [if_neg g, if_neg g]; rfl
theorem cc_good (k : Nat) (r c : Int) (l : List Int) (g : GoodB r c l) (hk2 : 100 ≤ k) : impl_CountCells.f k r c l = some (((cellsC c.toNat l 0).length : Int), true) := by
  rw [cc_impl k r c l hk2]; unfold cntOut; rw [if_pos g]
theorem cc_le (r c : Int) (l : List Int) (g : GoodB r c l) (i : Int) : (cellsC c.toNat l i).length ≤ 36 := by
  have h1 := cellsC_len c.toNat l i
  have h2 := goodB_len g
  have h3 := g.2.1
  have : l.length * c.toNat ≤ 6 * 6 := Nat.mul_le_mul h2 (by omega)
  omega

def hasOut (r c : Int) (l : List Int) (i j : Int) : Bool × Bool := if GoodB r c l ∧ Place r c i j then (cell (rd l i) j, true) else (false, false)
theorem i_HasCell (r c : Int) (l : List Int) (i j : Int) : impl_HasCell.f r c l i j = some (hasOut r c l i j) := by
  unfold impl_HasCell.f hasOut
  rw [i_IsBoard]
  simp only [Option.bind_some, decide_eq_true_eq]
  by_cases g : GoodB r c l
  · rw [if_pos g, i_place r c l i j g]
    simp only [Option.bind_some, decide_eq_true_eq]
    by_cases p : Place r c i j
    · rw [if_pos p, if_pos ⟨g, p⟩, i_has r c l i j g p]; rfl
    · rw [if_neg p, if_neg (fun x => p x.2)]
  · rw [if_neg g, if_neg (fun x => g x.1)]

theorem rOn_eq (r c : Int) (l : List Int) (i j : Int) : laws_rOn.f r c l i j = some (decide (GoodB r c l ∧ Place r c i j) && cell (rd l i) j) := by
  unfold laws_rOn.f
  rw [i_HasCell, Option.bind_some]
  unfold hasOut
  by_cases g : GoodB r c l ∧ Place r c i j
  · rw [if_pos g, if_pos rfl, decide_eq_true g, Bool.true_and]
  · rw [if_neg g, if_neg (by decide), decide_eq_false g, Bool.false_and]
theorem rOn_in (r c : Int) (l : List Int) (i j : Int) (g : GoodB r c l) (p : Place r c i j) : laws_rOn.f r c l i j = some (cell (rd l i) j) := by
  rw [rOn_eq, decide_eq_true ⟨g, p⟩, Bool.true_and]

theorem rSame_l0 (a b : List Int) (hl : a.length ≤ 2000000) (hab : a.length = b.length) : ∀ (d i k : Nat), i + d = a.length → d < k → laws_rSame.l0 k a b (a.length : Int) (i : Int) = some (decide (a.drop i = b.drop i)) := by
  intro d
  induction d with
  | zero =>
    intro i k hi hk
    obtain ⟨k, rfl⟩ : ∃ m, k = m + 1 := ⟨k - 1, by omega⟩
    rw [laws_rSame.l0, if_neg (by omega), List.drop_of_length_le (by omega), List.drop_of_length_le (by omega)]; simp
  | succ d ih =>
    intro i k hi hk
    obtain ⟨k, rfl⟩ : ∃ m, k = m + 1 := ⟨k - 1, by omega⟩
    have h1 : i < a.length := by omega
    have h2 : i < b.length := by omega
    rw [laws_rSame.l0, if_pos (by omega), if_pos (by omega), if_pos (by omega), if_pos (by omega), w64 (by omega) (by omega), show ((i : Int) + 1) = ((i + 1 : Nat) : Int) from by omega, rd_nat a i h1, rd_nat b i h2, List.drop_eq_getElem_cons h1, List.drop_eq_getElem_cons h2]
    by_cases e : a[i] = b[i]
    · rw [if_pos e, ih (i + 1) k (by omega) (by omega), e]; simp only [List.cons.injEq, true_and]
    · rw [if_neg e]; simp only [List.cons.injEq, e, false_and, decide_false]
theorem rSame_eq (k : Nat) (a b : List Int) (hl : a.length ≤ 1000000) (hk : a.length < k) : laws_rSame.f k a b = some (decide (a = b)) := by
  unfold laws_rSame.f
  by_cases h : a.length = b.length
  · rw [if_pos (by omega)]
    have := rSame_l0 a b (by omega) h a.length 0 k (by omega) hk
    rw [List.drop_zero, List.drop_zero] at this
    exact this
  · rw [if_neg (by omega), decide_eq_false (fun e => h (by rw [e]))]
theorem rSame_self (k : Nat) (a : List Int) (hl : a.length ≤ 1000000) (hk : a.length < k) : laws_rSame.f k a a = some true := by
  rw [rSame_eq k a a hl hk, decide_eq_true rfl]

theorem rSameBoard_eq (k : Nat) (r c : Int) (l : List Int) (r' c' : Int) (l' : List Int) (hl : l.length ≤ 1000000) (hk : l.length < k) : laws_rSameBoard.f k r c l r' c' l' = some (decide (r = r' ∧ c = c' ∧ l = l')) := by
  unfold laws_rSameBoard.f
  rw [rSame_eq k l l' hl hk]
  by_cases h1 : r = r'
  · by_cases h2 : c = c'
    · rw [if_pos h1, if_pos h2]; simp [h1, h2]
    · rw [if_pos h1, if_neg h2]; simp [h2]
  · rw [if_neg h1]; simp [h1]
theorem rSameBoard_self (k : Nat) (r c : Int) (l : List Int) (hl : l.length ≤ 1000000) (hk : l.length < k) : laws_rSameBoard.f k r c l r c l = some true := by
  rw [rSameBoard_eq k r c l r c l hl hk, decide_eq_true ⟨rfl, rfl, rfl⟩]

theorem rowC_any (m i i' : Int) : ∀ d j, (rowC m i d j).length = (rowC m i' d j).length
  | 0, _ => rfl
  | d + 1, j => by
    simp only [rowC, List.length_append, rowC_any m i i' d (j + 1)]
    split <;> rfl
/-- How many cells a row has. -/
def pcN (m : Int) (c : Nat) : Nat := (rowC m 0 c 0).length
theorem cellsC_sum (c : Nat) : ∀ (l : List Int) (i : Int), (cellsC c l i).length = (l.map fun m => pcN m c).sum
  | [], _ => rfl
  | m :: t, i => by simp only [cellsC, List.length_append, List.map_cons, List.sum_cons, cellsC_sum c t (i + 1), pcN, rowC_any m i 0 c 0]

theorem fin64 (m : Int) (c : Int) (hc : 1 ≤ c ∧ c ≤ 6) (h : 0 ≤ m ∧ m ≤ 2 ^ c.toNat - 1) : ∃ f : Fin 64, m = (f.val : Int) := fin_of m 64 h.1 (by have := pow_le c hc; omega)
theorem or_cellF : ∀ m n : Fin 64, ∀ j : Fin 6, cell (Go.bits .or .i64 (m.val : Int) (n.val : Int)) (j.val : Int) = (cell (m.val : Int) (j.val : Int) || cell (n.val : Int) (j.val : Int)) := by decide +kernel
theorem and_cellF : ∀ m n : Fin 64, ∀ j : Fin 6, cell (Go.bits .and .i64 (m.val : Int) (n.val : Int)) (j.val : Int) = (cell (m.val : Int) (j.val : Int) && cell (n.val : Int) (j.val : Int)) := by decide +kernel
theorem or_bdF : ∀ c : Fin 7, ∀ m n : Fin 64, (m.val : Int) ≤ 2 ^ c.val - 1 → (n.val : Int) ≤ 2 ^ c.val - 1 → 0 ≤ Go.bits .or .i64 (m.val : Int) (n.val : Int) ∧ Go.bits .or .i64 (m.val : Int) (n.val : Int) ≤ 2 ^ c.val - 1 := by decide +kernel
theorem and_bdF : ∀ m n : Fin 64, 0 ≤ Go.bits .and .i64 (m.val : Int) (n.val : Int) ∧ Go.bits .and .i64 (m.val : Int) (n.val : Int) ≤ m.val := by decide +kernel
theorem partF : ∀ m n : Fin 64, decide (Go.bits .andNot .i64 (m.val : Int) (n.val : Int) = 0) = decide (Go.bits .and .i64 (m.val : Int) (n.val : Int) = m.val) ∧ decide (Go.bits .andNot .i64 (m.val : Int) (n.val : Int) = 0) = decide (Go.bits .or .i64 (m.val : Int) (n.val : Int) = n.val) := by decide +kernel
theorem row_add (a b m n : Int) (h : ∀ j : Nat, j < 6 → cell a (j : Int) = (cell m (j : Int) || cell n (j : Int)) ∧ cell b (j : Int) = (cell m (j : Int) && cell n (j : Int))) : ∀ d j, j + d ≤ 6 → (rowC a 0 d j).length + (rowC b 0 d j).length = (rowC m 0 d j).length + (rowC n 0 d j).length
  | 0, _, _ => rfl
  | d + 1, j, hj => by
    obtain ⟨h1, h2⟩ := h j (by omega)
    have := row_add a b m n h d (j + 1) (by omega)
    simp only [rowC, List.length_append, h1, h2]
    cases cell m (j : Int) <;> cases cell n (j : Int) <;> simp <;> omega
theorem pc_add (m n : Int) (c : Int) (hc : 1 ≤ c ∧ c ≤ 6) (hm : 0 ≤ m ∧ m ≤ 2 ^ c.toNat - 1) (hn : 0 ≤ n ∧ n ≤ 2 ^ c.toNat - 1) : pcN (Go.bits .or .i64 m n) c.toNat + pcN (Go.bits .and .i64 m n) c.toNat = pcN m c.toNat + pcN n c.toNat := by
  obtain ⟨f, rfl⟩ := fin64 m c hc hm
  obtain ⟨g, rfl⟩ := fin64 n c hc hn
  exact row_add _ _ _ _ (fun j hj => ⟨or_cellF f g ⟨j, hj⟩, and_cellF f g ⟨j, hj⟩⟩) c.toNat 0 (by omega)
def zipB (op : Go.BinOp) (l l' : List Int) : List Int := List.zipWith (fun m n => Go.bits op .i64 m n) l l'
theorem zip_range (op : Go.BinOp) : ∀ l l' : List Int, l'.length = l.length → (List.range l.length).map (fun j => Go.bits op .i64 (l.getD j 0) (l'.getD j 0)) = zipB op l l' := by
  intro l l' h
  apply List.ext_getElem
  · simp [zipB, h]
  · intro i h1 h2
    simp at h1
    simp [zipB, List.getD, h1, h]
theorem zip_good (op : Go.BinOp) (c : Int) (H : ∀ m n : Int, (0 ≤ m ∧ m ≤ 2 ^ c.toNat - 1) → (0 ≤ n ∧ n ≤ 2 ^ c.toNat - 1) → 0 ≤ Go.bits op .i64 m n ∧ Go.bits op .i64 m n ≤ 2 ^ c.toNat - 1) : ∀ l l' : List Int, (∀ x ∈ l, 0 ≤ x ∧ x ≤ 2 ^ c.toNat - 1) → (∀ x ∈ l', 0 ≤ x ∧ x ≤ 2 ^ c.toNat - 1) → ∀ x ∈ zipB op l l', 0 ≤ x ∧ x ≤ 2 ^ c.toNat - 1
  | [], l', _, _ => by simp [zipB]
  | m :: t, [], _, _ => by simp [zipB]
  | m :: t, n :: s, h1, h2 => by
    intro x hx
    simp only [zipB, List.zipWith_cons_cons, List.mem_cons] at hx
    rcases hx with rfl | hx
    · exact H m n (h1 m (by simp)) (h2 n (by simp))
    · exact zip_good op c H t s (fun y hy => h1 y (by simp [hy])) (fun y hy => h2 y (by simp [hy])) x hx
theorem or_bd (c : Int) (hc : 1 ≤ c ∧ c ≤ 6) (m n : Int) (hm : 0 ≤ m ∧ m ≤ 2 ^ c.toNat - 1) (hn : 0 ≤ n ∧ n ≤ 2 ^ c.toNat - 1) : 0 ≤ Go.bits .or .i64 m n ∧ Go.bits .or .i64 m n ≤ 2 ^ c.toNat - 1 := by
  obtain ⟨f, rfl⟩ := fin64 m c hc hm
  obtain ⟨g, rfl⟩ := fin64 n c hc hn
  exact or_bdF ⟨c.toNat, by omega⟩ f g hm.2 hn.2
theorem and_bd (c : Int) (hc : 1 ≤ c ∧ c ≤ 6) (m n : Int) (hm : 0 ≤ m ∧ m ≤ 2 ^ c.toNat - 1) (hn : 0 ≤ n ∧ n ≤ 2 ^ c.toNat - 1) : 0 ≤ Go.bits .and .i64 m n ∧ Go.bits .and .i64 m n ≤ 2 ^ c.toNat - 1 := by
  obtain ⟨f, rfl⟩ := fin64 m c hc hm
  obtain ⟨g, rfl⟩ := fin64 n c hc hn
  have := and_bdF f g
  omega
theorem sum_zip (c : Int) (hc : 1 ≤ c ∧ c ≤ 6) : ∀ l l' : List Int, l'.length = l.length → (∀ x ∈ l, 0 ≤ x ∧ x ≤ 2 ^ c.toNat - 1) → (∀ x ∈ l', 0 ≤ x ∧ x ≤ 2 ^ c.toNat - 1) → ((zipB .or l l').map fun m => pcN m c.toNat).sum + ((zipB .and l l').map fun m => pcN m c.toNat).sum = (l.map fun m => pcN m c.toNat).sum + (l'.map fun m => pcN m c.toNat).sum
  | [], l', h, _, _ => by cases l' with | nil => rfl | cons => simp at h
  | m :: t, [], h, _, _ => by simp at h
  | m :: t, n :: s, h, h1, h2 => by
    have ih := sum_zip c hc t s (by simpa using h) (fun y hy => h1 y (by simp [hy])) (fun y hy => h2 y (by simp [hy]))
    have := pc_add m n c hc (h1 m (by simp)) (h2 n (by simp))
    simp only [zipB, List.zipWith_cons_cons, List.map_cons, List.sum_cons] at ih ⊢
    omega

theorem part_zip (c : Int) (hc : 1 ≤ c ∧ c ≤ 6) : ∀ l l' : List Int, l'.length = l.length → (∀ x ∈ l, 0 ≤ x ∧ x ≤ 2 ^ c.toNat - 1) → (∀ x ∈ l', 0 ≤ x ∧ x ≤ 2 ^ c.toNat - 1) → partL l l' = decide (zipB .and l l' = l) ∧ partL l l' = decide (zipB .or l l' = l')
  | [], l', h, _, _ => by cases l' with | nil => exact ⟨rfl, rfl⟩ | cons => simp at h
  | m :: t, [], h, _, _ => by simp at h
  | m :: t, n :: s, h, h1, h2 => by
    obtain ⟨i1, i2⟩ := part_zip c hc t s (by simpa using h) (fun y hy => h1 y (by simp [hy])) (fun y hy => h2 y (by simp [hy]))
    obtain ⟨f, rfl⟩ := fin64 m c hc (h1 m (by simp))
    obtain ⟨g, rfl⟩ := fin64 n c hc (h2 n (by simp))
    obtain ⟨p1, p2⟩ := partF f g
    have z : ∀ op : Go.BinOp, zipB op ((f.val : Int) :: t) ((g.val : Int) :: s) = Go.bits op .i64 (f.val : Int) (g.val : Int) :: zipB op t s := fun _ => rfl
    constructor
    · rw [partL, i1, p1, z]; simp only [List.cons.injEq, Bool.decide_and]
    · rw [partL, i2, p2, z]; simp only [List.cons.injEq, Bool.decide_and]
theorem strike_cellF : ∀ m : Fin 64, ∀ c : Fin 6, ∀ j : Fin 6, cell (strikeE (m.val : Int) (c.val : Int)) (j.val : Int) = cell (m.val : Int) ((if c.val ≤ j.val then j.val + 1 else j.val : Nat) : Int) := by decide +kernel
theorem strike_bdF : ∀ m : Fin 64, ∀ C : Fin 7, ∀ c : Fin 6, c.val < C.val → (m.val : Int) ≤ 2 ^ C.val - 1 → 0 ≤ strikeE (m.val : Int) (c.val : Int) ∧ strikeE (m.val : Int) (c.val : Int) ≤ 2 ^ (C.val - 1) - 1 := by decide +kernel
theorem strikeL_no (c : Int) : ∀ (l : List Int) (i r : Int), r < i → strikeL l i r c = l.map fun m => strikeE m c
  | [], _, _, _ => rfl
  | m :: t, i, r, h => by rw [strikeL, if_neg (by omega), strikeL_no c t (i + 1) r (by omega)]; rfl
theorem strikeL_er (c : Int) : ∀ (l : List Int) (i r : Int), i ≤ r → strikeL l i r c = (l.eraseIdx (r - i).toNat).map fun m => strikeE m c
  | [], _, _, _ => rfl
  | m :: t, i, r, h => by
    rw [strikeL]
    by_cases e : i = r
    · rw [if_pos e, List.nil_append, strikeL_no c t (i + 1) r (by omega), show (r - i).toNat = 0 by omega]; rfl
    · rw [if_neg e, strikeL_er c t (i + 1) r (by omega), show (r - i).toNat = (r - (i + 1)).toNat + 1 by omega]; rfl
theorem strike_good (r c : Int) (l : List Int) (i j : Int) (g : GoodB r c l) (p : Place r c i j) (h1 : r ≠ 1) (h2 : c ≠ 1) : GoodB (r - 1) (c - 1) (strikeL l 0 i j) := by
  have g1 := g.1; have g2 := g.2.1; have g3 := g.2.2.1; have p1 := p.1; have p2 := p.2
  refine ⟨by omega, by omega, ?_, ?_⟩
  · rw [strikeL_er j l 0 i (by omega), List.length_map, List.length_eraseIdx, if_pos (by omega)]; omega
  · intro x hx
    rw [strikeL_er j l 0 i (by omega), List.mem_map] at hx
    obtain ⟨m, hm, rfl⟩ := hx
    have hb := g.2.2.2 m (List.mem_of_mem_eraseIdx hm)
    obtain ⟨f, rfl⟩ := fin64 m c g2 hb
    have := strike_bdF f ⟨c.toNat, by omega⟩ ⟨j.toNat, by omega⟩ (by show j.toNat < c.toNat; omega) hb.2
    simp only at this
    rw [show ((j.toNat : Nat) : Int) = j by omega] at this
    rw [show (c - 1).toNat = c.toNat - 1 by omega]
    exact this
theorem strike_rd (r c : Int) (l : List Int) (i j : Int) (g : GoodB r c l) (p : Place r c i j) (a : Nat) (ha : (a : Int) < r - 1) : rd (strikeL l 0 i j) (a : Int) = strikeE (rd l (if i ≤ (a : Int) then (a : Int) + 1 else (a : Int))) j := by
  have g3 := g.2.2.1; have p1 := p.1
  rw [strikeL_er j l 0 i (by omega)]
  have hl : a < ((l.eraseIdx (i - 0).toNat).map fun m => strikeE m j).length := by rw [List.length_map, List.length_eraseIdx, if_pos (by omega)]; omega
  rw [rd_nat _ a hl, List.getElem_map, List.getElem_eraseIdx]
  by_cases h : i ≤ (a : Int)
  · rw [dif_neg (by omega), if_pos h, show (a : Int) + 1 = ((a + 1 : Nat) : Int) by omega, rd_nat l (a + 1) (by omega)]
  · rw [dif_pos (by omega), if_neg h, rd_nat l a (by omega)]
theorem strike_on (r c : Int) (l : List Int) (i j : Int) (g : GoodB r c l) (p : Place r c i j) (h1 : r ≠ 1) (h2 : c ≠ 1) (a b : Nat) (ha : (a : Int) < r - 1) (hb : (b : Int) < c - 1) : laws_rOn.f (r - 1) (c - 1) (strikeL l 0 i j) (a : Int) (b : Int) = laws_rOn.f r c l (if i ≤ (a : Int) then (a : Int) + 1 else (a : Int)) (if j ≤ (b : Int) then (b : Int) + 1 else (b : Int)) := by
  have g1 := g.1; have g2 := g.2.1; have g3 := g.2.2.1; have p1 := p.1; have p2 := p.2
  have e1 : 0 ≤ (if i ≤ (a : Int) then (a : Int) + 1 else (a : Int)) ∧ (if i ≤ (a : Int) then (a : Int) + 1 else (a : Int)) ≤ r - 1 := by split <;> omega
  have e2 : 0 ≤ (if j ≤ (b : Int) then (b : Int) + 1 else (b : Int)) ∧ (if j ≤ (b : Int) then (b : Int) + 1 else (b : Int)) ≤ c - 1 := by split <;> omega
  rw [rOn_in _ _ _ _ _ (strike_good r c l i j g p h1 h2) ⟨by omega, by omega⟩, rOn_in _ _ _ _ _ g ⟨e1, e2⟩, strike_rd r c l i j g p a ha]
  generalize (if i ≤ (a : Int) then (a : Int) + 1 else (a : Int)) = A at e1
  have hm := g.2.2.2 _ (rd_mem l A e1.1 (by omega))
  obtain ⟨f, hf⟩ := fin64 (rd l A) c g2 hm
  have := strike_cellF f ⟨j.toNat, by omega⟩ ⟨b, by omega⟩
  simp only at this
  rw [hf, ← show ((j.toNat : Nat) : Int) = j by omega, this]
  congr 2
  by_cases h : j.toNat ≤ b
  · rw [if_pos h, if_pos (by omega)]; omega
  · rw [if_neg h, if_neg (by omega)]
theorem st_pcF : ∀ c c' : Fin 7, c.val + c'.val ≤ 6 → ∀ m : Fin 64, ((m.val : Int) ≤ 2 ^ c'.val - 1 → pcN (shl .i64 (m.val : Int) (c.val : Int)) (c.val + c'.val) = pcN (m.val : Int) c'.val ∧ 0 ≤ shl .i64 (m.val : Int) (c.val : Int) ∧ shl .i64 (m.val : Int) (c.val : Int) ≤ 2 ^ (c.val + c'.val) - 1) ∧ ((m.val : Int) ≤ 2 ^ c.val - 1 → pcN (m.val : Int) (c.val + c'.val) = pcN (m.val : Int) c.val ∧ (m.val : Int) ≤ 2 ^ (c.val + c'.val) - 1) := by decide +kernel
theorem st_good (r c : Int) (l : List Int) (r' c' : Int) (l' : List Int) (g : GoodB r c l) (g' : GoodB r' c' l') (hr : r + r' ≤ 6) (hc : c + c' ≤ 6) : GoodB (r + r') (c + c') (l ++ l'.map fun m => shl .i64 m c) := by
  have g1 := g.1; have g2 := g.2.1; have g3 := g.2.2.1; have k1 := g'.1; have k2 := g'.2.1; have k3 := g'.2.2.1
  refine ⟨by omega, by omega, by simp; omega, ?_⟩
  intro x hx
  have key := st_pcF ⟨c.toNat, by omega⟩ ⟨c'.toNat, by omega⟩ (by show c.toNat + c'.toNat ≤ 6; omega)
  rw [show (c + c').toNat = c.toNat + c'.toNat by omega]
  rcases List.mem_append.1 hx with hx | hx
  · have hb := g.2.2.2 x hx
    obtain ⟨f, rfl⟩ := fin64 x c g2 hb
    exact ⟨hb.1, ((key f).2 hb.2).2⟩
  · obtain ⟨m, hm, rfl⟩ := List.mem_map.1 hx
    have hb := g'.2.2.2 m hm
    obtain ⟨f, rfl⟩ := fin64 m c' k2 hb
    have := ((key f).1 hb.2).2
    simp only at this
    rw [show ((c.toNat : Nat) : Int) = c by omega] at this
    exact this
theorem st_count (r c : Int) (l : List Int) (r' c' : Int) (l' : List Int) (g : GoodB r c l) (g' : GoodB r' c' l') (hc : c + c' ≤ 6) : (cellsC (c + c').toNat (l ++ l'.map fun m => shl .i64 m c) 0).length = (cellsC c.toNat l 0).length + (cellsC c'.toNat l' 0).length := by
  have g2 := g.2.1; have k2 := g'.2.1
  have key := st_pcF ⟨c.toNat, by omega⟩ ⟨c'.toNat, by omega⟩ (by show c.toNat + c'.toNat ≤ 6; omega)
  simp only at key
  rw [cellsC_sum, cellsC_sum, cellsC_sum, List.map_append, List.sum_append, List.map_map, show (c + c').toNat = c.toNat + c'.toNat by omega]
  congr 1
  · congr 1
    apply List.map_congr_left
    intro x hx
    have hb := g.2.2.2 x hx
    obtain ⟨f, rfl⟩ := fin64 x c g2 hb
    exact ((key f).2 hb.2).1
  · congr 1
    apply List.map_congr_left
    intro x hx
    have hb := g'.2.2.2 x hx
    obtain ⟨f, rfl⟩ := fin64 x c' k2 hb
    have := ((key f).1 hb.2).1
    rw [show ((c.toNat : Nat) : Int) = c by omega] at this
    exact this
theorem law_j7 (k : Nat) (x : List Int) (hc : CodeOK x) (hk : 2000010 ≤ k) : laws_FnBoardsJoined.j7 k x = some true := by
  obtain ⟨k, rfl⟩ : ∃ m, k = m + 2 := ⟨k - 2, by omega⟩
  rw [laws_FnBoardsJoined.j7]
  obtain ⟨r, c, l, r', c', l', e, h1, h2⟩ := d_stack (k + 1) x hc (by omega)
  rw [e, Option.bind_some]
  simp only
  have hl := stOut_len r c l r' c' l'
  rw [i_StackBoards _ r c l r' c' l' (by omega), Option.bind_some, e_StackBoards _ r c l r' c' l' (by omega) (by omega) (by omega) (by omega) (by omega), Option.bind_some, bne_self_eq_false, if_neg (by decide), rSameBoard_self _ _ _ _ (by omega) (by omega), Option.bind_some, laws_FnBoardsJoined.j8, if_neg (by decide)]
  by_cases h : (GoodB r c l ∧ GoodB r' c' l') ∧ r + r' ≤ 6 ∧ c + c' ≤ 6
  · have eo : stOut r c l r' c' l' = (r + r', c + c', l ++ l'.map (fun m => shl .i64 m c), true) := by unfold stOut; rw [if_pos h]
    have a1 := cc_le r c l h.1.1 0
    have a2 := cc_le r' c' l' h.1.2 0
    rw [eo, if_pos rfl, cc_good _ r c l h.1.1 (by omega), Option.bind_some, cc_good _ r' c' l' h.1.2 (by omega), Option.bind_some, cc_good _ _ _ _ (st_good r c l r' c' l' h.1.1 h.1.2 h.2.1 h.2.2) (by omega), Option.bind_some]
    simp only [if_true]
    rw [st_count r c l r' c' l' h.1.1 h.1.2 h.2.2, w64 (by omega) (by omega)]
    congr 1
    rw [beq_iff_eq]; omega
  · have eo : stOut r c l r' c' l' = (0, 0, [], false) := by unfold stOut; rw [if_neg h]
    rw [eo, if_neg (by decide)]
theorem law_l1 (x : List Int) (hc : CodeOK x) (r c : Int) (l : List Int) (i j : Int) (g : GoodB r c l) (p : Place r c i j) (h1 : r ≠ 1) (h2 : c ≠ 1) (a : Nat) (ha : (a : Int) < r - 1) : ∀ (d b k : Nat), (b : Int) + d = c - 1 → laws_FnBoardsJoined.l1 (k + 3 * d + 1) x i j (a : Int) (b : Int) r c l (r - 1) (c - 1) (strikeL l 0 i j) = laws_FnBoardsJoined.l0 k x i j ((a + 1 : Nat) : Int) r c l (r - 1) (c - 1) (strikeL l 0 i j)
  | 0, b, k, hb => by
    have g1 := g.1; have g2 := g.2.1
    rw [laws_FnBoardsJoined.l1, if_neg (by omega), w64 (x := (a : Int) + 1) (by omega) (by omega)]; rfl
  | d + 1, b, k, hb => by
    have g1 := g.1; have g2 := g.2.1
    have e := strike_on r c l i j g p h1 h2 a b ha (by omega)
    have eg : laws_FnBoardsJoined.l1 (k + 3 * (d + 1) + 1) x i j (a : Int) (b : Int) r c l (r - 1) (c - 1) (strikeL l 0 i j) = laws_FnBoardsJoined.j6 (k + 3 * d + 1 + 1) x i j (a : Int) (b : Int) (if i ≤ (a : Int) then (a : Int) + 1 else (a : Int)) (if j ≤ (b : Int) then (b : Int) + 1 else (b : Int)) r c l (r - 1) (c - 1) (strikeL l 0 i j) := by
      rw [show k + 3 * (d + 1) + 1 = (k + 3 * d + 1 + 1) + 1 + 1 by omega, laws_FnBoardsJoined.l1, if_pos (by omega), w64 (x := (a : Int) + 1) (by omega) (by omega)]
      by_cases u : i ≤ (a : Int)
      · rw [if_pos (show (a : Int) ≥ i from u), laws_FnBoardsJoined.j5, if_pos u, w64 (x := (b : Int) + 1) (by omega) (by omega)]
        by_cases v : j ≤ (b : Int)
        · rw [if_pos (show (b : Int) ≥ j from v), if_pos v]
        · rw [if_neg (show ¬ (b : Int) ≥ j from v), if_neg v]
      · rw [if_neg (show ¬ (a : Int) ≥ i from u), laws_FnBoardsJoined.j5, if_neg u, w64 (x := (b : Int) + 1) (by omega) (by omega)]
        by_cases v : j ≤ (b : Int)
        · rw [if_pos (show (b : Int) ≥ j from v), if_pos v]
        · rw [if_neg (show ¬ (b : Int) ≥ j from v), if_neg v]
    rw [eg, laws_FnBoardsJoined.j6, ← e]
    have eo := rOn_eq (r - 1) (c - 1) (strikeL l 0 i j) (a : Int) (b : Int)
    rw [eo, Option.bind_some, Option.bind_some, bne_self_eq_false, if_neg (by decide), w64 (x := (b : Int) + 1) (by omega) (by omega), show ((b : Int) + 1) = ((b + 1 : Nat) : Int) from by omega]
    exact law_l1 x hc r c l i j g p h1 h2 a ha d (b + 1) k (by omega)
theorem law_l0 (x : List Int) (hc : CodeOK x) (r c : Int) (l : List Int) (i j : Int) (g : GoodB r c l) (p : Place r c i j) (h1 : r ≠ 1) (h2 : c ≠ 1) : ∀ (d a k : Nat), (a : Int) + d = r - 1 → 2000020 + 30 * d ≤ k → laws_FnBoardsJoined.l0 k x i j (a : Int) r c l (r - 1) (c - 1) (strikeL l 0 i j) = some true
  | 0, a, k, ha, hk => by
    obtain ⟨k, rfl⟩ : ∃ m, k = m + 1 := ⟨k - 1, by omega⟩
    rw [laws_FnBoardsJoined.l0, if_neg (by omega)]
    exact law_j7 k x hc (by omega)
  | d + 1, a, k, ha, hk => by
    have g2 := g.2.1
    obtain ⟨k, rfl⟩ : ∃ m, k = (m + 3 * (c.toNat - 1) + 1) + 1 := ⟨k - 3 * (c.toNat - 1) - 2, by omega⟩
    have := law_l1 x hc r c l i j g p h1 h2 a (by omega) (c.toNat - 1) 0 k (by omega)
    rw [show ((0 : Nat) : Int) = 0 from rfl] at this
    rw [laws_FnBoardsJoined.l0, if_pos (by omega), this]
    exact law_l0 x hc r c l i j g p h1 h2 d (a + 1) k (by omega) (by omega)
theorem law_j1 (k : Nat) (x : List Int) (hc : CodeOK x) (hk : 2000500 ≤ k) : laws_FnBoardsJoined.j1 k x = some true := by
  obtain ⟨k, rfl⟩ : ∃ m, k = m + 2 := ⟨k - 2, by omega⟩
  rw [laws_FnBoardsJoined.j1]
  obtain ⟨r, c, l, i, j, e, h1⟩ := d_strike (k + 1) x hc (by omega)
  have hl := strikeOut_len r c l i j
  rw [e, Option.bind_some]
  simp only
  rw [i_StrikeCell _ r c l i j (by omega), Option.bind_some, e_StrikeCell _ r c l i j (by omega) (by omega) (by omega), Option.bind_some, bne_self_eq_false, if_neg (by decide), rSameBoard_self _ _ _ _ (by omega) (by omega), Option.bind_some, laws_FnBoardsJoined.j2, if_neg (by decide)]
  by_cases h : (GoodB r c l ∧ Place r c i j) ∧ r ≠ 1 ∧ c ≠ 1
  · have g1 := h.1.1.1
    have eo : strikeOut r c l i j = (r - 1, c - 1, strikeL l 0 i j, true) := by unfold strikeOut; rw [if_pos h]
    rw [eo, if_pos rfl]
    have := law_l0 x hc r c l i j h.1.1 h.1.2 h.2.1 h.2.2 (r - 1).toNat 0 k (by omega) (by omega)
    exact this
  · have eo : strikeOut r c l i j = (0, 0, [], false) := by unfold strikeOut; rw [if_neg h]
    rw [eo, if_neg (by decide)]
    exact law_j7 k x hc (by omega)
theorem law_j0 (k : Nat) (x : List Int) (hc : CodeOK x) (r c : Int) (l : List Int) (r' c' : Int) (l' : List Int) (hk : 2000600 ≤ k) : laws_FnBoardsJoined.j0 k x (joinOut r c l r' c' l').2.2.2 (partOut r c l r' c' l').1 false r c l r' c' l' (joinOut r c l r' c' l').1 (joinOut r c l r' c' l').2.1 (joinOut r c l r' c' l').2.2.1 (meetOut r c l r' c' l').1 (meetOut r c l r' c' l').2.1 (meetOut r c l r' c' l').2.2.1 = some true := by
  obtain ⟨k, rfl⟩ : ∃ m, k = m + 1 := ⟨k - 1, by omega⟩
  rw [laws_FnBoardsJoined.j0, if_neg (by decide)]
  by_cases h : GoodB r c l ∧ GoodB r' c' l' ∧ r = r' ∧ c = c'
  · obtain ⟨g, g', rfl, rfl⟩ := h
    have g1 := g.1; have g2 := g.2.1; have g3 := g.2.2.1; have k3 := g'.2.2.1
    have hl : l'.length = l.length := by omega
    have e1 : joinOut r c l r c l' = (r, c, zipB .or l l', true) := by unfold joinOut; rw [if_pos ⟨g, g', rfl, rfl⟩, zip_range .or l l' hl]
    have e2 : meetOut r c l r c l' = (r, c, zipB .and l l', true) := by unfold meetOut; rw [if_pos ⟨g, g', rfl, rfl⟩, zip_range .and l l' hl]
    have e3 : partOut r c l r c l' = (partL l l', true) := by unfold partOut; rw [if_pos ⟨g, g'⟩, if_pos ⟨rfl, rfl⟩]
    have zl : ∀ op, (zipB op l l').length = l.length := fun op => by simp [zipB, hl]
    have ju : GoodB r c (zipB .or l l') := ⟨g1, g2, by rw [zl]; exact g3, zip_good .or c (or_bd c g2) l l' g.2.2.2 g'.2.2.2⟩
    have jm : GoodB r c (zipB .and l l') := ⟨g1, g2, by rw [zl]; exact g3, zip_good .and c (and_bd c g2) l l' g.2.2.2 g'.2.2.2⟩
    have b1 := cc_le r c l g 0; have b2 := cc_le r c l' g' 0; have b3 := cc_le _ _ _ ju 0; have b4 := cc_le _ _ _ jm 0
    have hs := sum_zip c g2 l l' hl g.2.2.2 g'.2.2.2
    rw [← cellsC_sum _ _ 0, ← cellsC_sum _ _ 0, ← cellsC_sum _ _ 0, ← cellsC_sum _ _ 0] at hs
    obtain ⟨p1, p2⟩ := part_zip c g2 l l' hl g.2.2.2 g'.2.2.2
    rw [e1, e2, e3]
    simp only [if_true]
    rw [cc_good _ _ _ _ ju (by omega), Option.bind_some, cc_good _ _ _ _ jm (by omega), Option.bind_some, cc_good _ _ _ _ g (by omega), Option.bind_some, cc_good _ _ _ _ g' (by omega), Option.bind_some]
    simp only [if_true]
    rw [if_pos (by rw [w64 (by omega) (by omega), w64 (by omega) (by omega)]; omega)]
    have z1 := zl .and; have z2 := zl .or
    have l6 := goodB_len g
    rw [rSameBoard_eq _ _ _ _ _ _ _ (by omega) (by omega), Option.bind_some, rSameBoard_eq _ _ _ _ _ _ _ (by omega) (by omega), Option.bind_some]
    have q1 : decide (r = r ∧ c = c ∧ zipB .and l l' = l) = partL l l' := by rw [p1]; simp
    have q2 : decide (r = r ∧ c = c ∧ zipB .or l l' = l') = partL l l' := by rw [p2]; simp
    rw [q1, q2, bne_self_eq_false, if_neg (by decide), if_neg (by decide)]
    exact law_j1 k x hc (by omega)
  · have e1 : joinOut r c l r' c' l' = (0, 0, [], false) := by unfold joinOut; rw [if_neg h]
    rw [e1, if_neg (by decide)]
    exact law_j1 k x hc (by omega)
theorem FnBoardsJoined : laws_FnBoardsJoined.Pure := by
  intro a b _ ha _ hb
  refine ⟨3000000, ?_⟩
  unfold laws_FnBoardsJoined.f laws_big.f
  by_cases h : (a.length : Int) > 1048576
  · rw [if_pos h]; rfl
  · rw [if_neg h, Option.bind_some, w64 (by omega) (by omega)]
    by_cases h2 : (b.length : Int) > 1048576 - a.length
    · rw [decide_eq_true h2, if_pos rfl]
    · have hca := code_ok a (by omega) ha
      have hcb := code_ok b (by omega) hb
      rw [decide_eq_false h2, if_neg (by decide)]
      unfold spec_DrawUnionOf.f
      obtain ⟨r, c, l, r', c', l', i1, u1, e1, h3, h4, _⟩ := d_fit 3000000 a hca 0 0 0 (by unfold PL; omega) (by omega) (by omega)
      rw [e1, Option.bind_some, Option.bind_some]
      simp only
      have hI : impl_UnionOf.f r c l r' c' l' = some (joinOut r c l r' c' l') := by
        unfold impl_UnionOf.f joinOut
        split <;> rfl
      have hM : impl_MeetOf.f r c l r' c' l' = some (meetOut r c l r' c' l') := by
        unfold impl_MeetOf.f meetOut
        split <;> rfl
      have n1 := joinOut_len r c l r' c' l'
      have n2 := meetOut_len r c l r' c' l'
      rw [hI, Option.bind_some, e_UnionOf _ r c l r' c' l' (by omega) (by omega) (by omega) (by omega) (by omega), Option.bind_some, hM, Option.bind_some, e_MeetOf _ r c l r' c' l' (by omega) (by omega) (by omega) (by omega) (by omega), Option.bind_some, i_IsPartOf _ r c l r' c' l' (by omega), Option.bind_some, e_IsPartOf _ r c l r' c' l' (by omega) (by omega) (by omega) (by omega), Option.bind_some]
      rw [bne_self_eq_false, if_neg (by decide), rSameBoard_self _ _ _ _ (by omega) (by omega), Option.bind_some, if_pos rfl, bne_self_eq_false, if_neg (by decide), rSameBoard_self _ _ _ _ (by omega) (by omega), Option.bind_some, if_pos rfl, bne_self_eq_false, if_neg (by decide), bne_self_eq_false, if_neg (by decide)]
      have j0 := law_j0 3000000 b hcb r c l r' c' l' (by omega)
      by_cases h5 : GoodB r c l ∧ GoodB r' c' l' ∧ r = r' ∧ c = c'
      · have q1 : (joinOut r c l r' c' l').2.2.2 = true := by unfold joinOut; rw [if_pos h5]
        have q2 : (meetOut r c l r' c' l').2.2.2 = true := by unfold meetOut; rw [if_pos h5]
        have q3 : (partOut r c l r' c' l').2 = true := by unfold partOut; rw [if_pos ⟨h5.1, h5.2.1⟩, if_pos h5.2.2]
        rw [q1] at j0 ⊢
        rw [q2, q3, if_neg (by decide), if_pos rfl]
        exact j0
      · have q1 : (joinOut r c l r' c' l').2.2.2 = false := by unfold joinOut; rw [if_neg h5]
        have q2 : (meetOut r c l r' c' l').2.2.2 = false := by unfold meetOut; rw [if_neg h5]
        rw [q1] at j0 ⊢
        rw [q2, if_neg (by decide), if_neg (by decide)]
        exact j0

end Go.Proofs.Ytllhofdgbpnkkaa.Pure
