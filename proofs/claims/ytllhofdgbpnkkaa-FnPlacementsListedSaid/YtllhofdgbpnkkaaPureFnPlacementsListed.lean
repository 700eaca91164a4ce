/- PlacementsListed: the law's function comes to true. -/
import Derived.Test.YtllhofdgbpnkkaaPFnPlacementsListedx16
namespace Go.Proofs.Ytllhofdgbpnkkaa.Pure
open Go.RowKit Go.Proofs.Ytllhofdgbpnkkaa.PFnPlacementsListed Go.Proofs.YtllhofdgbpnkkaaW.PrintWords Go.Proofs.YtllhofdgbpnkkaaW.PrintLast
set_option linter.unusedVariables false
set_option linter.unusedSimpArgs false

theorem w64 {x : Int} (h0 : -9223372036854775808 ≤ x) (h1 : x < 9223372036854775808) : wrap64 x = x := by
  unfold wrap64; omega
theorem rd_nat (l : List Int) (i : Nat) (h : i < l.length) : rd l (i : Int) = l[i] := by
  unfold rd; simp [List.getD, h]

theorem wu64 (n : Int) : IntKind.u64.wrap n = n % 18446744073709551616 := by simp [IntKind.wrap, IntKind.bits, IntKind.signed]
theorem and255 (x : Int) (h0 : 0 ≤ x) (h1 : x < 18446744073709551616) : Go.bits .and .u64 x 255 = x % 256 := by
  have := Go.bits_mask .u64 64 (by decide) (fun n h0 h1 => by rw [wu64]; exact Int.emod_eq_of_lt h0 (by simpa using h1)) 8 (by decide) x h0 (by simpa using h1)
  simpa using this
theorem and255w (n : Int) : 0 ≤ wrap64 (Go.bits .and .u64 (IntKind.u64.wrap n / 1099511627776) 255) ∧ wrap64 (Go.bits .and .u64 (IntKind.u64.wrap n / 1099511627776) 255) ≤ 255 := by
  rw [and255 _ (by rw [wu64]; omega) (by rw [wu64]; omega), w64 (by omega) (by omega)]
  omega
def CodeOK (code : List Int) : Prop := code.length ≤ 1048576 ∧ ∀ x ∈ code, 0 ≤ x ∧ x ≤ 255
theorem code_ok (code : List Int) (h : code.length ≤ 1048576) (hw : ∀ x ∈ code, (Lit.int .u8 x).wf = true) : CodeOK code := by
  refine ⟨h, fun x hx => ?_⟩
  have := hw x hx
  simp only [Lit.wf, Bool.and_eq_true, decide_eq_true_eq] at this
  have h1 : IntKind.u8.min = 0 := rfl
  have h2 : IntKind.u8.max = 255 := rfl
  rw [h1, h2] at this
  exact this
/-- A place of the bytes that a draw may have come to. -/
def PL (n i : Int) : Prop := 0 ≤ i ∧ i ≤ n
theorem d_next (code : List Int) (hc : CodeOK code) (i u : Int) (hi : 0 ≤ i ∧ i ≤ 1000000000) : ∃ v u', spec_l1Cur_next.f code i u = some (v, i + 1, u') ∧ 0 ≤ v ∧ v ≤ 255 := by
  have hl := hc.1
  unfold spec_l1Cur_next.f
  rw [w64 (x := i + 1) (by omega) (by omega)]
  by_cases h : i < (code.length : Int)
  · rw [if_pos h, if_pos hi.1, if_pos (show i + 1 ≤ (code.length : Int) by omega)]
    refine ⟨_, _, rfl, ?_⟩
    obtain ⟨j, rfl⟩ := Int.eq_ofNat_of_zero_le hi.1
    have hj : j < code.length := by omega
    rw [rd_nat code j hj]
    have := hc.2 _ (List.getElem_mem hj)
    rw [w64 (by omega) (by omega)]
    exact this
  · rw [if_neg h, if_neg (show ¬ i + 1 ≤ (code.length : Int) by omega)]
    exact ⟨_, _, rfl, and255w _⟩
theorem d_pick (code : List Int) (hc : CodeOK code) (i u n : Int) (N : Int) (hi : PL N i) (hN : N ≤ 100000000) : ∃ v i' u', spec_l1Cur_pick.f code i u n = some (v, i', u') ∧ PL (N + 2) i' ∧ 0 ≤ v ∧ (1 ≤ n → v < n) := by
  unfold PL at hi ⊢
  unfold spec_l1Cur_pick.f
  by_cases h : n ≤ 1
  · rw [if_pos h]
    exact ⟨_, _, _, rfl, by omega, by omega, by omega⟩
  · rw [if_neg h]
    obtain ⟨v, u', e, h0, h1⟩ := d_next code hc i u (by omega)
    rw [e, Option.bind_some]
    by_cases h2 : n > 200
    · obtain ⟨v2, u2, e2, h3, h4⟩ := d_next code hc (i + 1) u' (by omega)
      rw [if_pos h2]
      simp only
      rw [e2, Option.bind_some, if_neg (show ¬ n = 0 by omega)]
      refine ⟨_, _, _, rfl, by simp only; omega, ?_⟩
      rw [w64 (x := v * 256) (by omega) (by omega), w64 (by omega) (by omega), Int.tmod_eq_emod_of_nonneg (by omega)]
      exact ⟨Int.emod_nonneg _ (by omega), fun _ => Int.emod_lt_of_pos _ (by omega)⟩
    · rw [if_neg h2, if_neg (show ¬ n = 0 by omega)]
      refine ⟨_, _, _, rfl, by simp only; omega, ?_⟩
      simp only
      rw [Int.tmod_eq_emod_of_nonneg (by omega)]
      exact ⟨Int.emod_nonneg _ (by omega), fun _ => Int.emod_lt_of_pos _ (by omega)⟩

theorem d_one (code : List Int) (hc : CodeOK code) (i u n : Int) (N : Int) (hi : PL N i) (hN : N ≤ 100000000) : ∃ v i' u', spec_l1Cur_one.f code i u n = some (v, i', u') ∧ PL (N + 2) i' := by
  unfold spec_l1Cur_one.f
  obtain ⟨v, i', u', e, h, _⟩ := d_pick code hc i u n N hi hN
  rw [e]
  exact ⟨_, _, _, rfl, h⟩

theorem d_boardOf_l0 (code : List Int) (hc : CodeOK code) (R C : Int) (hC : 0 ≤ C ∧ C ≤ 60) : ∀ (d j k : Nat) (i u : Int) (l : List Int) (N : Int), j + d = l.length → d < k → PL N i → N + 6 * d ≤ 10000000 → l.length ≤ 1000 → ∃ l' i' u', spec_l1Cur_boardOf.l0 k C (l.length : Int) (j : Int) code i u R C l = some (R, C, l', i', u') ∧ l'.length = l.length ∧ PL (N + 6 * d) i' := by
  intro d
  induction d with
  | zero =>
    intro j k i u l N hj hk hi hN hl
    obtain ⟨k, rfl⟩ : ∃ m, k = m + 1 := ⟨k - 1, by omega⟩
    rw [spec_l1Cur_boardOf.l0, if_neg (by omega)]
    exact ⟨_, _, _, rfl, rfl, by simpa using hi⟩
  | succ d ih =>
    intro j k i u l N hj hk hi hN hl
    obtain ⟨k, rfl⟩ : ∃ m, k = m + 1 := ⟨k - 1, by omega⟩
    rw [spec_l1Cur_boardOf.l0, if_pos (by omega), if_pos hC.1]
    obtain ⟨v1, i1, u1, e1, h1, _⟩ := d_pick code hc i u (shl .i64 1 C) N hi (by omega)
    rw [e1, Option.bind_some, if_pos (by omega), if_pos (by omega), Option.bind_some]
    obtain ⟨v2, i2, u2, e2, h2⟩ := d_one code hc i1 u1 3 (N + 2) h1 (by omega)
    simp only
    rw [e2, Option.bind_some, w64 (x := (j : Int) + 1) (by omega) (by omega), show ((j : Int) + 1) = ((j + 1 : Nat) : Int) from by omega]
    by_cases hb : v2 = true
    · rw [if_pos hb]
      obtain ⟨v3, i3, u3, e3, h3, h4, _⟩ := d_pick code hc i2 u2 (wrap64 (C + 1)) (N + 2 + 2) h2 (by omega)
      simp only
      rw [e3, Option.bind_some, if_pos h4]
      have := ih (j + 1) k i3 u3 ((l.set (j : Int).toNat v1).set (j : Int).toNat (wrap64 (shl .i64 1 v3 - 1))) (N + 2 + 2 + 2) (by simp; omega) (by omega) h3 (by omega) (by simp; omega)
      simp only [List.length_set] at this
      obtain ⟨l', i', u', e, h5, h6⟩ := this
      exact ⟨l', i', u', e, h5, by rw [show N + 6 * ((d + 1 : Nat) : Int) = N + 2 + 2 + 2 + 6 * d by omega]; exact h6⟩
    · rw [if_neg hb]
      have := ih (j + 1) k i2 u2 (l.set (j : Int).toNat v1) (N + 2 + 2) (by simp; omega) (by omega) h2 (by omega) (by simp; omega)
      simp only [List.length_set] at this
      obtain ⟨l', i', u', e, h5, h6⟩ := this
      exact ⟨l', i', u', e, h5, by unfold PL at h6 ⊢; omega⟩
theorem d_boardOf (k : Nat) (code : List Int) (hc : CodeOK code) (i u : Int) (N : Int) (R C : Int) (hR : 0 ≤ R ∧ R ≤ 100) (hC : 0 ≤ C ∧ C ≤ 60) (hi : PL N i) (hN : N ≤ 1000000) (hk : 1000 ≤ k) : ∃ l' i' u', spec_l1Cur_boardOf.f k code i u R C = some (R, C, l', i', u') ∧ (l'.length : Int) = R ∧ PL (N + 600) i' := by
  unfold spec_l1Cur_boardOf.f spec_boEmpty.f
  rw [if_pos hR.1, if_pos (by omega), Option.bind_some]
  simp only
  obtain ⟨l', i', u', e, h1, h2⟩ := d_boardOf_l0 code hc R C hC R.toNat 0 k i u (List.replicate R.toNat 0) N (by simp) (by omega) hi (by omega) (by simp; omega)
  rw [show ((0 : Nat) : Int) = 0 from rfl] at e
  refine ⟨l', i', u', e, by rw [h1]; simp; omega, by unfold PL at h2 ⊢; omega⟩

theorem d_sides (code : List Int) (hc : CodeOK code) (i u : Int) (N : Int) (hi : PL N i) (hN : N ≤ 10000000) : ∃ v i' u', spec_l1Cur_sides.f code i u = some (v, i', u') ∧ PL (N + 4) i' ∧ 1 ≤ v ∧ v ≤ 6 := by
  unfold spec_l1Cur_sides.f
  obtain ⟨b, i1, u1, e, h⟩ := d_one code hc i u 8 N hi (by omega)
  rw [e, Option.bind_some]
  by_cases hb : b = true
  · rw [if_pos hb]
    exact ⟨_, _, _, rfl, by unfold PL at h ⊢; simp only; omega, by omega, by omega⟩
  · rw [if_neg hb]
    obtain ⟨v, i2, u2, e2, h2, h3, h4⟩ := d_pick code hc i1 u1 5 (N + 2) h (by omega)
    have h5 := h4 (by omega)
    rw [e2]
    refine ⟨_, _, _, rfl, by rw [show N + 4 = N + 2 + 2 by omega]; exact h2, ?_⟩
    simp only
    rw [w64 (by omega) (by omega)]; omega

theorem rd_in (l : List Int) (i : Int) (h0 : 0 ≤ i) (h1 : i < (l.length : Int)) : rd l i ∈ l := by
  obtain ⟨j, rfl⟩ := Int.eq_ofNat_of_zero_le h0
  have hj : j < l.length := by omega
  rw [rd_nat l j hj]
  exact List.getElem_mem hj
theorem d_among (code : List Int) (hc : CodeOK code) (i u : Int) (l : List Int) (N : Int) (hl : l ≠ []) (hi : PL N i) (hN : N ≤ 100000000) : ∃ v i' u', spec_l1Cur_among.f code i u l = some (v, i', u') ∧ PL (N + 2) i' ∧ v ∈ l := by
  unfold spec_l1Cur_among.f
  have hp : 0 < l.length := by cases l with | nil => exact absurd rfl hl | cons a t => simp
  obtain ⟨v, i', u', e, h, h0, h1⟩ := d_pick code hc i u (l.length : Int) N hi hN
  have h2 := h1 (by omega)
  rw [e, Option.bind_some, if_pos h0, if_pos h2]
  exact ⟨_, _, _, rfl, h, rd_in l v h0 h2⟩

theorem d_board (k : Nat) (code : List Int) (hc : CodeOK code) (i u : Int) (N : Int) (hi : PL N i) (hN : N ≤ 100000) (hk : 1000 ≤ k) : ∃ r c l i' u', spec_l1Cur_board.f k code i u = some (r, c, l, i', u') ∧ 1 ≤ l.length ∧ l.length ≤ 7 ∧ PL (N + 1000) i' := by
  unfold spec_l1Cur_board.f
  obtain ⟨r, i1, u1, e1, h1, r1, r2⟩ := d_sides code hc i u N hi (by omega)
  rw [e1, Option.bind_some]
  simp only
  obtain ⟨c, i2, u2, e2, h2, c1, c2⟩ := d_sides code hc i1 u1 (N + 4) h1 (by omega)
  rw [e2, Option.bind_some]
  simp only
  obtain ⟨l, i3, u3, e3, h3, h4⟩ := d_boardOf k code hc i2 u2 (N + 4 + 4) r c (by omega) (by omega) h2 (by omega) hk
  rw [e3, Option.bind_some]
  simp only
  obtain ⟨v, i4, u4, e4, h5, _⟩ := d_pick code hc i3 u3 18 (N + 4 + 4 + 600) h4 (by omega)
  rw [e4, Option.bind_some]
  simp only
  split
  · obtain ⟨v5, i5, u5, e5, h6, _⟩ := d_among code hc i4 u4 [-1, 0, wrap64 (r + 1), 7] (N + 4 + 4 + 600 + 2) (by simp) h5 (by omega)
    rw [e5, Option.bind_some]
    exact ⟨_, _, _, _, _, rfl, by omega, by omega, by unfold PL at h6 ⊢; simp only; omega⟩
  · split
    · obtain ⟨v5, i5, u5, e5, h6, _⟩ := d_among code hc i4 u4 [-1, 0, 7, 4611686018427387904] (N + 4 + 4 + 600 + 2) (by simp) h5 (by omega)
      rw [e5, Option.bind_some]
      exact ⟨_, _, _, _, _, rfl, by omega, by omega, by unfold PL at h6 ⊢; simp only; omega⟩
    · split
      · obtain ⟨v5, i5, u5, e5, h6, h7, h8⟩ := d_pick code hc i4 u4 (l.length : Int) (N + 4 + 4 + 600 + 2) h5 (by omega)
        rw [e5, Option.bind_some]
        simp only
        obtain ⟨v6, i6, u6, e6, h9, _⟩ := d_among code hc i5 u5 [-1, 64, 4611686018427387904] (N + 4 + 4 + 600 + 2 + 2) (by simp) h6 (by omega)
        rw [e6, Option.bind_some, if_pos h7, if_pos (h8 (by omega))]
        exact ⟨_, _, _, _, _, rfl, by simp; omega, by simp; omega, by unfold PL at h9 ⊢; simp only; omega⟩
      · split
        · rw [if_pos (by omega)]
          exact ⟨_, _, _, _, _, rfl, by simp, by simp; omega, by unfold PL at h5 ⊢; omega⟩
        · exact ⟨_, _, _, _, _, rfl, by omega, by omega, by unfold PL at h5 ⊢; omega⟩

theorem e_l1In (a b c : Int) : spec_l1In.f a b c = some (decide (b ≤ a ∧ a ≤ c)) := by
  unfold spec_l1In.f
  by_cases h : b ≤ a
  · rw [if_pos h]; simp [h]
  · rw [if_neg h]; simp [h]

theorem e_l1All_l0 (lo hi : Int) (l : List Int) (hl : l.length ≤ 2000000) : ∀ (d i k : Nat), i + d = l.length → d < k →
    spec_l1All.l0 k lo hi l (l.length : Int) (i : Int) = some (decide (∀ x ∈ l.drop i, lo ≤ x ∧ x ≤ hi)) := by
  intro d
  induction d with
  | zero =>
    intro i k hi' hk
    obtain ⟨k, rfl⟩ : ∃ m, k = m + 1 := ⟨k - 1, by omega⟩
    simp only [spec_l1All.l0]; rw [if_neg (by omega), List.drop_eq_nil_of_le (by omega)]; simp
  | succ d ih =>
    intro i k hi' hk
    obtain ⟨k, rfl⟩ : ∃ m, k = m + 1 := ⟨k - 1, by omega⟩
    have hlt : i < l.length := by omega
    simp only [spec_l1All.l0]
    rw [if_pos (by omega), if_pos (by omega), if_pos (by omega), e_l1In, rd_nat l i hlt, List.drop_eq_getElem_cons hlt, w64 (by omega) (by omega)]
    simp only [Option.bind_some, decide_eq_true_eq, List.forall_mem_cons]
    by_cases h : lo ≤ l[i] ∧ l[i] ≤ hi
    · rw [if_pos h]
      have := ih (i + 1) k (by omega) (by omega)
      rw [show ((i : Int) + 1) = ((i + 1 : Nat) : Int) from by omega, this]; simp [h]
    · rw [if_neg h]; simp [h]
theorem e_l1All (k : Nat) (l : List Int) (lo hi : Int) (hl : l.length ≤ 2000000) (hk : l.length < k) : spec_l1All.f k l lo hi = some (decide (∀ x ∈ l, lo ≤ x ∧ x ≤ hi)) := by
  unfold spec_l1All.f; exact e_l1All_l0 lo hi l hl l.length 0 k (by omega) hk

theorem e_boSide (a : Int) : spec_boSide.f a = some (decide (1 ≤ a ∧ a ≤ 6)) := by
  unfold spec_boSide.f; rw [e_l1In]; rfl

/-- Is there a cell in the column c of a row m? -/
def cell (m c : Int) : Bool := decide (m / 2 ^ c.toNat % 2 = 1)
theorem fin_of (m : Int) (n : Nat) (h0 : 0 ≤ m) (h1 : m < n) : ∃ i : Fin n, m = (i.val : Int) := ⟨⟨m.toNat, by omega⟩, by simp; omega⟩
theorem cell_spec (m c : Int) (hm : 0 ≤ m ∧ m ≤ 63) (hc : 0 ≤ c ∧ c ≤ 6) : (Int.tmod (shr .i64 m c) 2 == 1) = cell m c := by
  have h : ∀ m : Fin 64, ∀ c : Fin 7, (Int.tmod (shr .i64 (m.val : Int) (c.val : Int)) 2 == 1) = cell (m.val : Int) (c.val : Int) := by decide +kernel
  obtain ⟨i, rfl⟩ := fin_of m 64 hm.1 (by omega)
  obtain ⟨j, rfl⟩ := fin_of c 7 hc.1 (by omega)
  exact h i j
theorem cell_impl (m c : Int) (hm : 0 ≤ m ∧ m ≤ 63) (hc : 0 ≤ c ∧ c ≤ 6) : (Go.bits .and .i64 (shr .i64 m c) 1 == 1) = cell m c := by
  have h : ∀ m : Fin 64, ∀ c : Fin 7, (Go.bits .and .i64 (shr .i64 (m.val : Int) (c.val : Int)) 1 == 1) = cell (m.val : Int) (c.val : Int) := by decide +kernel
  obtain ⟨i, rfl⟩ := fin_of m 64 hm.1 (by omega)
  obtain ⟨j, rfl⟩ := fin_of c 7 hc.1 (by omega)
  exact h i j
theorem pow_le (a : Int) (h : 1 ≤ a ∧ a ≤ 6) : 2 ≤ (2 : Int) ^ a.toNat ∧ (2 : Int) ^ a.toNat ≤ 64 := by
  obtain ⟨h0, h1⟩ := h
  obtain h | h | h | h | h | h : a = 1 ∨ a = 2 ∨ a = 3 ∨ a = 4 ∨ a = 5 ∨ a = 6 := by omega
  all_goals (subst h; decide +kernel)
theorem rd_mem (l : List Int) (i : Int) (h0 : 0 ≤ i) (h1 : i < l.length) : rd l i ∈ l := by
  obtain ⟨n, rfl⟩ := Int.eq_ofNat_of_zero_le h0
  rw [rd_nat l n (by omega)]; exact List.getElem_mem _

theorem i_IsBoard (r c : Int) (l : List Int) : impl_IsBoard.f r c l = some (decide (GoodB r c l)) := rfl

theorem goodB_le {r c : Int} {l : List Int} (h : GoodB r c l) : ∀ x ∈ l, 0 ≤ x ∧ x ≤ 63 := by
  intro x hx
  have := h.2.2.2 x hx
  have := pow_le c h.2.1
  omega
theorem goodB_len {r c : Int} {l : List Int} (h : GoodB r c l) : l.length ≤ 6 := by
  have := h.1; have := h.2.2.1; omega
/-- Is it a place of a board? -/
def Place (r c i j : Int) : Prop := (0 ≤ i ∧ i ≤ r - 1) ∧ (0 ≤ j ∧ j ≤ c - 1)
instance (r c i j : Int) : Decidable (Place r c i j) := by unfold Place; exact inferInstance

theorem sh1 (a : Int) (h : 1 ≤ a ∧ a ≤ 6) : wrap64 (shl .i64 1 a - 1) = 2 ^ a.toNat - 1 := by
  obtain ⟨h0, h1⟩ := h
  obtain h | h | h | h | h | h : a = 1 ∨ a = 2 ∨ a = 3 ∨ a = 4 ∨ a = 5 ∨ a = 6 := by omega
  all_goals (subst h; decide +kernel)
theorem e_boGood (k : Nat) (r c : Int) (l : List Int) (hl : l.length ≤ 2000000) (hk : l.length < k) : spec_boGood.f k r c l = some (decide (GoodB r c l)) := by
  unfold spec_boGood.f
  rw [e_boSide, e_boSide]
  simp only [Option.bind_some, decide_eq_true_eq]
  by_cases h0 : 1 ≤ r ∧ r ≤ 6
  · by_cases h1 : 1 ≤ c ∧ c ≤ 6
    · by_cases h2 : (l.length : Int) = r
      · rw [if_pos h0, if_pos h1, if_pos h2, if_pos (by omega), sh1 c h1, e_l1All k l _ _ hl hk]
        simp [GoodB, h0, h1, h2]
      · rw [if_pos h0, if_pos h1, if_neg h2]; simp [GoodB, h2]
    · rw [if_pos h0, if_neg h1]; simp [GoodB, h1]
  · rw [if_neg h0]; simp [GoodB, h0]

theorem e_boHas (r c : Int) (l : List Int) (i j : Int) (h : GoodB r c l) (hp : Place r c i j) : spec_boHas.f r c l i j = some (cell (rd l i) j) := by
  unfold spec_boHas.f
  have h1 := h.1; have h2 := h.2.1; have h3 := h.2.2.1; have h4 := hp.1; have h5 := hp.2
  have hm := goodB_le h (rd l i) (rd_mem l i (by omega) (by omega))
  rw [if_pos (by omega), if_pos (by omega), if_pos (by omega), cell_spec _ _ hm (by omega)]

theorem l1Has_l0 (a : Int) (l : List Int) (hl : l.length ≤ 2000000) : ∀ (d i k : Nat), i + d = l.length → d < k →
    spec_l1Has.l0 k a l (l.length : Int) (i : Int) = some ((l.drop i).contains a) := by
  intro d
  induction d with
  | zero =>
    intro i k hi hk
    obtain ⟨k, rfl⟩ : ∃ m, k = m + 1 := ⟨k - 1, by omega⟩
    simp only [spec_l1Has.l0]; rw [if_neg (by omega), List.drop_eq_nil_of_le (by omega)]; rfl
  | succ d ih =>
    intro i k hi hk
    obtain ⟨k, rfl⟩ : ∃ m, k = m + 1 := ⟨k - 1, by omega⟩
    have hlt : i < l.length := by omega
    simp only [spec_l1Has.l0]
    rw [if_pos (by omega), if_pos (by omega), if_pos (by omega), rd_nat l i hlt, w64 (by omega) (by omega), show ((i : Int) + 1) = ((i + 1 : Nat) : Int) from by omega, List.drop_eq_getElem_cons hlt, List.contains_cons]
    by_cases h : l[i] = a
    · rw [if_pos h]; simp [h]
    · rw [if_neg h, ih (i + 1) k (by omega) (by omega)]
      have : (a == l[i]) = false := beq_eq_false_iff_ne.2 (fun e => h e.symm)
      rw [this, Bool.false_or]
theorem e_l1Has (k : Nat) (l : List Int) (a : Int) (hl : l.length ≤ 2000000) (hk : l.length < k) : spec_l1Has.f k l a = some (l.contains a) := by
  unfold spec_l1Has.f
  have := l1Has_l0 a l hl l.length 0 k (by omega) hk
  simpa using this

theorem d_placed_l0 (code : List Int) (hc : CodeOK code) (r c : Int) (l : List Int) (g : GoodB r c l) : ∀ (d j k : Nat) (i u : Int) (p : List Int) (N : Int), (j : Int) + d = r → p.length = j → d + 100 < k → PL N i → N + 2 * d ≤ 1000000 → ∃ p' i' u', spec_l1Cur_placed.l0 k p (j : Int) code i u r c l = some (r, c, l, p', i', u') ∧ p'.length ≤ 7 ∧ PL (N + 2 * d + 6) i'
  | 0, j, k, i, u, p, N, hj, hp, hk, hi, hN => by
    have g1 := g.1
    obtain ⟨k, rfl⟩ : ∃ m, k = m + 1 := ⟨k - 1, by omega⟩
    rw [spec_l1Cur_placed.l0, if_neg (by omega)]
    obtain ⟨v, i1, u1, e1, h1, _⟩ := d_pick code hc i u 12 N hi (by omega)
    rw [e1, Option.bind_some]
    simp only
    split
    · obtain ⟨v2, i2, u2, e2, h2, h3, h4⟩ := d_pick code hc i1 u1 (p.length : Int) (N + 2) h1 (by omega)
      have h4 := h4 (by omega)
      rw [e2, Option.bind_some]
      simp only
      obtain ⟨v3, i3, u3, e3, h5, _⟩ := d_pick code hc i2 u2 9 (N + 2 + 2) h2 (by omega)
      rw [e3, Option.bind_some, if_pos h3, if_pos h4]
      exact ⟨_, _, _, rfl, by rw [List.length_set]; omega, by unfold PL at h5 ⊢; simp only; omega⟩
    · split
      · rw [if_pos (by omega)]
        exact ⟨_, _, _, rfl, by simp; omega, by unfold PL at h1 ⊢; omega⟩
      · exact ⟨_, _, _, rfl, by omega, by unfold PL at h1 ⊢; omega⟩
  | d + 1, j, k, i, u, p, N, hj, hp, hk, hi, hN => by
    have g1 := g.1; have g2 := g.2.1
    obtain ⟨k, rfl⟩ : ∃ m, k = m + 1 := ⟨k - 1, by omega⟩
    rw [spec_l1Cur_placed.l0, if_pos (by omega), w64 (x := c + 1) (by omega) (by omega)]
    obtain ⟨v, i1, u1, e1, h1, v0, v1⟩ := d_pick code hc i u (c + 1) N hi (by omega)
    have v1 := v1 (by omega)
    have hnext : ∀ y : Int, ∃ p' i' u', spec_l1Cur_placed.l0 k (p ++ [y]) ((j + 1 : Nat) : Int) code i1 u1 r c l = some (r, c, l, p', i', u') ∧ p'.length ≤ 7 ∧ PL (N + 2 * ((d + 1 : Nat) : Int) + 6) i' := fun y => by
      obtain ⟨p', i', u', h2, h3, h4⟩ := d_placed_l0 code hc r c l g d (j + 1) k i1 u1 (p ++ [y]) (N + 2) (by omega) (by simp; omega) (by omega) h1 (by omega)
      exact ⟨p', i', u', h2, h3, by unfold PL at h4 ⊢; omega⟩
    rw [e1, Option.bind_some]
    simp only
    rw [w64 (x := v - 1) (by omega) (by omega), w64 (x := (j : Int) + 1) (by omega) (by omega), show ((j : Int) + 1) = ((j + 1 : Nat) : Int) from by omega, if_pos (show p.length < 17592186044416 by omega), if_pos (show p.length < 17592186044416 by omega)]
    by_cases hx : v - 1 ≥ 0
    · rw [if_pos hx, e_boHas r c l _ _ g ⟨by omega, by omega⟩, Option.bind_some]
      by_cases hb : cell (rd l (j : Int)) (v - 1) = true
      · rw [if_pos hb, e_l1Has k p (v - 1) (by omega) (by omega), Option.bind_some]
        by_cases h3 : p.contains (v - 1) = true
        · rw [if_pos h3]; exact hnext _
        · rw [if_neg h3]; exact hnext _
      · rw [if_neg hb]; exact hnext _
    · rw [if_neg hx]; exact hnext _
theorem d_placed (k : Nat) (code : List Int) (hc : CodeOK code) (hk : 2000 ≤ k) : ∃ r c l p i' u', spec_l1Cur_placed.f k code 0 0 = some (r, c, l, p, i', u') ∧ l.length ≤ 7 ∧ p.length ≤ 7 := by
  unfold spec_l1Cur_placed.f
  obtain ⟨r, c, l, i1, u1, e1, h1, h2, h3⟩ := d_board k code hc 0 0 0 (by unfold PL; omega) (by omega) (by omega)
  rw [e1, Option.bind_some]
  simp only
  rw [e_boGood k r c l (by omega) (by omega), Option.bind_some]
  by_cases g : GoodB r c l
  · have g1 := g.1
    rw [if_pos (decide_eq_true g)]
    obtain ⟨p', i', u', h4, h5, h6⟩ := d_placed_l0 code hc r c l g r.toNat 0 k i1 u1 [] _ (by omega) rfl (by omega) h3 (by omega)
    exact ⟨_, _, _, _, _, _, h4, h2, h5⟩
  · rw [if_neg (by simpa using g)]
    exact ⟨_, _, _, _, _, _, rfl, h2, by simp⟩

theorem d_rooks (code : List Int) (hc : CodeOK code) (i u : Int) (N : Int) (hi : PL N i) (hN : N ≤ 1000000) : ∃ v i' u', spec_l1Cur_rooks.f code i u = some (v, i', u') ∧ PL (N + 4) i' := by
  unfold spec_l1Cur_rooks.f
  obtain ⟨b, i1, u1, e1, h1⟩ := d_one code hc i u 12 N hi (by omega)
  rw [e1, Option.bind_some]
  simp only
  split
  · obtain ⟨v, i2, u2, e2, h2, _⟩ := d_among code hc i1 u1 [-1, 6, 7] (N + 2) (by simp) h1 (by omega)
    rw [e2, Option.bind_some]
    exact ⟨_, _, _, rfl, by unfold PL at h2 ⊢; simp only; omega⟩
  · obtain ⟨v, i2, u2, e2, h2, _⟩ := d_pick code hc i1 u1 5 (N + 2) h1 (by omega)
    rw [e2, Option.bind_some]
    exact ⟨_, _, _, rfl, by unfold PL at h2 ⊢; simp only; omega⟩

theorem rd_set (l : List Int) (i : Nat) (v : Int) (j : Nat) (h : i < l.length) : rd (l.set i v) (j : Int) = if i = j then v else rd l (j : Int) := by
  unfold rd
  simp only [List.getD, Int.toNat_natCast, List.getElem?_set]
  by_cases hij : i = j
  · subst hij; simp [h]
  · simp [hij]
theorem rd_ext (a b : List Int) (hl : a.length = b.length) (h : ∀ j : Nat, j < a.length → rd a (j : Int) = rd b (j : Int)) : a = b := by
  refine List.ext_getElem hl ?_
  intro i h1 h2
  have := h i h1
  rwa [rd_nat a i h1, rd_nat b i h2] at this

/-- The columns taken, with one more. -/
def orZ (taken : Int) (j : Nat) : Int := Go.bits .or .i64 taken (shl .i64 1 (j : Int))
/-- Numbers of rooks of all placements, in order: rows that are left, columns taken. -/
def Z (C : Nat) : List Int → Int → List Nat
  | [], _ => [0]
  | m :: t, taken => (List.range (C + 1)).flatMap fun i => if i = 0 then Z C t taken else if cell m ((i - 1 : Nat) : Int) && !cell taken ((i - 1 : Nat) : Int) then (Z C t (orZ taken (i - 1))).map (· + 1) else []
/-- How often each number below M stands. -/
def HZ (M : Nat) (z : List Nat) : List Int := (List.range M).map fun k => ((z.count k : Nat) : Int)
theorem HZ_len (M : Nat) (z : List Nat) : (HZ M z).length = M := by simp [HZ]
theorem HZ_rd (M : Nat) (z : List Nat) (i : Nat) (h : i < M) : rd (HZ M z) (i : Int) = ((z.count i : Nat) : Int) := by
  rw [rd_nat _ i (by rw [HZ_len]; exact h)]; simp [HZ]
/-- How many columns are free. -/
def frZ (C : Nat) (taken : Int) : Nat := ((List.range C).filter fun j : Nat => !cell taken (j : Int)).length
theorem orZ_ok (C : Nat) (taken : Int) (j : Nat) (hC : C ≤ 6) (h : 0 ≤ taken ∧ taken ≤ 63) (hj : j < C) (hf : cell taken (j : Int) = false) : (0 ≤ orZ taken j ∧ orZ taken j ≤ 63) ∧ frZ C (orZ taken j) + 1 ≤ frZ C taken := by
  have key : ∀ C : Fin 7, ∀ j : Fin 6, ∀ t : Fin 64, j.val < C.val → cell (t.val : Int) (j.val : Int) = false → (0 ≤ orZ (t.val : Int) j.val ∧ orZ (t.val : Int) j.val ≤ 63) ∧ frZ C.val (orZ (t.val : Int) j.val) + 1 ≤ frZ C.val (t.val : Int) := by decide +kernel
  obtain ⟨t, rfl⟩ := fin_of taken 64 h.1 (by omega)
  exact key ⟨C, by omega⟩ ⟨j, by omega⟩ t hj hf
theorem frZ_le (C : Nat) (taken : Int) : frZ C taken ≤ C := by
  unfold frZ
  exact Nat.le_trans (List.length_filter_le _ _) (by simp)
theorem Z_le (C : Nat) (hC : C ≤ 6) : ∀ (t : List Int) (taken : Int), 0 ≤ taken ∧ taken ≤ 63 → ∀ z ∈ Z C t taken, z ≤ t.length ∧ z ≤ frZ C taken
  | [], _, _, z, hz => by simp [Z] at hz; omega
  | m :: t, taken, h, z, hz => by
    simp only [Z, List.mem_flatMap, List.mem_range] at hz
    obtain ⟨i, hi, hz⟩ := hz
    by_cases h0 : i = 0
    · rw [if_pos h0] at hz
      have := Z_le C hC t taken h z hz
      exact ⟨by simp; omega, this.2⟩
    · rw [if_neg h0] at hz
      split at hz
      case isFalse => simp at hz
      case isTrue hc =>
        simp only [Bool.and_eq_true, Bool.not_eq_true'] at hc
        obtain ⟨y, hy, rfl⟩ := List.mem_map.1 hz
        have ho := orZ_ok C taken (i - 1) hC h (by omega) hc.2
        have := Z_le C hC t _ ho.1 y hy
        exact ⟨by simp; omega, by omega⟩
theorem flat_len {α β : Type} (f : α → List β) (b : Nat) : ∀ l : List α, (∀ x ∈ l, (f x).length ≤ b) → (l.flatMap f).length ≤ l.length * b
  | [], _ => by simp
  | x :: t, h => by
    have h1 := h x (by simp)
    have h2 := flat_len f b t (fun y hy => h y (by simp [hy]))
    simp only [List.flatMap_cons, List.length_append, List.length_cons, Nat.succ_mul]
    omega
theorem Z_length (C : Nat) (hC : C ≤ 6) : ∀ (t : List Int) (taken : Int), (Z C t taken).length ≤ 7 ^ t.length
  | [], _ => by simp [Z]
  | m :: t, taken => by
    simp only [Z, List.length_cons]
    refine Nat.le_trans (flat_len _ (7 ^ t.length) _ ?_) ?_
    · intro i _
      by_cases h0 : i = 0
      · rw [if_pos h0]; exact Z_length C hC t taken
      · rw [if_neg h0]
        split
        · rw [List.length_map]; exact Z_length C hC t _
        · simp
    · rw [List.length_range, Nat.pow_succ, Nat.mul_comm]
      exact Nat.mul_le_mul_left _ (by omega)
theorem Z_small (C : Nat) (hC : C ≤ 6) (t : List Int) (taken : Int) (ht : t.length ≤ 6) (k : Nat) : (Z C t taken).count k ≤ 117649 := by
  refine Nat.le_trans List.count_le_length (Nat.le_trans (Z_length C hC t taken) ?_)
  exact Nat.le_trans (Nat.pow_le_pow_right (by omega) ht) (by decide)

theorem count_succ (B : List Nat) (j : Nat) : (B.map (· + 1)).count j = if j = 0 then 0 else B.count (j - 1) := by
  induction B with
  | nil => simp
  | cons x B ih =>
    rw [List.map_cons, List.count_cons, ih, List.count_cons]
    by_cases h : j = 0
    · subst h; simp
    · simp only [h, if_false]
      congr 1
      by_cases h2 : x = j - 1
      · have : x + 1 = j := by omega
        simp [h2, this]; omega
      · have : ¬ x + 1 = j := by omega
        simp [h2, this]
theorem w_l0 (M : Nat) (hM : M ≤ 7) (H : List Int) (hH : H.length = M) (hs : ∀ j, j < M → 0 ≤ rd H (j : Int) ∧ rd H (j : Int) ≤ 117649) (x1 x2 r c : Int) (l : List Int) : ∀ (d i k : Nat) (y : List Int), i + d = M → y.length = M → (∀ j, j < M → rd y (j : Int) = if j < i then rd H (j : Int) else 0) → spec_roWays.l0 (k + (d + 1)) x1 x2 y H (M : Int) (i : Int) r c l = spec_roWays.l1 k x1 x2 H 0 r c l
  | 0, i, k, y, hi, hy, hv => by
    rw [show k + (0 + 1) = k + 1 from rfl, spec_roWays.l0, if_neg (by omega)]
    rw [rd_ext y H (by omega) (fun j hj => by rw [hv j (by omega), if_pos (by omega)])]
  | d + 1, i, k, y, hi, hy, hv => by
    have h0 := hs i (by omega)
    rw [show k + (d + 1 + 1) = (k + (d + 1)) + 1 from rfl, spec_roWays.l0, if_pos (by omega), if_pos (by omega), if_pos (by omega), if_pos (by omega), hv i (by omega), if_neg (by omega), w64 (x := 0 + rd H (i : Int)) (by omega) (by omega), w64 (by omega) (by omega), Int.toNat_natCast, show ((i : Int) + 1) = ((i + 1 : Nat) : Int) from by omega]
    refine w_l0 M hM H hH hs x1 x2 r c l d (i + 1) k _ (by omega) (by simp [hy]) ?_
    intro j hj
    rw [rd_set y i _ j (by omega)]
    by_cases h1 : i = j
    · subst h1; rw [if_pos rfl, if_pos (by omega)]; omega
    · rw [if_neg h1, hv j hj]
      by_cases h2 : j < i
      · rw [if_pos h2, if_pos (by omega)]
      · rw [if_neg h2, if_neg (by omega)]
theorem w_l2 (M : Nat) (hM : M ≤ 7) (A B : List Nat) (hA : ∀ j, A.count j ≤ 1000000) (hB : ∀ j, B.count j ≤ 117649) (hb : ∀ z ∈ B, z + 1 < M) (x1 x2 x10 r c : Int) (l : List Int) : ∀ (d i k : Nat) (y : List Int), i + d = M → y.length = M → (∀ j, j < M → rd y (j : Int) = ((A.count j : Nat) : Int) + (if 1 ≤ j ∧ j ≤ i then ((B.count (j - 1) : Nat) : Int) else 0)) → spec_roWays.l2 (k + (d + 1)) x1 x2 y x10 (HZ M B) (M : Int) (i : Int) r c l = spec_roWays.l1 k x1 x2 (HZ M (A ++ B.map (· + 1))) (wrap64 (x10 + 1)) r c l
  | 0, i, k, y, hi, hy, hv => by
    rw [show k + (0 + 1) = k + 1 from rfl, spec_roWays.l2, if_neg (by omega)]
    rw [rd_ext y (HZ M (A ++ B.map (· + 1))) (by rw [HZ_len]; omega) (fun j hj => by
      rw [hv j (by omega), HZ_rd _ _ j (by omega), List.count_append, count_succ]
      by_cases h0 : j = 0
      · rw [if_neg (by omega), if_pos h0]; omega
      · rw [if_pos (by omega), if_neg h0]; omega)]
  | d + 1, i, k, y, hi, hy, hv => by
    rw [show k + (d + 1 + 1) = (k + (d + 1)) + 1 from rfl, spec_roWays.l2, if_pos (by omega), if_pos (by omega), if_pos (by rw [HZ_len]; omega), HZ_rd _ _ i (by omega)]
    have hBi := hB i
    by_cases hp : ((B.count i : Nat) : Int) > 0
    · have hi1 : i + 1 < M := hb i (List.count_pos_iff.1 (by omega))
      have hAi := hA (i + 1)
      rw [if_pos hp, w64 (x := (i : Int) + 1) (by omega) (by omega), if_pos (by omega), if_pos (by omega), show ((i : Int) + 1) = ((i + 1 : Nat) : Int) from by omega, hv (i + 1) hi1, if_neg (by omega), w64 (by omega) (by omega), Int.toNat_natCast]
      refine w_l2 M hM A B hA hB hb x1 x2 x10 r c l d (i + 1) k _ (by omega) (by simp [hy]) ?_
      intro j hj
      rw [rd_set y (i + 1) _ j (by omega)]
      by_cases h1 : i + 1 = j
      · subst h1; rw [if_pos rfl, if_pos (by omega), Nat.add_sub_cancel]; omega
      · rw [if_neg h1, hv j hj]
        by_cases h2 : 1 ≤ j ∧ j ≤ i
        · rw [if_pos h2, if_pos (by omega)]
        · rw [if_neg h2, if_neg (by omega)]
    · rw [if_neg hp, w64 (by omega) (by omega), show ((i : Int) + 1) = ((i + 1 : Nat) : Int) from by omega]
      refine w_l2 M hM A B hA hB hb x1 x2 x10 r c l d (i + 1) k _ (by omega) hy ?_
      intro j hj
      rw [hv j hj]
      by_cases h2 : 1 ≤ j ∧ j ≤ i
      · rw [if_pos h2, if_pos (by omega)]
      · by_cases h3 : j = i + 1
        · subst h3; rw [if_neg h2, if_pos (by omega), Nat.add_sub_cancel]; omega
        · rw [if_neg h2, if_neg (by omega)]
/-- What the placements are whose row m holds no rook, or one in a column below j. -/
def candZ (C : Nat) (m : Int) (t : List Int) (taken : Int) (i : Nat) : List Nat := if i = 0 then Z C t taken else if cell m ((i - 1 : Nat) : Int) && !cell taken ((i - 1 : Nat) : Int) then (Z C t (orZ taken (i - 1))).map (· + 1) else []
theorem candZ_len (C : Nat) (hC : C ≤ 6) (m : Int) (t : List Int) (taken : Int) (ht : t.length ≤ 5) (i : Nat) : (candZ C m t taken i).length ≤ 16807 := by
  have hp : 7 ^ t.length ≤ 16807 := Nat.le_trans (Nat.pow_le_pow_right (by omega) ht) (by decide)
  unfold candZ
  by_cases h0 : i = 0
  · rw [if_pos h0]; exact Nat.le_trans (Z_length C hC t taken) hp
  · rw [if_neg h0]
    split
    · rw [List.length_map]; exact Nat.le_trans (Z_length C hC t _) hp
    · simp
/-- A board's bounds, where there may be no rows or columns. -/
def WB (r c : Int) (l : List Int) : Prop := (0 ≤ r ∧ r ≤ 6) ∧ (0 ≤ c ∧ c ≤ 6) ∧ (l.length : Int) = r ∧ ∀ x ∈ l, 0 ≤ x ∧ x ≤ 63
theorem wb_of {r c : Int} {l : List Int} (h : GoodB r c l) : WB r c l := ⟨⟨by have := h.1; omega, h.1.2⟩, ⟨by have := h.2.1; omega, h.2.1.2⟩, h.2.2.1, goodB_le h⟩
theorem e_boHasW (r c : Int) (l : List Int) (i j : Int) (h : WB r c l) (hp : (0 ≤ i ∧ i < r) ∧ (0 ≤ j ∧ j ≤ 6)) : spec_boHas.f r c l i j = some (cell (rd l i) j) := by
  unfold spec_boHas.f
  have h3 := h.2.2.1
  have hm := h.2.2.2 (rd l i) (rd_mem l i (by omega) (by omega))
  rw [if_pos (by omega), if_pos (by omega), if_pos (by omega), cell_spec _ _ hm (by omega)]
theorem e_roWaysW (r c : Int) (l : List Int) (h : WB r c l) (C M : Nat) (hC : (C : Int) = c) (hM : (M : Int) = min r c + 1) : ∀ (t : List Int) (row : Nat) (taken : Int) (k : Nat), l.drop row = t → row ≤ l.length → 0 ≤ taken ∧ taken ≤ 63 → 100 * t.length + 100 ≤ k → spec_roWays.f k r c l (row : Int) taken = some (HZ M (Z C t taken)) := by
  have h1 := h.1; have h2 := h.2.1; have h3 := h.2.2.1
  have hl : l.length ≤ 6 := by omega
  intro t
  induction t with
  | nil =>
    intro row taken k ht hrow htk hk
    have hrl : row = l.length := by
      have := congrArg List.length ht
      simp at this; omega
    obtain ⟨k, rfl⟩ : ∃ n, k = n + 1 := ⟨k - 1, by omega⟩
    rw [spec_roWays.f]
    unfold spec_l1Least.f
    have e1 : (if r < c then some r else some c) = some (min r c) := by split <;> (congr 1; omega)
    rw [e1]
    simp only [Option.bind_some]
    rw [w64 (by omega) (by omega), ← hM, if_pos (by omega), if_pos (by omega)]
    rw [if_pos (by omega), if_pos (by simp; omega), Int.toNat_natCast]
    congr 1
    refine rd_ext _ _ (by simp [HZ_len]) ?_
    intro j hj
    simp at hj
    rw [show (0 : Int).toNat = 0 from rfl, rd_set _ 0 _ j (by simpa using (by omega : 0 < M)), HZ_rd _ _ j hj]
    by_cases h0 : 0 = j
    · subst h0; simp [Z]
    · rw [if_neg h0, rd_nat _ j (by simpa using hj)]
      have h9 : List.count j [0] = 0 := List.count_eq_zero.2 (by simp; omega)
      simp [Z, h9]
  | cons m t ih =>
    intro row taken k ht hrow htk hk
    have hlt : row < l.length := by
      have := congrArg List.length ht
      simp at this; omega
    have hd := List.drop_eq_getElem_cons hlt
    rw [ht] at hd
    injection hd with hm ht'
    simp only [List.length_cons] at hk
    have htl : t.length = l.length - (row + 1) := by rw [ht']; simp
    obtain ⟨k, rfl⟩ : ∃ n, k = n + 1 := ⟨k - 1, by omega⟩
    rw [spec_roWays.f]
    unfold spec_l1Least.f
    have e1 : (if r < c then some r else some c) = some (min r c) := by split <;> (congr 1; omega)
    rw [e1]
    simp only [Option.bind_some]
    rw [w64 (by omega) (by omega), ← hM, if_pos (by omega), if_pos (by omega)]
    rw [if_neg (by omega), w64 (x := (row : Int) + 1) (by omega) (by omega), show ((row : Int) + 1) = ((row + 1 : Nat) : Int) from by omega, Int.toNat_natCast]
    rw [ih (row + 1) taken k ht'.symm (by omega) htk (by omega)]
    simp only [Option.bind_some]
    obtain ⟨k, rfl⟩ : ∃ n, k = n + (M + 1) := ⟨k - (M + 1), by omega⟩
    have hzs : ∀ (tk : Int) (j : Nat), (Z C t tk).count j ≤ 117649 := fun tk j => Z_small C (by omega) t tk (by omega) j
    have hw0 := w_l0 M (by omega) (HZ M (Z C t taken)) (HZ_len _ _) (fun j hj => by rw [HZ_rd _ _ j hj]; have := hzs taken j; omega) (row : Int) taken r c l M 0 k (List.replicate M 0) (by omega) (by simp) (fun j hj => by rw [rd_nat _ j (by simpa using hj)]; simp)
    rw [show ((0 : Nat) : Int) = 0 from rfl] at hw0
    rw [HZ_len, hw0]
    have hcz : Z C (m :: t) taken = (List.range (C + 1)).flatMap (candZ C m t taken) := rfl
    have hm63 := h.2.2.2 m (by rw [hm]; exact List.getElem_mem _)
    have loop : ∀ (d j k : Nat), j + d = C → 100 * t.length + 100 + d * 12 + 1 ≤ k → spec_roWays.l1 k (row : Int) taken (HZ M ((List.range (j + 1)).flatMap (candZ C m t taken))) (j : Int) r c l = some (HZ M (Z C (m :: t) taken)) := by
      intro d
      induction d with
      | zero =>
        intro j k hj hk
        obtain ⟨k, rfl⟩ : ∃ n, k = n + 1 := ⟨k - 1, by omega⟩
        rw [spec_roWays.l1, if_neg (by omega), hcz, show j = C from by omega]
      | succ d ihd =>
        intro j k hj hk
        obtain ⟨k, rfl⟩ : ∃ n, k = n + 1 + 1 := ⟨k - 2, by omega⟩
        have hjC : j < C := by omega
        rw [spec_roWays.l1, if_pos (by omega), e_boHasW r c l (row : Int) (j : Int) h ⟨by omega, by omega⟩, rd_nat l row hlt, ← hm]
        simp only [Option.bind_some]
        have hcd : candZ C m t taken (j + 1) = if cell m (j : Int) && !cell taken (j : Int) then (Z C t (orZ taken j)).map (· + 1) else [] := by unfold candZ; rw [if_neg (by omega)]; simp
        have hrg : (List.range (j + 1 + 1)).flatMap (candZ C m t taken) = (List.range (j + 1)).flatMap (candZ C m t taken) ++ candZ C m t taken (j + 1) := by rw [List.range_succ (n := j + 1), List.flatMap_append]; simp
        have skip : (cell m (j : Int) && !cell taken (j : Int)) = false → spec_roWays.l1 k (row : Int) taken (HZ M ((List.range (j + 1)).flatMap (candZ C m t taken))) (wrap64 ((j : Int) + 1)) r c l = some (HZ M (Z C (m :: t) taken)) := by
          intro hf
          have := ihd (j + 1) k (by omega) (by omega)
          rw [hrg, hcd, hf] at this
          simp only [Bool.false_eq_true, if_false, List.append_nil] at this
          rw [w64 (by omega) (by omega), show ((j : Int) + 1) = ((j + 1 : Nat) : Int) from by omega]
          exact this
        by_cases hc1 : cell m (j : Int) = true
        · rw [if_pos hc1, if_pos (by omega), cell_spec taken (j : Int) (by omega) (by omega), spec_roWays.j2]
          by_cases hc2 : cell taken (j : Int) = true
          · rw [if_pos hc2]
            exact skip (by rw [hc1, hc2]; rfl)
          · have hc2' := Bool.eq_false_iff.2 hc2
            have ho := orZ_ok C taken j (by omega) htk hjC hc2'
            have hfl := frZ_le C taken
            rw [if_neg hc2, if_pos (by omega), w64 (x := (row : Int) + 1) (by omega) (by omega), show ((row : Int) + 1) = ((row + 1 : Nat) : Int) from by omega, show Go.bits .or .i64 taken (shl .i64 1 (j : Int)) = orZ taken j from rfl]
            rw [ih (row + 1) (orZ taken j) k ht'.symm (by omega) ho.1 (by omega)]
            simp only [Option.bind_some]
            obtain ⟨k, rfl⟩ : ∃ n, k = n + (M + 1) := ⟨k - (M + 1), by omega⟩
            have hAs : ∀ i, ((List.range (j + 1)).flatMap (candZ C m t taken)).count i ≤ 1000000 := fun i => by
              have h7 := flat_len (candZ C m t taken) 16807 (List.range (j + 1)) (fun x _ => candZ_len C (by omega) m t taken (by omega) x)
              rw [List.length_range] at h7
              have := List.count_le_length (a := i) (l := (List.range (j + 1)).flatMap (candZ C m t taken))
              omega
            have hw2 := w_l2 M (by omega) ((List.range (j + 1)).flatMap (candZ C m t taken)) (Z C t (orZ taken j)) hAs (hzs _) (fun z hz => by
              have := Z_le C (by omega) t (orZ taken j) ho.1 z hz
              omega) (row : Int) taken (j : Int) r c l M 0 k (HZ M ((List.range (j + 1)).flatMap (candZ C m t taken))) (by omega) (HZ_len _ _) (fun i hi => by rw [HZ_rd _ _ i hi, if_neg (by omega)]; omega)
            rw [show ((0 : Nat) : Int) = 0 from rfl] at hw2
            rw [HZ_len, hw2]
            have := ihd (j + 1) k (by omega) (by omega)
            rw [hrg, hcd, hc1, hc2'] at this
            rw [w64 (by omega) (by omega), show ((j : Int) + 1) = ((j + 1 : Nat) : Int) from by omega]
            simpa using this
        · rw [if_neg hc1, spec_roWays.j2, if_pos rfl]
          exact skip (by rw [Bool.eq_false_iff.2 hc1]; rfl)
    have := loop C 0 k (by omega) (by omega)
    simpa [candZ] using this
theorem e_roWays (r c : Int) (l : List Int) (h : GoodB r c l) (C M : Nat) (hC : (C : Int) = c) (hM : (M : Int) = min r c + 1) : ∀ (t : List Int) (row : Nat) (taken : Int) (k : Nat), l.drop row = t → row ≤ l.length → 0 ≤ taken ∧ taken ≤ 63 → 100 * t.length + 100 ≤ k → spec_roWays.f k r c l (row : Int) taken = some (HZ M (Z C t taken)) := e_roWaysW r c l (wb_of h) C M hC hM

theorem HZ_nil (M : Nat) : HZ M [] = List.replicate M 0 := by
  refine rd_ext _ _ (by simp [HZ_len]) ?_
  intro j hj
  rw [HZ_len] at hj
  rw [HZ_rd _ _ j hj, rd_nat _ j (by simpa using hj)]; simp
/-- A board's bounds. -/
def Nice (r c : Int) (l : List Int) : Prop := (1 ≤ r ∧ r ≤ 6) ∧ (1 ≤ c ∧ c ≤ 6) ∧ (l.length : Int) = r ∧ ∀ x ∈ l, 0 ≤ x ∧ x ≤ 63
/-- The rook numbers. -/
def numsL (r c : Int) (l : List Int) : List Int := HZ (min r c + 1).toNat (Z c.toNat l 0)
theorem Z_ltN (r c : Int) (l : List Int) (h : Nice r c l) : ∀ z ∈ Z c.toNat l 0, z < (min r c + 1).toNat := by
  intro z hz
  have h1 := h.1; have h2 := h.2.1; have h3 := h.2.2.1
  have := Z_le c.toNat (by omega) l 0 (by omega) z hz
  have := frZ_le c.toNat 0
  omega
theorem numsL_lenN (r c : Int) (l : List Int) (h : Nice r c l) : (numsL r c l).length ≤ 7 := by
  have h1 := h.1; have h2 := h.2.1
  unfold numsL; rw [HZ_len]; omega

theorem nice_of {r c : Int} {l : List Int} (h : GoodB r c l) : Nice r c l := ⟨h.1, h.2.1, h.2.2.1, goodB_le h⟩
theorem numsL_len (r c : Int) (l : List Int) (h : GoodB r c l) : (numsL r c l).length ≤ 7 := numsL_lenN r c l (nice_of h)

theorem e_roNumbers (k : Nat) (r c : Int) (l : List Int) (h : GoodB r c l) (hk : 1000 ≤ k) : spec_roNumbers.f k r c l = some (numsL r c l) := by
  have h1 := h.1; have h2 := h.2.1; have h3 := h.2.2.1
  have hl := goodB_len h
  unfold spec_roNumbers.f
  have := e_roWays r c l h c.toNat (min r c + 1).toNat (by omega) (by omega) l 0 0 k rfl (by omega) (by omega) (by omega)
  rw [show ((0 : Nat) : Int) = 0 from rfl] at this
  rw [this]; rfl
theorem e_roNumbersW (k : Nat) (r c : Int) (l : List Int) (h : WB r c l) (hk : 1000 ≤ k) : spec_roNumbers.f k r c l = some (numsL r c l) := by
  have h1 := h.1; have h2 := h.2.1; have h3 := h.2.2.1
  unfold spec_roNumbers.f
  have := e_roWaysW r c l h c.toNat (min r c + 1).toNat (by omega) (by omega) l 0 0 k rfl (by omega) (by omega) (by omega)
  rw [show ((0 : Nat) : Int) = 0 from rfl] at this
  rw [this]; rfl

theorem e_roOfW (f : Nat) (r c : Int) (l : List Int) (k : Int) (h : WB r c l) (hk : 0 ≤ k) (hf : 1000 ≤ f) : spec_roOf.f f r c l k = some (((Z c.toNat l 0).count k.toNat : Nat) : Int) := by
  unfold spec_roOf.f
  have h1 := h.1; have h2 := h.2.1; have h3 := h.2.2.1
  rw [e_roNumbersW f r c l h hf, Option.bind_some]
  have hl : (numsL r c l).length = (min r c + 1).toNat := by unfold numsL; rw [HZ_len]
  by_cases hc : k ≥ ((numsL r c l).length : Int)
  · rw [if_pos hc]
    have : (Z c.toNat l 0).count k.toNat = 0 := by
      refine List.count_eq_zero.2 ?_
      intro hm
      have := Z_le c.toNat (by omega) l 0 (by omega) _ hm
      have := frZ_le c.toNat 0
      omega
    rw [this]; rfl
  · rw [if_neg hc, if_pos hk, if_pos (by omega)]
    congr 1
    obtain ⟨n, rfl⟩ := Int.eq_ofNat_of_zero_le hk
    unfold numsL
    rw [HZ_rd _ _ n (by omega), Int.toNat_natCast]
theorem e_roOf (f : Nat) (r c : Int) (l : List Int) (k : Int) (h : GoodB r c l) (hk : 0 ≤ k) (hf : 1000 ≤ f) : spec_roOf.f f r c l k = some (((Z c.toNat l 0).count k.toNat : Nat) : Int) := e_roOfW f r c l k (wb_of h) hk hf

theorem d_pwith (k : Nat) (code : List Int) (hc : CodeOK code) (hk : 2000 ≤ k) : ∃ r c l n i, spec_DrawPlacementWith.f k code = some (r, c, l, n, i) ∧ l.length ≤ 7 := by
  unfold spec_DrawPlacementWith.f spec_roAsked.f
  obtain ⟨r, c, l, i1, u1, e1, h1, h2, h3⟩ := d_board k code hc 0 0 0 (by unfold PL; omega) (by omega) (by omega)
  rw [e1, Option.bind_some]
  simp only
  obtain ⟨n, i2, u2, e2, h4⟩ := d_rooks code hc i1 u1 _ h3 (by omega)
  rw [e2, Option.bind_some]
  simp only
  have hno : ∃ r' c' l' n' i', ((spec_l1Cur_pick.f code i2 u2 3).bind fun bt => some (r, c, l, n, bt.1)) = some (r', c', l', n', i') ∧ l'.length ≤ 7 := by
    obtain ⟨v, i3, u3, e3, h5, _⟩ := d_pick code hc i2 u2 3 _ h4 (by omega)
    rw [e3]
    exact ⟨_, _, _, _, _, rfl, h2⟩
  rw [e_boGood k r c l (by omega) (by omega), Option.bind_some]
  by_cases g : GoodB r c l
  · rw [if_pos (decide_eq_true g), e_l1In, Option.bind_some, Option.bind_some]
    by_cases hn : 0 ≤ n ∧ n ≤ 6
    · rw [if_pos (decide_eq_true hn), e_roOf k r c l n g hn.1 (by omega), Option.bind_some]
      obtain ⟨b, i3, u3, e3, h5⟩ := d_one code hc i2 u2 5 _ h4 (by omega)
      rw [e3, Option.bind_some]
      simp only
      obtain ⟨k, rfl⟩ : ∃ m, k = m + 1 := ⟨k - 1, by omega⟩
      have hj : ∀ x b, ∃ r' c' l' n' i', spec_DrawPlacementWith.j0 (k + 1) n x b code i3 u3 r c l = some (r', c', l', n', i') ∧ l'.length ≤ 7 := by
        intro x b
        rw [spec_DrawPlacementWith.j0]
        split
        · obtain ⟨v, i4, u4, e4, h6, _⟩ := d_among code hc i3 u3 [-1, 0, wrap64 (x - 1), x] _ (by simp) h5 (by omega)
          rw [e4]
          exact ⟨_, _, _, _, _, rfl, h2⟩
        · obtain ⟨v, i4, u4, e4, h6, _⟩ := d_pick code hc i3 u3 x _ h5 (by omega)
          rw [e4]
          exact ⟨_, _, _, _, _, rfl, h2⟩
      split <;> exact hj _ _
    · rw [if_neg (by simpa using hn)]; exact hno
  · rw [if_neg (by simpa using g), Option.bind_some, if_neg (by decide)]; exact hno
theorem d_pof (k : Nat) (code : List Int) (hc : CodeOK code) (hk : 2000 ≤ k) : ∃ r c l n, spec_DrawPlacementsOf.f k code = some (r, c, l, n) ∧ l.length ≤ 7 := by
  unfold spec_DrawPlacementsOf.f
  obtain ⟨r, c, l, i1, u1, e1, h1, h2, h3⟩ := d_board k code hc 0 0 0 (by unfold PL; omega) (by omega) (by omega)
  rw [e1, Option.bind_some]
  simp only
  obtain ⟨n, i2, u2, e2, h4⟩ := d_rooks code hc i1 u1 _ h3 (by omega)
  rw [e2]
  exact ⟨_, _, _, _, rfl, h2⟩

theorem e_within (a b c : Int) : impl_within.f a b c = some (decide (b ≤ a ∧ a ≤ c)) := by
  unfold impl_within.f
  by_cases h : b ≤ a
  · rw [if_pos h]; simp [h]
  · rw [if_neg h]; simp [h]

theorem cntR_snoc : ∀ (a : List Int) (v : Int), cntR (a ++ [v]) = cntR a + (if v = -1 then 0 else 1)
  | [], v => by simp [cntR]
  | x :: a, v => by simp only [List.cons_append, cntR, cntR_snoc a v]; omega
theorem okC_cell (m taken : Int) (j : Nat) (hm : 0 ≤ m ∧ m ≤ 63) (ht : 0 ≤ taken ∧ taken ≤ 63) (hj : j ≤ 6) : okC m taken j = (cell m (j : Int) && !cell taken (j : Int)) := by
  unfold okC
  rw [cell_impl m (j : Int) hm (by omega), cell_impl taken (j : Int) ht (by omega)]
theorem flatMap_map_eq {α β : Type} (f : α → List (List Int)) (g : α → List Nat) (u : List Int → β) (v : Nat → β) : ∀ l : List α, (∀ x ∈ l, (f x).map u = (g x).map v) → (l.flatMap f).map u = (l.flatMap g).map v
  | [], _ => rfl
  | x :: l, h => by
    simp only [List.flatMap_cons, List.map_append, h x (by simp), flatMap_map_eq f g u v l (fun y hy => h y (by simp [hy]))]
theorem plc_Z (C : Nat) (hC : C ≤ 6) : ∀ (t : List Int) (taken : Int) (acc : List Int), (∀ x ∈ t, 0 ≤ x ∧ x ≤ 63) → 0 ≤ taken ∧ taken ≤ 63 → (plc C t taken acc).map cntR = (Z C t taken).map fun z : Nat => cntR acc + (z : Int)
  | [], taken, acc, _, _ => by simp [plc, Z]
  | m :: t, taken, acc, hm, ht => by
    simp only [plc, Z]
    refine flatMap_map_eq _ _ _ _ _ ?_
    intro i hi
    have hi := List.mem_range.1 hi
    by_cases h0 : i = 0
    · rw [if_pos h0, if_pos h0, plc_Z C hC t taken _ (fun x hx => hm x (by simp [hx])) ht, cntR_snoc]; simp
    · rw [if_neg h0, if_neg h0, okC_cell m taken (i - 1) (hm m (by simp)) ht (by omega)]
      by_cases hc : (cell m ((i - 1 : Nat) : Int) && !cell taken ((i - 1 : Nat) : Int)) = true
      · rw [if_pos hc, if_pos hc]
        simp only [Bool.and_eq_true, Bool.not_eq_true'] at hc
        have ho := orZ_ok C taken (i - 1) hC ht (by omega) hc.2
        rw [show orC taken (i - 1) = orZ taken (i - 1) from rfl, plc_Z C hC t _ _ (fun x hx => hm x (by simp [hx])) ho.1, cntR_snoc, List.map_map, if_neg (by omega)]
        refine List.map_congr_left ?_
        intro z _
        simp only [Function.comp]; omega
      · rw [if_neg hc, if_neg hc]; rfl

theorem plc_cnt (C : Nat) : ∀ (t : List Int) (taken : Int) (acc : List Int), ∀ q ∈ plc C t taken acc, cntR acc ≤ cntR q ∧ cntR q ≤ cntR acc + t.length
  | [], taken, acc, q, h => by
    simp [plc] at h; subst h; simp
  | m :: t, taken, acc, q, h => by
    simp only [plc, List.mem_flatMap, List.mem_range] at h
    obtain ⟨i, hi, h⟩ := h
    by_cases h0 : i = 0
    · rw [if_pos h0] at h
      have := plc_cnt C t _ _ q h
      rw [cntR_snoc, if_pos rfl] at this
      simp only [List.length_cons]; omega
    · rw [if_neg h0] at h
      split at h
      · have := plc_cnt C t _ _ q h
        rw [cntR_snoc, if_neg (by omega)] at this
        simp only [List.length_cons]; omega
      · simp at h
/-- The placements with k rooks more than stand already. -/
def selL (C : Nat) (t : List Int) (taken : Int) (acc : List Int) (k : Int) : List (List Int) := (plc C t taken acc).filter fun q => decide (cntR q = cntR acc + k)
theorem selL_len (C : Nat) (hC : C ≤ 6) (t : List Int) (ht : t.length ≤ 6) (taken : Int) (acc : List Int) (k : Int) : (selL C t taken acc k).length ≤ 117649 := by
  unfold selL
  refine Nat.le_trans (List.length_filter_le _ _) (Nat.le_trans (plc_len C hC t taken acc) ?_)
  exact Nat.le_trans (Nat.pow_le_pow_right (by omega) ht) (by decide)
theorem plc_elem (C : Nat) : ∀ (t : List Int) (taken : Int) (acc : List Int), ∀ q ∈ plc C t taken acc, q.length = acc.length + t.length
  | [], taken, acc, q, h => by
    simp [plc] at h; subst h; simp
  | m :: t, taken, acc, q, h => by
    simp only [plc, List.mem_flatMap, List.mem_range] at h
    obtain ⟨i, hi, h⟩ := h
    by_cases h0 : i = 0
    · rw [if_pos h0] at h
      have := plc_elem C t _ _ q h
      simp only [List.length_append, List.length_cons, List.length_nil] at this ⊢; omega
    · rw [if_neg h0] at h
      split at h
      · have := plc_elem C t _ _ q h
        simp only [List.length_append, List.length_cons, List.length_nil] at this ⊢; omega
      · simp at h
theorem count_cast (zs : List Nat) (k : Int) (hk : 0 ≤ k) : (zs.map fun z : Nat => (0 : Int) + (z : Int)).count k = zs.count k.toNat := by
  induction zs with
  | nil => rfl
  | cons z zs ih =>
    rw [List.map_cons, List.count_cons, List.count_cons, ih]
    by_cases h : z = k.toNat
    · rw [if_pos (by simp; omega), if_pos (by simp [h])]
    · rw [if_neg (by simp; omega), if_neg (by simp [h])]
theorem filter_count (k : Int) : ∀ L : List (List Int), (L.filter fun q => decide (cntR q = k)).length = (L.map cntR).count k
  | [] => rfl
  | q :: L => by
    rw [List.map_cons, List.count_cons, ← filter_count k L]
    by_cases h : cntR q = k
    · rw [List.filter_cons_of_pos (by simpa using h), if_pos (by simpa using h)]; rfl
    · rw [List.filter_cons_of_neg (by simpa using h), if_neg (by simpa using h)]; rfl
theorem selL_count (C : Nat) (hC : C ≤ 6) (l : List Int) (hl : ∀ x ∈ l, 0 ≤ x ∧ x ≤ 63) (k : Int) (hk : 0 ≤ k) : (selL C l 0 [] k).length = (Z C l 0).count k.toNat := by
  unfold selL
  have h := plc_Z C hC l 0 [] hl (by omega)
  have e : cntR [] + k = k := by simp [cntR]
  rw [e, filter_count, h, show cntR [] = 0 from rfl, count_cast _ _ hk]
theorem flatMap_cg {α β : Type} (f g : α → List β) : ∀ l : List α, (∀ x ∈ l, f x = g x) → l.flatMap f = l.flatMap g
  | [], _ => rfl
  | x :: l, h => by simp only [List.flatMap_cons, h x (by simp), flatMap_cg f g l (fun y hy => h y (by simp [hy]))]

def candF (C : Nat) (m : Int) (t : List Int) (taken : Int) (acc : List Int) (k : Int) (i : Nat) : List (List Int) := if i = 0 then selL C t taken (acc ++ [-1]) k else if okC m taken (i - 1) && decide (0 < k) then selL C t (orC taken (i - 1)) (acc ++ [((i - 1 : Nat) : Int)]) (k - 1) else []
theorem flatMap_congr' {α β : Type} (f g : α → List β) : ∀ l : List α, (∀ x ∈ l, f x = g x) → l.flatMap f = l.flatMap g
  | [], _ => rfl
  | x :: l, h => by simp only [List.flatMap_cons, h x (by simp), flatMap_congr' f g l (fun y hy => h y (by simp [hy]))]
theorem selL_cons (C : Nat) (m : Int) (t : List Int) (taken : Int) (acc : List Int) (k : Int) (hk : 0 ≤ k) : selL C (m :: t) taken acc k = (List.range (C + 1)).flatMap (candF C m t taken acc k) := by
  unfold selL
  simp only [plc]
  rw [List.filter_flatMap]
  refine flatMap_congr' _ _ _ ?_
  intro i hi
  unfold candF
  by_cases h0 : i = 0
  · rw [if_pos h0, if_pos h0]
    unfold selL
    rw [cntR_snoc, if_pos rfl, Int.add_zero]
  · rw [if_neg h0, if_neg h0]
    by_cases h1 : okC m taken (i - 1) = true
    · rw [if_pos h1]
      by_cases h2 : 0 < k
      · rw [if_pos (by simp [h1, h2])]
        unfold selL
        rw [cntR_snoc, if_neg (by omega), show cntR acc + 1 + (k - 1) = cntR acc + k by omega]
      · rw [if_neg (by simp [h2])]
        refine List.filter_eq_nil_iff.2 ?_
        intro q hq
        have := plc_cnt C t _ _ q hq
        rw [cntR_snoc, if_neg (by omega)] at this
        simp; omega
    · rw [if_neg h1, if_neg (by simp [h1])]; rfl
theorem candF_len (C : Nat) (hC : C ≤ 6) (m : Int) (t : List Int) (ht : t.length ≤ 6) (taken : Int) (acc : List Int) (k : Int) (i : Nat) : (candF C m t taken acc k i).length ≤ 117649 := by
  unfold candF
  split
  · exact selL_len C hC t ht _ _ _
  · split
    · exact selL_len C hC t ht _ _ _
    · simp
theorem cell_orZ (taken : Int) (j i : Nat) (h : 0 ≤ taken ∧ taken ≤ 63) (hj : j < 6) (hi : i < 6) : cell (orZ taken j) (i : Int) = (cell taken (i : Int) || decide (i = j)) := by
  have key : ∀ j i : Fin 6, ∀ t : Fin 64, cell (orZ (t.val : Int) j.val) (i.val : Int) = (cell (t.val : Int) (i.val : Int) || decide (i.val = j.val)) := by decide +kernel
  obtain ⟨t, rfl⟩ := fin_of taken 64 h.1 (by omega)
  exact key ⟨j, hj⟩ ⟨i, hi⟩ t
theorem e_l1Own (l : List Int) (h : l.length ≤ 1000000) : spec_l1Own.f l = some l := by
  unfold spec_l1Own.f
  simp only [Option.bind_some, List.length_nil, List.nil_append]
  rw [if_pos (by omega)]
theorem contains_snoc (acc : List Int) (v x : Int) : (acc ++ [v]).contains x = (acc.contains x || (x == v)) := by
  induction acc with
  | nil => rw [List.nil_append, List.contains_cons, List.contains_nil, Bool.or_false, Bool.false_or]
  | cons a acc ih => rw [List.cons_append, List.contains_cons, List.contains_cons, ih, Bool.or_assoc]
theorem e_roAll (r c : Int) (l : List Int) (h : GoodB r c l) (C : Nat) (hC : (C : Int) = c) : ∀ (t acc : List Int) (taken k most : Int) (fuel : Nat), l.drop acc.length = t → acc.length ≤ l.length → (∀ j : Nat, j < C → acc.contains (j : Int) = cell taken (j : Int)) → 0 ≤ taken ∧ taken ≤ 63 → 0 ≤ k ∧ k ≤ 6 → 1 ≤ most ∧ most ≤ 2000000 → 200 * t.length + 100 ≤ fuel → spec_roAll.f fuel r c l acc k most = some ((selL C t taken acc k).take most.toNat) := by
  have h1 := h.1; have h2 := h.2.1; have h3 := h.2.2.1
  have hl := goodB_len h
  intro t
  induction t with
  | nil =>
    intro acc taken k most fuel ht hacc hinv htk hk hm hf
    have hrl : acc.length = l.length := by
      have := congrArg List.length ht
      simp at this; omega
    obtain ⟨fuel, rfl⟩ : ∃ n, fuel = n + 1 := ⟨fuel - 1, by omega⟩
    rw [spec_roAll.f, if_pos (by omega)]
    unfold selL
    simp only [plc]
    by_cases h0 : k = 0
    · subst h0
      rw [if_pos rfl, e_l1Own acc (by omega)]
      rw [Option.bind_some, List.filter_cons_of_pos (by simp), List.filter_nil, List.take_of_length_le (by simp; omega)]
    · rw [if_neg h0, List.filter_cons_of_neg (by simp; omega)]; simp
  | cons m t ih =>
    intro acc taken k most fuel ht hacc hinv htk hk hm hf
    have hlt : acc.length < l.length := by
      have := congrArg List.length ht
      simp at this; omega
    have hd := List.drop_eq_getElem_cons hlt
    rw [ht] at hd
    injection hd with hm' ht'
    simp only [List.length_cons] at hf
    have htl : t.length = l.length - (acc.length + 1) := by rw [ht']; simp
    have hm63 := goodB_le h m (by rw [hm']; exact List.getElem_mem _)
    obtain ⟨fuel, rfl⟩ : ∃ n, fuel = n + 1 := ⟨fuel - 1, by omega⟩
    rw [spec_roAll.f, if_neg (by omega), w64 (by omega) (by omega)]
    by_cases hr : r - (acc.length : Int) < k
    · rw [if_pos hr]
      have : selL C (m :: t) taken acc k = [] := by
        refine List.filter_eq_nil_iff.2 ?_
        intro q hq
        have := plc_cnt C _ _ _ q hq
        simp only [List.length_cons] at this
        simp; omega
      rw [this]; simp
    · rw [if_neg hr]
      have hw := selL_cons C m t taken acc k hk.1
      have hcl : ∀ n, ((List.range n).flatMap (candF C m t taken acc k)).length ≤ n * 117649 := fun n => by
        have := flat_len (candF C m t taken acc k) 117649 (List.range n) (fun x _ => candF_len C (by omega) m t (by omega) taken acc k x)
        rwa [List.length_range] at this
      have loop : ∀ (d j fuel : Nat), j + d = C + 1 → 200 * t.length + 100 + d * 5 + 5 ≤ fuel → spec_roAll.l0 fuel acc k most (acc.length : Int) (((List.range j).flatMap (candF C m t taken acc k)).take most.toNat) ((j : Int) - 1) r c l = some ((selL C (m :: t) taken acc k).take most.toNat) := by
        intro d
        induction d with
        | zero =>
          intro j fuel hj hf
          obtain ⟨fuel, rfl⟩ : ∃ n, fuel = n + 1 + 1 := ⟨fuel - 2, by omega⟩
          rw [spec_roAll.l0, if_neg (by omega), spec_roAll.j1, if_neg (by decide), hw, show j = C + 1 by omega]
        | succ d ihd =>
          intro j fuel hj hf
          obtain ⟨fuel, rfl⟩ : ∃ n, fuel = n + 1 + 1 + 1 := ⟨fuel - 3, by omega⟩
          have hrg : (List.range (j + 1)).flatMap (candF C m t taken acc k) = (List.range j).flatMap (candF C m t taken acc k) ++ candF C m t taken acc k j := by rw [List.range_succ, List.flatMap_append]; simp
          have hsp : ∃ B, selL C (m :: t) taken acc k = (List.range j).flatMap (candF C m t taken acc k) ++ B := by
            refine ⟨((List.range (C + 1)).drop j).flatMap (candF C m t taken acc k), ?_⟩
            rw [hw]
            conv => lhs; rw [← List.take_append_drop j (List.range (C + 1))]
            rw [List.take_range, Nat.min_eq_left (by omega), List.flatMap_append]
          rw [spec_roAll.l0, if_pos (by omega), spec_roAll.j1]
          have hcj := hcl j
          by_cases hfull : ((((List.range j).flatMap (candF C m t taken acc k)).take most.toNat).length : Int) < most
          · rw [if_pos (decide_eq_true hfull)]
            have hAl : ((List.range j).flatMap (candF C m t taken acc k)).length < most.toNat := by
              rw [List.length_take] at hfull; omega
            rw [List.take_of_length_le (by omega)]
            have next := ihd (j + 1)
            rw [hrg, List.take_append, List.take_of_length_le (Nat.le_of_lt hAl)] at next
            have h7 : ((List.range j).flatMap (candF C m t taken acc k)).length ≤ 7 * 117649 := Nat.le_trans hcj (Nat.mul_le_mul_right _ (by omega))
            clear hcj
            rcases j with _ | j
            · rw [if_pos (show (((0 : Nat) : Int) - 1) = -1 by omega), e_l1Own acc (by omega)]
              rw [Option.bind_some, Option.bind_some]
              rw [if_pos (by simp; omega)]
              rw [ih (acc ++ [-1]) taken k most (fuel + 1) (by rw [List.length_append]; exact ht'.symm) (by simp; omega) (fun i hi => by rw [contains_snoc, hinv i hi, show ((i : Int) == -1) = false from beq_eq_false_iff_ne.2 (by omega), Bool.or_false]) htk hk hm (by omega)]
              have hsl := selL_len C (by omega) t (by omega) taken (acc ++ [-1]) k
              have hcz : candF C m t taken acc k 0 = selL C t taken (acc ++ [-1]) k := by unfold candF; rw [if_pos rfl]
              rw [hcz] at next
              rw [show (List.range 0).flatMap (candF C m t taken acc k) = [] from rfl] at next ⊢
              rw [List.nil_append, List.length_nil, Nat.sub_zero] at next
              rw [Option.bind_some, if_pos (by rw [List.length_nil, List.length_take]; omega), List.nil_append, show wrap64 (((0 : Nat) : Int) - 1 + 1) = ((0 + 1 : Nat) : Int) - 1 by rw [w64 (by omega) (by omega)]; omega]
              exact next (fuel + 1) (by omega) (by omega)
            · rw [if_neg (by omega), show (((j + 1 : Nat) : Int) - 1) = (j : Int) by omega]
              rw [show (((j + 1 + 1 : Nat) : Int) - 1) = wrap64 ((j : Int) + 1) by rw [w64 (by omega) (by omega)]; omega] at next
              have hjC : j < C := by omega
              have hcz : candF C m t taken acc k (j + 1) = if okC m taken j && decide (0 < k) then selL C t (orC taken j) (acc ++ [(j : Int)]) (k - 1) else [] := by unfold candF; rw [if_neg (by omega)]; simp
              rw [hcz, okC_cell m taken j hm63 htk (by omega)] at next
              have skip : ∀ b fuel, (cell m (j : Int) && !cell taken (j : Int) && decide (0 < k)) = false → b = false → 200 * t.length + 100 + d * 5 + 5 ≤ fuel → spec_roAll.j2 (fuel + 1) acc k most (acc.length : Int) ((List.range (j + 1)).flatMap (candF C m t taken acc k)) (j : Int) b r c l = some ((selL C (m :: t) taken acc k).take most.toNat) := by
                intro b fuel hf0 hb hfu
                rw [spec_roAll.j2, hb, if_neg (by decide)]
                have n2 := next fuel (by omega) hfu
                rw [if_neg (by rw [hf0]; decide)] at n2
                simpa using n2
              by_cases hk0 : k > 0
              · rw [if_pos hk0, e_boHas r c l (acc.length : Int) (j : Int) h ⟨by omega, by omega⟩, rd_nat l acc.length hlt, ← hm']
                simp only [Option.bind_some]
                by_cases hc1 : cell m (j : Int) = true
                · rw [if_pos hc1, e_l1Has _ acc (j : Int) (by omega) (by omega), hinv j hjC]
                  simp only [Option.bind_some]
                  by_cases hc2 : cell taken (j : Int) = true
                  · exact skip _ fuel (by rw [hc1, hc2]; rfl) (by rw [hc2]; rfl) (by omega)
                  · have hc2' := Bool.eq_false_iff.2 hc2
                    have ho := orZ_ok C taken j (by omega) htk hjC hc2'
                    rw [hc2', spec_roAll.j2, if_pos (show (!false) = true from rfl), e_l1Own acc (by omega)]
                    simp only [Option.bind_some]
                    have hA1 : (((List.range (j + 1)).flatMap (candF C m t taken acc k)).length : Int) < most := by omega
                    rw [if_pos (by simp; omega), w64 (x := k - 1) (by omega) (by omega), w64 (x := most - _) (by omega) (by omega)]
                    rw [ih (acc ++ [(j : Int)]) (orZ taken j) (k - 1) (most - (((List.range (j + 1)).flatMap (candF C m t taken acc k)).length : Int)) fuel (by rw [List.length_append]; exact ht'.symm) (by simp; omega) (fun i hi => by
                      rw [contains_snoc, hinv i hi, cell_orZ taken j i htk (by omega) (by omega)]
                      congr 1
                      by_cases hij : i = j
                      · subst hij; simp
                      · rw [beq_eq_false_iff_ne.2 (by omega), decide_eq_false hij]) ho.1 (by omega) (by omega) (by omega)]
                    have hsl := selL_len C (by omega) t (by omega) (orZ taken j) (acc ++ [(j : Int)]) (k - 1)
                    rw [Option.bind_some, if_pos (by rw [List.length_take]; omega)]
                    have n2 := next fuel (by omega) (by omega)
                    rw [if_pos (by rw [hc1, hc2']; simpa using hk0)] at n2
                    rw [show (most - (((List.range (j + 1)).flatMap (candF C m t taken acc k)).length : Int)).toNat = most.toNat - ((List.range (j + 1)).flatMap (candF C m t taken acc k)).length by omega]
                    exact n2
                · rw [if_neg hc1]
                  exact skip _ fuel (by rw [Bool.eq_false_iff.2 hc1]; rfl) rfl (by omega)
              · rw [if_neg hk0]
                exact skip _ fuel (by rw [show decide (0 < k) = false from decide_eq_false hk0, Bool.and_false]) rfl (by omega)
          · rw [if_neg (by simpa using hfull)]
            obtain ⟨B, hB⟩ := hsp
            rw [hB, List.take_append_of_le_length (by rw [List.length_take] at hfull; omega)]
      have := loop (C + 1) 0 fuel (by omega) (by omega)
      simpa using this

theorem i_with (r c : Int) (l : List Int) (k : Int) (h : GoodB r c l) : impl_Board_with.f r c l k = some (selL c.toNat l 0 [] k) := by
  have h1 := h.1; have h2 := h.2.1; have h3 := h.2.2.1
  unfold impl_Board_with.f selL
  rw [if_pos ⟨by omega, by omega, by omega, by omega, h3⟩, show cntR [] + k = k by simp [cntR]]

theorem rdLL (l : List (List Int)) (i : Nat) (h : i < l.length) : rd_L2 l (i : Int) = l[i] := by
  unfold rd_L2; simp [List.getD, h]
theorem both_PlacementWith (f f' : Nat) (r c : Int) (l : List Int) (k i : Int) (hf : 2000000 ≤ f) (hf' : 10 ≤ f') (hl : l.length ≤ 1048576) : ∃ o : List Int × Bool, spec_PlacementWith.f f r c l k i = some o ∧ (∀ f', 10 ≤ f' → impl_PlacementWith.f f' r c l k i = some o) ∧ o.1.length ≤ 1048576 := by
  unfold spec_PlacementWith.f impl_PlacementWith.f spec_roAsked.f
  rw [e_boGood f r c l (by omega) (by omega), i_IsBoard]
  simp only [Option.bind_some]
  by_cases h : GoodB r c l
  · have h1 := h.1; have h2 := h.2.1; have h3 := h.2.2.1
    rw [decide_eq_true h]
    simp only [if_true]
    rw [e_l1In, e_within]
    simp only [Option.bind_some]
    by_cases hk : 0 ≤ k ∧ k ≤ 6
    · rw [decide_eq_true hk]
      simp only [if_true, Bool.not_true]
      rw [e_roOf f r c l k h hk.1 (by omega), Option.bind_some, ← selL_count c.toNat (by omega) l (goodB_le h) k hk.1]
      have hsl := selL_len c.toNat (by omega) l (by have := goodB_len h; omega) 0 [] k
      rw [w64 (by omega) (by omega), e_l1In, Option.bind_some]
      have hI : ∀ f', 10 ≤ f' → impl_PlacementWith.j0 f' k i false r c l = if decide (0 ≤ i ∧ i ≤ ((selL c.toNat l 0 [] k).length : Int) - 1) = true then (if 0 ≤ i then (if i < ((selL c.toNat l 0 [] k).length : Int) then ((slices_Clone_int_int.f (rd_L2 (selL c.toNat l 0 [] k) i)).bind fun t224 => (some (t224, true))) else (none)) else (none)) else (some (([] : List Int), false)) := by
        intro f' hf'
        obtain ⟨f', rfl⟩ : ∃ m, f' = m + 1 := ⟨f' - 1, by omega⟩
        rw [impl_PlacementWith.j0, if_neg (by decide), i_with r c l k h, Option.bind_some, w64 (by omega) (by omega), e_within, Option.bind_some]
      by_cases hi : 0 ≤ i ∧ i ≤ ((selL c.toNat l 0 [] k).length : Int) - 1
      · obtain ⟨n, rfl⟩ := Int.eq_ofNat_of_zero_le hi.1
        have hn : n < (selL c.toNat l 0 [] k).length := by omega
        refine ⟨((selL c.toNat l 0 [] k)[n], true), ?_, ?_, ?_⟩
        · rw [decide_eq_true hi, if_pos rfl, w64 (by omega) (by omega), e_roAll r c l h c.toNat (by omega) l [] 0 k ((n : Int) + 1) f rfl (by simp) (fun j hj => by
            have : ∀ j : Fin 6, cell 0 (j.val : Int) = false := by decide +kernel
            rw [this ⟨j, by omega⟩]; rfl) (by omega) hk (by omega) (by have := goodB_len h; omega)]
          have ht : ((selL c.toNat l 0 [] k).take ((n : Int) + 1).toNat).length = n + 1 := by rw [List.length_take]; omega
          rw [Option.bind_some, if_pos (by omega), if_pos (by omega), rdLL _ n (by omega), List.getElem_take]
        · intro f' hf'
          have hel : ((selL c.toNat l 0 [] k)[n]).length = l.length := by
            have := plc_elem c.toNat l 0 [] _ (List.mem_filter.1 (List.getElem_mem hn)).1
            simpa using this
          rw [hI f' hf', decide_eq_true hi, if_pos rfl, if_pos (by omega), if_pos (by omega), rdLL _ n hn]
          unfold slices_Clone_int_int.f
          rw [if_pos (by omega)]; rfl
        · have hel : ((selL c.toNat l 0 [] k)[n]).length = l.length := by
            have := plc_elem c.toNat l 0 [] _ (List.mem_filter.1 (List.getElem_mem hn)).1
            simpa using this
          show ((selL c.toNat l 0 [] k)[n]).length ≤ _
          omega
      · rw [decide_eq_false hi] at hI ⊢
        refine ⟨([], false), rfl, fun f' hf' => ?_, by simp⟩
        rw [hI f' hf', if_neg (by decide)]
    · rw [decide_eq_false hk]
      refine ⟨([], false), rfl, fun f' hf' => ?_, by simp⟩
      obtain ⟨f', rfl⟩ : ∃ m, f' = m + 1 := ⟨f' - 1, by omega⟩
      rw [impl_PlacementWith.j0]; rfl
  · rw [decide_eq_false h]
    refine ⟨([], false), rfl, fun f' hf' => ?_, by simp⟩
    obtain ⟨f', rfl⟩ : ∃ m, f' = m + 1 := ⟨f' - 1, by omega⟩
    rw [if_neg (by decide), impl_PlacementWith.j0]; rfl

theorem both_PlacementsOf (f : Nat) (r c : Int) (l : List Int) (k : Int) (hf : 2000000 ≤ f) (hl : l.length ≤ 1048576) : ∃ o : List (List Int) × Bool, spec_PlacementsOf.f f r c l k = some o ∧ impl_PlacementsOf.f f r c l k = some o ∧ o.1.length ≤ 117649 ∧ ∀ q ∈ o.1, q.length ≤ 6 := by
  unfold spec_PlacementsOf.f impl_PlacementsOf.f spec_roAsked.f
  rw [e_boGood f r c l (by omega) (by omega), i_IsBoard]
  simp only [Option.bind_some]
  by_cases h : GoodB r c l
  · have h1 := h.1; have h2 := h.2.1; have h3 := h.2.2.1
    rw [decide_eq_true h]
    simp only [if_true]
    rw [e_l1In, e_within]
    simp only [Option.bind_some]
    by_cases hk : 0 ≤ k ∧ k ≤ 6
    · rw [decide_eq_true hk]
      simp only [if_true, Bool.not_true]
      rw [e_roOf f r c l k h hk.1 (by omega), Option.bind_some, ← selL_count c.toNat (by omega) l (goodB_le h) k hk.1]
      have hsl := selL_len c.toNat (by omega) l (by have := goodB_len h; omega) 0 [] k
      have h36 := goodB_len h
      obtain ⟨f, rfl⟩ : ∃ m, f = m + 1 := ⟨f - 1, by omega⟩
      rw [impl_PlacementsOf.j0, if_neg (show ¬ (false = true) by decide), i_with r c l k h, Option.bind_some]
      by_cases h5 : ((selL c.toNat l 0 [] k).length : Int) > 500
      · refine ⟨([], false), ?_, ?_, by simp, by simp⟩
        · rw [if_pos h5]
        · rw [if_pos h5]
      · refine ⟨(selL c.toNat l 0 [] k, true), ?_, ?_, hsl, ?_⟩
        · rw [if_neg h5, e_roAll r c l h c.toNat (by omega) l [] 0 k 500 (f + 1) rfl (by simp) (fun j hj => by
            have : ∀ j : Fin 6, cell 0 (j.val : Int) = false := by decide +kernel
            rw [this ⟨j, by omega⟩]; rfl) (by omega) hk (by omega) (by omega), Option.bind_some, List.take_of_length_le (by omega)]
        · rw [if_neg h5]
        · intro q hq
          have := plc_elem c.toNat l 0 [] _ (List.mem_filter.1 hq).1
          simp at this
          omega
    · rw [decide_eq_false hk]
      refine ⟨([], false), rfl, ?_, by simp, by simp⟩
      obtain ⟨f, rfl⟩ : ∃ m, f = m + 1 := ⟨f - 1, by omega⟩
      rw [impl_PlacementsOf.j0]; rfl
  · rw [decide_eq_false h]
    refine ⟨([], false), rfl, ?_, by simp, by simp⟩
    obtain ⟨f, rfl⟩ : ∃ m, f = m + 1 := ⟨f - 1, by omega⟩
    rw [if_neg (by decide), impl_PlacementsOf.j0]; rfl

/-- Is the number with the index i -1, or a column with a cell that none before it has? -/
def okP (c : Int) (l p : List Int) (i : Nat) : Bool := decide (rd p (i : Int) = -1) || (decide (0 ≤ rd p (i : Int) ∧ rd p (i : Int) ≤ c - 1) && (cell (rd l (i : Int)) (rd p (i : Int)) && !((p.take i).contains (rd p (i : Int)))))
def placF (c : Int) (l p : List Int) : Nat → Nat → Bool
  | 0, _ => true
  | d + 1, i => okP c l p i && placF c l p d (i + 1)
/-- Is a list a placement on a board? -/
def isPl (r c : Int) (l p : List Int) : Bool := decide ((p.length : Int) = r) && placF c l p p.length 0

theorem i_has (r c : Int) (l : List Int) (i j : Int) (h : GoodB r c l) (hp : Place r c i j) : impl_Board_has.f r c l i j = some (cell (rd l i) j) := by
  unfold impl_Board_has.f
  have h1 := h.1; have h2 := h.2.1; have h3 := h.2.2.1; have h4 := hp.1; have h5 := hp.2
  have hm := goodB_le h (rd l i) (rd_mem l i (by omega) (by omega))
  rw [if_pos (by omega), if_pos (by omega), if_pos (by omega), cell_impl _ _ hm (by omega)]

theorem i_place (r c : Int) (l : List Int) (i j : Int) (h : GoodB r c l) : impl_Board_place.f r c l i j = some (decide (Place r c i j)) := by
  unfold impl_Board_place.f
  have h1 := h.1; have h2 := h.2.1
  rw [w64 (by omega) (by omega), w64 (by omega) (by omega), e_within, e_within]
  simp only [Option.bind_some, decide_eq_true_eq]
  by_cases h : 0 ≤ i ∧ i ≤ r - 1
  · rw [if_pos h]; simp [Place, h]
  · rw [if_neg h]; simp [Place, h]

theorem sIndex_l0 (a : Int) (l : List Int) (hl : l.length ≤ 2000000) : ∀ (d i k : Nat), i + d = l.length → d < k →
    ∃ r, slices_Index_int_int.l0 k l a (l.length : Int) (i : Int) = some r ∧ (decide (r ≥ 0)) = (l.drop i).contains a := by
  intro d
  induction d with
  | zero =>
    intro i k hi hk
    obtain ⟨k, rfl⟩ : ∃ m, k = m + 1 := ⟨k - 1, by omega⟩
    simp only [slices_Index_int_int.l0]; rw [if_neg (by omega), List.drop_eq_nil_of_le (by omega)]; exact ⟨_, rfl, rfl⟩
  | succ d ih =>
    intro i k hi hk
    obtain ⟨k, rfl⟩ : ∃ m, k = m + 1 := ⟨k - 1, by omega⟩
    have hlt : i < l.length := by omega
    simp only [slices_Index_int_int.l0]
    rw [if_pos (by omega), if_pos (by omega), if_pos (by omega), rd_nat l i hlt, w64 (by omega) (by omega), show ((i : Int) + 1) = ((i + 1 : Nat) : Int) from by omega, List.drop_eq_getElem_cons hlt, List.contains_cons]
    by_cases h : a = l[i]
    · rw [if_pos h]; exact ⟨_, rfl, by simp [h]⟩
    · rw [if_neg h]
      obtain ⟨r, h1, h2⟩ := ih (i + 1) k (by omega) (by omega)
      have : (a == l[i]) = false := beq_eq_false_iff_ne.2 h
      exact ⟨r, h1, by rw [this, Bool.false_or]; exact h2⟩
theorem i_Contains (k : Nat) (l : List Int) (a : Int) (hl : l.length ≤ 2000000) (hk : l.length < k) : slices_Contains_int_int.f k l a = some (l.contains a) := by
  unfold slices_Contains_int_int.f slices_Index_int_int.f
  obtain ⟨r, h1, h2⟩ := sIndex_l0 a l hl l.length 0 k (by omega) hk
  rw [show ((0 : Nat) : Int) = 0 from rfl] at h1
  rw [h1]; simp only [Option.bind_some]; rw [h2]; simp

theorem isPl_l0 (r c : Int) (l p : List Int) (g : GoodB r c l) (hp : (p.length : Int) = r) : ∀ (d i k : Nat), i + d = p.length → d + 10 < k →
    impl_Board_isPlacement.l0 k p p (p.length : Int) (i : Int) r c l = some (placF c l p d i) := by
  have hr := g.2.2.1; have hc := g.2.1; have hn := goodB_len g
  intro d
  induction d with
  | zero =>
    intro i k hi hk
    obtain ⟨k, rfl⟩ : ∃ m, k = m + 1 := ⟨k - 1, by omega⟩
    simp only [impl_Board_isPlacement.l0]; rw [if_neg (by omega)]; rfl
  | succ d ih =>
    intro i k hi hk
    obtain ⟨k, rfl⟩ : ∃ m, k = m + 1 := ⟨k - 1, by omega⟩
    have hlt : i < p.length := by omega
    simp only [impl_Board_isPlacement.l0]
    rw [if_pos (by omega), if_pos (by omega), if_pos (by omega), w64 (x := (i : Int) + 1) (by omega) (by omega), show ((i : Int) + 1) = ((i + 1 : Nat) : Int) from by omega, ih (i + 1) k (by omega) (by omega), i_place r c l _ _ g]
    simp only [placF, okP, Option.bind_some, decide_eq_true_eq]
    by_cases h1 : rd p (i : Int) = -1
    · rw [if_pos h1]; simp [h1]
    · rw [if_neg h1]
      by_cases h2 : 0 ≤ rd p (i : Int) ∧ rd p (i : Int) ≤ c - 1
      · rw [if_pos (show Place r c (i : Int) (rd p (i : Int)) from ⟨by omega, h2⟩), i_has r c l (i : Int) _ g ⟨by omega, h2⟩]
        simp only [Option.bind_some]
        by_cases h3 : cell (rd l (i : Int)) (rd p (i : Int)) = true
        · rw [if_pos h3, if_pos (by omega), Int.toNat_natCast, i_Contains k _ _ (by rw [List.length_take]; omega) (by rw [List.length_take]; omega)]
          simp only [Option.bind_some]
          generalize (p.take i).contains (rd p (i : Int)) = q
          cases q <;> simp [h1, h2, h3]
        · rw [if_neg h3]; simp [h1, h3]
      · rw [if_neg (fun x => h2 x.2)]; simp [h1, h2]
theorem i_isPlacement (k : Nat) (r c : Int) (l p : List Int) (g : GoodB r c l) (hk : 100 ≤ k) : impl_Board_isPlacement.f k r c l p = some (isPl r c l p) := by
  unfold impl_Board_isPlacement.f isPl
  have hr := g.2.2.1; have hn := goodB_len g
  by_cases h : (p.length : Int) = r
  · rw [if_pos h]
    have := isPl_l0 r c l p g h p.length 0 k (by omega) (by omega)
    rw [show ((0 : Nat) : Int) = 0 from rfl] at this
    rw [this]; simp [h]
  · rw [if_neg h]; simp [h]

theorem eqI_l0 (a b : List Int) (hl : a.length ≤ 2000000) (hab : a.length = b.length) : ∀ (d i k : Nat), i + d = a.length → d < k → slices_Equal_int_int.l0 k a b (a.length : Int) (i : Int) = some (decide (a.drop i = b.drop i)) := by
  intro d
  induction d with
  | zero =>
    intro i k hi hk
    obtain ⟨k, rfl⟩ : ∃ m, k = m + 1 := ⟨k - 1, by omega⟩
    rw [slices_Equal_int_int.l0, if_neg (by omega), List.drop_of_length_le (by omega), List.drop_of_length_le (by omega)]; simp
  | succ d ih =>
    intro i k hi hk
    obtain ⟨k, rfl⟩ : ∃ m, k = m + 1 := ⟨k - 1, by omega⟩
    have h1 : i < a.length := by omega
    have h2 : i < b.length := by omega
    have c1 : (i : Int) < (a.length : Int) := by omega
    have c2 : 0 ≤ (i : Int) := by omega
    have c3 : (i : Int) < (b.length : Int) := by omega
    rw [slices_Equal_int_int.l0]
    simp only [if_pos c1, if_pos c2, if_pos c3]
    rw [w64 (x := (i : Int) + 1) (by omega) (by omega), show ((i : Int) + 1) = ((i + 1 : Nat) : Int) from by omega, rd_nat a i h1, rd_nat b i h2, List.drop_eq_getElem_cons h1, List.drop_eq_getElem_cons h2]
    by_cases e : a[i] = b[i]
    · rw [if_pos e, ih (i + 1) k (by omega) (by omega), e]; simp only [List.cons.injEq, true_and]
    · rw [if_neg e]; simp only [List.cons.injEq, e, false_and, decide_false]
theorem i_Equal (k : Nat) (a b : List Int) (hl : a.length ≤ 1000000) (hk : a.length < k) : slices_Equal_int_int.f k a b = some (decide (a = b)) := by
  unfold slices_Equal_int_int.f
  by_cases h : a.length = b.length
  · rw [if_pos (by omega)]
    have := eqI_l0 a b (by omega) h a.length 0 k (by omega) hk
    rw [List.drop_zero, List.drop_zero] at this
    exact this
  · rw [if_neg (by omega), decide_eq_false (fun e => h (by rw [e]))]

def rkOut (r c : Int) (l p : List Int) : Int × Bool := if GoodB r c l ∧ isPl r c l p = true then (idxB (fun q => decide (p = q)) (selL c.toNat l 0 [] (cntR p)), true) else (0, false)
theorem pl_len (r c : Int) (l p : List Int) (g : GoodB r c l) (h : isPl r c l p = true) : p.length = l.length := by
  unfold isPl at h
  rw [Bool.and_eq_true, decide_eq_true_eq] at h
  have h3 := g.2.2.1
  omega
theorem i_RankPlacement (k : Nat) (r c : Int) (l p : List Int) (hk : 10000 ≤ k) : impl_RankPlacement.f k r c l p = some (rkOut r c l p) := by
  unfold impl_RankPlacement.f rkOut
  by_cases g : GoodB r c l
  · have h2 := g.2.1
    have hl6 := goodB_len g
    rw [if_pos g, i_isPlacement k r c l p g (by omega), Option.bind_some]
    by_cases h : isPl r c l p = true
    · have hpl := pl_len r c l p g h
      have hsl := selL_len c.toNat (by omega) l (by omega) 0 [] (cntR p)
      rw [if_pos h, if_pos (show p.length ≤ 6 by omega), i_with r c l (cntR p) g, Option.bind_some, if_pos ⟨by omega, List.all_eq_true.2 fun q hq => by
        rw [i_Equal k p q (by omega) (by omega)]; simp⟩, if_pos ⟨g, h⟩]
    · rw [if_neg h, if_neg (fun x => h x.2)]
  · rw [if_neg g, if_neg (fun x => g x.1)]

theorem roGood_l0 (r c : Int) (l p : List Int) (g : GoodB r c l) (hp : (p.length : Int) = r) : ∀ (d i k : Nat), i + d = p.length → d + 10 < k →
    spec_roGood.l0 k p p (p.length : Int) (i : Int) r c l = some (placF c l p d i) := by
  have hr := g.2.2.1; have hc := g.2.1; have hn := goodB_len g
  intro d
  induction d with
  | zero =>
    intro i k hi hk
    obtain ⟨k, rfl⟩ : ∃ m, k = m + 1 := ⟨k - 1, by omega⟩
    simp only [spec_roGood.l0]; rw [if_neg (by omega)]; rfl
  | succ d ih =>
    intro i k hi hk
    obtain ⟨k, rfl⟩ : ∃ m, k = m + 1 := ⟨k - 1, by omega⟩
    have hlt : i < p.length := by omega
    simp only [spec_roGood.l0]
    rw [if_pos (by omega), if_pos (by omega), if_pos (by omega), w64 (x := (i : Int) + 1) (by omega) (by omega), show ((i : Int) + 1) = ((i + 1 : Nat) : Int) from by omega, ih (i + 1) k (by omega) (by omega), w64 (by omega) (by omega), e_l1In]
    simp only [placF, okP, Option.bind_some, decide_eq_true_eq]
    by_cases h1 : rd p (i : Int) = -1
    · rw [if_pos h1]; simp [h1]
    · rw [if_neg h1]
      by_cases h2 : 0 ≤ rd p (i : Int) ∧ rd p (i : Int) ≤ c - 1
      · rw [if_pos h2, e_boHas r c l (i : Int) _ g ⟨by omega, h2⟩]
        simp only [Option.bind_some]
        by_cases h3 : cell (rd l (i : Int)) (rd p (i : Int)) = true
        · rw [if_pos h3, if_pos (by omega), Int.toNat_natCast, e_l1Has k _ _ (by rw [List.length_take]; omega) (by rw [List.length_take]; omega)]
          simp only [Option.bind_some]
          generalize (p.take i).contains (rd p (i : Int)) = q
          cases q <;> simp [h1, h2, h3]
        · rw [if_neg h3]; simp [h1, h3]
      · rw [if_neg h2]; simp [h1, h2]
theorem e_roGood (k : Nat) (r c : Int) (l p : List Int) (g : GoodB r c l) (hk : 100 ≤ k) : spec_roGood.f k r c l p = some (isPl r c l p) := by
  unfold spec_roGood.f isPl
  have hr := g.2.2.1; have hn := goodB_len g
  by_cases h : (p.length : Int) = r
  · rw [if_pos h]
    have := roGood_l0 r c l p g h p.length 0 k (by omega) (by omega)
    rw [show ((0 : Nat) : Int) = 0 from rfl] at this
    rw [this]; simp [h]
  · rw [if_neg h]; simp [h]

/-- Rows are laid into columns. -/
def tpF (p : List Int) : Nat → Nat → List Int → List Int
  | 0, _, out => out
  | d + 1, i, out => tpF p d (i + 1) (if rd p (i : Int) = -1 then out else out.set (rd p (i : Int)).toNat (i : Int))
theorem tpF_len (p : List Int) : ∀ d i out, (tpF p d i out).length = out.length
  | 0, _, _ => rfl
  | d + 1, i, out => by
    rw [tpF, tpF_len p d]
    split <;> simp
theorem placF_le (c : Int) (l p : List Int) : ∀ (d i : Nat), placF c l p d i = true → ∀ j, i ≤ j → j < i + d → rd p (j : Int) = -1 ∨ (0 ≤ rd p (j : Int) ∧ rd p (j : Int) ≤ c - 1)
  | 0, _, _, j, h1, h2 => by omega
  | d + 1, i, h, j, h1, h2 => by
    rw [placF, Bool.and_eq_true] at h
    by_cases hj : j = i
    · subst hj
      have := h.1
      unfold okP at this
      simp only [Bool.or_eq_true, Bool.and_eq_true, decide_eq_true_eq] at this
      rcases this with h | h
      · exact .inl h
      · exact .inr h.1
    · exact placF_le c l p d (i + 1) h.2 j (by omega) (by omega)
theorem tp_spec (p : List Int) (n : Nat) (hp : p.length ≤ 6) (hn : ∀ j, j < p.length → rd p (j : Int) = -1 ∨ (0 ≤ rd p (j : Int) ∧ rd p (j : Int) < n)) : ∀ (d i k : Nat) (out : List Int), out.length = n → i + d = p.length → d < k → spec_TurnPlacement.l1 k out p (p.length : Int) (i : Int) = some (tpF p d i out, true) := by
  intro d
  induction d with
  | zero =>
    intro i k out ho hi hk
    obtain ⟨k, rfl⟩ : ∃ m, k = m + 1 := ⟨k - 1, by omega⟩
    rw [spec_TurnPlacement.l1, if_neg (by omega)]; rfl
  | succ d ih =>
    intro i k out ho hi hk
    obtain ⟨k, rfl⟩ : ∃ m, k = m + 1 := ⟨k - 1, by omega⟩
    have hv := hn i (by omega)
    rw [spec_TurnPlacement.l1, if_pos (by omega), if_pos (by omega), if_pos (by omega), w64 (x := (i : Int) + 1) (by omega) (by omega), show ((i : Int) + 1) = ((i + 1 : Nat) : Int) from by omega, tpF]
    by_cases h : rd p (i : Int) = -1
    · rw [if_neg (by omega), if_pos h, ih (i + 1) k out ho (by omega) (by omega)]
    · rw [if_pos (by omega), if_pos (by omega), if_pos (by omega), if_neg h, ih (i + 1) k _ (by simpa using ho) (by omega) (by omega)]
theorem tp_impl (p : List Int) (n : Nat) (hp : p.length ≤ 6) (hn : ∀ j, j < p.length → rd p (j : Int) = -1 ∨ (0 ≤ rd p (j : Int) ∧ rd p (j : Int) < n)) : ∀ (d i k : Nat) (out : List Int), out.length = n → i + d = p.length → d < k → impl_TurnPlacement.l0 k out p (p.length : Int) (i : Int) = some (tpF p d i out, true) := by
  intro d
  induction d with
  | zero =>
    intro i k out ho hi hk
    obtain ⟨k, rfl⟩ : ∃ m, k = m + 1 := ⟨k - 1, by omega⟩
    rw [impl_TurnPlacement.l0, if_neg (by omega)]; rfl
  | succ d ih =>
    intro i k out ho hi hk
    obtain ⟨k, rfl⟩ : ∃ m, k = m + 1 := ⟨k - 1, by omega⟩
    have hv := hn i (by omega)
    rw [impl_TurnPlacement.l0, if_pos (by omega), if_pos (by omega), if_pos (by omega), w64 (x := (i : Int) + 1) (by omega) (by omega), show ((i : Int) + 1) = ((i + 1 : Nat) : Int) from by omega, tpF]
    by_cases h : rd p (i : Int) = -1
    · rw [if_pos h, if_pos h, ih (i + 1) k out ho (by omega) (by omega)]
    · rw [if_neg h, if_pos (by omega), if_pos (by omega), if_neg h, ih (i + 1) k _ (by simpa using ho) (by omega) (by omega)]
theorem tp_l0 (p : List Int) (r c : Int) (l : List Int) (hc : 0 ≤ c ∧ c ≤ 6) : ∀ (d i k : Nat), (i : Int) + d = c → spec_TurnPlacement.l0 (k + d + 1) p (List.replicate i (-1)) (i : Int) r c l = spec_TurnPlacement.l1 k (List.replicate c.toNat (-1)) p (p.length : Int) 0 := by
  intro d
  induction d with
  | zero =>
    intro i k hi
    rw [show k + 0 + 1 = k + 1 from rfl, spec_TurnPlacement.l0, if_neg (by omega), show i = c.toNat by omega]
  | succ d ih =>
    intro i k hi
    rw [show k + (d + 1) + 1 = (k + d + 1) + 1 by omega, spec_TurnPlacement.l0, if_pos (by omega), if_pos (by simp; omega), w64 (x := (i : Int) + 1) (by omega) (by omega), show ((i : Int) + 1) = ((i + 1 : Nat) : Int) from by omega, show List.replicate i (-1 : Int) ++ [-1] = List.replicate (i + 1) (-1) by rw [List.replicate_succ']]
    exact ih (i + 1) k (by omega)
def tpOut (r c : Int) (l p : List Int) : List Int × Bool := if GoodB r c l ∧ isPl r c l p = true then (tpF p p.length 0 (List.replicate c.toNat (-1)), true) else ([], false)
theorem tpOut_len (r c : Int) (l p : List Int) : (tpOut r c l p).1.length ≤ 6 := by
  unfold tpOut
  split
  · rename_i h; have := h.1.2.1; rw [tpF_len, List.length_replicate]; omega
  · simp
theorem pl_bound (r c : Int) (l p : List Int) (g : GoodB r c l) (h : isPl r c l p = true) : p.length ≤ 6 ∧ ∀ j, j < p.length → rd p (j : Int) = -1 ∨ (0 ≤ rd p (j : Int) ∧ rd p (j : Int) < (c.toNat : Int)) := by
  unfold isPl at h
  rw [Bool.and_eq_true, decide_eq_true_eq] at h
  have h1 := g.1; have h2 := g.2.1
  refine ⟨by omega, fun j hj => ?_⟩
  rcases placF_le c l p p.length 0 h.2 j (by omega) (by omega) with h | h
  · exact .inl h
  · exact .inr (by omega)
theorem e_TurnPlacement (k : Nat) (r c : Int) (l p : List Int) (hl : l.length ≤ 1048576) (hk : 2000000 ≤ k) : spec_TurnPlacement.f k r c l p = some (tpOut r c l p) := by
  unfold spec_TurnPlacement.f tpOut
  rw [e_boGood k r c l (by omega) (by omega)]
  simp only [Option.bind_some, decide_eq_true_eq]
  obtain ⟨k, rfl⟩ : ∃ m, k = m + 1 := ⟨k - 1, by omega⟩
  by_cases g : GoodB r c l
  · have h2 := g.2.1
    rw [if_pos g, e_roGood _ r c l p g (by omega), Option.bind_some]
    by_cases h : isPl r c l p = true
    · obtain ⟨hp, hn⟩ := pl_bound r c l p g h
      rw [if_pos ⟨g, h⟩, h, spec_TurnPlacement.j0, if_neg (by decide)]
      obtain ⟨k', rfl⟩ : ∃ m, k = m + c.toNat + 1 := ⟨k - c.toNat - 1, by omega⟩
      have e1 := tp_l0 p r c l (by omega) c.toNat 0 k' (by omega)
      rw [show ((0 : Nat) : Int) = 0 from rfl, List.replicate_zero] at e1
      have e2 := tp_spec p c.toNat hp hn p.length 0 k' (List.replicate c.toNat (-1)) (by simp) (by omega) (by omega)
      rw [show ((0 : Nat) : Int) = 0 from rfl] at e2
      rw [e1, e2]
    · rw [if_neg (fun x => h x.2), Bool.eq_false_iff.2 h, spec_TurnPlacement.j0]; rfl
  · rw [if_neg g, if_neg (fun x => g x.1), spec_TurnPlacement.j0]; rfl
theorem i_TurnPlacement (k : Nat) (r c : Int) (l p : List Int) (hk : 10000 ≤ k) : impl_TurnPlacement.f k r c l p = some (tpOut r c l p) := by
  unfold impl_TurnPlacement.f tpOut
  rw [i_IsBoard]
  simp only [Option.bind_some, decide_eq_true_eq]
  obtain ⟨k, rfl⟩ : ∃ m, k = m + 1 := ⟨k - 1, by omega⟩
  by_cases g : GoodB r c l
  · have h2 := g.2.1
    rw [if_pos g, i_isPlacement _ r c l p g (by omega), Option.bind_some]
    by_cases h : isPl r c l p = true
    · obtain ⟨hp, hn⟩ := pl_bound r c l p g h
      rw [if_pos ⟨g, h⟩, h, impl_TurnPlacement.j0, if_neg (by decide)]
      have e2 := tp_impl p c.toNat hp hn p.length 0 k (List.replicate c.toNat (-1)) (by simp) (by omega) (by omega)
      rw [show ((0 : Nat) : Int) = 0 from rfl] at e2
      unfold slices_Repeat_int_int.f
      rw [if_pos ⟨rfl, by omega, by omega⟩, Option.bind_some]
      exact e2
    · rw [if_neg (fun x => h x.2), Bool.eq_false_iff.2 h, impl_TurnPlacement.j0]; rfl
  · rw [if_neg g, if_neg (fun x => g x.1), impl_TurnPlacement.j0]; rfl

/-- The cells of a row from a column on. -/
def rowC (m i : Int) : Nat → Nat → List (List Int)
  | 0, _ => []
  | d + 1, j => (if cell m (j : Int) = true then [[i, (j : Int)]] else []) ++ rowC m i d (j + 1)
/-- The cells of rows. -/
def cellsC (c : Nat) : List Int → Int → List (List Int)
  | [], _ => []
  | m :: r, i => rowC m i c 0 ++ cellsC c r (i + 1)
theorem rowC_len (m i : Int) : ∀ d j, (rowC m i d j).length ≤ d
  | 0, _ => Nat.le_refl _
  | d + 1, j => by
    have := rowC_len m i d (j + 1)
    simp only [rowC, List.length_append]
    split <;> simp <;> omega
theorem cellsC_len (c : Nat) : ∀ l i, (cellsC c l i).length ≤ l.length * c
  | [], _ => by simp [cellsC]
  | m :: r, i => by
    have := cellsC_len c r (i + 1); have := rowC_len m i c 0
    simp only [cellsC, List.length_append, List.length_cons, Nat.add_mul]
    omega
theorem place_nat {r c : Int} {i j : Nat} (hi : (i : Int) < r) (hj : (j : Int) < c) : Place r c (i : Int) (j : Int) := ⟨⟨by omega, by omega⟩, by omega, by omega⟩

theorem rdL (l : List (List Int)) (i : Nat) (h : i < l.length) : rd_L2 l (i : Int) = l[i] := by
  unfold rd_L2; simp [List.getD, h]
theorem rd_set_self (l : List Int) (i : Nat) (v : Int) (h : i < l.length) : rd (l.set i v) (i : Int) = v := by
  rw [rd_nat _ i (by simpa using h)]; simp
theorem rowC_mem (m i : Int) : ∀ d j x, x ∈ rowC m i d j → ∃ c : Nat, x = [i, (c : Int)] ∧ j ≤ c ∧ c < j + d
  | 0, _, x, h => by simp [rowC] at h
  | d + 1, j, x, h => by
    simp only [rowC, List.mem_append] at h
    rcases h with h | h
    · split at h
      · simp at h; exact ⟨j, h, Nat.le_refl _, by omega⟩
      · simp at h
    · obtain ⟨c, e, h1, h2⟩ := rowC_mem m i d (j + 1) x h
      exact ⟨c, e, by omega, by omega⟩
theorem cellsC_mem (c : Nat) : ∀ (l : List Int) (i : Nat) x, x ∈ cellsC c l (i : Int) → ∃ a b : Nat, x = [(a : Int), (b : Int)] ∧ i ≤ a ∧ a < i + l.length ∧ b < c
  | [], _, x, h => by simp [cellsC] at h
  | m :: t, i, x, h => by
    simp only [cellsC, List.mem_append] at h
    rcases h with h | h
    · obtain ⟨b, e, _, h2⟩ := rowC_mem _ _ _ _ x h
      exact ⟨i, b, e, Nat.le_refl _, by simp, by omega⟩
    · rw [show ((i : Int) + 1) = ((i + 1 : Nat) : Int) from by omega] at h
      obtain ⟨a, b, e, h1, h2, h3⟩ := cellsC_mem c t (i + 1) x h
      exact ⟨a, b, e, by omega, by simp; omega, h3⟩

/-- Each cell changes the number of its column by its row. -/
def foldCol (f : Int → Int → Int) : List (List Int) → List Int → List Int
  | [], out => out
  | x :: t, out => foldCol f t (out.set (rd x 1).toNat (f (rd out (rd x 1)) (rd x 0)))
theorem foldCol_app (f : Int → Int → Int) : ∀ a b out, foldCol f (a ++ b) out = foldCol f b (foldCol f a out)
  | [], _, _ => rfl
  | x :: t, b, out => by simp only [List.cons_append, foldCol, foldCol_app f t b]
theorem foldCol_len (f : Int → Int → Int) : ∀ cs out, (foldCol f cs out).length = out.length
  | [], _ => rfl
  | x :: t, out => by simp only [foldCol, foldCol_len f t, List.length_set]
/-- Numbers below 2 to i from a column on. -/
def Low (i : Nat) (j : Nat) (out : List Int) : Prop := ∀ b (h : b < out.length), 0 ≤ out[b] ∧ out[b] < (if j ≤ b then 2 ^ i else 2 ^ (i + 1))
theorem foldCol_row (f g : Int → Int → Int) (hfg : ∀ (v : Int) (a : Nat), 0 ≤ v → v < 2 ^ a → a ≤ 5 → f v a = g v a ∧ 0 ≤ f v a ∧ f v a < 2 ^ (a + 1)) (m : Int) (i : Nat) (hi : i ≤ 5) :
    ∀ (d j : Nat) (out : List Int), j + d ≤ out.length → Low i j out → foldCol f (rowC m (i : Int) d j) out = foldCol g (rowC m (i : Int) d j) out ∧ Low i (j + d) (foldCol f (rowC m (i : Int) d j) out)
  | 0, j, out, _, hl => ⟨rfl, hl⟩
  | d + 1, j, out, hd, hl => by
    simp only [rowC, foldCol_app]
    have hlt : j < out.length := by omega
    have hj := hl j hlt
    rw [if_pos (Nat.le_refl j)] at hj
    have hf := hfg out[j] i hj.1 hj.2 hi
    by_cases hc : cell m (j : Int) = true
    · simp only [hc, if_true, foldCol]
      have e0 : rd [(i : Int), (j : Int)] 0 = (i : Int) := rfl
      have e1 : rd [(i : Int), (j : Int)] 1 = (j : Int) := rfl
      rw [e0, e1, Int.toNat_natCast, rd_nat out j hlt, ← hf.1]
      have hl' : Low i (j + 1) (out.set j (f out[j] i)) := by
        intro b hb
        rw [List.length_set] at hb
        by_cases hjb : j = b
        · subst hjb
          rw [List.getElem_set_self, if_neg (by omega)]; exact hf.2
        · rw [List.getElem_set_ne hjb]
          have := hl b hb
          by_cases h1 : j ≤ b
          · rw [if_pos h1] at this; rw [if_pos (by omega)]; exact this
          · rw [if_neg h1] at this; rw [if_neg (by omega)]; exact this
      have := foldCol_row f g hfg m i hi d (j + 1) _ (by simpa using (by omega : j + 1 + d ≤ out.length)) hl'
      rw [show j + (d + 1) = j + 1 + d from by omega]; exact this
    · simp only [hc, Bool.false_eq_true, if_false, foldCol]
      have hl' : Low i (j + 1) out := by
        intro b hb
        have := hl b hb
        by_cases h1 : j + 1 ≤ b
        · rw [if_pos (by omega)] at this; rw [if_pos h1]; exact this
        · rw [if_neg h1]
          by_cases h2 : j ≤ b
          · rw [if_pos h2] at this
            have : (2 : Int) ^ i ≤ 2 ^ (i + 1) := by rw [Int.pow_succ]; have : (0 : Int) < 2 ^ i := Int.pow_pos (by omega); omega
            omega
          · rw [if_neg h2] at this; exact this
      have := foldCol_row f g hfg m i hi d (j + 1) out (by omega) hl'
      rw [show j + (d + 1) = j + 1 + d from by omega]; exact this
theorem foldCol_cells (f g : Int → Int → Int) (hfg : ∀ (v : Int) (a : Nat), 0 ≤ v → v < 2 ^ a → a ≤ 5 → f v a = g v a ∧ 0 ≤ f v a ∧ f v a < 2 ^ (a + 1)) (c : Nat) :
    ∀ (l : List Int) (i : Nat) (out : List Int), i + l.length ≤ 6 → out.length = c → Low i 0 out → foldCol f (cellsC c l (i : Int)) out = foldCol g (cellsC c l (i : Int)) out
  | [], _, _, _, _, _ => rfl
  | m :: t, i, out, hi, hc, hl => by
    simp only [List.length_cons] at hi
    simp only [cellsC, foldCol_app]
    have := foldCol_row f g hfg m i (by omega) c 0 out (by omega) hl
    rw [← this.1, show ((i : Int) + 1) = ((i + 1 : Nat) : Int) from by omega]
    refine foldCol_cells f g hfg c t (i + 1) _ (by omega) (by rw [foldCol_len, hc]) ?_
    intro b hb
    have h2 := this.2 b hb
    rw [foldCol_len] at hb
    rw [if_neg (by omega)] at h2
    rw [if_pos (Nat.zero_le b)]; exact h2
theorem low_zero (n : Nat) : Low 0 0 (List.replicate n 0) := by
  intro b hb
  rw [if_pos (Nat.zero_le b)]; simp
def addT (v a : Int) : Int := wrap64 (v + shl .i64 1 a)
def orT (v a : Int) : Int := Go.bits .or .i64 v (shl .i64 1 a)
theorem add_or (v : Int) (a : Nat) (h0 : 0 ≤ v) (h1 : v < 2 ^ a) (ha : a ≤ 5) : addT v a = orT v a ∧ 0 ≤ addT v a ∧ addT v a < 2 ^ (a + 1) := by
  have key : ∀ a : Fin 6, ∀ v : Fin 32, (v.val : Int) < 2 ^ a.val → addT (v.val : Int) (a.val : Int) = orT (v.val : Int) (a.val : Int) ∧ 0 ≤ addT (v.val : Int) (a.val : Int) ∧ addT (v.val : Int) (a.val : Int) < 2 ^ (a.val + 1) := by decide +kernel
  have hp : (2 : Int) ^ a ≤ 32 := by
    have : ∀ a : Fin 6, (2 : Int) ^ a.val ≤ 32 := by decide +kernel
    exact this ⟨a, by omega⟩
  obtain ⟨i, rfl⟩ := fin_of v 32 h0 (by omega)
  exact key ⟨a, by omega⟩ i h1

theorem i_newBoard (r c : Int) (h : 0 ≤ r ∧ r ≤ 6) : impl_newBoard.f r c = some (r, c, List.replicate r.toNat 0) := by
  unfold impl_newBoard.f; rw [if_pos (by omega), if_pos (by omega)]

theorem turned_l1 (r c : Int) (l : List Int) (g : GoodB r c l) (R C : Int) (i : Nat) (hi : i < l.length) : ∀ (d j k : Nat) (out : List Int), (j : Int) + d = c → (out.length : Int) = c →
    impl_Board_turned.l1 (k + d + 1) (i : Int) r (i : Int) c (j : Int) r c l R C out = impl_Board_turned.l0 k r ((i + 1 : Nat) : Int) r c l R C (foldCol orT (rowC l[i] (i : Int) d j) out) := by
  have hr := g.2.2.1; have hc := g.2.1; have hn := goodB_len g
  intro d
  induction d with
  | zero =>
    intro j k out hj ho
    simp only [Nat.add_zero, impl_Board_turned.l1]
    rw [if_neg (by omega), w64 (by omega) (by omega)]; simp [rowC, foldCol]
  | succ d ih =>
    intro j k out hj ho
    obtain ⟨K, hK⟩ : ∃ K, K = k + d + 1 := ⟨_, rfl⟩
    rw [show k + (d + 1) + 1 = K + 1 from by omega]
    simp only [impl_Board_turned.l1]
    rw [if_pos (by omega), i_has r c l _ _ g (place_nat (by omega) (by omega)), rd_nat l i hi, w64 (x := (j : Int) + 1) (by omega) (by omega), show ((j : Int) + 1) = ((j + 1 : Nat) : Int) from by omega]
    simp only [Option.bind_some]
    by_cases h : cell l[i] (j : Int) = true
    · rw [if_pos h, if_pos (by omega), if_pos (by omega), if_pos (by omega), hK, ih (j + 1) k _ (by omega) (by simpa using ho)]
      simp only [rowC, h, if_true, List.singleton_append, foldCol]
      rfl
    · rw [if_neg h, hK, ih (j + 1) k _ (by omega) ho]
      simp only [rowC, h, if_false, List.nil_append, Bool.false_eq_true]
theorem turned_l0 (r c : Int) (l : List Int) (g : GoodB r c l) (R C : Int) (C' : Nat) (hC : (C' : Int) = c) : ∀ (d i k : Nat) (out : List Int), i + d = l.length → (out.length : Int) = c → d * (C' + 2) < k →
    impl_Board_turned.l0 k r (i : Int) r c l R C out = some (R, C, foldCol orT (cellsC C' (l.drop i) (i : Int)) out) := by
  have hr := g.2.2.1; have hc := g.2.1; have hn := goodB_len g
  intro d
  induction d with
  | zero =>
    intro i k out hi ho hk
    obtain ⟨k, rfl⟩ : ∃ m, k = m + 1 := ⟨k - 1, by omega⟩
    simp only [impl_Board_turned.l0]
    rw [if_neg (by omega), List.drop_eq_nil_of_le (by omega)]; simp [cellsC, foldCol]
  | succ d ih =>
    intro i k out hi ho hk
    rw [Nat.add_mul] at hk
    obtain ⟨k, rfl⟩ : ∃ m, k = (m + C' + 1) + 1 := ⟨k - C' - 2, by omega⟩
    have hlt : i < l.length := by omega
    simp only [impl_Board_turned.l0]
    have := turned_l1 r c l g R C i hlt C' 0 k out (by omega) ho
    rw [if_pos (by omega), show (0 : Int) = ((0 : Nat) : Int) from rfl, this]
    rw [ih (i + 1) k _ (by omega) (by rw [foldCol_len]; exact ho) (by omega), List.drop_eq_getElem_cons hlt]
    simp only [cellsC, foldCol_app]
    rw [show ((i : Int) + 1) = ((i + 1 : Nat) : Int) from by omega]
/-- The numbers of a turned board. -/
def turnL (r c : Int) (l : List Int) : List Int := foldCol addT (cellsC c.toNat l 0) (List.replicate c.toNat 0)
theorem turnL_len (r c : Int) (l : List Int) : (turnL r c l).length = c.toNat := by unfold turnL; rw [foldCol_len]; simp
theorem i_turned (k : Nat) (r c : Int) (l : List Int) (g : GoodB r c l) (hk : 1000 ≤ k) : impl_Board_turned.f k r c l = some (c, r, turnL r c l) := by
  unfold impl_Board_turned.f turnL
  have h1 := g.1; have h2 := g.2.1; have hn := goodB_len g; have h3 := g.2.2.1
  have hb2 : l.length * (c.toNat + 2) ≤ 6 * 8 := Nat.mul_le_mul (by omega) (by omega)
  rw [i_newBoard c r (by omega)]
  simp only [Option.bind_some]
  have := turned_l0 r c l g c r c.toNat (by omega) l.length 0 k (List.replicate c.toNat 0) (by omega) (by simp; omega) (by omega)
  rw [show ((0 : Nat) : Int) = 0 from rfl] at this
  rw [this]
  have e := foldCol_cells addT orT add_or c.toNat l 0 (List.replicate c.toNat 0) (by omega) (by simp) (low_zero _)
  rw [show ((0 : Nat) : Int) = 0 from rfl] at e
  simp only [List.drop_zero, e]

def turnOut (r c : Int) (l : List Int) : Int × Int × List Int × Bool := if GoodB r c l then (c, r, turnL r c l, true) else (0, 0, [], false)
theorem turnOut_len (r c : Int) (l : List Int) : (turnOut r c l).2.2.1.length ≤ 6 := by
  unfold turnOut
  split
  · rename_i h; have := h.2.1; simp only [turnL_len]; omega
  · simp
theorem i_TurnBoard (k : Nat) (r c : Int) (l : List Int) (hk2 : 1000 ≤ k) : impl_TurnBoard.f k r c l = some (turnOut r c l) := by
  unfold impl_TurnBoard.f turnOut
  rw [i_IsBoard]
  simp only [Option.bind_some, decide_eq_true_eq]
  by_cases g : GoodB r c l
  · rw [if_pos g, if_pos g, i_turned k r c l g hk2]; rfl
  · rw [if_neg g, if_neg g]

theorem addT_val (v : Int) (i : Nat) (h0 : 0 ≤ v) (h1 : v < 2 ^ i) (hi : i ≤ 5) : addT v i = v + 2 ^ i := by
  have key : ∀ a : Fin 6, ∀ v : Fin 32, addT (v.val : Int) (a.val : Int) = v.val + 2 ^ a.val := by decide +kernel
  have hp : (2 : Int) ^ i ≤ 32 := by
    have : ∀ a : Fin 6, (2 : Int) ^ a.val ≤ 32 := by decide +kernel
    exact this ⟨i, by omega⟩
  obtain ⟨f, rfl⟩ := fin_of v 32 h0 (by omega)
  exact key ⟨i, by omega⟩ f
theorem cell_add (v : Int) (i : Nat) (h0 : 0 ≤ v) (h1 : v < 2 ^ i) (hi : i ≤ 5) (b : Bool) : (0 ≤ v + (if b = true then 2 ^ i else 0) ∧ v + (if b = true then 2 ^ i else 0) < 2 ^ (i + 1)) ∧ (∀ q : Nat, q < i → cell (v + (if b = true then 2 ^ i else 0)) (q : Int) = cell v (q : Int)) ∧ cell (v + (if b = true then 2 ^ i else 0)) (i : Int) = b := by
  have key : ∀ a : Fin 6, ∀ v : Fin 32, (v.val : Int) < 2 ^ a.val → ∀ b : Bool, (0 ≤ (v.val : Int) + (if b = true then 2 ^ a.val else 0) ∧ (v.val : Int) + (if b = true then 2 ^ a.val else 0) < 2 ^ (a.val + 1)) ∧ (∀ q : Fin 6, q.val < a.val → cell ((v.val : Int) + (if b = true then 2 ^ a.val else 0)) (q.val : Int) = cell (v.val : Int) (q.val : Int)) ∧ cell ((v.val : Int) + (if b = true then 2 ^ a.val else 0)) (a.val : Int) = b := by decide +kernel
  have hp : (2 : Int) ^ i ≤ 32 := by
    have : ∀ a : Fin 6, (2 : Int) ^ a.val ≤ 32 := by decide +kernel
    exact this ⟨i, by omega⟩
  obtain ⟨f, rfl⟩ := fin_of v 32 h0 (by omega)
  obtain ⟨k1, k2, k3⟩ := key ⟨i, by omega⟩ f h1 b
  exact ⟨k1, fun q hq => k2 ⟨q, by omega⟩ hq, k3⟩
theorem row_val (m : Int) (i : Nat) (hi : i ≤ 5) : ∀ (d j : Nat) (out : List Int), j + d ≤ out.length → Low i j out → ∀ b : Nat, b < out.length → rd (foldCol addT (rowC m (i : Int) d j) out) (b : Int) = if j ≤ b ∧ b < j + d then rd out (b : Int) + (if cell m (b : Int) = true then 2 ^ i else 0) else rd out (b : Int)
  | 0, j, out, _, _, b, hb => by rw [if_neg (by omega)]; rfl
  | d + 1, j, out, hd, hl, b, hb => by
    simp only [rowC, foldCol_app]
    have hlt : j < out.length := by omega
    have hj := hl j hlt
    rw [if_pos (Nat.le_refl j)] at hj
    have hf := add_or out[j] i hj.1 hj.2 hi
    have hv := addT_val out[j] i hj.1 hj.2 hi
    by_cases hc : cell m (j : Int) = true
    · simp only [hc, if_true, foldCol]
      have e0 : rd [(i : Int), (j : Int)] 0 = (i : Int) := rfl
      have e1 : rd [(i : Int), (j : Int)] 1 = (j : Int) := rfl
      rw [e0, e1, Int.toNat_natCast, rd_nat out j hlt]
      have hl' : Low i (j + 1) (out.set j (addT out[j] i)) := by
        intro b hb
        rw [List.length_set] at hb
        by_cases hjb : j = b
        · subst hjb
          rw [List.getElem_set_self, if_neg (by omega)]; exact hf.2
        · rw [List.getElem_set_ne hjb]
          have := hl b hb
          by_cases h1 : j ≤ b
          · rw [if_pos h1] at this; rw [if_pos (by omega)]; exact this
          · rw [if_neg h1] at this; rw [if_neg (by omega)]; exact this
      rw [row_val m i hi d (j + 1) _ (by rw [List.length_set]; omega) hl' b (by rw [List.length_set]; exact hb)]
      have hs : rd (out.set j (addT out[j] i)) (b : Int) = if j = b then addT out[j] i else rd out (b : Int) := by
        unfold rd
        simp only [List.getD, Int.toNat_natCast, List.getElem?_set]
        by_cases hij : j = b
        · subst hij; simp [hlt]
        · simp [hij]
      rw [hs]
      by_cases hjb : j = b
      · subst hjb
        rw [if_neg (by omega), if_pos rfl, if_pos (by omega), if_pos hc, hv, rd_nat out j hlt]
      · rw [if_neg hjb]
        by_cases h2 : j + 1 ≤ b ∧ b < j + 1 + d
        · rw [if_pos h2, if_pos (show j ≤ b ∧ b < j + (d + 1) by omega)]
        · rw [if_neg h2, if_neg (show ¬ (j ≤ b ∧ b < j + (d + 1)) by omega)]
    · simp only [hc, Bool.false_eq_true, if_false, foldCol]
      have hl' : Low i (j + 1) out := by
        intro b hb
        have := hl b hb
        by_cases h1 : j + 1 ≤ b
        · rw [if_pos (by omega)] at this; rw [if_pos h1]; exact this
        · rw [if_neg h1]
          by_cases h2 : j ≤ b
          · rw [if_pos h2] at this
            have : (2 : Int) ^ i ≤ 2 ^ (i + 1) := by rw [Int.pow_succ]; have : (0 : Int) < 2 ^ i := Int.pow_pos (by omega); omega
            omega
          · rw [if_neg h2] at this; exact this
      rw [row_val m i hi d (j + 1) out (by omega) hl' b hb]
      by_cases hjb : j = b
      · subst hjb
        rw [if_neg (by omega), if_pos (by omega), if_neg hc, Int.add_zero]
      · by_cases h2 : j + 1 ≤ b ∧ b < j + 1 + d
        · rw [if_pos h2, if_pos (show j ≤ b ∧ b < j + (d + 1) by omega)]
        · rw [if_neg h2, if_neg (show ¬ (j ≤ b ∧ b < j + (d + 1)) by omega)]
theorem turn_cells (c : Nat) : ∀ (l : List Int) (i : Nat) (out : List Int), i + l.length ≤ 6 → out.length = c → Low i 0 out → ∀ j : Nat, j < c → (0 ≤ rd (foldCol addT (cellsC c l (i : Int)) out) (j : Int) ∧ rd (foldCol addT (cellsC c l (i : Int)) out) (j : Int) < 2 ^ (i + l.length)) ∧ ∀ q : Nat, q < i + l.length → cell (rd (foldCol addT (cellsC c l (i : Int)) out) (j : Int)) (q : Int) = if q < i then cell (rd out (j : Int)) (q : Int) else cell (rd l ((q - i : Nat) : Int)) (j : Int)
  | [], i, out, hi, hc, hl, j, hj => by
    have := hl j (by omega)
    rw [if_pos (Nat.zero_le j), ← rd_nat out j (by omega)] at this
    simp only [cellsC, foldCol, List.length_nil, Nat.add_zero]
    exact ⟨this, fun q hq => by rw [if_pos hq]⟩
  | m :: t, i, out, hi, hc, hl, j, hj => by
    simp only [List.length_cons] at hi ⊢
    simp only [cellsC, foldCol_app]
    have hlow := (foldCol_row addT addT (fun v a h0 h1 ha => ⟨rfl, (add_or v a h0 h1 ha).2⟩) m i (by omega) c 0 out (by omega) hl).2
    have hv := row_val m i (by omega) c 0 out (by omega) hl j (by omega)
    rw [if_pos (by omega)] at hv
    have hlo := hl j (by omega)
    rw [if_pos (Nat.zero_le j), ← rd_nat out j (by omega)] at hlo
    have hl2 : Low (i + 1) 0 (foldCol addT (rowC m (i : Int) c 0) out) := by
      intro b hb
      have h2 := hlow b hb
      rw [foldCol_len] at hb
      rw [if_neg (by omega)] at h2
      rw [if_pos (Nat.zero_le b)]; exact h2
    obtain ⟨h1, h2⟩ := turn_cells c t (i + 1) _ (by omega) (by rw [foldCol_len, hc]) hl2 j hj
    rw [show ((i + 1 : Nat) : Int) = (i : Int) + 1 by omega] at h1 h2
    obtain ⟨_, k2, k3⟩ := cell_add (rd out (j : Int)) i hlo.1 hlo.2 (by omega) (cell m (j : Int))
    refine ⟨by rw [show i + (t.length + 1) = i + 1 + t.length by omega]; exact h1, fun q hq => ?_⟩
    rw [h2 q (by omega), hv]
    by_cases a1 : q < i
    · rw [if_pos (by omega), if_pos a1, k2 q a1]
    · rw [if_neg a1]
      by_cases a2 : q = i
      · subst a2
        rw [if_pos (by omega), k3, Nat.sub_self]; rfl
      · rw [if_neg (by omega), show q - i = (q - (i + 1)) + 1 by omega]
        congr 1
/-- The cells of a turned board. -/
theorem turn_good (r c : Int) (l : List Int) (g : GoodB r c l) (T : List Int) (hT : T = foldCol addT (cellsC c.toNat l 0) (List.replicate c.toNat 0)) : GoodB c r T ∧ ∀ i j : Nat, (i : Int) < r → (j : Int) < c → cell (rd T (j : Int)) (i : Int) = cell (rd l (i : Int)) (j : Int) := by
  subst hT
  have g1 := g.1; have g2 := g.2.1; have g3 := g.2.2.1
  have key := turn_cells c.toNat l 0 (List.replicate c.toNat 0) (by omega) (by simp) (low_zero _)
  rw [show ((0 : Nat) : Int) = 0 from rfl] at key
  have hlen : (foldCol addT (cellsC c.toNat l 0) (List.replicate c.toNat 0)).length = c.toNat := by rw [foldCol_len]; simp
  refine ⟨⟨g2, g1, by omega, fun x hx => ?_⟩, fun i j hi hj => ?_⟩
  · obtain ⟨j, hj, rfl⟩ := List.getElem_of_mem hx
    have := (key j (by omega)).1
    rw [rd_nat _ j hj, show 0 + l.length = r.toNat by omega] at this
    omega
  · have := (key j (by omega)).2 i (by omega)
    rw [if_neg (by omega), Nat.sub_zero] at this
    exact this

theorem tpF_miss (p : List Int) (j : Nat) : ∀ (d i : Nat) (out : List Int), (∀ q : Nat, i ≤ q → q < i + d → rd p (q : Int) ≠ (j : Int)) → (∀ q : Nat, i ≤ q → q < i + d → -1 ≤ rd p (q : Int)) → rd (tpF p d i out) (j : Int) = rd out (j : Int)
  | 0, i, out, _, _ => rfl
  | d + 1, i, out, h, hb => by
    rw [tpF, tpF_miss p j d (i + 1) _ (fun q h1 h2 => h q (by omega) (by omega)) (fun q h1 h2 => hb q (by omega) (by omega))]
    have h0 := h i (Nat.le_refl i) (by omega)
    have b0 := hb i (Nat.le_refl i) (by omega)
    split
    · rfl
    · by_cases hlt : (rd p (i : Int)).toNat < out.length
      · rw [rd_set _ _ _ _ hlt, if_neg (by omega)]
      · rw [List.set_eq_of_length_le (by omega)]
theorem tpF_hit (p : List Int) (j a : Nat) (ha : rd p (a : Int) = (j : Int)) : ∀ (d i : Nat) (out : List Int), i ≤ a → a < i + d → j < out.length → (∀ q : Nat, i ≤ q → q < i + d → -1 ≤ rd p (q : Int)) → (∀ q : Nat, a < q → q < i + d → rd p (q : Int) ≠ (j : Int)) → rd (tpF p d i out) (j : Int) = (a : Int)
  | 0, i, out, h1, h2, _, _, _ => by omega
  | d + 1, i, out, h1, h2, hj, hb, hd => by
    rw [tpF]
    by_cases e : i = a
    · subst e
      rw [tpF_miss p j d (i + 1) _ (fun q h1 h2 => hd q (by omega) (by omega)) (fun q h1 h2 => hb q (by omega) (by omega)), ha, if_neg (by omega), Int.toNat_natCast, rd_set _ _ _ _ hj, if_pos rfl]
    · exact tpF_hit p j a ha d (i + 1) _ (by omega) (by omega) (by split <;> simpa using hj) (fun q h1 h2 => hb q (by omega) (by omega)) (fun q h1 h2 => hd q h1 (by omega))
theorem rd_rep (n j : Nat) (h : j < n) : rd (List.replicate n (-1 : Int)) (j : Int) = -1 := by
  rw [rd_nat _ j (by simpa using h)]; simp
/-- What a placement is, place by place. -/
theorem pl_spec (c : Int) (l p : List Int) : ∀ (d i : Nat), placF c l p d i = true → ∀ j, i ≤ j → j < i + d → okP c l p j = true
  | 0, _, _, j, h1, h2 => by omega
  | d + 1, i, h, j, h1, h2 => by
    rw [placF, Bool.and_eq_true] at h
    by_cases hj : j = i
    · subst hj; exact h.1
    · exact pl_spec c l p d (i + 1) h.2 j (by omega) (by omega)
theorem pl_back (c : Int) (l p : List Int) : ∀ (d i : Nat), (∀ j, i ≤ j → j < i + d → okP c l p j = true) → placF c l p d i = true
  | 0, _, _ => rfl
  | d + 1, i, h => by
    rw [placF, h i (Nat.le_refl i) (by omega), pl_back c l p d (i + 1) (fun j h1 h2 => h j (by omega) (by omega))]; rfl
theorem okP_iff (c : Int) (l p : List Int) (i : Nat) (hi : i < p.length) : okP c l p i = true ↔ (rd p (i : Int) = -1 ∨ ((0 ≤ rd p (i : Int) ∧ rd p (i : Int) ≤ c - 1) ∧ cell (rd l (i : Int)) (rd p (i : Int)) = true ∧ ∀ j : Nat, j < i → rd p (j : Int) ≠ rd p (i : Int))) := by
  have hc : (p.take i).contains (rd p (i : Int)) = false ↔ ∀ j : Nat, j < i → rd p (j : Int) ≠ rd p (i : Int) := by
    rw [← Bool.not_eq_true, List.contains_iff_mem]
    constructor
    · intro h j hj e
      apply h
      rw [← e, rd_nat p j (by omega)]
      rw [List.mem_iff_getElem]
      exact ⟨j, by rw [List.length_take]; omega, by rw [List.getElem_take]⟩
    · intro h hm
      obtain ⟨j, hj, e⟩ := List.mem_iff_getElem.1 hm
      rw [List.length_take] at hj
      rw [List.getElem_take] at e
      exact h j (by omega) (by rw [rd_nat p j (by omega)]; exact e)
  unfold okP
  simp only [Bool.or_eq_true, Bool.and_eq_true, decide_eq_true_eq, Bool.not_eq_true']
  rw [hc]
theorem turn_turn (r c : Int) (l p : List Int) (g : GoodB r c l) (h : isPl r c l p = true) (T : List Int) (gT : GoodB c r T) (hT : ∀ i j : Nat, (i : Int) < r → (j : Int) < c → cell (rd T (j : Int)) (i : Int) = cell (rd l (i : Int)) (j : Int)) : isPl c r T (tpF p p.length 0 (List.replicate c.toNat (-1))) = true ∧ tpF (tpF p p.length 0 (List.replicate c.toNat (-1))) (tpF p p.length 0 (List.replicate c.toNat (-1))).length 0 (List.replicate r.toNat (-1)) = p := by
  have g1 := g.1; have g2 := g.2.1
  unfold isPl at h
  rw [Bool.and_eq_true, decide_eq_true_eq] at h
  obtain ⟨hlen, hpl⟩ := h
  have hok : ∀ i, i < p.length → rd p (i : Int) = -1 ∨ ((0 ≤ rd p (i : Int) ∧ rd p (i : Int) ≤ c - 1) ∧ cell (rd l (i : Int)) (rd p (i : Int)) = true ∧ ∀ j : Nat, j < i → rd p (j : Int) ≠ rd p (i : Int)) := fun i hi => (okP_iff c l p i hi).1 (pl_spec c l p p.length 0 hpl i (by omega) (by omega))
  have hge : ∀ q : Nat, 0 ≤ q → q < 0 + p.length → -1 ≤ rd p (q : Int) := fun q _ hq => by
    rcases hok q (by omega) with h | h
    · omega
    · omega
  generalize hq : tpF p p.length 0 (List.replicate c.toNat (-1)) = q
  have ql : q.length = c.toNat := by rw [← hq, tpF_len]; simp
  have hit : ∀ a j : Nat, a < p.length → j < c.toNat → rd p (a : Int) = (j : Int) → rd q (j : Int) = (a : Int) := by
    intro a j ha hj e
    rw [← hq]
    refine tpF_hit p j a e p.length 0 _ (by omega) (by omega) (by simpa using hj) hge (fun b h1 h2 hb => ?_)
    rcases hok b (by omega) with h | h
    · omega
    · exact h.2.2 a h1 (by rw [e, hb])
  have miss : ∀ j : Nat, j < c.toNat → (∀ a : Nat, a < p.length → rd p (a : Int) ≠ (j : Int)) → rd q (j : Int) = -1 := by
    intro j hj hn
    rw [← hq, tpF_miss p j p.length 0 _ (fun b _ h2 => hn b (by omega)) hge]
    exact rd_rep _ _ hj
  have back : ∀ j : Nat, j < c.toNat → rd q (j : Int) = -1 ∨ ∃ a : Nat, a < p.length ∧ rd p (a : Int) = (j : Int) ∧ rd q (j : Int) = (a : Int) := by
    intro j hj
    by_cases hn : ∃ a : Nat, a < p.length ∧ rd p (a : Int) = (j : Int)
    · obtain ⟨a, h1, h2⟩ := hn
      exact .inr ⟨a, h1, h2, hit a j h1 hj h2⟩
    · exact .inl (miss j hj (fun a h1 h2 => hn ⟨a, h1, h2⟩))
  have hplq : ∀ j, j < q.length → okP r T q j = true := by
    intro j hj
    rw [okP_iff r T q j hj]
    rcases back j (by omega) with h | ⟨a, h1, h2, h3⟩
    · exact .inl h
    · right
      rw [h3]
      refine ⟨by omega, ?_, fun j' hj' e => ?_⟩
      · rw [hT a j (by omega) (by omega)]
        rcases hok a h1 with h | h
        · omega
        · rw [h2] at h; exact h.2.1
      · rcases back j' (by omega) with h | ⟨a', h1', h2', h3'⟩
        · omega
        · have : a' = a := by omega
          subst this
          omega
  refine ⟨?_, ?_⟩
  · unfold isPl
    rw [decide_eq_true (show (q.length : Int) = c by omega), pl_back r T q q.length 0 (fun j _ h2 => hplq j (by omega))]; rfl
  · have hgeq : ∀ b : Nat, 0 ≤ b → b < 0 + q.length → -1 ≤ rd q (b : Int) := fun b _ hb => by
      rcases back b (by omega) with h | ⟨a, _, _, h⟩ <;> omega
    apply rd_ext
    · rw [tpF_len]; simp; omega
    · intro i hi
      rw [tpF_len] at hi
      simp only [List.length_replicate] at hi
      rcases hok i (by omega) with h | h
      · rw [tpF_miss q i q.length 0 _ (fun b _ hb e => by
          rcases back b (by omega) with h' | ⟨a, h1, h2, h3⟩
          · omega
          · have : a = i := by omega
            subst this
            omega) hgeq, rd_rep _ _ hi, h]
      · obtain ⟨v, hv⟩ := Int.eq_ofNat_of_zero_le h.1.1
        rw [hv]
        refine tpF_hit q i v (hit i v (by omega) (by omega) hv) q.length 0 _ (by omega) (by omega) (by simpa using hi) hgeq (fun b h1 h2 e => ?_)
        rcases back b (by omega) with h' | ⟨a, k1, k2, k3⟩
        · omega
        · have : a = i := by omega
          subst this
          omega

/-- A list comes before another one. -/
def ltL (a b : List Int) : Prop := ∃ (p : List Int) (x y : Int) (s t : List Int), a = p ++ x :: s ∧ b = p ++ y :: t ∧ x < y
theorem ltL_ne (a b : List Int) (h : ltL a b) : a ≠ b := by
  obtain ⟨p, x, y, s, t, rfl, rfl, hxy⟩ := h
  intro e
  have := List.append_cancel_left e
  injection this with h1 _
  omega
theorem plc_pre (C : Nat) : ∀ (t : List Int) (taken : Int) (acc : List Int), ∀ q ∈ plc C t taken acc, ∃ s, q = acc ++ s
  | [], taken, acc, q, h => by
    simp [plc] at h; exact ⟨[], by rw [h, List.append_nil]⟩
  | m :: t, taken, acc, q, h => by
    simp only [plc, List.mem_flatMap, List.mem_range] at h
    obtain ⟨i, hi, h⟩ := h
    by_cases h0 : i = 0
    · rw [if_pos h0] at h
      obtain ⟨s, e⟩ := plc_pre C t _ _ q h
      exact ⟨_, by rw [e, List.append_assoc]⟩
    · rw [if_neg h0] at h
      split at h
      · obtain ⟨s, e⟩ := plc_pre C t _ _ q h
        exact ⟨_, by rw [e, List.append_assoc]⟩
      · simp at h
theorem plc_pre2 (C : Nat) (m : Int) (t : List Int) (taken : Int) (acc : List Int) (i : Nat) : ∀ q ∈ (if i = 0 then plc C t taken (acc ++ [-1]) else if okC m taken (i - 1) then plc C t (orC taken (i - 1)) (acc ++ [((i - 1 : Nat) : Int)]) else []), ∃ s, q = acc ++ ((i : Int) - 1) :: s := by
  intro q h
  by_cases h0 : i = 0
  · rw [if_pos h0] at h
    obtain ⟨s, e⟩ := plc_pre C t _ _ q h
    exact ⟨s, by rw [e, List.append_assoc, h0]; rfl⟩
  · rw [if_neg h0] at h
    split at h
    · obtain ⟨s, e⟩ := plc_pre C t _ _ q h
      exact ⟨s, by rw [e, List.append_assoc, show ((i : Int) - 1) = ((i - 1 : Nat) : Int) by omega]; rfl⟩
    · simp at h
theorem plc_lex (C : Nat) : ∀ (t : List Int) (taken : Int) (acc : List Int), (plc C t taken acc).Pairwise ltL
  | [], taken, acc => by simp [plc]
  | m :: t, taken, acc => by
    simp only [plc]
    rw [List.pairwise_flatMap]
    refine ⟨fun i _ => ?_, ?_⟩
    · split
      · exact plc_lex C t _ _
      · split
        · exact plc_lex C t _ _
        · exact List.Pairwise.nil
    · have h0 : (List.range (C + 1)).Pairwise (fun i j => i < j) := List.pairwise_lt_range
      refine h0.imp ?_
      intro i j hij a ha b hb
      obtain ⟨s, rfl⟩ := plc_pre2 C m t taken acc i a ha
      obtain ⟨s', rfl⟩ := plc_pre2 C m t taken acc j b hb
      exact ⟨acc, _, _, s, s', rfl, rfl, by omega⟩
theorem selL_lex (C : Nat) (l : List Int) (k : Int) : (selL C l 0 [] k).Pairwise ltL := (plc_lex C l 0 []).filter _
theorem selL_inj (C : Nat) (l : List Int) (k : Int) (i j : Nat) (hi : i < (selL C l 0 [] k).length) (hj : j < (selL C l 0 [] k).length) (hij : i < j) : (selL C l 0 [] k)[i] ≠ (selL C l 0 [] k)[j] := ltL_ne _ _ (List.pairwise_iff_getElem.1 (selL_lex C l k) i j hi hj hij)
theorem rd_app (a s : List Int) (x : Int) : rd (a ++ x :: s) (a.length : Int) = x := by
  rw [rd_nat _ _ (by simp)]; simp
/-- What is listed is a placement. -/
theorem plc_pl (r c : Int) (l : List Int) (g : GoodB r c l) (q : List Int) : ∀ (d : Nat) (acc : List Int) (taken : Int), acc.length + d = l.length → 0 ≤ taken ∧ taken ≤ 63 → (∀ j : Nat, j < c.toNat → acc.contains (j : Int) = cell taken (j : Int)) → q ∈ plc c.toNat (l.drop acc.length) taken acc → placF c l q d acc.length = true
  | 0, _, _, _, _, _, _ => rfl
  | d + 1, acc, taken, hd, ht, hinv, h => by
    have g2 := g.2.1
    have hll : acc.length < l.length := by omega
    rw [List.drop_eq_getElem_cons hll] at h
    simp only [plc, List.mem_flatMap, List.mem_range] at h
    obtain ⟨i, hi, h⟩ := h
    obtain ⟨s, e⟩ := plc_pre2 c.toNat l[acc.length] (l.drop (acc.length + 1)) taken acc i q h
    have hrd : rd q (acc.length : Int) = (i : Int) - 1 := by rw [e]; exact rd_app _ _ _
    have htake : q.take acc.length = acc := by rw [e]; simp
    have hnext : ∀ (v taken' : Int), 0 ≤ taken' ∧ taken' ≤ 63 → (∀ j : Nat, j < c.toNat → (acc ++ [v]).contains (j : Int) = cell taken' (j : Int)) → q ∈ plc c.toNat (l.drop (acc.length + 1)) taken' (acc ++ [v]) → placF c l q d (acc.length + 1) = true := by
      intro v taken' h1 h2 h3
      have e : (acc ++ [v]).length = acc.length + 1 := by simp
      have := plc_pl r c l g q d (acc ++ [v]) taken' (by rw [e]; omega) h1 h2 (by rw [e]; exact h3)
      rwa [e] at this
    rw [placF, Bool.and_eq_true]
    by_cases h0 : i = 0
    · rw [if_pos h0] at h
      refine ⟨?_, hnext (-1) taken ht (fun j hj => by rw [contains_snoc, hinv j hj, show ((j : Int) == -1) = false from beq_eq_false_iff_ne.2 (by omega), Bool.or_false]) h⟩
      unfold okP
      rw [hrd, h0]; rfl
    · rw [if_neg h0] at h
      split at h
      · rename_i hok
        rw [okC_cell _ taken (i - 1) (goodB_le g _ (List.getElem_mem hll)) ht (by omega), Bool.and_eq_true, Bool.not_eq_true'] at hok
        have ho := orZ_ok c.toNat taken (i - 1) (by omega) ht (by omega) hok.2
        refine ⟨?_, hnext _ _ ho.1 (fun j hj => ?_) h⟩
        · unfold okP
          rw [hrd, show ((i : Int) - 1) = ((i - 1 : Nat) : Int) by omega, htake, hinv (i - 1) (by omega), hok.2, rd_nat l acc.length hll, hok.1, decide_eq_true (show 0 ≤ ((i - 1 : Nat) : Int) ∧ ((i - 1 : Nat) : Int) ≤ c - 1 by omega)]
          simp
        · rw [contains_snoc, hinv j hj, cell_orZ taken (i - 1) j ht (by omega) (by omega)]
          congr 1
          by_cases hij : j = i - 1
          · subst hij; simp
          · rw [beq_eq_false_iff_ne.2 (by omega), decide_eq_false hij]
      · simp at h
theorem cell_zero (j : Nat) (hj : j < 6) : cell 0 (j : Int) = false := by
  have : ∀ j : Fin 6, cell 0 (j.val : Int) = false := by decide +kernel
  exact this ⟨j, hj⟩
theorem selL_pl (r c : Int) (l : List Int) (g : GoodB r c l) (k : Int) (q : List Int) (h : q ∈ selL c.toNat l 0 [] k) : isPl r c l q = true ∧ cntR q = k ∧ q.length = l.length := by
  have g2 := g.2.1; have g3 := g.2.2.1
  obtain ⟨h1, h2⟩ := List.mem_filter.1 h
  have hq := plc_elem c.toNat l 0 [] q h1
  simp only [List.length_nil, Nat.zero_add] at hq
  have := plc_pl r c l g q l.length [] 0 (by simp) (by omega) (fun j hj => by rw [cell_zero j (by omega)]; rfl) (by simpa using h1)
  refine ⟨?_, by simpa [cntR] using h2, hq⟩
  unfold isPl
  rw [decide_eq_true (show (q.length : Int) = r by omega), Bool.true_and, hq]
  exact this

theorem rd_mid (pre rest : List Int) (a : Int) : rd (pre ++ a :: rest) ((pre.length : Nat) : Int) = a := by
  rw [rd_nat _ _ (by simp)]; simp
theorem rLess_l0 (p s t : List Int) (x y : Int) (hxy : x < y) (hl : (p ++ x :: s).length ≤ 1000) : ∀ (d i k : Nat), i + d = p.length → d < k → laws_rLess.l0 k (p ++ x :: s) (p ++ y :: t) ((p ++ x :: s).length : Int) (i : Int) = some true
  | 0, i, k, hi, hk => by
    obtain ⟨k, rfl⟩ : ∃ m, k = m + 1 := ⟨k - 1, by omega⟩
    have e : i = p.length := by omega
    subst e
    rw [laws_rLess.l0, if_pos (by simp; omega), if_pos (by omega), if_pos (by simp; omega), if_pos (by simp; omega), rd_mid p s x, rd_mid p t y, if_neg (by omega), decide_eq_true hxy]
  | d + 1, i, k, hi, hk => by
    obtain ⟨k, rfl⟩ : ∃ m, k = m + 1 := ⟨k - 1, by omega⟩
    have h1 : i < (p ++ x :: s).length := by simp; omega
    have h2 : i < (p ++ y :: t).length := by simp; omega
    have h3 : i < p.length := by omega
    rw [laws_rLess.l0, if_pos (by omega), if_pos (by omega), if_pos (by omega), if_pos (by omega), rd_nat _ i h1, rd_nat _ i h2, List.getElem_append_left h3, List.getElem_append_left h3, if_pos rfl, w64 (by omega) (by omega), show ((i : Int) + 1) = ((i + 1 : Nat) : Int) from by omega]
    exact rLess_l0 p s t x y hxy hl d (i + 1) k (by omega) (by omega)
theorem rLess_lt (k : Nat) (a b : List Int) (h : ltL a b) (hl : a.length ≤ 1000) (hk : 2000 < k) : laws_rLess.f k a b = some true := by
  obtain ⟨p, x, y, s, t, rfl, rfl, hxy⟩ := h
  unfold laws_rLess.f
  have := rLess_l0 p s t x y hxy hl p.length 0 k (by omega) (by simp at hl; omega)
  rwa [show ((0 : Nat) : Int) = 0 from rfl] at this

theorem rSame_l0 (a b : List Int) (hl : a.length ≤ 2000000) (hab : a.length = b.length) : ∀ (d i k : Nat), i + d = a.length → d < k → laws_rSame.l0 k a b (a.length : Int) (i : Int) = some (decide (a.drop i = b.drop i)) := by
  intro d
  induction d with
  | zero =>
    intro i k hi hk
    obtain ⟨k, rfl⟩ : ∃ m, k = m + 1 := ⟨k - 1, by omega⟩
    rw [laws_rSame.l0, if_neg (by omega), List.drop_of_length_le (by omega), List.drop_of_length_le (by omega)]; simp
  | succ d ih =>
    intro i k hi hk
    obtain ⟨k, rfl⟩ : ∃ m, k = m + 1 := ⟨k - 1, by omega⟩
    have h1 : i < a.length := by omega
    have h2 : i < b.length := by omega
    rw [laws_rSame.l0, if_pos (by omega), if_pos (by omega), if_pos (by omega), if_pos (by omega), w64 (by omega) (by omega), show ((i : Int) + 1) = ((i + 1 : Nat) : Int) from by omega, rd_nat a i h1, rd_nat b i h2, List.drop_eq_getElem_cons h1, List.drop_eq_getElem_cons h2]
    by_cases e : a[i] = b[i]
    · rw [if_pos e, ih (i + 1) k (by omega) (by omega), e]; simp only [List.cons.injEq, true_and]
    · rw [if_neg e]; simp only [List.cons.injEq, e, false_and, decide_false]
theorem rSame_eq (k : Nat) (a b : List Int) (hl : a.length ≤ 1000000) (hk : a.length < k) : laws_rSame.f k a b = some (decide (a = b)) := by
  unfold laws_rSame.f
  by_cases h : a.length = b.length
  · rw [if_pos (by omega)]
    have := rSame_l0 a b (by omega) h a.length 0 k (by omega) hk
    rw [List.drop_zero, List.drop_zero] at this
    exact this
  · rw [if_neg (by omega), decide_eq_false (fun e => h (by rw [e]))]
theorem rSame_self (k : Nat) (a : List Int) (hl : a.length ≤ 1000000) (hk : a.length < k) : laws_rSame.f k a a = some true := by
  rw [rSame_eq k a a hl hk, decide_eq_true rfl]

theorem rSameRows_l0 (L : List (List Int)) (hL : L.length ≤ 200000) (hx : ∀ q ∈ L, q.length ≤ 6) : ∀ (d i k : Nat), i + d = L.length → d + 100 < k → laws_rSameRows.l0 k L L (L.length : Int) (i : Int) = some true
  | 0, i, k, hi, hk => by
    obtain ⟨k, rfl⟩ : ∃ m, k = m + 1 := ⟨k - 1, by omega⟩
    rw [laws_rSameRows.l0, if_neg (by omega)]
  | d + 1, i, k, hi, hk => by
    obtain ⟨k, rfl⟩ : ∃ m, k = m + 1 := ⟨k - 1, by omega⟩
    have hlt : i < L.length := by omega
    have := hx _ (List.getElem_mem hlt)
    rw [laws_rSameRows.l0, if_pos (by omega), if_pos (by omega), if_pos (by omega), if_pos (by omega), rdLL L i hlt, rSame_self _ _ (by omega) (by omega), Option.bind_some, if_pos rfl, w64 (by omega) (by omega), show ((i : Int) + 1) = ((i + 1 : Nat) : Int) from by omega]
    exact rSameRows_l0 L hL hx d (i + 1) k (by omega) (by omega)
theorem rSameRows_self (k : Nat) (L : List (List Int)) (hL : L.length ≤ 200000) (hx : ∀ q ∈ L, q.length ≤ 6) (hk : 300000 < k) : laws_rSameRows.f k L L = some true := by
  unfold laws_rSameRows.f
  rw [if_pos rfl]
  have := rSameRows_l0 L hL hx L.length 0 k (by omega) (by omega)
  rwa [show ((0 : Nat) : Int) = 0 from rfl] at this

theorem e_roCount_l0 (l : List Int) (hl : l.length ≤ 2000000) (hx : ∀ x ∈ l, -1 ≤ x) : ∀ (d i k : Nat) (a : Int), i + d = l.length → d < k → 0 ≤ a → a ≤ i →
    spec_roCount.l0 k a l (l.length : Int) (i : Int) = some (a + cntR (l.drop i)) := by
  intro d
  induction d with
  | zero =>
    intro i k a hi hk h0 h1
    obtain ⟨k, rfl⟩ : ∃ m, k = m + 1 := ⟨k - 1, by omega⟩
    simp only [spec_roCount.l0]; rw [if_neg (by omega), List.drop_eq_nil_of_le (by omega)]; simp [cntR]
  | succ d ih =>
    intro i k a hi hk h0 h1
    obtain ⟨k, rfl⟩ : ∃ m, k = m + 1 := ⟨k - 1, by omega⟩
    have hlt : i < l.length := by omega
    have hg := hx l[i] (List.getElem_mem _)
    simp only [spec_roCount.l0]
    rw [if_pos (by omega), if_pos (by omega), if_pos (by omega), rd_nat l i hlt, List.drop_eq_getElem_cons hlt,
      w64 (x := (i : Int) + 1) (by omega) (by omega), show ((i : Int) + 1) = ((i + 1 : Nat) : Int) from by omega, w64 (by omega) (by omega)]
    by_cases h : l[i] ≥ 0
    · rw [if_pos h, ih (i + 1) k (a + 1) (by omega) (by omega) (by omega) (by omega)]
      have : l[i] ≠ -1 := by omega
      simp only [cntR, this, if_false]; congr 1; omega
    · rw [if_neg h, ih (i + 1) k a (by omega) (by omega) h0 (by omega)]
      have : l[i] = -1 := by omega
      simp [cntR, this]
theorem e_roCount (k : Nat) (l : List Int) (hl : l.length ≤ 2000000) (hk : l.length < k) (hx : ∀ x ∈ l, -1 ≤ x) : spec_roCount.f k l = some (cntR l) := by
  unfold spec_roCount.f
  have := e_roCount_l0 l hl hx l.length 0 k 0 (by omega) hk (by omega) (by omega)
  simpa using this

theorem e_CountRooks (k : Nat) (l : List Int) (hl : l.length ≤ 2000000) (hk : l.length < k) : spec_CountRooks.f k l = some (if GoodR l then (cntR l, true) else (0, false)) := by
  unfold spec_CountRooks.f
  by_cases h : (l.length : Int) > 6
  · rw [if_pos h, if_neg]
    intro g; have := g.1; omega
  · rw [if_neg h, e_l1All k l _ _ hl hk]
    simp only [Option.bind_some, decide_eq_true_eq]
    by_cases h2 : ∀ x ∈ l, -1 ≤ x ∧ x ≤ 5
    · rw [if_pos h2, if_pos ⟨by omega, h2⟩, e_roCount k l hl hk (fun x hx => (h2 x hx).1)]; rfl
    · rw [if_neg h2, if_neg (fun g => h2 g.2)]
theorem i_CountRooks (l : List Int) : impl_CountRooks.f l = some (if GoodR l then (cntR l, true) else (0, false)) := rfl

theorem bump_H (M : Nat) : ∀ (L : List (List Int)) (zs z0 : List Nat), L.map cntR = zs.map (fun z : Nat => (z : Int)) → (∀ z ∈ zs, z < M) → z0.length + zs.length ≤ 1000000 → L.foldl bumpN (HZ M z0) = HZ M (z0 ++ zs)
  | [], zs, z0, h, _, _ => by
    have : zs = [] := by
      have := congrArg List.length h
      simp at this; exact List.eq_nil_of_length_eq_zero this.symm
    subst this; simp
  | q :: L, [], z0, h, _, _ => by simp at h
  | q :: L, z :: zs, z0, h, hz, hl => by
    simp only [List.map_cons, List.cons.injEq] at h
    have hzM := hz z (by simp)
    simp only [List.length_cons] at hl
    have hcl := List.count_le_length (a := z) (l := z0)
    have e : bumpN (HZ M z0) q = HZ M (z0 ++ [z]) := by
      unfold bumpN
      rw [h.1, Int.toNat_natCast, HZ_rd M z0 z hzM, w64 (by omega) (by omega)]
      refine rd_ext _ _ (by simp [HZ_len]) ?_
      intro j hj
      rw [List.length_set, HZ_len] at hj
      rw [rd_set _ z _ j (by rw [HZ_len]; exact hzM), HZ_rd _ _ j hj, HZ_rd _ _ j hj, List.count_append, List.count_singleton]
      by_cases hzj : z = j
      · subst hzj; simp
      · rw [if_neg hzj]; simp [hzj]
    rw [List.foldl_cons, e, bump_H M L zs (z0 ++ [z]) h.2 (fun y hy => hz y (by simp [hy])) (by simp; omega)]
    simp
theorem i_numbersN (r c : Int) (l : List Int) (h : Nice r c l) : impl_Board_numbers.f r c l = some (numsL r c l) := by
  have h1 := h.1; have h2 := h.2.1; have h3 := h.2.2.1
  have hl : l.length ≤ 6 := by omega
  have hp := plc_Z c.toNat (by omega) l 0 [] h.2.2.2 (by omega)
  have hzl := Z_length c.toNat (by omega) l 0
  have h7 : 7 ^ l.length ≤ 117649 := Nat.le_trans (Nat.pow_le_pow_right (by omega) hl) (by decide)
  simp only [cntR, Int.zero_add] at hp
  unfold impl_Board_numbers.f
  rw [if_pos]
  · congr 1
    rw [← HZ_nil, bump_H _ _ (Z c.toNat l 0) [] hp (Z_ltN r c l h) (by simp; omega)]
    rfl
  · refine ⟨by omega, by omega, by omega, by omega, h3, ?_⟩
    rw [List.all_eq_true]
    intro x hx
    have : cntR x ∈ (plc c.toNat l 0 []).map cntR := List.mem_map.2 ⟨x, hx, rfl⟩
    rw [hp] at this
    obtain ⟨z, hz, e⟩ := List.mem_map.1 this
    have := Z_ltN r c l h z hz
    exact decide_eq_true (by omega)

theorem i_numbers (r c : Int) (l : List Int) (h : GoodB r c l) : impl_Board_numbers.f r c l = some (numsL r c l) := i_numbersN r c l (nice_of h)

def numsOut (r c : Int) (l : List Int) : List Int × Bool := if GoodB r c l then (numsL r c l, true) else ([], false)
theorem numsOut_len (r c : Int) (l : List Int) : (numsOut r c l).1.length ≤ 7 := by
  unfold numsOut
  split
  case isTrue h => exact numsL_len r c l h
  case isFalse => simp
theorem i_RookNumbers (r c : Int) (l : List Int) : impl_RookNumbers.f r c l = some (numsOut r c l) := by
  unfold impl_RookNumbers.f numsOut
  rw [i_IsBoard]
  simp only [Option.bind_some]
  by_cases h : GoodB r c l
  · rw [if_pos h, if_pos (decide_eq_true h), i_numbers r c l h]; rfl
  · rw [if_neg h, if_neg (by simpa using h)]

theorem nums_small (r c : Int) (l : List Int) (h : GoodB r c l) (j : Nat) (hj : j < (numsL r c l).length) : 0 ≤ rd (numsL r c l) (j : Int) ∧ rd (numsL r c l) (j : Int) ≤ 117649 := by
  have hl := goodB_len h
  have h2 := h.2.1
  unfold numsL at hj ⊢
  rw [HZ_len] at hj
  rw [HZ_rd _ _ j hj]
  have := Z_small c.toNat (by omega) l 0 hl j
  omega

def psOut (r c : Int) (l : List Int) (k : Int) : List (List Int) × Bool := if (GoodB r c l ∧ 0 ≤ k ∧ k ≤ 6) ∧ ((selL c.toNat l 0 [] k).length : Int) ≤ 500 then (selL c.toNat l 0 [] k, true) else ([], false)
theorem i_PlacementsOf (f : Nat) (r c : Int) (l : List Int) (k : Int) (hf : 1 ≤ f) : impl_PlacementsOf.f f r c l k = some (psOut r c l k) := by
  unfold impl_PlacementsOf.f psOut
  rw [i_IsBoard]
  simp only [Option.bind_some]
  obtain ⟨f, rfl⟩ : ∃ m, f = m + 1 := ⟨f - 1, by omega⟩
  by_cases h : GoodB r c l
  · rw [decide_eq_true h]
    simp only [if_true]
    rw [e_within]
    simp only [Option.bind_some]
    by_cases hk : 0 ≤ k ∧ k ≤ 6
    · rw [decide_eq_true hk, impl_PlacementsOf.j0, if_neg (by decide), i_with r c l k h, Option.bind_some]
      by_cases h5 : ((selL c.toNat l 0 [] k).length : Int) > 500
      · rw [if_pos h5, if_neg (fun x => by omega)]
      · rw [if_neg h5, if_pos ⟨⟨h, hk⟩, by omega⟩]
    · rw [decide_eq_false hk, if_neg (fun x => hk x.1.2), impl_PlacementsOf.j0]; rfl
  · rw [decide_eq_false h, if_neg (show ¬ (false = true) by decide), if_neg (fun x => h x.1.1), impl_PlacementsOf.j0]; rfl
theorem e_PlacementsOf (f : Nat) (r c : Int) (l : List Int) (k : Int) (hf : 2000000 ≤ f) (hl : l.length ≤ 1048576) : spec_PlacementsOf.f f r c l k = some (psOut r c l k) := by
  obtain ⟨o, h1, h2, _⟩ := both_PlacementsOf f r c l k hf hl
  rw [i_PlacementsOf f r c l k (by omega)] at h2
  rw [h1, h2]
def pwOut (r c : Int) (l : List Int) (k i : Int) : List Int × Bool := if (GoodB r c l ∧ 0 ≤ k ∧ k ≤ 6) ∧ 0 ≤ i ∧ i < ((selL c.toNat l 0 [] k).length : Int) then ((selL c.toNat l 0 [] k).getD i.toNat [], true) else ([], false)
theorem i_PlacementWith (f : Nat) (r c : Int) (l : List Int) (k i : Int) (hf : 10 ≤ f) : impl_PlacementWith.f f r c l k i = some (pwOut r c l k i) := by
  unfold impl_PlacementWith.f pwOut
  rw [i_IsBoard]
  simp only [Option.bind_some]
  obtain ⟨f, rfl⟩ : ∃ m, f = m + 1 := ⟨f - 1, by omega⟩
  by_cases h : GoodB r c l
  · have h2 := h.2.1
    have hsl := selL_len c.toNat (by omega) l (by have := goodB_len h; omega) 0 [] k
    rw [decide_eq_true h]
    simp only [if_true]
    rw [e_within]
    simp only [Option.bind_some]
    by_cases hk : 0 ≤ k ∧ k ≤ 6
    · rw [decide_eq_true hk, impl_PlacementWith.j0, if_neg (by decide), i_with r c l k h, Option.bind_some, w64 (by omega) (by omega), e_within, Option.bind_some]
      by_cases hi : 0 ≤ i ∧ i ≤ ((selL c.toNat l 0 [] k).length : Int) - 1
      · obtain ⟨n, rfl⟩ := Int.eq_ofNat_of_zero_le hi.1
        have hn : n < (selL c.toNat l 0 [] k).length := by omega
        have hel : ((selL c.toNat l 0 [] k)[n]).length = l.length := by
          have := plc_elem c.toNat l 0 [] _ (List.mem_filter.1 (List.getElem_mem hn)).1
          simpa using this
        have hl6 := goodB_len h
        rw [decide_eq_true hi, if_pos rfl, if_pos (by omega), if_pos (by omega), rdLL _ n hn, if_pos ⟨⟨h, hk⟩, by omega, by omega⟩]
        unfold slices_Clone_int_int.f
        rw [if_pos (by omega), Option.bind_some]
        simp [List.getD, hn]
      · rw [decide_eq_false hi, if_neg (by decide), if_neg (fun x => hi ⟨x.2.1, by omega⟩)]
    · rw [decide_eq_false hk, if_neg (fun x => hk x.1.2), impl_PlacementWith.j0]; rfl
  · rw [decide_eq_false h, if_neg (show ¬ (false = true) by decide), if_neg (fun x => h x.1.1), impl_PlacementWith.j0]; rfl
theorem e_PlacementWith (f : Nat) (r c : Int) (l : List Int) (k i : Int) (hf : 2000000 ≤ f) (hl : l.length ≤ 1048576) : spec_PlacementWith.f f r c l k i = some (pwOut r c l k i) := by
  obtain ⟨o, h1, h2, _⟩ := both_PlacementWith f f r c l k i hf (by omega) hl
  have h2 := h2 f (by omega)
  rw [i_PlacementWith f r c l k i (by omega)] at h2
  rw [h1, h2]
def plOut (r c : Int) (l p : List Int) : Bool × Bool := if GoodB r c l then (isPl r c l p, true) else (false, false)
theorem i_IsPlacement (k : Nat) (r c : Int) (l p : List Int) (hk2 : 100 ≤ k) : impl_IsPlacement.f k r c l p = some (plOut r c l p) := by
  unfold impl_IsPlacement.f plOut
  rw [i_IsBoard]
  simp only [Option.bind_some, decide_eq_true_eq]
  by_cases g : GoodB r c l
  · rw [if_pos g, if_pos g, i_isPlacement k r c l p g hk2]; rfl
  · rw [if_neg g, if_neg g]
theorem l_rPlaced (k : Nat) (r c : Int) (l p : List Int) (hk : 100 ≤ k) : laws_rPlaced.f k r c l p = some (decide (GoodB r c l ∧ isPl r c l p = true)) := by
  unfold laws_rPlaced.f
  rw [i_IsPlacement k r c l p hk, Option.bind_some]
  unfold plOut
  by_cases g : GoodB r c l
  · rw [if_pos g, if_pos rfl]
    by_cases h : isPl r c l p = true
    · rw [decide_eq_true ⟨g, h⟩, h]
    · rw [decide_eq_false (fun x => h x.2), Bool.eq_false_iff.2 h]
  · rw [if_neg g, if_neg (by decide), decide_eq_false (fun x => g x.1)]
theorem goodR_pl (r c : Int) (l p : List Int) (g : GoodB r c l) (h : isPl r c l p = true) : GoodR p := by
  obtain ⟨h1, h2⟩ := pl_bound r c l p g h
  have g2 := g.2.1
  refine ⟨h1, fun x hx => ?_⟩
  obtain ⟨j, hj, rfl⟩ := List.getElem_of_mem hx
  have := h2 j hj
  rw [rd_nat p j hj] at this
  omega
theorem law_j7 (k : Nat) (x : List Int) (hx : CodeOK x) (r c : Int) (l : List Int) (n i : Int) (hk : 2000020 ≤ k) : laws_FnPlacementsListed.j7 k x n i (pwOut r c l n i).1 (pwOut r c l n i).2 r c l = some true := by
  obtain ⟨k, rfl⟩ : ∃ m, k = m + 2 := ⟨k - 2, by omega⟩
  rw [laws_FnPlacementsListed.j7]
  unfold spec_DrawCountRooks.f
  obtain ⟨r', c', l', p, i', u', e, h1, h2⟩ := d_placed (k + 1) x hx (by omega)
  rw [e, Option.bind_some, Option.bind_some]
  simp only
  rw [i_CountRooks, Option.bind_some, e_CountRooks _ p (by omega) (by omega), Option.bind_some, bne_self_eq_false, if_neg (by decide), bne_self_eq_false, laws_FnPlacementsListed.j8, if_neg (by decide)]
  by_cases h : (GoodB r c l ∧ 0 ≤ n ∧ n ≤ 6) ∧ 0 ≤ i ∧ i < ((selL c.toNat l 0 [] n).length : Int)
  · obtain ⟨⟨g, hn⟩, hi⟩ := h
    obtain ⟨j, rfl⟩ := Int.eq_ofNat_of_zero_le hi.1
    have hj : j < (selL c.toNat l 0 [] n).length := by omega
    have eo : pwOut r c l n (j : Int) = ((selL c.toNat l 0 [] n)[j], true) := by
      unfold pwOut
      rw [if_pos ⟨⟨g, hn⟩, hi⟩]
      simp [List.getD, hj]
    obtain ⟨q1, q2, q3⟩ := selL_pl r c l g n _ (List.getElem_mem hj)
    have er : rkOut r c l (selL c.toNat l 0 [] n)[j] = ((j : Int), true) := by
      unfold rkOut
      rw [if_pos ⟨g, q1⟩, q2, idxB_hit (fun q => decide ((selL c.toNat l 0 [] n)[j] = q)) (selL c.toNat l 0 [] n) j hj (by simp) (fun a ha haj => decide_eq_false (fun e => selL_inj c.toNat l n a j ha hj haj e.symm))]
    rw [eo]
    simp only [if_true]
    rw [i_RankPlacement _ r c l _ (by omega), Option.bind_some, er, i_CountRooks, if_pos (goodR_pl r c l _ g q1), Option.bind_some, q2]
    simp
  · have eo : pwOut r c l n i = ([], false) := by unfold pwOut; rw [if_neg h]
    rw [eo, if_neg (by decide)]
theorem law_j5 (k : Nat) (x y : List Int) (hx : CodeOK x) (hy : CodeOK y) (r c : Int) (l : List Int) (n i : Int) (hk : 2000040 ≤ k) : laws_FnPlacementsListed.j5 k x y n i (pwOut r c l n i).1 (pwOut r c l n i).2 r c l = some true := by
  obtain ⟨k, rfl⟩ : ∃ m, k = m + 2 := ⟨k - 2, by omega⟩
  rw [laws_FnPlacementsListed.j5]
  unfold spec_DrawTurnPlacement.f spec_DrawIsPlacement.f
  obtain ⟨r', c', l', p, i', u', e, h1, h2⟩ := d_placed (k + 1) y hy (by omega)
  have hl := tpOut_len r' c' l' p
  rw [e, Option.bind_some, Option.bind_some, Option.bind_some]
  simp only
  rw [i_TurnPlacement _ r' c' l' p (by omega), Option.bind_some, e_TurnPlacement _ r' c' l' p (by omega) (by omega), Option.bind_some, bne_self_eq_false, if_neg (by decide), rSame_self _ _ (by omega) (by omega), Option.bind_some, if_pos rfl, l_rPlaced _ _ _ _ _ (by omega), Option.bind_some]
  by_cases h : GoodB r' c' l' ∧ isPl r' c' l' p = true
  · have g1 := h.1.1; have g2 := h.1.2.1
    have eo : tpOut r' c' l' p = (tpF p p.length 0 (List.replicate c'.toNat (-1)), true) := by unfold tpOut; rw [if_pos h]
    obtain ⟨gT, hT⟩ := turn_good r' c' l' h.1 (turnL r' c' l') rfl
    obtain ⟨t1, t2⟩ := turn_turn r' c' l' p h.1 h.2 (turnL r' c' l') gT hT
    have et : turnOut r' c' l' = (c', r', turnL r' c' l', true) := by unfold turnOut; rw [if_pos h.1]
    have eb : tpOut c' r' (turnL r' c' l') (tpF p p.length 0 (List.replicate c'.toNat (-1))) = (p, true) := by unfold tpOut; rw [if_pos ⟨gT, t1⟩, t2]
    rw [decide_eq_true h, eo, laws_FnPlacementsListed.j6, if_neg (show ¬ ((true != true) = true) by decide)]
    simp only [if_true]
    rw [i_TurnBoard _ r' c' l' (by omega), Option.bind_some, et]
    simp only [if_true]
    rw [i_TurnPlacement _ _ _ _ _ (by omega), Option.bind_some, eb]
    simp only [if_true]
    rw [rSame_self _ _ (by omega) (by omega), Option.bind_some, if_pos rfl]
    exact law_j7 k x hx r c l n i (by omega)
  · have eo : tpOut r' c' l' p = ([], false) := by unfold tpOut; rw [if_neg h]
    rw [decide_eq_false h, eo, laws_FnPlacementsListed.j6, if_neg (by decide), if_neg (by decide)]
    exact law_j7 k x hx r c l n i (by omega)
theorem law_l0 (x y : List Int) (hx : CodeOK x) (hy : CodeOK y) (r c : Int) (l : List Int) (n i : Int) (r' c' : Int) (l' : List Int) (m : Int) (g : GoodB r' c' l') : ∀ (d a k : Nat), a + d = (selL c'.toNat l' 0 [] m).length → (selL c'.toNat l' 0 [] m).length ≤ 500 → 2005000 + d ≤ k →
    laws_FnPlacementsListed.l0 k x y n i (pwOut r c l n i).1 (pwOut r c l n i).2 m (selL c'.toNat l' 0 [] m) (selL c'.toNat l' 0 [] m) ((selL c'.toNat l' 0 [] m).length : Int) (a : Int) r c l r' c' l' = some true
  | 0, a, k, ha, hl, hk => by
    obtain ⟨k, rfl⟩ : ∃ m, k = m + 1 := ⟨k - 1, by omega⟩
    rw [laws_FnPlacementsListed.l0, if_neg (by omega)]
    exact law_j5 k x y hx hy r c l n i (by omega)
  | d + 1, a, k, ha, hl, hk => by
    obtain ⟨k, rfl⟩ : ∃ m, k = m + 1 := ⟨k - 1, by omega⟩
    have hlt : a < (selL c'.toNat l' 0 [] m).length := by omega
    have next := law_l0 x y hx hy r c l n i r' c' l' m g d (a + 1) k (by omega) hl (by omega)
    obtain ⟨q1, q2, q3⟩ := selL_pl r' c' l' g m _ (List.getElem_mem hlt)
    have hl6 := goodB_len g
    rw [laws_FnPlacementsListed.l0, if_pos (by omega), if_pos (by omega), if_pos (by omega), rdLL _ a hlt, i_CountRooks, if_pos (goodR_pl r' c' l' _ g q1), Option.bind_some, q2, l_rPlaced _ _ _ _ _ (by omega), decide_eq_true ⟨g, q1⟩, Option.bind_some]
    simp only [if_true]
    rw [w64 (x := (a : Int) + 1) (by omega) (by omega), show ((a : Int) + 1) = ((a + 1 : Nat) : Int) from by omega]
    by_cases h0 : (a : Int) > 0
    · have hlt1 : a - 1 < (selL c'.toNat l' 0 [] m).length := by omega
      have hless : ltL (selL c'.toNat l' 0 [] m)[a - 1] (selL c'.toNat l' 0 [] m)[a] := List.pairwise_iff_getElem.1 (selL_lex c'.toNat l' m) (a - 1) a hlt1 hlt (by omega)
      obtain ⟨_, _, k3⟩ := selL_pl r' c' l' g m _ (List.getElem_mem hlt1)
      rw [if_pos h0, w64 (x := (a : Int) - 1) (by omega) (by omega), if_pos (by omega), if_pos (by omega), show ((a : Int) - 1) = ((a - 1 : Nat) : Int) from by omega, rdLL _ (a - 1) hlt1, rLess_lt k _ _ hless (by omega) (by omega), Option.bind_some, if_pos rfl]
      exact next
    · rw [if_neg h0]; exact next
theorem nums_at (r c : Int) (l : List Int) (g : GoodB r c l) (n : Int) (hn : 0 ≤ n) : (if n < ((numsL r c l).length : Int) then rd (numsL r c l) n else 0) = ((selL c.toNat l 0 [] n).length : Int) := by
  have g2 := g.2.1
  rw [selL_count c.toNat (by omega) l (goodB_le g) n hn]
  obtain ⟨j, rfl⟩ := Int.eq_ofNat_of_zero_le hn
  rw [Int.toNat_natCast]
  unfold numsL
  rw [HZ_len]
  by_cases h : (j : Int) < (((min r c + 1).toNat : Nat) : Int)
  · rw [if_pos h, HZ_rd _ _ j (by omega)]
  · rw [if_neg h, List.count_eq_zero.2]; rfl
    intro hm
    have := Z_ltN r c l (nice_of g) j hm
    omega
theorem law_j1 (k : Nat) (x y : List Int) (hx : CodeOK x) (hy : CodeOK y) (r c : Int) (l : List Int) (n i : Int) (r' c' : Int) (l' : List Int) (m : Int) (hk : 2006000 ≤ k) : laws_FnPlacementsListed.j1 k x y n i (pwOut r c l n i).1 (pwOut r c l n i).2 m (psOut r' c' l' m).1 (psOut r' c' l' m).2 false r c l r' c' l' = some true := by
  obtain ⟨k, rfl⟩ : ∃ m, k = m + 3 := ⟨k - 3, by omega⟩
  rw [laws_FnPlacementsListed.j1, if_neg (by decide)]
  by_cases h : (GoodB r' c' l' ∧ 0 ≤ m ∧ m ≤ 6) ∧ ((selL c'.toNat l' 0 [] m).length : Int) ≤ 500
  · obtain ⟨⟨g, hm⟩, h5⟩ := h
    have eo : psOut r' c' l' m = (selL c'.toNat l' 0 [] m, true) := by unfold psOut; rw [if_pos ⟨⟨g, hm⟩, h5⟩]
    have en : numsOut r' c' l' = (numsL r' c' l', true) := by unfold numsOut; rw [if_pos g]
    have hat := nums_at r' c' l' g m hm.1
    have fin : laws_FnPlacementsListed.j2 (k + 2) x y n i (pwOut r c l n i).1 (pwOut r c l n i).2 m (selL c'.toNat l' 0 [] m) true ((selL c'.toNat l' 0 [] m).length : Int) r c l r' c' l' = some true := by
      rw [laws_FnPlacementsListed.j2, if_pos rfl, bne_self_eq_false, laws_FnPlacementsListed.j3, if_neg (by decide)]
      have := law_l0 x y hx hy r c l n i r' c' l' m g (selL c'.toNat l' 0 [] m).length 0 k (by omega) (by omega) (by omega)
      rw [show ((0 : Nat) : Int) = 0 from rfl] at this
      exact this
    rw [eo]
    simp only [if_true]
    rw [i_RookNumbers, Option.bind_some, en]
    simp only
    by_cases hn : m < ((numsL r' c' l').length : Int)
    · rw [if_pos hn] at hat
      rw [if_pos hn, if_pos hm.1, hat]; exact fin
    · rw [if_neg hn] at hat
      rw [if_neg hn]
      rw [← hat] at fin; exact fin
  · have eo : psOut r' c' l' m = ([], false) := by unfold psOut; rw [if_neg h]
    rw [eo, if_neg (by decide)]
    exact law_j5 (k + 2) x y hx hy r c l n i (by omega)
theorem psOut_len (r c : Int) (l : List Int) (k : Int) : (psOut r c l k).1.length ≤ 500 ∧ ∀ q ∈ (psOut r c l k).1, q.length ≤ 6 := by
  unfold psOut
  split
  · rename_i h
    refine ⟨by simp only; omega, fun q hq => ?_⟩
    have := (selL_pl r c l h.1.1 k q hq).2.2
    have := goodB_len h.1.1
    omega
  · simp
theorem pwOut_len (r c : Int) (l : List Int) (k i : Int) : (pwOut r c l k i).1.length ≤ 6 := by
  unfold pwOut
  split
  · rename_i h
    have hj : i.toNat < (selL c.toNat l 0 [] k).length := by omega
    have := (selL_pl r c l h.1.1 k _ (List.getElem_mem hj)).2.2
    have := goodB_len h.1.1
    simp [List.getD, hj]; omega
  · simp
theorem FnPlacementsListed : laws_FnPlacementsListed.Pure := by
  intro a b _ ha _ hb
  refine ⟨3000000, ?_⟩
  unfold laws_FnPlacementsListed.f laws_big.f
  by_cases h : (a.length : Int) > 1048576
  · rw [if_pos h]; rfl
  · rw [if_neg h, Option.bind_some, w64 (by omega) (by omega)]
    by_cases h2 : (b.length : Int) > 1048576 - a.length
    · rw [decide_eq_true h2, if_pos rfl]
    · have hca := code_ok a (by omega) ha
      have hcb := code_ok b (by omega) hb
      rw [decide_eq_false h2, if_neg (by decide)]
      obtain ⟨r, c, l, n, i, e, h3⟩ := d_pwith 3000000 a hca (by omega)
      have hl := pwOut_len r c l n i
      have hIe := e_PlacementWith 3000000 r c l n i (by omega) (by omega)
      have hIi := i_PlacementWith 3000000 r c l n i (by omega)
      rw [e, Option.bind_some]
      simp only
      rw [hIi, Option.bind_some, hIe, Option.bind_some, bne_self_eq_false, if_neg (by decide), rSame_self _ _ (by omega) (by omega), Option.bind_some]
      obtain ⟨k, hk⟩ : ∃ k, 3000000 = k + 1 := ⟨2999999, rfl⟩
      rw [hk, laws_FnPlacementsListed.j0, if_neg (by decide)]
      obtain ⟨r', c', l', m, e', h4⟩ := d_pof k b hcb (by omega)
      have hl' := psOut_len r' c' l' m
      rw [e', Option.bind_some]
      simp only
      rw [i_PlacementsOf _ r' c' l' m (by omega), Option.bind_some, e_PlacementsOf _ r' c' l' m (by omega) (by omega), Option.bind_some, bne_self_eq_false, if_neg (by decide), rSameRows_self _ _ (by omega) hl'.2 (by omega), Option.bind_some]
      exact law_j1 k a b hca hcb r c l n i r' c' l' m (by omega)

end Go.Proofs.Ytllhofdgbpnkkaa.Pure
