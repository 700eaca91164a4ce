/- RankPlacement: the law's function comes to true at every board and list. -/
import Derived.Test.YtmhlnpokjjclhaaPFnExactRankPlacementx7
namespace Go.Proofs.Ytmhlnpokjjclhaa.Pure
open Go.RowKit Go.Proofs.Ytmhlnpokjjclhaa.PFnExactRankPlacement Go.Proofs.YtmhlnpokjjclhaaW.PrintWords Go.Proofs.YtmhlnpokjjclhaaW.PrintLast
set_option linter.unusedVariables false
set_option linter.unusedSimpArgs false

theorem w64 {x : Int} (h0 : -9223372036854775808 ≤ x) (h1 : x < 9223372036854775808) : wrap64 x = x := by
  unfold wrap64; omega
theorem rd_nat (l : List Int) (i : Nat) (h : i < l.length) : rd l (i : Int) = l[i] := by
  unfold rd; simp [List.getD, h]

theorem e_szIntS (l : List Int) (a : Int) (hl : l.length ≤ maxLen) (h0 : 0 ≤ a) (h1 : a ≤ 1048576) : laws_szIntS.f l a = some (if a - l.length < 0 then -1 else a - l.length) := by
  unfold laws_szIntS.f
  have : l.length ≤ 9223372036854775807 := hl
  rw [w64 (by omega) (by omega)]
  by_cases h : a - (l.length : Int) < 0
  · rw [if_pos h, if_pos h]
  · rw [if_neg h, if_neg h]

theorem e_szBoard (r c : Int) (l : List Int) (a : Int) (hl : l.length ≤ maxLen) (h0 : 0 ≤ a) (h1 : a ≤ 1048576) : laws_szBoard.f r c l a = some (if a - l.length < 0 then -1 else a - l.length) := by
  unfold laws_szBoard.f
  rw [e_szIntS l a hl h0 h1]
  simp only [Option.bind_some]
  by_cases h : a - (l.length : Int) < 0
  · rw [if_pos h]; rfl
  · rw [if_neg h, if_neg h]

theorem e_toIntS_l0 (l : List Int) (hl : l.length ≤ 2000000) : ∀ (d i k : Nat) (m : List Int), i + d = l.length → d < k → m.length = l.length → m.take i = l.take i →
    laws_toIntS.l0 k l m (i : Int) = some l := by
  intro d
  induction d with
  | zero =>
    intro i k m hi' hk hm ht
    obtain ⟨k, rfl⟩ : ∃ m, k = m + 1 := ⟨k - 1, by omega⟩
    simp only [laws_toIntS.l0]; rw [if_neg (by omega)]
    rw [List.take_of_length_le (by omega), List.take_of_length_le (by omega)] at ht; rw [ht]
  | succ d ih =>
    intro i k m hi' hk hm ht
    obtain ⟨k, rfl⟩ : ∃ m, k = m + 1 := ⟨k - 1, by omega⟩
    have hlt : i < l.length := by omega
    simp only [laws_toIntS.l0]
    rw [if_pos (by omega), if_pos (by omega), if_pos (by omega), rd_nat l i hlt, w64 (by omega) (by omega), show ((i : Int) + 1) = ((i + 1 : Nat) : Int) from by omega]
    refine ih (i + 1) k _ (by omega) (by omega) (by simpa using hm) ?_
    rw [Int.toNat_natCast, List.take_succ_eq_append_getElem (by simpa using (by omega : i < m.length)), List.take_succ_eq_append_getElem hlt]
    simp [List.take_set_of_le, ht]
theorem e_toIntS (k : Nat) (l : List Int) (hl : l.length ≤ 2000000) (hk : l.length < k) : laws_toIntS.f k l = some l := by
  unfold laws_toIntS.f
  rw [if_pos (by omega), if_pos (by omega)]
  exact e_toIntS_l0 l hl l.length 0 k _ (by omega) hk (by simp) (by simp)

theorem e_toBoard (k : Nat) (r c : Int) (l : List Int) (hl : l.length ≤ 2000000) (hk : l.length < k) : laws_toBoard.f k r c l = some (r, c, l) := by
  unfold laws_toBoard.f; rw [e_toIntS k l hl hk]; rfl

theorem e_eqIntS_l0 (a b : List Int) (hl : a.length ≤ 2000000) (hab : a.length = b.length) : ∀ (d i k : Nat), i + d = a.length → d < k →
    laws_eqIntS.l0 k a b (i : Int) = some (decide (a.drop i = b.drop i)) := by
  intro d
  induction d with
  | zero =>
    intro i k hi' hk
    obtain ⟨k, rfl⟩ : ∃ m, k = m + 1 := ⟨k - 1, by omega⟩
    simp only [laws_eqIntS.l0]; rw [if_neg (by omega), List.drop_eq_nil_of_le (by omega), List.drop_eq_nil_of_le (by omega)]; simp
  | succ d ih =>
    intro i k hi' hk
    obtain ⟨k, rfl⟩ : ∃ m, k = m + 1 := ⟨k - 1, by omega⟩
    have hlt : i < a.length := by omega
    have hlt2 : i < b.length := by omega
    simp only [laws_eqIntS.l0]
    rw [if_pos (by omega), if_pos (by omega), if_pos (by omega), rd_nat a i hlt, rd_nat b i hlt2, List.drop_eq_getElem_cons hlt, List.drop_eq_getElem_cons hlt2, w64 (by omega) (by omega), show ((i : Int) + 1) = ((i + 1 : Nat) : Int) from by omega, ih (i + 1) k (by omega) (by omega)]
    by_cases h : a[i] = b[i]
    · rw [if_pos h]; simp only [List.cons.injEq, h, true_and]
    · rw [if_neg h]; simp only [List.cons.injEq, h, false_and, decide_false]
theorem e_eqIntS (k : Nat) (a b : List Int) (hl : a.length ≤ 2000000) (hk : a.length < k) : laws_eqIntS.f k a b = some (decide (a = b)) := by
  unfold laws_eqIntS.f
  by_cases h : (a.length : Int) = (b.length : Int)
  · rw [if_pos h]; exact e_eqIntS_l0 a b hl (by omega) a.length 0 k (by omega) hk
  · rw [if_neg h]; simp; intro hc; rw [hc] at h; exact h rfl
theorem e_eqIntS_self (k : Nat) (a : List Int) (hl : a.length ≤ 2000000) (hk : a.length < k) : laws_eqIntS.f k a a = some true := by
  rw [e_eqIntS k a a hl hk]; simp

theorem e_eqBoard (k : Nat) (r c : Int) (l : List Int) (r' c' : Int) (l' : List Int) (hl : l.length ≤ 2000000) (hk : l.length < k) : laws_eqBoard.f k r c l r' c' l' = some (decide (r = r' ∧ c = c' ∧ l = l')) := by
  unfold laws_eqBoard.f
  by_cases h1 : r = r'
  · by_cases h2 : c = c'
    · rw [if_pos h1, if_pos h2, e_eqIntS k l l' hl hk]
      by_cases h3 : l = l' <;> simp [h1, h2, h3]
    · rw [if_pos h1, if_neg h2]; simp [h2]
  · rw [if_neg h1]; simp [h1]
theorem e_eqBoard_self (k : Nat) (r c : Int) (l : List Int) (hl : l.length ≤ 2000000) (hk : l.length < k) : laws_eqBoard.f k r c l r c l = some true := by
  rw [e_eqBoard k r c l r c l hl hk]; simp

theorem e_l1In (a b c : Int) : spec_l1In.f a b c = some (decide (b ≤ a ∧ a ≤ c)) := by
  unfold spec_l1In.f
  by_cases h : b ≤ a
  · rw [if_pos h]; simp [h]
  · rw [if_neg h]; simp [h]

theorem e_l1All_l0 (lo hi : Int) (l : List Int) (hl : l.length ≤ 2000000) : ∀ (d i k : Nat), i + d = l.length → d < k →
    spec_l1All.l0 k lo hi l (l.length : Int) (i : Int) = some (decide (∀ x ∈ l.drop i, lo ≤ x ∧ x ≤ hi)) := by
  intro d
  induction d with
  | zero =>
    intro i k hi' hk
    obtain ⟨k, rfl⟩ : ∃ m, k = m + 1 := ⟨k - 1, by omega⟩
    simp only [spec_l1All.l0]; rw [if_neg (by omega), List.drop_eq_nil_of_le (by omega)]; simp
  | succ d ih =>
    intro i k hi' hk
    obtain ⟨k, rfl⟩ : ∃ m, k = m + 1 := ⟨k - 1, by omega⟩
    have hlt : i < l.length := by omega
    simp only [spec_l1All.l0]
    rw [if_pos (by omega), if_pos (by omega), if_pos (by omega), e_l1In, rd_nat l i hlt, List.drop_eq_getElem_cons hlt, w64 (by omega) (by omega)]
    simp only [Option.bind_some, decide_eq_true_eq, List.forall_mem_cons]
    by_cases h : lo ≤ l[i] ∧ l[i] ≤ hi
    · rw [if_pos h]
      have := ih (i + 1) k (by omega) (by omega)
      rw [show ((i : Int) + 1) = ((i + 1 : Nat) : Int) from by omega, this]; simp [h]
    · rw [if_neg h]; simp [h]
theorem e_l1All (k : Nat) (l : List Int) (lo hi : Int) (hl : l.length ≤ 2000000) (hk : l.length < k) : spec_l1All.f k l lo hi = some (decide (∀ x ∈ l, lo ≤ x ∧ x ≤ hi)) := by
  unfold spec_l1All.f; exact e_l1All_l0 lo hi l hl l.length 0 k (by omega) hk

theorem e_boSide (a : Int) : spec_boSide.f a = some (decide (1 ≤ a ∧ a ≤ 6)) := by
  unfold spec_boSide.f; rw [e_l1In]; rfl

/-- Is there a cell in the column c of a row m? -/
def cell (m c : Int) : Bool := decide (m / 2 ^ c.toNat % 2 = 1)
theorem fin_of (m : Int) (n : Nat) (h0 : 0 ≤ m) (h1 : m < n) : ∃ i : Fin n, m = (i.val : Int) := ⟨⟨m.toNat, by omega⟩, by simp; omega⟩
theorem cell_spec (m c : Int) (hm : 0 ≤ m ∧ m ≤ 63) (hc : 0 ≤ c ∧ c ≤ 6) : (Int.tmod (shr .i64 m c) 2 == 1) = cell m c := by
  have h : ∀ m : Fin 64, ∀ c : Fin 7, (Int.tmod (shr .i64 (m.val : Int) (c.val : Int)) 2 == 1) = cell (m.val : Int) (c.val : Int) := by decide +kernel
  obtain ⟨i, rfl⟩ := fin_of m 64 hm.1 (by omega)
  obtain ⟨j, rfl⟩ := fin_of c 7 hc.1 (by omega)
  exact h i j
theorem cell_impl (m c : Int) (hm : 0 ≤ m ∧ m ≤ 63) (hc : 0 ≤ c ∧ c ≤ 6) : (Go.bits .and .i64 (shr .i64 m c) 1 == 1) = cell m c := by
  have h : ∀ m : Fin 64, ∀ c : Fin 7, (Go.bits .and .i64 (shr .i64 (m.val : Int) (c.val : Int)) 1 == 1) = cell (m.val : Int) (c.val : Int) := by decide +kernel
  obtain ⟨i, rfl⟩ := fin_of m 64 hm.1 (by omega)
  obtain ⟨j, rfl⟩ := fin_of c 7 hc.1 (by omega)
  exact h i j
theorem pow_le (a : Int) (h : 1 ≤ a ∧ a ≤ 6) : 2 ≤ (2 : Int) ^ a.toNat ∧ (2 : Int) ^ a.toNat ≤ 64 := by
  obtain ⟨h0, h1⟩ := h
  obtain h | h | h | h | h | h : a = 1 ∨ a = 2 ∨ a = 3 ∨ a = 4 ∨ a = 5 ∨ a = 6 := by omega
  all_goals (subst h; decide +kernel)
theorem rd_mem (l : List Int) (i : Int) (h0 : 0 ≤ i) (h1 : i < l.length) : rd l i ∈ l := by
  obtain ⟨n, rfl⟩ := Int.eq_ofNat_of_zero_le h0
  rw [rd_nat l n (by omega)]; exact List.getElem_mem _

theorem goodB_le {r c : Int} {l : List Int} (h : GoodB r c l) : ∀ x ∈ l, 0 ≤ x ∧ x ≤ 63 := by
  intro x hx
  have := h.2.2.2 x hx
  have := pow_le c h.2.1
  omega
theorem goodB_len {r c : Int} {l : List Int} (h : GoodB r c l) : l.length ≤ 6 := by
  have := h.1; have := h.2.2.1; omega
/-- Is it a place of a board? -/
def Place (r c i j : Int) : Prop := (0 ≤ i ∧ i ≤ r - 1) ∧ (0 ≤ j ∧ j ≤ c - 1)
instance (r c i j : Int) : Decidable (Place r c i j) := by unfold Place; exact inferInstance
theorem i_IsBoard (r c : Int) (l : List Int) : impl_IsBoard.f r c l = some (decide (GoodB r c l)) := rfl

theorem sh1 (a : Int) (h : 1 ≤ a ∧ a ≤ 6) : wrap64 (shl .i64 1 a - 1) = 2 ^ a.toNat - 1 := by
  obtain ⟨h0, h1⟩ := h
  obtain h | h | h | h | h | h : a = 1 ∨ a = 2 ∨ a = 3 ∨ a = 4 ∨ a = 5 ∨ a = 6 := by omega
  all_goals (subst h; decide +kernel)
theorem e_boGood (k : Nat) (r c : Int) (l : List Int) (hl : l.length ≤ 2000000) (hk : l.length < k) : spec_boGood.f k r c l = some (decide (GoodB r c l)) := by
  unfold spec_boGood.f
  rw [e_boSide, e_boSide]
  simp only [Option.bind_some, decide_eq_true_eq]
  by_cases h0 : 1 ≤ r ∧ r ≤ 6
  · by_cases h1 : 1 ≤ c ∧ c ≤ 6
    · by_cases h2 : (l.length : Int) = r
      · rw [if_pos h0, if_pos h1, if_pos h2, if_pos (by omega), sh1 c h1, e_l1All k l _ _ hl hk]
        simp [GoodB, h0, h1, h2]
      · rw [if_pos h0, if_pos h1, if_neg h2]; simp [GoodB, h2]
    · rw [if_pos h0, if_neg h1]; simp [GoodB, h1]
  · rw [if_neg h0]; simp [GoodB, h0]

/-- Is the number with the index i -1, or a column with a cell that none before it has? -/
def okP (c : Int) (l p : List Int) (i : Nat) : Bool := decide (rd p (i : Int) = -1) || (decide (0 ≤ rd p (i : Int) ∧ rd p (i : Int) ≤ c - 1) && (cell (rd l (i : Int)) (rd p (i : Int)) && !((p.take i).contains (rd p (i : Int)))))
def placF (c : Int) (l p : List Int) : Nat → Nat → Bool
  | 0, _ => true
  | d + 1, i => okP c l p i && placF c l p d (i + 1)
/-- Is a list a placement on a board? -/
def isPl (r c : Int) (l p : List Int) : Bool := decide ((p.length : Int) = r) && placF c l p p.length 0

theorem e_boHas (r c : Int) (l : List Int) (i j : Int) (h : GoodB r c l) (hp : Place r c i j) : spec_boHas.f r c l i j = some (cell (rd l i) j) := by
  unfold spec_boHas.f
  have h1 := h.1; have h2 := h.2.1; have h3 := h.2.2.1; have h4 := hp.1; have h5 := hp.2
  have hm := goodB_le h (rd l i) (rd_mem l i (by omega) (by omega))
  rw [if_pos (by omega), if_pos (by omega), if_pos (by omega), cell_spec _ _ hm (by omega)]

theorem l1Has_l0 (a : Int) (l : List Int) (hl : l.length ≤ 2000000) : ∀ (d i k : Nat), i + d = l.length → d < k →
    spec_l1Has.l0 k a l (l.length : Int) (i : Int) = some ((l.drop i).contains a) := by
  intro d
  induction d with
  | zero =>
    intro i k hi hk
    obtain ⟨k, rfl⟩ : ∃ m, k = m + 1 := ⟨k - 1, by omega⟩
    simp only [spec_l1Has.l0]; rw [if_neg (by omega), List.drop_eq_nil_of_le (by omega)]; rfl
  | succ d ih =>
    intro i k hi hk
    obtain ⟨k, rfl⟩ : ∃ m, k = m + 1 := ⟨k - 1, by omega⟩
    have hlt : i < l.length := by omega
    simp only [spec_l1Has.l0]
    rw [if_pos (by omega), if_pos (by omega), if_pos (by omega), rd_nat l i hlt, w64 (by omega) (by omega), show ((i : Int) + 1) = ((i + 1 : Nat) : Int) from by omega, List.drop_eq_getElem_cons hlt, List.contains_cons]
    by_cases h : l[i] = a
    · rw [if_pos h]; simp [h]
    · rw [if_neg h, ih (i + 1) k (by omega) (by omega)]
      have : (a == l[i]) = false := beq_eq_false_iff_ne.2 (fun e => h e.symm)
      rw [this, Bool.false_or]
theorem e_l1Has (k : Nat) (l : List Int) (a : Int) (hl : l.length ≤ 2000000) (hk : l.length < k) : spec_l1Has.f k l a = some (l.contains a) := by
  unfold spec_l1Has.f
  have := l1Has_l0 a l hl l.length 0 k (by omega) hk
  simpa using this

theorem roGood_l0 (r c : Int) (l p : List Int) (g : GoodB r c l) (hp : (p.length : Int) = r) : ∀ (d i k : Nat), i + d = p.length → d + 10 < k →
    spec_roGood.l0 k p p (p.length : Int) (i : Int) r c l = some (placF c l p d i) := by
  have hr := g.2.2.1; have hc := g.2.1; have hn := goodB_len g
  intro d
  induction d with
  | zero =>
    intro i k hi hk
    obtain ⟨k, rfl⟩ : ∃ m, k = m + 1 := ⟨k - 1, by omega⟩
    simp only [spec_roGood.l0]; rw [if_neg (by omega)]; rfl
  | succ d ih =>
    intro i k hi hk
    obtain ⟨k, rfl⟩ : ∃ m, k = m + 1 := ⟨k - 1, by omega⟩
    have hlt : i < p.length := by omega
    simp only [spec_roGood.l0]
    rw [if_pos (by omega), if_pos (by omega), if_pos (by omega), w64 (x := (i : Int) + 1) (by omega) (by omega), show ((i : Int) + 1) = ((i + 1 : Nat) : Int) from by omega, ih (i + 1) k (by omega) (by omega), w64 (by omega) (by omega), e_l1In]
    simp only [placF, okP, Option.bind_some, decide_eq_true_eq]
    by_cases h1 : rd p (i : Int) = -1
    · rw [if_pos h1]; simp [h1]
    · rw [if_neg h1]
      by_cases h2 : 0 ≤ rd p (i : Int) ∧ rd p (i : Int) ≤ c - 1
      · rw [if_pos h2, e_boHas r c l (i : Int) _ g ⟨by omega, h2⟩]
        simp only [Option.bind_some]
        by_cases h3 : cell (rd l (i : Int)) (rd p (i : Int)) = true
        · rw [if_pos h3, if_pos (by omega), Int.toNat_natCast, e_l1Has k _ _ (by rw [List.length_take]; omega) (by rw [List.length_take]; omega)]
          simp only [Option.bind_some]
          generalize (p.take i).contains (rd p (i : Int)) = q
          cases q <;> simp [h1, h2, h3]
        · rw [if_neg h3]; simp [h1, h3]
      · rw [if_neg h2]; simp [h1, h2]
theorem e_roGood (k : Nat) (r c : Int) (l p : List Int) (g : GoodB r c l) (hk : 100 ≤ k) : spec_roGood.f k r c l p = some (isPl r c l p) := by
  unfold spec_roGood.f isPl
  have hr := g.2.2.1; have hn := goodB_len g
  by_cases h : (p.length : Int) = r
  · rw [if_pos h]
    have := roGood_l0 r c l p g h p.length 0 k (by omega) (by omega)
    rw [show ((0 : Nat) : Int) = 0 from rfl] at this
    rw [this]; simp [h]
  · rw [if_neg h]; simp [h]

theorem i_has (r c : Int) (l : List Int) (i j : Int) (h : GoodB r c l) (hp : Place r c i j) : impl_Board_has.f r c l i j = some (cell (rd l i) j) := by
  unfold impl_Board_has.f
  have h1 := h.1; have h2 := h.2.1; have h3 := h.2.2.1; have h4 := hp.1; have h5 := hp.2
  have hm := goodB_le h (rd l i) (rd_mem l i (by omega) (by omega))
  rw [if_pos (by omega), if_pos (by omega), if_pos (by omega), cell_impl _ _ hm (by omega)]

theorem e_within (a b c : Int) : impl_within.f a b c = some (decide (b ≤ a ∧ a ≤ c)) := by
  unfold impl_within.f
  by_cases h : b ≤ a
  · rw [if_pos h]; simp [h]
  · rw [if_neg h]; simp [h]

theorem i_place (r c : Int) (l : List Int) (i j : Int) (h : GoodB r c l) : impl_Board_place.f r c l i j = some (decide (Place r c i j)) := by
  unfold impl_Board_place.f
  have h1 := h.1; have h2 := h.2.1
  rw [w64 (by omega) (by omega), w64 (by omega) (by omega), e_within, e_within]
  simp only [Option.bind_some, decide_eq_true_eq]
  by_cases h : 0 ≤ i ∧ i ≤ r - 1
  · rw [if_pos h]; simp [Place, h]
  · rw [if_neg h]; simp [Place, h]

theorem sIndex_l0 (a : Int) (l : List Int) (hl : l.length ≤ 2000000) : ∀ (d i k : Nat), i + d = l.length → d < k →
    ∃ r, slices_Index_int_int.l0 k l a (l.length : Int) (i : Int) = some r ∧ (decide (r ≥ 0)) = (l.drop i).contains a := by
  intro d
  induction d with
  | zero =>
    intro i k hi hk
    obtain ⟨k, rfl⟩ : ∃ m, k = m + 1 := ⟨k - 1, by omega⟩
    simp only [slices_Index_int_int.l0]; rw [if_neg (by omega), List.drop_eq_nil_of_le (by omega)]; exact ⟨_, rfl, rfl⟩
  | succ d ih =>
    intro i k hi hk
    obtain ⟨k, rfl⟩ : ∃ m, k = m + 1 := ⟨k - 1, by omega⟩
    have hlt : i < l.length := by omega
    simp only [slices_Index_int_int.l0]
    rw [if_pos (by omega), if_pos (by omega), if_pos (by omega), rd_nat l i hlt, w64 (by omega) (by omega), show ((i : Int) + 1) = ((i + 1 : Nat) : Int) from by omega, List.drop_eq_getElem_cons hlt, List.contains_cons]
    by_cases h : a = l[i]
    · rw [if_pos h]; exact ⟨_, rfl, by simp [h]⟩
    · rw [if_neg h]
      obtain ⟨r, h1, h2⟩ := ih (i + 1) k (by omega) (by omega)
      have : (a == l[i]) = false := beq_eq_false_iff_ne.2 h
      exact ⟨r, h1, by rw [this, Bool.false_or]; exact h2⟩
theorem i_Contains (k : Nat) (l : List Int) (a : Int) (hl : l.length ≤ 2000000) (hk : l.length < k) : slices_Contains_int_int.f k l a = some (l.contains a) := by
  unfold slices_Contains_int_int.f slices_Index_int_int.f
  obtain ⟨r, h1, h2⟩ := sIndex_l0 a l hl l.length 0 k (by omega) hk
  rw [show ((0 : Nat) : Int) = 0 from rfl] at h1
  rw [h1]; simp only [Option.bind_some]; rw [h2]; simp

theorem isPl_l0 (r c : Int) (l p : List Int) (g : GoodB r c l) (hp : (p.length : Int) = r) : ∀ (d i k : Nat), i + d = p.length → d + 10 < k →
    impl_Board_isPlacement.l0 k p p (p.length : Int) (i : Int) r c l = some (placF c l p d i) := by
  have hr := g.2.2.1; have hc := g.2.1; have hn := goodB_len g
  intro d
  induction d with
  | zero =>
    intro i k hi hk
    obtain ⟨k, rfl⟩ : ∃ m, k = m + 1 := ⟨k - 1, by omega⟩
    simp only [impl_Board_isPlacement.l0]; rw [if_neg (by omega)]; rfl
  | succ d ih =>
    intro i k hi hk
    obtain ⟨k, rfl⟩ : ∃ m, k = m + 1 := ⟨k - 1, by omega⟩
    have hlt : i < p.length := by omega
    simp only [impl_Board_isPlacement.l0]
    rw [if_pos (by omega), if_pos (by omega), if_pos (by omega), w64 (x := (i : Int) + 1) (by omega) (by omega), show ((i : Int) + 1) = ((i + 1 : Nat) : Int) from by omega, ih (i + 1) k (by omega) (by omega), i_place r c l _ _ g]
    simp only [placF, okP, Option.bind_some, decide_eq_true_eq]
    by_cases h1 : rd p (i : Int) = -1
    · rw [if_pos h1]; simp [h1]
    · rw [if_neg h1]
      by_cases h2 : 0 ≤ rd p (i : Int) ∧ rd p (i : Int) ≤ c - 1
      · rw [if_pos (show Place r c (i : Int) (rd p (i : Int)) from ⟨by omega, h2⟩), i_has r c l (i : Int) _ g ⟨by omega, h2⟩]
        simp only [Option.bind_some]
        by_cases h3 : cell (rd l (i : Int)) (rd p (i : Int)) = true
        · rw [if_pos h3, if_pos (by omega), Int.toNat_natCast, i_Contains k _ _ (by rw [List.length_take]; omega) (by rw [List.length_take]; omega)]
          simp only [Option.bind_some]
          generalize (p.take i).contains (rd p (i : Int)) = q
          cases q <;> simp [h1, h2, h3]
        · rw [if_neg h3]; simp [h1, h3]
      · rw [if_neg (fun x => h2 x.2)]; simp [h1, h2]
theorem i_isPlacement (k : Nat) (r c : Int) (l p : List Int) (g : GoodB r c l) (hk : 100 ≤ k) : impl_Board_isPlacement.f k r c l p = some (isPl r c l p) := by
  unfold impl_Board_isPlacement.f isPl
  have hr := g.2.2.1; have hn := goodB_len g
  by_cases h : (p.length : Int) = r
  · rw [if_pos h]
    have := isPl_l0 r c l p g h p.length 0 k (by omega) (by omega)
    rw [show ((0 : Nat) : Int) = 0 from rfl] at this
    rw [this]; simp [h]
  · rw [if_neg h]; simp [h]

theorem e_roCount_l0 (l : List Int) (hl : l.length ≤ 2000000) (hx : ∀ x ∈ l, -1 ≤ x) : ∀ (d i k : Nat) (a : Int), i + d = l.length → d < k → 0 ≤ a → a ≤ i →
    spec_roCount.l0 k a l (l.length : Int) (i : Int) = some (a + cntR (l.drop i)) := by
  intro d
  induction d with
  | zero =>
    intro i k a hi hk h0 h1
    obtain ⟨k, rfl⟩ : ∃ m, k = m + 1 := ⟨k - 1, by omega⟩
    simp only [spec_roCount.l0]; rw [if_neg (by omega), List.drop_eq_nil_of_le (by omega)]; simp [cntR]
  | succ d ih =>
    intro i k a hi hk h0 h1
    obtain ⟨k, rfl⟩ : ∃ m, k = m + 1 := ⟨k - 1, by omega⟩
    have hlt : i < l.length := by omega
    have hg := hx l[i] (List.getElem_mem _)
    simp only [spec_roCount.l0]
    rw [if_pos (by omega), if_pos (by omega), if_pos (by omega), rd_nat l i hlt, List.drop_eq_getElem_cons hlt,
      w64 (x := (i : Int) + 1) (by omega) (by omega), show ((i : Int) + 1) = ((i + 1 : Nat) : Int) from by omega, w64 (by omega) (by omega)]
    by_cases h : l[i] ≥ 0
    · rw [if_pos h, ih (i + 1) k (a + 1) (by omega) (by omega) (by omega) (by omega)]
      have : l[i] ≠ -1 := by omega
      simp only [cntR, this, if_false]; congr 1; omega
    · rw [if_neg h, ih (i + 1) k a (by omega) (by omega) h0 (by omega)]
      have : l[i] = -1 := by omega
      simp [cntR, this]
theorem e_roCount (k : Nat) (l : List Int) (hl : l.length ≤ 2000000) (hk : l.length < k) (hx : ∀ x ∈ l, -1 ≤ x) : spec_roCount.f k l = some (cntR l) := by
  unfold spec_roCount.f
  have := e_roCount_l0 l hl hx l.length 0 k 0 (by omega) hk (by omega) (by omega)
  simpa using this

theorem rd_set (l : List Int) (i : Nat) (v : Int) (j : Nat) (h : i < l.length) : rd (l.set i v) (j : Int) = if i = j then v else rd l (j : Int) := by
  unfold rd
  simp only [List.getD, Int.toNat_natCast, List.getElem?_set]
  by_cases hij : i = j
  · subst hij; simp [h]
  · simp [hij]
theorem rd_ext (a b : List Int) (hl : a.length = b.length) (h : ∀ j : Nat, j < a.length → rd a (j : Int) = rd b (j : Int)) : a = b := by
  refine List.ext_getElem hl ?_
  intro i h1 h2
  have := h i h1
  rwa [rd_nat a i h1, rd_nat b i h2] at this

/-- The columns taken, with one more. -/
def orZ (taken : Int) (j : Nat) : Int := Go.bits .or .i64 taken (shl .i64 1 (j : Int))
/-- Numbers of rooks of all placements, in order: rows that are left, columns taken. -/
def Z (C : Nat) : List Int → Int → List Nat
  | [], _ => [0]
  | m :: t, taken => (List.range (C + 1)).flatMap fun i => if i = 0 then Z C t taken else if cell m ((i - 1 : Nat) : Int) && !cell taken ((i - 1 : Nat) : Int) then (Z C t (orZ taken (i - 1))).map (· + 1) else []
/-- How often each number below M stands. -/
def HZ (M : Nat) (z : List Nat) : List Int := (List.range M).map fun k => ((z.count k : Nat) : Int)
theorem HZ_len (M : Nat) (z : List Nat) : (HZ M z).length = M := by simp [HZ]
theorem HZ_rd (M : Nat) (z : List Nat) (i : Nat) (h : i < M) : rd (HZ M z) (i : Int) = ((z.count i : Nat) : Int) := by
  rw [rd_nat _ i (by rw [HZ_len]; exact h)]; simp [HZ]
/-- How many columns are free. -/
def frZ (C : Nat) (taken : Int) : Nat := ((List.range C).filter fun j : Nat => !cell taken (j : Int)).length
theorem orZ_ok (C : Nat) (taken : Int) (j : Nat) (hC : C ≤ 6) (h : 0 ≤ taken ∧ taken ≤ 63) (hj : j < C) (hf : cell taken (j : Int) = false) : (0 ≤ orZ taken j ∧ orZ taken j ≤ 63) ∧ frZ C (orZ taken j) + 1 ≤ frZ C taken := by
  have key : ∀ C : Fin 7, ∀ j : Fin 6, ∀ t : Fin 64, j.val < C.val → cell (t.val : Int) (j.val : Int) = false → (0 ≤ orZ (t.val : Int) j.val ∧ orZ (t.val : Int) j.val ≤ 63) ∧ frZ C.val (orZ (t.val : Int) j.val) + 1 ≤ frZ C.val (t.val : Int) := by decide +kernel
  obtain ⟨t, rfl⟩ := fin_of taken 64 h.1 (by omega)
  exact key ⟨C, by omega⟩ ⟨j, by omega⟩ t hj hf
theorem frZ_le (C : Nat) (taken : Int) : frZ C taken ≤ C := by
  unfold frZ
  exact Nat.le_trans (List.length_filter_le _ _) (by simp)
theorem Z_le (C : Nat) (hC : C ≤ 6) : ∀ (t : List Int) (taken : Int), 0 ≤ taken ∧ taken ≤ 63 → ∀ z ∈ Z C t taken, z ≤ t.length ∧ z ≤ frZ C taken
  | [], _, _, z, hz => by simp [Z] at hz; omega
  | m :: t, taken, h, z, hz => by
    simp only [Z, List.mem_flatMap, List.mem_range] at hz
    obtain ⟨i, hi, hz⟩ := hz
    by_cases h0 : i = 0
    · rw [if_pos h0] at hz
      have := Z_le C hC t taken h z hz
      exact ⟨by simp; omega, this.2⟩
    · rw [if_neg h0] at hz
      split at hz
      case isFalse => simp at hz
      case isTrue hc =>
        simp only [Bool.and_eq_true, Bool.not_eq_true'] at hc
        obtain ⟨y, hy, rfl⟩ := List.mem_map.1 hz
        have ho := orZ_ok C taken (i - 1) hC h (by omega) hc.2
        have := Z_le C hC t _ ho.1 y hy
        exact ⟨by simp; omega, by omega⟩
theorem flat_len {α β : Type} (f : α → List β) (b : Nat) : ∀ l : List α, (∀ x ∈ l, (f x).length ≤ b) → (l.flatMap f).length ≤ l.length * b
  | [], _ => by simp
  | x :: t, h => by
    have h1 := h x (by simp)
    have h2 := flat_len f b t (fun y hy => h y (by simp [hy]))
    simp only [List.flatMap_cons, List.length_append, List.length_cons, Nat.succ_mul]
    omega
theorem Z_length (C : Nat) (hC : C ≤ 6) : ∀ (t : List Int) (taken : Int), (Z C t taken).length ≤ 7 ^ t.length
  | [], _ => by simp [Z]
  | m :: t, taken => by
    simp only [Z, List.length_cons]
    refine Nat.le_trans (flat_len _ (7 ^ t.length) _ ?_) ?_
    · intro i _
      by_cases h0 : i = 0
      · rw [if_pos h0]; exact Z_length C hC t taken
      · rw [if_neg h0]
        split
        · rw [List.length_map]; exact Z_length C hC t _
        · simp
    · rw [List.length_range, Nat.pow_succ, Nat.mul_comm]
      exact Nat.mul_le_mul_left _ (by omega)
theorem Z_small (C : Nat) (hC : C ≤ 6) (t : List Int) (taken : Int) (ht : t.length ≤ 6) (k : Nat) : (Z C t taken).count k ≤ 117649 := by
  refine Nat.le_trans List.count_le_length (Nat.le_trans (Z_length C hC t taken) ?_)
  exact Nat.le_trans (Nat.pow_le_pow_right (by omega) ht) (by decide)

theorem cntR_snoc : ∀ (a : List Int) (v : Int), cntR (a ++ [v]) = cntR a + (if v = -1 then 0 else 1)
  | [], v => by simp [cntR]
  | x :: a, v => by simp only [List.cons_append, cntR, cntR_snoc a v]; omega
theorem okC_cell (m taken : Int) (j : Nat) (hm : 0 ≤ m ∧ m ≤ 63) (ht : 0 ≤ taken ∧ taken ≤ 63) (hj : j ≤ 6) : okC m taken j = (cell m (j : Int) && !cell taken (j : Int)) := by
  unfold okC
  rw [cell_impl m (j : Int) hm (by omega), cell_impl taken (j : Int) ht (by omega)]
theorem flatMap_map_eq {α β : Type} (f : α → List (List Int)) (g : α → List Nat) (u : List Int → β) (v : Nat → β) : ∀ l : List α, (∀ x ∈ l, (f x).map u = (g x).map v) → (l.flatMap f).map u = (l.flatMap g).map v
  | [], _ => rfl
  | x :: l, h => by
    simp only [List.flatMap_cons, List.map_append, h x (by simp), flatMap_map_eq f g u v l (fun y hy => h y (by simp [hy]))]
theorem plc_Z (C : Nat) (hC : C ≤ 6) : ∀ (t : List Int) (taken : Int) (acc : List Int), (∀ x ∈ t, 0 ≤ x ∧ x ≤ 63) → 0 ≤ taken ∧ taken ≤ 63 → (plc C t taken acc).map cntR = (Z C t taken).map fun z : Nat => cntR acc + (z : Int)
  | [], taken, acc, _, _ => by simp [plc, Z]
  | m :: t, taken, acc, hm, ht => by
    simp only [plc, Z]
    refine flatMap_map_eq _ _ _ _ _ ?_
    intro i hi
    have hi := List.mem_range.1 hi
    by_cases h0 : i = 0
    · rw [if_pos h0, if_pos h0, plc_Z C hC t taken _ (fun x hx => hm x (by simp [hx])) ht, cntR_snoc]; simp
    · rw [if_neg h0, if_neg h0, okC_cell m taken (i - 1) (hm m (by simp)) ht (by omega)]
      by_cases hc : (cell m ((i - 1 : Nat) : Int) && !cell taken ((i - 1 : Nat) : Int)) = true
      · rw [if_pos hc, if_pos hc]
        simp only [Bool.and_eq_true, Bool.not_eq_true'] at hc
        have ho := orZ_ok C taken (i - 1) hC ht (by omega) hc.2
        rw [show orC taken (i - 1) = orZ taken (i - 1) from rfl, plc_Z C hC t _ _ (fun x hx => hm x (by simp [hx])) ho.1, cntR_snoc, List.map_map, if_neg (by omega)]
        refine List.map_congr_left ?_
        intro z _
        simp only [Function.comp]; omega
      · rw [if_neg hc, if_neg hc]; rfl

theorem HZ_nil (M : Nat) : HZ M [] = List.replicate M 0 := by
  refine rd_ext _ _ (by simp [HZ_len]) ?_
  intro j hj
  rw [HZ_len] at hj
  rw [HZ_rd _ _ j hj, rd_nat _ j (by simpa using hj)]; simp
/-- A board's bounds. -/
def Nice (r c : Int) (l : List Int) : Prop := (1 ≤ r ∧ r ≤ 6) ∧ (1 ≤ c ∧ c ≤ 6) ∧ (l.length : Int) = r ∧ ∀ x ∈ l, 0 ≤ x ∧ x ≤ 63
/-- The rook numbers. -/
def numsL (r c : Int) (l : List Int) : List Int := HZ (min r c + 1).toNat (Z c.toNat l 0)
theorem Z_ltN (r c : Int) (l : List Int) (h : Nice r c l) : ∀ z ∈ Z c.toNat l 0, z < (min r c + 1).toNat := by
  intro z hz
  have h1 := h.1; have h2 := h.2.1; have h3 := h.2.2.1
  have := Z_le c.toNat (by omega) l 0 (by omega) z hz
  have := frZ_le c.toNat 0
  omega
theorem numsL_lenN (r c : Int) (l : List Int) (h : Nice r c l) : (numsL r c l).length ≤ 7 := by
  have h1 := h.1; have h2 := h.2.1
  unfold numsL; rw [HZ_len]; omega

theorem plc_cnt (C : Nat) : ∀ (t : List Int) (taken : Int) (acc : List Int), ∀ q ∈ plc C t taken acc, cntR acc ≤ cntR q ∧ cntR q ≤ cntR acc + t.length
  | [], taken, acc, q, h => by
    simp [plc] at h; subst h; simp
  | m :: t, taken, acc, q, h => by
    simp only [plc, List.mem_flatMap, List.mem_range] at h
    obtain ⟨i, hi, h⟩ := h
    by_cases h0 : i = 0
    · rw [if_pos h0] at h
      have := plc_cnt C t _ _ q h
      rw [cntR_snoc, if_pos rfl] at this
      simp only [List.length_cons]; omega
    · rw [if_neg h0] at h
      split at h
      · have := plc_cnt C t _ _ q h
        rw [cntR_snoc, if_neg (by omega)] at this
        simp only [List.length_cons]; omega
      · simp at h
/-- The placements with k rooks more than stand already. -/
def selL (C : Nat) (t : List Int) (taken : Int) (acc : List Int) (k : Int) : List (List Int) := (plc C t taken acc).filter fun q => decide (cntR q = cntR acc + k)
theorem selL_len (C : Nat) (hC : C ≤ 6) (t : List Int) (ht : t.length ≤ 6) (taken : Int) (acc : List Int) (k : Int) : (selL C t taken acc k).length ≤ 117649 := by
  unfold selL
  refine Nat.le_trans (List.length_filter_le _ _) (Nat.le_trans (plc_len C hC t taken acc) ?_)
  exact Nat.le_trans (Nat.pow_le_pow_right (by omega) ht) (by decide)
theorem plc_elem (C : Nat) : ∀ (t : List Int) (taken : Int) (acc : List Int), ∀ q ∈ plc C t taken acc, q.length = acc.length + t.length
  | [], taken, acc, q, h => by
    simp [plc] at h; subst h; simp
  | m :: t, taken, acc, q, h => by
    simp only [plc, List.mem_flatMap, List.mem_range] at h
    obtain ⟨i, hi, h⟩ := h
    by_cases h0 : i = 0
    · rw [if_pos h0] at h
      have := plc_elem C t _ _ q h
      simp only [List.length_append, List.length_cons, List.length_nil] at this ⊢; omega
    · rw [if_neg h0] at h
      split at h
      · have := plc_elem C t _ _ q h
        simp only [List.length_append, List.length_cons, List.length_nil] at this ⊢; omega
      · simp at h
theorem count_cast (zs : List Nat) (k : Int) (hk : 0 ≤ k) : (zs.map fun z : Nat => (0 : Int) + (z : Int)).count k = zs.count k.toNat := by
  induction zs with
  | nil => rfl
  | cons z zs ih =>
    rw [List.map_cons, List.count_cons, List.count_cons, ih]
    by_cases h : z = k.toNat
    · rw [if_pos (by simp; omega), if_pos (by simp [h])]
    · rw [if_neg (by simp; omega), if_neg (by simp [h])]
theorem filter_count (k : Int) : ∀ L : List (List Int), (L.filter fun q => decide (cntR q = k)).length = (L.map cntR).count k
  | [] => rfl
  | q :: L => by
    rw [List.map_cons, List.count_cons, ← filter_count k L]
    by_cases h : cntR q = k
    · rw [List.filter_cons_of_pos (by simpa using h), if_pos (by simpa using h)]; rfl
    · rw [List.filter_cons_of_neg (by simpa using h), if_neg (by simpa using h)]; rfl
theorem selL_count (C : Nat) (hC : C ≤ 6) (l : List Int) (hl : ∀ x ∈ l, 0 ≤ x ∧ x ≤ 63) (k : Int) (hk : 0 ≤ k) : (selL C l 0 [] k).length = (Z C l 0).count k.toNat := by
  unfold selL
  have h := plc_Z C hC l 0 [] hl (by omega)
  have e : cntR [] + k = k := by simp [cntR]
  rw [e, filter_count, h, show cntR [] = 0 from rfl, count_cast _ _ hk]
theorem flatMap_cg {α β : Type} (f g : α → List β) : ∀ l : List α, (∀ x ∈ l, f x = g x) → l.flatMap f = l.flatMap g
  | [], _ => rfl
  | x :: l, h => by simp only [List.flatMap_cons, h x (by simp), flatMap_cg f g l (fun y hy => h y (by simp [hy]))]

def candF (C : Nat) (m : Int) (t : List Int) (taken : Int) (acc : List Int) (k : Int) (i : Nat) : List (List Int) := if i = 0 then selL C t taken (acc ++ [-1]) k else if okC m taken (i - 1) && decide (0 < k) then selL C t (orC taken (i - 1)) (acc ++ [((i - 1 : Nat) : Int)]) (k - 1) else []
theorem flatMap_congr' {α β : Type} (f g : α → List β) : ∀ l : List α, (∀ x ∈ l, f x = g x) → l.flatMap f = l.flatMap g
  | [], _ => rfl
  | x :: l, h => by simp only [List.flatMap_cons, h x (by simp), flatMap_congr' f g l (fun y hy => h y (by simp [hy]))]
theorem selL_cons (C : Nat) (m : Int) (t : List Int) (taken : Int) (acc : List Int) (k : Int) (hk : 0 ≤ k) : selL C (m :: t) taken acc k = (List.range (C + 1)).flatMap (candF C m t taken acc k) := by
  unfold selL
  simp only [plc]
  rw [List.filter_flatMap]
  refine flatMap_congr' _ _ _ ?_
  intro i hi
  unfold candF
  by_cases h0 : i = 0
  · rw [if_pos h0, if_pos h0]
    unfold selL
    rw [cntR_snoc, if_pos rfl, Int.add_zero]
  · rw [if_neg h0, if_neg h0]
    by_cases h1 : okC m taken (i - 1) = true
    · rw [if_pos h1]
      by_cases h2 : 0 < k
      · rw [if_pos (by simp [h1, h2])]
        unfold selL
        rw [cntR_snoc, if_neg (by omega), show cntR acc + 1 + (k - 1) = cntR acc + k by omega]
      · rw [if_neg (by simp [h2])]
        refine List.filter_eq_nil_iff.2 ?_
        intro q hq
        have := plc_cnt C t _ _ q hq
        rw [cntR_snoc, if_neg (by omega)] at this
        simp; omega
    · rw [if_neg h1, if_neg (by simp [h1])]; rfl
theorem candF_len (C : Nat) (hC : C ≤ 6) (m : Int) (t : List Int) (ht : t.length ≤ 6) (taken : Int) (acc : List Int) (k : Int) (i : Nat) : (candF C m t taken acc k i).length ≤ 117649 := by
  unfold candF
  split
  · exact selL_len C hC t ht _ _ _
  · split
    · exact selL_len C hC t ht _ _ _
    · simp
theorem cell_orZ (taken : Int) (j i : Nat) (h : 0 ≤ taken ∧ taken ≤ 63) (hj : j < 6) (hi : i < 6) : cell (orZ taken j) (i : Int) = (cell taken (i : Int) || decide (i = j)) := by
  have key : ∀ j i : Fin 6, ∀ t : Fin 64, cell (orZ (t.val : Int) j.val) (i.val : Int) = (cell (t.val : Int) (i.val : Int) || decide (i.val = j.val)) := by decide +kernel
  obtain ⟨t, rfl⟩ := fin_of taken 64 h.1 (by omega)
  exact key ⟨j, hj⟩ ⟨i, hi⟩ t
theorem e_l1Own (l : List Int) (h : l.length ≤ 1000000) : spec_l1Own.f l = some l := by
  unfold spec_l1Own.f
  simp only [Option.bind_some, List.length_nil, List.nil_append]
  rw [if_pos (by omega)]
theorem contains_snoc (acc : List Int) (v x : Int) : (acc ++ [v]).contains x = (acc.contains x || (x == v)) := by
  induction acc with
  | nil => rw [List.nil_append, List.contains_cons, List.contains_nil, Bool.or_false, Bool.false_or]
  | cons a acc ih => rw [List.cons_append, List.contains_cons, List.contains_cons, ih, Bool.or_assoc]
theorem e_roAll (r c : Int) (l : List Int) (h : GoodB r c l) (C : Nat) (hC : (C : Int) = c) : ∀ (t acc : List Int) (taken k most : Int) (fuel : Nat), l.drop acc.length = t → acc.length ≤ l.length → (∀ j : Nat, j < C → acc.contains (j : Int) = cell taken (j : Int)) → 0 ≤ taken ∧ taken ≤ 63 → 0 ≤ k ∧ k ≤ 6 → 1 ≤ most ∧ most ≤ 2000000 → 200 * t.length + 100 ≤ fuel → spec_roAll.f fuel r c l acc k most = some ((selL C t taken acc k).take most.toNat) := by
  have h1 := h.1; have h2 := h.2.1; have h3 := h.2.2.1
  have hl := goodB_len h
  intro t
  induction t with
  | nil =>
    intro acc taken k most fuel ht hacc hinv htk hk hm hf
    have hrl : acc.length = l.length := by
      have := congrArg List.length ht
      simp at this; omega
    obtain ⟨fuel, rfl⟩ : ∃ n, fuel = n + 1 := ⟨fuel - 1, by omega⟩
    rw [spec_roAll.f, if_pos (by omega)]
    unfold selL
    simp only [plc]
    by_cases h0 : k = 0
    · subst h0
      rw [if_pos rfl, e_l1Own acc (by omega)]
      rw [Option.bind_some, List.filter_cons_of_pos (by simp), List.filter_nil, List.take_of_length_le (by simp; omega)]
    · rw [if_neg h0, List.filter_cons_of_neg (by simp; omega)]; simp
  | cons m t ih =>
    intro acc taken k most fuel ht hacc hinv htk hk hm hf
    have hlt : acc.length < l.length := by
      have := congrArg List.length ht
      simp at this; omega
    have hd := List.drop_eq_getElem_cons hlt
    rw [ht] at hd
    injection hd with hm' ht'
    simp only [List.length_cons] at hf
    have htl : t.length = l.length - (acc.length + 1) := by rw [ht']; simp
    have hm63 := goodB_le h m (by rw [hm']; exact List.getElem_mem _)
    obtain ⟨fuel, rfl⟩ : ∃ n, fuel = n + 1 := ⟨fuel - 1, by omega⟩
    rw [spec_roAll.f, if_neg (by omega), w64 (by omega) (by omega)]
    by_cases hr : r - (acc.length : Int) < k
    · rw [if_pos hr]
      have : selL C (m :: t) taken acc k = [] := by
        refine List.filter_eq_nil_iff.2 ?_
        intro q hq
        have := plc_cnt C _ _ _ q hq
        simp only [List.length_cons] at this
        simp; omega
      rw [this]; simp
    · rw [if_neg hr]
      have hw := selL_cons C m t taken acc k hk.1
      have hcl : ∀ n, ((List.range n).flatMap (candF C m t taken acc k)).length ≤ n * 117649 := fun n => by
        have := flat_len (candF C m t taken acc k) 117649 (List.range n) (fun x _ => candF_len C (by omega) m t (by omega) taken acc k x)
        rwa [List.length_range] at this
      have loop : ∀ (d j fuel : Nat), j + d = C + 1 → 200 * t.length + 100 + d * 5 + 5 ≤ fuel → spec_roAll.l0 fuel acc k most (acc.length : Int) (((List.range j).flatMap (candF C m t taken acc k)).take most.toNat) ((j : Int) - 1) r c l = some ((selL C (m :: t) taken acc k).take most.toNat) := by
        intro d
        induction d with
        | zero =>
          intro j fuel hj hf
          obtain ⟨fuel, rfl⟩ : ∃ n, fuel = n + 1 + 1 := ⟨fuel - 2, by omega⟩
          rw [spec_roAll.l0, if_neg (by omega), spec_roAll.j1, if_neg (by decide), hw, show j = C + 1 by omega]
        | succ d ihd =>
          intro j fuel hj hf
          obtain ⟨fuel, rfl⟩ : ∃ n, fuel = n + 1 + 1 + 1 := ⟨fuel - 3, by omega⟩
          have hrg : (List.range (j + 1)).flatMap (candF C m t taken acc k) = (List.range j).flatMap (candF C m t taken acc k) ++ candF C m t taken acc k j := by rw [List.range_succ, List.flatMap_append]; simp
          have hsp : ∃ B, selL C (m :: t) taken acc k = (List.range j).flatMap (candF C m t taken acc k) ++ B := by
            refine ⟨((List.range (C + 1)).drop j).flatMap (candF C m t taken acc k), ?_⟩
            rw [hw]
            conv => lhs; rw [← List.take_append_drop j (List.range (C + 1))]
            rw [List.take_range, Nat.min_eq_left (by omega), List.flatMap_append]
          rw [spec_roAll.l0, if_pos (by omega), spec_roAll.j1]
          have hcj := hcl j
          by_cases hfull : ((((List.range j).flatMap (candF C m t taken acc k)).take most.toNat).length : Int) < most
          · rw [if_pos (decide_eq_true hfull)]
            have hAl : ((List.range j).flatMap (candF C m t taken acc k)).length < most.toNat := by
              rw [List.length_take] at hfull; omega
            rw [List.take_of_length_le (by omega)]
            have next := ihd (j + 1)
            rw [hrg, List.take_append, List.take_of_length_le (Nat.le_of_lt hAl)] at next
            have h7 : ((List.range j).flatMap (candF C m t taken acc k)).length ≤ 7 * 117649 := Nat.le_trans hcj (Nat.mul_le_mul_right _ (by omega))
            clear hcj
            rcases j with _ | j
            · rw [if_pos (show (((0 : Nat) : Int) - 1) = -1 by omega), e_l1Own acc (by omega)]
              rw [Option.bind_some, Option.bind_some]
              rw [if_pos (by simp; omega)]
              rw [ih (acc ++ [-1]) taken k most (fuel + 1) (by rw [List.length_append]; exact ht'.symm) (by simp; omega) (fun i hi => by rw [contains_snoc, hinv i hi, show ((i : Int) == -1) = false from beq_eq_false_iff_ne.2 (by omega), Bool.or_false]) htk hk hm (by omega)]
              have hsl := selL_len C (by omega) t (by omega) taken (acc ++ [-1]) k
              have hcz : candF C m t taken acc k 0 = selL C t taken (acc ++ [-1]) k := by unfold candF; rw [if_pos rfl]
              rw [hcz] at next
              rw [show (List.range 0).flatMap (candF C m t taken acc k) = [] from rfl] at next ⊢
              rw [List.nil_append, List.length_nil, Nat.sub_zero] at next
              rw [Option.bind_some, if_pos (by rw [List.length_nil, List.length_take]; omega), List.nil_append, show wrap64 (((0 : Nat) : Int) - 1 + 1) = ((0 + 1 : Nat) : Int) - 1 by rw [w64 (by omega) (by omega)]; omega]
              exact next (fuel + 1) (by omega) (by omega)
            · rw [if_neg (by omega), show (((j + 1 : Nat) : Int) - 1) = (j : Int) by omega]
              rw [show (((j + 1 + 1 : Nat) : Int) - 1) = wrap64 ((j : Int) + 1) by rw [w64 (by omega) (by omega)]; omega] at next
              have hjC : j < C := by omega
              have hcz : candF C m t taken acc k (j + 1) = if okC m taken j && decide (0 < k) then selL C t (orC taken j) (acc ++ [(j : Int)]) (k - 1) else [] := by unfold candF; rw [if_neg (by omega)]; simp
              rw [hcz, okC_cell m taken j hm63 htk (by omega)] at next
              have skip : ∀ b fuel, (cell m (j : Int) && !cell taken (j : Int) && decide (0 < k)) = false → b = false → 200 * t.length + 100 + d * 5 + 5 ≤ fuel → spec_roAll.j2 (fuel + 1) acc k most (acc.length : Int) ((List.range (j + 1)).flatMap (candF C m t taken acc k)) (j : Int) b r c l = some ((selL C (m :: t) taken acc k).take most.toNat) := by
                intro b fuel hf0 hb hfu
                rw [spec_roAll.j2, hb, if_neg (by decide)]
                have n2 := next fuel (by omega) hfu
                rw [if_neg (by rw [hf0]; decide)] at n2
                simpa using n2
              by_cases hk0 : k > 0
              · rw [if_pos hk0, e_boHas r c l (acc.length : Int) (j : Int) h ⟨by omega, by omega⟩, rd_nat l acc.length hlt, ← hm']
                simp only [Option.bind_some]
                by_cases hc1 : cell m (j : Int) = true
                · rw [if_pos hc1, e_l1Has _ acc (j : Int) (by omega) (by omega), hinv j hjC]
                  simp only [Option.bind_some]
                  by_cases hc2 : cell taken (j : Int) = true
                  · exact skip _ fuel (by rw [hc1, hc2]; rfl) (by rw [hc2]; rfl) (by omega)
                  · have hc2' := Bool.eq_false_iff.2 hc2
                    have ho := orZ_ok C taken j (by omega) htk hjC hc2'
                    rw [hc2', spec_roAll.j2, if_pos (show (!false) = true from rfl), e_l1Own acc (by omega)]
                    simp only [Option.bind_some]
                    have hA1 : (((List.range (j + 1)).flatMap (candF C m t taken acc k)).length : Int) < most := by omega
                    rw [if_pos (by simp; omega), w64 (x := k - 1) (by omega) (by omega), w64 (x := most - _) (by omega) (by omega)]
                    rw [ih (acc ++ [(j : Int)]) (orZ taken j) (k - 1) (most - (((List.range (j + 1)).flatMap (candF C m t taken acc k)).length : Int)) fuel (by rw [List.length_append]; exact ht'.symm) (by simp; omega) (fun i hi => by
                      rw [contains_snoc, hinv i hi, cell_orZ taken j i htk (by omega) (by omega)]
                      congr 1
                      by_cases hij : i = j
                      · subst hij; simp
                      · rw [beq_eq_false_iff_ne.2 (by omega), decide_eq_false hij]) ho.1 (by omega) (by omega) (by omega)]
                    have hsl := selL_len C (by omega) t (by omega) (orZ taken j) (acc ++ [(j : Int)]) (k - 1)
                    rw [Option.bind_some, if_pos (by rw [List.length_take]; omega)]
                    have n2 := next fuel (by omega) (by omega)
                    rw [if_pos (by rw [hc1, hc2']; simpa using hk0)] at n2
                    rw [show (most - (((List.range (j + 1)).flatMap (candF C m t taken acc k)).length : Int)).toNat = most.toNat - ((List.range (j + 1)).flatMap (candF C m t taken acc k)).length by omega]
                    exact n2
                · rw [if_neg hc1]
                  exact skip _ fuel (by rw [Bool.eq_false_iff.2 hc1]; rfl) rfl (by omega)
              · rw [if_neg hk0]
                exact skip _ fuel (by rw [show decide (0 < k) = false from decide_eq_false hk0, Bool.and_false]) rfl (by omega)
          · rw [if_neg (by simpa using hfull)]
            obtain ⟨B, hB⟩ := hsp
            rw [hB, List.take_append_of_le_length (by rw [List.length_take] at hfull; omega)]
      have := loop (C + 1) 0 fuel (by omega) (by omega)
      simpa using this

theorem i_with (r c : Int) (l : List Int) (k : Int) (h : GoodB r c l) : impl_Board_with.f r c l k = some (selL c.toNat l 0 [] k) := by
  have h1 := h.1; have h2 := h.2.1; have h3 := h.2.2.1
  unfold impl_Board_with.f selL
  rw [if_pos ⟨by omega, by omega, by omega, by omega, h3⟩, show cntR [] + k = k by simp [cntR]]

theorem rdLL (l : List (List Int)) (i : Nat) (h : i < l.length) : rd_L1 l (i : Int) = l[i] := by
  unfold rd_L1; simp [List.getD, h]
theorem same_l0 (a b : List Int) (hl : a.length ≤ 2000000) (hab : a.length = b.length) : ∀ (d i k : Nat), i + d = a.length → d < k → spec_l1Same.l0 k a b (a.length : Int) (i : Int) = some (decide (a.drop i = b.drop i)) ∧ slices_Equal_int_int.l0 k a b (a.length : Int) (i : Int) = some (decide (a.drop i = b.drop i)) := by
  intro d
  induction d with
  | zero =>
    intro i k hi hk
    obtain ⟨k, rfl⟩ : ∃ m, k = m + 1 := ⟨k - 1, by omega⟩
    rw [spec_l1Same.l0, slices_Equal_int_int.l0, if_neg (by omega), if_neg (by omega), List.drop_eq_nil_of_le (by omega), List.drop_eq_nil_of_le (by omega)]
    exact ⟨by simp, by simp⟩
  | succ d ih =>
    intro i k hi hk
    obtain ⟨k, rfl⟩ : ∃ m, k = m + 1 := ⟨k - 1, by omega⟩
    have h1 : i < a.length := by omega
    have h2 : i < b.length := by omega
    have ih := ih (i + 1) k (by omega) (by omega)
    have hcons : (decide (a.drop i = b.drop i)) = (decide (a[i] = b[i]) && decide (a.drop (i + 1) = b.drop (i + 1))) := by
      rw [List.drop_eq_getElem_cons h1, List.drop_eq_getElem_cons h2]
      by_cases h : a[i] = b[i]
      · simp only [List.cons.injEq, h, true_and, decide_true, Bool.true_and]
      · simp only [List.cons.injEq, h, false_and, decide_false, Bool.false_and]
    rw [hcons]
    refine ⟨?_, ?_⟩
    · rw [spec_l1Same.l0, if_pos (by omega), if_pos (by omega), if_pos (by omega), if_pos (by omega), rd_nat a i h1, rd_nat b i h2, w64 (x := (i : Int) + 1) (by omega) (by omega), show ((i : Int) + 1) = ((i + 1 : Nat) : Int) from by omega]
      by_cases h : a[i] = b[i]
      · rw [if_pos h, ih.1]; simp [h]
      · rw [if_neg h]; simp [h]
    · rw [slices_Equal_int_int.l0, if_pos (by omega), if_pos (by omega), if_pos (by omega), if_pos (by omega), rd_nat a i h1, rd_nat b i h2, w64 (x := (i : Int) + 1) (by omega) (by omega), show ((i : Int) + 1) = ((i + 1 : Nat) : Int) from by omega]
      by_cases h : a[i] = b[i]
      · rw [if_pos h, ih.2]; simp [h]
      · rw [if_neg h]; simp [h]
theorem same_eq (k : Nat) (a b : List Int) (ha : a.length ≤ 1000000) (hk : a.length < k) : spec_l1Same.f k a b = some (decide (a = b)) ∧ slices_Equal_int_int.f k a b = some (decide (a = b)) := by
  unfold spec_l1Same.f slices_Equal_int_int.f
  by_cases h : (a.length : Int) = (b.length : Int)
  · rw [if_pos h, if_pos h]
    have := same_l0 a b (by omega) (by omega) a.length 0 k (by omega) hk
    rw [show ((0 : Nat) : Int) = 0 from rfl] at this
    simpa using this
  · rw [if_neg h, if_neg h]
    have : ¬ a = b := fun e => h (by rw [e])
    simp [this]
theorem placF_le (c : Int) (l p : List Int) : ∀ (d i : Nat), placF c l p d i = true → ∀ j, i ≤ j → j < i + d → rd p (j : Int) = -1 ∨ (0 ≤ rd p (j : Int) ∧ rd p (j : Int) ≤ c - 1)
  | 0, _, _, j, h1, h2 => by omega
  | d + 1, i, h, j, h1, h2 => by
    rw [placF, Bool.and_eq_true] at h
    by_cases hj : j = i
    · subst hj
      have := h.1
      unfold okP at this
      simp only [Bool.or_eq_true, Bool.and_eq_true, decide_eq_true_eq] at this
      rcases this with h | h
      · exact .inl h
      · exact .inr h.1
    · exact placF_le c l p d (i + 1) h.2 j (by omega) (by omega)
theorem mem_plc (r c : Int) (l : List Int) (g : GoodB r c l) (p : List Int) (hp : p.length = l.length) : ∀ (d i : Nat) (taken : Int), i + d = p.length → placF c l p d i = true → 0 ≤ taken ∧ taken ≤ 63 → (∀ j : Nat, j < c.toNat → (p.take i).contains (j : Int) = cell taken (j : Int)) → p ∈ plc c.toNat (l.drop i) taken (p.take i) := by
  have h2 := g.2.1
  have hl6 := goodB_len g
  intro d
  induction d with
  | zero =>
    intro i taken hi hpl ht hinv
    rw [List.drop_eq_nil_of_le (by omega), List.take_of_length_le (by omega)]
    simp [plc]
  | succ d ih =>
    intro i taken hi hpl ht hinv
    have hlt : i < p.length := by omega
    have hll : i < l.length := by omega
    rw [placF, Bool.and_eq_true] at hpl
    have hok := hpl.1
    unfold okP at hok
    rw [rd_nat p i hlt, rd_nat l i hll] at hok
    rw [List.drop_eq_getElem_cons hll]
    unfold plc
    rw [List.mem_flatMap]
    have htk : p.take (i + 1) = p.take i ++ [p[i]] := List.take_succ_eq_append_getElem hlt
    by_cases h1 : p[i] = -1
    · refine ⟨0, List.mem_range.2 (by omega), ?_⟩
      rw [if_pos rfl]
      have := ih (i + 1) taken (by omega) hpl.2 ht (fun j hj => by
        rw [htk, contains_snoc, hinv j hj, show ((j : Int) == p[i]) = false from beq_eq_false_iff_ne.2 (by omega), Bool.or_false])
      rw [htk, h1] at this
      exact this
    · simp only [Bool.or_eq_true, Bool.and_eq_true, decide_eq_true_eq, h1, false_or, Bool.not_eq_true'] at hok
      obtain ⟨hr, hc, hn⟩ := hok
      obtain ⟨v, hv⟩ := Int.eq_ofNat_of_zero_le hr.1
      have hvC : v < c.toNat := by omega
      rw [hv] at hc hn
      refine ⟨v + 1, List.mem_range.2 (by omega), ?_⟩
      have hct : cell taken (v : Int) = false := by rw [← hinv v hvC]; exact hn
      rw [if_neg (by omega), Nat.add_sub_cancel, okC_cell l[i] taken v (goodB_le g _ (List.getElem_mem hll)) ht (by omega), hc, hct, if_pos (show (true && !false) = true from rfl)]
      have ho := orZ_ok c.toNat taken v (by omega) ht hvC hct
      have := ih (i + 1) (orZ taken v) (by omega) hpl.2 ho.1 (fun j hj => by
        rw [htk, contains_snoc, hinv j hj, cell_orZ taken v j ht (by omega) (by omega), hv]
        congr 1
        by_cases hij : j = v
        · subst hij; simp
        · rw [beq_eq_false_iff_ne.2 (by omega), decide_eq_false hij])
      rw [htk, hv] at this
      exact this
theorem rank_l0 (p : List Int) (L : List (List Int)) (hL : L.length ≤ 1000000) (hp : ∀ q ∈ L, q.length ≤ 1000) : ∀ (d i k : Nat), i + d = L.length → d + 2000 < k → (∀ j (h : j < L.length), j < i → decide (p = L[j]) = false) → p ∈ L.drop i → spec_RankPlacement.l0 k p (i : Int) L (L.length : Int) (i : Int) = some (idxB (fun q => decide (p = q)) L, true) := by
  intro d
  induction d with
  | zero =>
    intro i k hi hk hn hm
    rw [List.drop_eq_nil_of_le (by omega)] at hm; simp at hm
  | succ d ih =>
    intro i k hi hk hn hm
    obtain ⟨k, rfl⟩ : ∃ m, k = m + 1 := ⟨k - 1, by omega⟩
    have hlt : i < L.length := by omega
    have hq := hp L[i] (List.getElem_mem hlt)
    rw [spec_RankPlacement.l0, if_pos (by omega), if_pos (by omega), if_pos (by omega), rdLL L i hlt, (same_eq k L[i] p (by omega) (by omega)).1, Option.bind_some, w64 (x := (i : Int) + 1) (by omega) (by omega), show ((i : Int) + 1) = ((i + 1 : Nat) : Int) from by omega]
    by_cases h : L[i] = p
    · rw [decide_eq_true h, if_pos rfl, idxB_hit (fun q => decide (p = q)) L i hlt (decide_eq_true h.symm) hn]
    · rw [decide_eq_false h, if_neg (by decide)]
      refine ih (i + 1) k (by omega) (by omega) ?_ ?_
      · intro j hj hji
        rcases Nat.lt_succ_iff_lt_or_eq.1 hji with hji | rfl
        · exact hn j hj hji
        · exact decide_eq_false (fun e => h e.symm)
      · rw [List.drop_eq_getElem_cons hlt] at hm
        rcases List.mem_cons.1 hm with e | hm
        · exact absurd e.symm h
        · exact hm
def rkOut (r c : Int) (l p : List Int) : Int × Bool := if GoodB r c l ∧ isPl r c l p = true then (idxB (fun q => decide (p = q)) (selL c.toNat l 0 [] (cntR p)), true) else (0, false)
theorem pl_len (r c : Int) (l p : List Int) (g : GoodB r c l) (h : isPl r c l p = true) : p.length = l.length := by
  unfold isPl at h
  rw [Bool.and_eq_true, decide_eq_true_eq] at h
  have h3 := g.2.2.1
  omega
theorem pl_ge (r c : Int) (l p : List Int) (h : isPl r c l p = true) : ∀ x ∈ p, -1 ≤ x := by
  unfold isPl at h
  rw [Bool.and_eq_true] at h
  intro x hx
  obtain ⟨j, hj, rfl⟩ := List.getElem_of_mem hx
  have := placF_le c l p p.length 0 h.2 j (by omega) (by omega)
  rw [rd_nat p j hj] at this
  omega
theorem e_RankPlacement (k : Nat) (r c : Int) (l p : List Int) (hl : l.length ≤ 1048576) (hk : 2000010 ≤ k) : spec_RankPlacement.f k r c l p = some (rkOut r c l p) := by
  unfold spec_RankPlacement.f rkOut
  rw [e_boGood k r c l (by omega) (by omega)]
  simp only [Option.bind_some, decide_eq_true_eq]
  obtain ⟨k, rfl⟩ : ∃ m, k = m + 1 := ⟨k - 1, by omega⟩
  by_cases g : GoodB r c l
  · have h2 := g.2.1
    have hl6 := goodB_len g
    rw [if_pos g, e_roGood _ r c l p g (by omega), Option.bind_some]
    by_cases h : isPl r c l p = true
    · have hpl := pl_len r c l p g h
      have hb := cntR_le p
      have hsl := selL_len c.toNat (by omega) l (by omega) 0 [] (cntR p)
      have hz : ∀ j : Nat, j < c.toNat → ([] : List Int).contains (j : Int) = cell 0 (j : Int) := fun j hj => by
        have : ∀ j : Fin 6, cell 0 (j.val : Int) = false := by decide +kernel
        rw [this ⟨j, by omega⟩]; rfl
      have hm : p ∈ selL c.toNat l 0 [] (cntR p) := by
        have h9 := h
        unfold isPl at h9
        rw [Bool.and_eq_true] at h9
        have := mem_plc r c l g p hpl p.length 0 0 (by omega) h9.2 (by omega) hz
        refine List.mem_filter.2 ⟨this, ?_⟩
        simp [cntR]
      have hel : ∀ q ∈ selL c.toNat l 0 [] (cntR p), q.length ≤ 1000 := fun q hq => by
        have := plc_elem c.toNat l 0 [] q (List.mem_filter.1 hq).1
        simp at this; omega
      rw [if_pos ⟨g, h⟩, h, spec_RankPlacement.j0, if_neg (by decide), e_roCount k p (by omega) (by omega) (pl_ge r c l p h), Option.bind_some]
      rw [e_roAll r c l g c.toNat (by omega) l [] 0 (cntR p) 1000000 k rfl (by simp) hz (by omega) (by omega) (by omega) (by omega), Option.bind_some, List.take_of_length_le (by omega)]
      have := rank_l0 p (selL c.toNat l 0 [] (cntR p)) (by omega) hel (selL c.toNat l 0 [] (cntR p)).length 0 k (by omega) (by omega) (fun j hj h => absurd h (Nat.not_lt_zero _)) hm
      rw [show ((0 : Nat) : Int) = 0 from rfl] at this
      exact this
    · rw [if_neg (fun x => h x.2), Bool.eq_false_iff.2 h, spec_RankPlacement.j0]; rfl
  · rw [if_neg g, if_neg (fun x => g x.1), spec_RankPlacement.j0]; rfl
theorem i_RankPlacement (k : Nat) (r c : Int) (l p : List Int) (hk : 10000 ≤ k) : impl_RankPlacement.f k r c l p = some (rkOut r c l p) := by
  unfold impl_RankPlacement.f rkOut
  by_cases g : GoodB r c l
  · have h2 := g.2.1
    have hl6 := goodB_len g
    rw [if_pos g, i_isPlacement k r c l p g (by omega), Option.bind_some]
    by_cases h : isPl r c l p = true
    · have hpl := pl_len r c l p g h
      have hsl := selL_len c.toNat (by omega) l (by omega) 0 [] (cntR p)
      rw [if_pos h, if_pos (show p.length ≤ 6 by omega), i_with r c l (cntR p) g, Option.bind_some, if_pos ⟨by omega, List.all_eq_true.2 fun q hq => by
        rw [(same_eq k p q (by omega) (by omega)).2]; simp⟩, if_pos ⟨g, h⟩]
    · rw [if_neg h, if_neg (fun x => h x.2)]
  · rw [if_neg g, if_neg (fun x => g x.1)]
theorem FnExactRankPlacement : laws_FnExactRankPlacement.Pure := by
  intro r c l p _ _ hm _ _ _
  refine ⟨2000020, ?_⟩
  unfold laws_FnExactRankPlacement.f
  by_cases hp : (p.length : Int) > 1048576
  · rw [if_pos hp]
  · rw [if_neg hp, e_szBoard r c l 1048576 hm (by omega) (by omega)]
    simp only [Option.bind_some]
    by_cases h : (1048576 : Int) - l.length < 0
    · rw [if_pos h]; rfl
    · rw [if_neg h, if_neg h, e_toBoard _ r c l (by omega) (by omega), e_toIntS _ p (by omega) (by omega)]
      simp only [Option.bind_some]
      rw [e_RankPlacement _ r c l p (by omega) (by omega), i_RankPlacement _ r c l p (by omega)]
      generalize rkOut r c l p = o
      obtain ⟨o1, o2⟩ := o
      repeat (first
      | (simp only [Option.bind_some, bne_self_eq_false, Bool.false_eq_true, if_false, if_true, Bool.not_true, Bool.not_false])
      | (rw [e_toBoard _ _ _ _ (by omega) (by omega)])
      | (rw [e_eqBoard_self _ _ _ _ (by omega) (by omega)])
      | (rw [e_toIntS _ _ (by omega) (by omega)])
      | (rw [e_eqIntS_self _ _ (by omega) (by omega)])
      | (rw [laws_FnExactRankPlacement.j0])
      | (rw [if_neg (show ¬ (_ : Int) < 0 by omega)])
      | (rw [if_pos (show (_ : Int) = _ from rfl)])
      | (rfl))

end Go.Proofs.Ytmhlnpokjjclhaa.Pure
