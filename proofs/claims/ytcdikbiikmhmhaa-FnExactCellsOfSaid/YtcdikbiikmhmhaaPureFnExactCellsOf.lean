/- CellsOf: the law's function comes to true at every board. -/
import Derived.Test.YtcdikbiikmhmhaaPFnExactCellsOfx3
namespace Go.Proofs.Ytcdikbiikmhmhaa.Pure
open Go.RowKit Go.Proofs.Ytcdikbiikmhmhaa.PFnExactCellsOf Go.Proofs.YtcdikbiikmhmhaaW.PrintWords Go.Proofs.YtcdikbiikmhmhaaW.PrintLast
set_option linter.unusedVariables false
set_option linter.unusedSimpArgs false

theorem w64 {x : Int} (h0 : -9223372036854775808 ≤ x) (h1 : x < 9223372036854775808) : wrap64 x = x := by
  unfold wrap64; omega
theorem rd_nat (l : List Int) (i : Nat) (h : i < l.length) : rd l (i : Int) = l[i] := by
  unfold rd; simp [List.getD, h]

theorem e_szIntS (l : List Int) (a : Int) (hl : l.length ≤ maxLen) (h0 : 0 ≤ a) (h1 : a ≤ 1048576) : laws_szIntS.f l a = some (if a - l.length < 0 then -1 else a - l.length) := by
  unfold laws_szIntS.f
  have : l.length ≤ 9223372036854775807 := hl
  rw [w64 (by omega) (by omega)]
  by_cases h : a - (l.length : Int) < 0
  · rw [if_pos h, if_pos h]
  · rw [if_neg h, if_neg h]

theorem e_szBoard (r c : Int) (l : List Int) (a : Int) (hl : l.length ≤ maxLen) (h0 : 0 ≤ a) (h1 : a ≤ 1048576) : laws_szBoard.f r c l a = some (if a - l.length < 0 then -1 else a - l.length) := by
  unfold laws_szBoard.f
  rw [e_szIntS l a hl h0 h1]
  simp only [Option.bind_some]
  by_cases h : a - (l.length : Int) < 0
  · rw [if_pos h]; rfl
  · rw [if_neg h, if_neg h]

theorem e_toIntS_l0 (l : List Int) (hl : l.length ≤ 2000000) : ∀ (d i k : Nat) (m : List Int), i + d = l.length → d < k → m.length = l.length → m.take i = l.take i →
    laws_toIntS.l0 k l m (i : Int) = some l := by
  intro d
  induction d with
  | zero =>
    intro i k m hi' hk hm ht
    obtain ⟨k, rfl⟩ : ∃ m, k = m + 1 := ⟨k - 1, by omega⟩
    simp only [laws_toIntS.l0]; rw [if_neg (by omega)]
    rw [List.take_of_length_le (by omega), List.take_of_length_le (by omega)] at ht; rw [ht]
  | succ d ih =>
    intro i k m hi' hk hm ht
    obtain ⟨k, rfl⟩ : ∃ m, k = m + 1 := ⟨k - 1, by omega⟩
    have hlt : i < l.length := by omega
    simp only [laws_toIntS.l0]
    rw [if_pos (by omega), if_pos (by omega), if_pos (by omega), rd_nat l i hlt, w64 (by omega) (by omega), show ((i : Int) + 1) = ((i + 1 : Nat) : Int) from by omega]
    refine ih (i + 1) k _ (by omega) (by omega) (by simpa using hm) ?_
    rw [Int.toNat_natCast, List.take_succ_eq_append_getElem (by simpa using (by omega : i < m.length)), List.take_succ_eq_append_getElem hlt]
    simp [List.take_set_of_le, ht]
theorem e_toIntS (k : Nat) (l : List Int) (hl : l.length ≤ 2000000) (hk : l.length < k) : laws_toIntS.f k l = some l := by
  unfold laws_toIntS.f
  rw [if_pos (by omega), if_pos (by omega)]
  exact e_toIntS_l0 l hl l.length 0 k _ (by omega) hk (by simp) (by simp)

theorem e_toBoard (k : Nat) (r c : Int) (l : List Int) (hl : l.length ≤ 2000000) (hk : l.length < k) : laws_toBoard.f k r c l = some (r, c, l) := by
  unfold laws_toBoard.f; rw [e_toIntS k l hl hk]; rfl

theorem e_eqIntS_l0 (a b : List Int) (hl : a.length ≤ 2000000) (hab : a.length = b.length) : ∀ (d i k : Nat), i + d = a.length → d < k →
    laws_eqIntS.l0 k a b (i : Int) = some (decide (a.drop i = b.drop i)) := by
  intro d
  induction d with
  | zero =>
    intro i k hi' hk
    obtain ⟨k, rfl⟩ : ∃ m, k = m + 1 := ⟨k - 1, by omega⟩
    simp only [laws_eqIntS.l0]; rw [if_neg (by omega), List.drop_eq_nil_of_le (by omega), List.drop_eq_nil_of_le (by omega)]; simp
  | succ d ih =>
    intro i k hi' hk
    obtain ⟨k, rfl⟩ : ∃ m, k = m + 1 := ⟨k - 1, by omega⟩
    have hlt : i < a.length := by omega
    have hlt2 : i < b.length := by omega
    simp only [laws_eqIntS.l0]
    rw [if_pos (by omega), if_pos (by omega), if_pos (by omega), rd_nat a i hlt, rd_nat b i hlt2, List.drop_eq_getElem_cons hlt, List.drop_eq_getElem_cons hlt2, w64 (by omega) (by omega), show ((i : Int) + 1) = ((i + 1 : Nat) : Int) from by omega, ih (i + 1) k (by omega) (by omega)]
    by_cases h : a[i] = b[i]
    · rw [if_pos h]; simp only [List.cons.injEq, h, true_and]
    · rw [if_neg h]; simp only [List.cons.injEq, h, false_and, decide_false]
theorem e_eqIntS (k : Nat) (a b : List Int) (hl : a.length ≤ 2000000) (hk : a.length < k) : laws_eqIntS.f k a b = some (decide (a = b)) := by
  unfold laws_eqIntS.f
  by_cases h : (a.length : Int) = (b.length : Int)
  · rw [if_pos h]; exact e_eqIntS_l0 a b hl (by omega) a.length 0 k (by omega) hk
  · rw [if_neg h]; simp; intro hc; rw [hc] at h; exact h rfl
theorem e_eqIntS_self (k : Nat) (a : List Int) (hl : a.length ≤ 2000000) (hk : a.length < k) : laws_eqIntS.f k a a = some true := by
  rw [e_eqIntS k a a hl hk]; simp

theorem e_eqBoard (k : Nat) (r c : Int) (l : List Int) (r' c' : Int) (l' : List Int) (hl : l.length ≤ 2000000) (hk : l.length < k) : laws_eqBoard.f k r c l r' c' l' = some (decide (r = r' ∧ c = c' ∧ l = l')) := by
  unfold laws_eqBoard.f
  by_cases h1 : r = r'
  · by_cases h2 : c = c'
    · rw [if_pos h1, if_pos h2, e_eqIntS k l l' hl hk]
      by_cases h3 : l = l' <;> simp [h1, h2, h3]
    · rw [if_pos h1, if_neg h2]; simp [h2]
  · rw [if_neg h1]; simp [h1]
theorem e_eqBoard_self (k : Nat) (r c : Int) (l : List Int) (hl : l.length ≤ 2000000) (hk : l.length < k) : laws_eqBoard.f k r c l r c l = some true := by
  rw [e_eqBoard k r c l r c l hl hk]; simp

/-- The numbers from a on, n of them. -/
def marks : Int → Nat → List Int
  | _, 0 => []
  | a, n + 1 => a :: marks (a + 1) n
theorem marks_length : ∀ (n : Nat) (a : Int), (marks a n).length = n
  | 0, _ => rfl
  | n + 1, a => by simp [marks, marks_length n]
theorem marks_get : ∀ (n : Nat) (a : Int) (i : Nat) (h : i < (marks a n).length), (marks a n)[i] = a + i
  | 0, _, i, h => by simp [marks] at h
  | n + 1, a, 0, h => by simp [marks]
  | n + 1, a, i + 1, h => by
    simp only [marks, List.getElem_cons_succ]
    rw [marks_get n (a + 1) i]; omega

theorem e_markIntS_l0 (n : Nat) (hn : n ≤ 2000000) : ∀ (d i k : Nat) (l : List Int) (a : Int), l.length = n → i + d = n → d < k → 0 ≤ a → a + d ≤ 1000000000 →
    laws_markIntS.l0 k l a (i : Int) = some (a + d, l.take i ++ marks a d) := by
  intro d
  induction d with
  | zero =>
    intro i k l a hl hi hk h0 h1
    obtain ⟨k, rfl⟩ : ∃ m, k = m + 1 := ⟨k - 1, by omega⟩
    simp only [laws_markIntS.l0]; rw [if_neg (by omega), List.take_of_length_le (by omega)]; simp [marks]
  | succ d ih =>
    intro i k l a hl hi hk h0 h1
    obtain ⟨k, rfl⟩ : ∃ m, k = m + 1 := ⟨k - 1, by omega⟩
    have hlt : i < l.length := by omega
    simp only [laws_markIntS.l0]
    rw [if_pos (by omega), if_pos (by omega), w64 (by omega) (by omega), w64 (by omega) (by omega), show ((i : Int) + 1) = ((i + 1 : Nat) : Int) from by omega]
    rw [ih (i + 1) k _ (a + 1) (by simpa using hl) (by omega) (by omega) (by omega) (by omega)]
    rw [Int.toNat_natCast, List.take_succ_eq_append_getElem (by simpa using hlt)]
    simp only [List.getElem_set_self, List.take_set_of_le (Nat.le_refl i), List.append_assoc, List.singleton_append, marks]
    congr 2; omega
theorem e_markIntS (k : Nat) (l : List Int) (a : Int) (hl : l.length ≤ 2000000) (hk : l.length < k) (h0 : 0 ≤ a) (h1 : a + l.length ≤ 1000000000) : laws_markIntS.f k l a = some (a + l.length, marks a l.length) := by
  unfold laws_markIntS.f
  have := e_markIntS_l0 l.length hl l.length 0 k l a rfl (by omega) hk h0 h1
  simpa using this

theorem e_markBoard (k : Nat) (r c : Int) (l : List Int) (a : Int) (hl : l.length ≤ 2000000) (hk : l.length < k) (h0 : 0 ≤ a) (h1 : a + l.length ≤ 1000000000) : laws_markBoard.f k r c l a = some (a + l.length, marks a l.length) := by
  unfold laws_markBoard.f; rw [e_markIntS k l a hl hk h0 h1]; rfl

/-- Is there a cell in the column c of a row m? -/
def cell (m c : Int) : Bool := decide (m / 2 ^ c.toNat % 2 = 1)
theorem fin_of (m : Int) (n : Nat) (h0 : 0 ≤ m) (h1 : m < n) : ∃ i : Fin n, m = (i.val : Int) := ⟨⟨m.toNat, by omega⟩, by simp; omega⟩
theorem cell_spec (m c : Int) (hm : 0 ≤ m ∧ m ≤ 63) (hc : 0 ≤ c ∧ c ≤ 6) : (Int.tmod (shr .i64 m c) 2 == 1) = cell m c := by
  have h : ∀ m : Fin 64, ∀ c : Fin 7, (Int.tmod (shr .i64 (m.val : Int) (c.val : Int)) 2 == 1) = cell (m.val : Int) (c.val : Int) := by decide +kernel
  obtain ⟨i, rfl⟩ := fin_of m 64 hm.1 (by omega)
  obtain ⟨j, rfl⟩ := fin_of c 7 hc.1 (by omega)
  exact h i j
theorem cell_impl (m c : Int) (hm : 0 ≤ m ∧ m ≤ 63) (hc : 0 ≤ c ∧ c ≤ 6) : (Go.bits .and .i64 (shr .i64 m c) 1 == 1) = cell m c := by
  have h : ∀ m : Fin 64, ∀ c : Fin 7, (Go.bits .and .i64 (shr .i64 (m.val : Int) (c.val : Int)) 1 == 1) = cell (m.val : Int) (c.val : Int) := by decide +kernel
  obtain ⟨i, rfl⟩ := fin_of m 64 hm.1 (by omega)
  obtain ⟨j, rfl⟩ := fin_of c 7 hc.1 (by omega)
  exact h i j
theorem pow_le (a : Int) (h : 1 ≤ a ∧ a ≤ 6) : 2 ≤ (2 : Int) ^ a.toNat ∧ (2 : Int) ^ a.toNat ≤ 64 := by
  obtain ⟨h0, h1⟩ := h
  obtain h | h | h | h | h | h : a = 1 ∨ a = 2 ∨ a = 3 ∨ a = 4 ∨ a = 5 ∨ a = 6 := by omega
  all_goals (subst h; decide +kernel)
theorem rd_mem (l : List Int) (i : Int) (h0 : 0 ≤ i) (h1 : i < l.length) : rd l i ∈ l := by
  obtain ⟨n, rfl⟩ := Int.eq_ofNat_of_zero_le h0
  rw [rd_nat l n (by omega)]; exact List.getElem_mem _

theorem goodB_le {r c : Int} {l : List Int} (h : GoodB r c l) : ∀ x ∈ l, 0 ≤ x ∧ x ≤ 63 := by
  intro x hx
  have := h.2.2.2 x hx
  have := pow_le c h.2.1
  omega
theorem goodB_len {r c : Int} {l : List Int} (h : GoodB r c l) : l.length ≤ 6 := by
  have := h.1; have := h.2.2.1; omega
/-- Is it a place of a board? -/
def Place (r c i j : Int) : Prop := (0 ≤ i ∧ i ≤ r - 1) ∧ (0 ≤ j ∧ j ≤ c - 1)
instance (r c i j : Int) : Decidable (Place r c i j) := by unfold Place; exact inferInstance
theorem i_IsBoard (r c : Int) (l : List Int) : impl_IsBoard.f r c l = some (decide (GoodB r c l)) := rfl

/-- The cells of a row from a column on. -/
def rowC (m i : Int) : Nat → Nat → List (List Int)
  | 0, _ => []
  | d + 1, j => (if cell m (j : Int) = true then [[i, (j : Int)]] else []) ++ rowC m i d (j + 1)
/-- The cells of rows. -/
def cellsC (c : Nat) : List Int → Int → List (List Int)
  | [], _ => []
  | m :: r, i => rowC m i c 0 ++ cellsC c r (i + 1)
theorem rowC_len (m i : Int) : ∀ d j, (rowC m i d j).length ≤ d
  | 0, _ => Nat.le_refl _
  | d + 1, j => by
    have := rowC_len m i d (j + 1)
    simp only [rowC, List.length_append]
    split <;> simp <;> omega
theorem cellsC_len (c : Nat) : ∀ l i, (cellsC c l i).length ≤ l.length * c
  | [], _ => by simp [cellsC]
  | m :: r, i => by
    have := cellsC_len c r (i + 1); have := rowC_len m i c 0
    simp only [cellsC, List.length_append, List.length_cons, Nat.add_mul]
    omega
theorem place_nat {r c : Int} {i j : Nat} (hi : (i : Int) < r) (hj : (j : Int) < c) : Place r c (i : Int) (j : Int) := ⟨⟨by omega, by omega⟩, by omega, by omega⟩

theorem e_boHas (r c : Int) (l : List Int) (i j : Int) (h : GoodB r c l) (hp : Place r c i j) : spec_boHas.f r c l i j = some (cell (rd l i) j) := by
  unfold spec_boHas.f
  have h1 := h.1; have h2 := h.2.1; have h3 := h.2.2.1; have h4 := hp.1; have h5 := hp.2
  have hm := goodB_le h (rd l i) (rd_mem l i (by omega) (by omega))
  rw [if_pos (by omega), if_pos (by omega), if_pos (by omega), cell_spec _ _ hm (by omega)]

theorem boCells_l1 (r c : Int) (l : List Int) (g : GoodB r c l) (i : Nat) (hi : i < l.length) : ∀ (d j k : Nat) (acc : List (List Int)), (j : Int) + d = c → acc.length + d ≤ 1000 →
    spec_boCells.l1 (k + d + 1) acc (i : Int) (j : Int) r c l = spec_boCells.l0 k (acc ++ rowC l[i] (i : Int) d j) ((i + 1 : Nat) : Int) r c l := by
  have hr := g.2.2.1; have hc := g.2.1; have hn := goodB_len g
  intro d
  induction d with
  | zero =>
    intro j k acc hj ha
    simp only [Nat.add_zero, spec_boCells.l1]
    rw [if_neg (by omega), w64 (by omega) (by omega)]; simp [rowC]
  | succ d ih =>
    intro j k acc hj ha
    obtain ⟨K, hK⟩ : ∃ K, K = k + d + 1 := ⟨_, rfl⟩
    rw [show k + (d + 1) + 1 = K + 1 from by omega]
    simp only [spec_boCells.l1]
    rw [if_pos (by omega), e_boHas r c l _ _ g (place_nat (by omega) (by omega)), rd_nat l i hi, w64 (by omega) (by omega), show ((j : Int) + 1) = ((j + 1 : Nat) : Int) from by omega]
    simp only [Option.bind_some]
    by_cases h : cell l[i] (j : Int) = true
    · rw [if_pos h, if_pos (by omega), hK, ih (j + 1) k _ (by omega) (by simp; omega)]
      simp only [rowC, h, if_true, List.append_assoc]
    · rw [if_neg h, hK, ih (j + 1) k _ (by omega) (by omega)]
      simp only [rowC, h, if_false, List.nil_append, Bool.false_eq_true]
theorem boCells_l0 (r c : Int) (l : List Int) (g : GoodB r c l) (C : Nat) (hC : (C : Int) = c) : ∀ (d i k : Nat) (acc : List (List Int)), i + d = l.length → acc.length + d * C ≤ 900 → d * (C + 2) < k →
    spec_boCells.l0 k acc (i : Int) r c l = some (acc ++ cellsC C (l.drop i) (i : Int)) := by
  have hr := g.2.2.1; have hc := g.2.1; have hn := goodB_len g
  intro d
  induction d with
  | zero =>
    intro i k acc hi ha hk
    obtain ⟨k, rfl⟩ : ∃ m, k = m + 1 := ⟨k - 1, by omega⟩
    simp only [spec_boCells.l0]
    rw [if_neg (by omega), List.drop_eq_nil_of_le (by omega)]; simp [cellsC]
  | succ d ih =>
    intro i k acc hi ha hk
    rw [Nat.add_mul] at ha hk
    obtain ⟨k, rfl⟩ : ∃ m, k = (m + C + 1) + 1 := ⟨k - C - 2, by omega⟩
    have hlt : i < l.length := by omega
    simp only [spec_boCells.l0]
    have := boCells_l1 r c l g i hlt C 0 k acc (by omega) (by omega)
    rw [if_pos (by omega), show (0 : Int) = ((0 : Nat) : Int) from rfl, this]
    have hl := rowC_len l[i] (i : Int) C 0
    rw [ih (i + 1) k _ (by omega) (by rw [List.length_append]; omega) (by omega), List.drop_eq_getElem_cons hlt]
    simp only [cellsC, List.append_assoc]
    rw [show ((i : Int) + 1) = ((i + 1 : Nat) : Int) from by omega]
theorem e_boCells (k : Nat) (r c : Int) (l : List Int) (g : GoodB r c l) (hk : 100 ≤ k) : spec_boCells.f k r c l = some (cellsC c.toNat l 0) := by
  unfold spec_boCells.f
  have hr := g.2.2.1; have hc := g.2.1; have hn := goodB_len g
  have hb : l.length * c.toNat ≤ 6 * 6 := Nat.mul_le_mul (by omega) (by omega)
  have hb2 : l.length * (c.toNat + 2) ≤ 6 * 8 := Nat.mul_le_mul (by omega) (by omega)
  have := boCells_l0 r c l g c.toNat (by omega) l.length 0 k [] (by omega) (by simp; omega) (by omega)
  simpa using this

theorem i_has (r c : Int) (l : List Int) (i j : Int) (h : GoodB r c l) (hp : Place r c i j) : impl_Board_has.f r c l i j = some (cell (rd l i) j) := by
  unfold impl_Board_has.f
  have h1 := h.1; have h2 := h.2.1; have h3 := h.2.2.1; have h4 := hp.1; have h5 := hp.2
  have hm := goodB_le h (rd l i) (rd_mem l i (by omega) (by omega))
  rw [if_pos (by omega), if_pos (by omega), if_pos (by omega), cell_impl _ _ hm (by omega)]

theorem CellsOf_l1 (r c : Int) (l : List Int) (g : GoodB r c l) (i : Nat) (hi : i < l.length) : ∀ (d j k : Nat) (acc : List (List Int)), (j : Int) + d = c → acc.length + d ≤ 1000 →
    impl_CellsOf.l1 (k + d + 1) acc (i : Int) r (i : Int) c (j : Int) r c l = impl_CellsOf.l0 k (acc ++ rowC l[i] (i : Int) d j) r ((i + 1 : Nat) : Int) r c l := by
  have hr := g.2.2.1; have hc := g.2.1; have hn := goodB_len g
  intro d
  induction d with
  | zero =>
    intro j k acc hj ha
    simp only [Nat.add_zero, impl_CellsOf.l1]
    rw [if_neg (by omega), w64 (by omega) (by omega)]; simp [rowC]
  | succ d ih =>
    intro j k acc hj ha
    obtain ⟨K, hK⟩ : ∃ K, K = k + d + 1 := ⟨_, rfl⟩
    rw [show k + (d + 1) + 1 = K + 1 from by omega]
    simp only [impl_CellsOf.l1]
    rw [if_pos (by omega), i_has r c l _ _ g (place_nat (by omega) (by omega)), rd_nat l i hi, w64 (x := (j : Int) + 1) (by omega) (by omega), show ((j : Int) + 1) = ((j + 1 : Nat) : Int) from by omega]
    simp only [Option.bind_some]
    by_cases h : cell l[i] (j : Int) = true
    · rw [if_pos h, if_pos (by omega), hK, ih (j + 1) k _ (by omega) (by simp; omega)]
      simp only [rowC, h, if_true, List.append_assoc]
    · rw [if_neg h, hK, ih (j + 1) k _ (by omega) (by omega)]
      simp only [rowC, h, if_false, List.nil_append, Bool.false_eq_true]
theorem CellsOf_l0 (r c : Int) (l : List Int) (g : GoodB r c l) (C : Nat) (hC : (C : Int) = c) : ∀ (d i k : Nat) (acc : List (List Int)), i + d = l.length → acc.length + d * C ≤ 900 → d * (C + 2) < k →
    impl_CellsOf.l0 k acc r (i : Int) r c l = some (acc ++ cellsC C (l.drop i) (i : Int), true) := by
  have hr := g.2.2.1; have hc := g.2.1; have hn := goodB_len g
  intro d
  induction d with
  | zero =>
    intro i k acc hi ha hk
    obtain ⟨k, rfl⟩ : ∃ m, k = m + 1 := ⟨k - 1, by omega⟩
    simp only [impl_CellsOf.l0]
    rw [if_neg (by omega), List.drop_eq_nil_of_le (by omega)]; simp [cellsC]
  | succ d ih =>
    intro i k acc hi ha hk
    rw [Nat.add_mul] at ha hk
    obtain ⟨k, rfl⟩ : ∃ m, k = (m + C + 1) + 1 := ⟨k - C - 2, by omega⟩
    have hlt : i < l.length := by omega
    simp only [impl_CellsOf.l0]
    have := CellsOf_l1 r c l g i hlt C 0 k acc (by omega) (by omega)
    rw [if_pos (by omega), show (0 : Int) = ((0 : Nat) : Int) from rfl, this]
    have hl := rowC_len l[i] (i : Int) C 0
    rw [ih (i + 1) k _ (by omega) (by rw [List.length_append]; omega) (by omega), List.drop_eq_getElem_cons hlt]
    simp only [cellsC, List.append_assoc]
    rw [show ((i : Int) + 1) = ((i + 1 : Nat) : Int) from by omega]
theorem i_CellsOf (k : Nat) (r c : Int) (l : List Int) (hk : 100 ≤ k) : impl_CellsOf.f k r c l = some (if GoodB r c l then (cellsC c.toNat l 0, true) else ([], false)) := by
  unfold impl_CellsOf.f
  rw [i_IsBoard]
  simp only [Option.bind_some, decide_eq_true_eq]
  by_cases g : GoodB r c l
  · have hr := g.2.2.1; have hc := g.2.1; have hn := goodB_len g
    have hb : l.length * c.toNat ≤ 6 * 6 := Nat.mul_le_mul (by omega) (by omega)
    have hb2 : l.length * (c.toNat + 2) ≤ 6 * 8 := Nat.mul_le_mul (by omega) (by omega)
    rw [if_pos g, if_pos g]
    have := CellsOf_l0 r c l g c.toNat (by omega) l.length 0 k [] (by omega) (by simp; omega) (by omega)
    simpa using this
  · rw [if_neg g, if_neg g]

theorem e_l1In (a b c : Int) : spec_l1In.f a b c = some (decide (b ≤ a ∧ a ≤ c)) := by
  unfold spec_l1In.f
  by_cases h : b ≤ a
  · rw [if_pos h]; simp [h]
  · rw [if_neg h]; simp [h]

theorem e_l1All_l0 (lo hi : Int) (l : List Int) (hl : l.length ≤ 2000000) : ∀ (d i k : Nat), i + d = l.length → d < k →
    spec_l1All.l0 k lo hi l (l.length : Int) (i : Int) = some (decide (∀ x ∈ l.drop i, lo ≤ x ∧ x ≤ hi)) := by
  intro d
  induction d with
  | zero =>
    intro i k hi' hk
    obtain ⟨k, rfl⟩ : ∃ m, k = m + 1 := ⟨k - 1, by omega⟩
    simp only [spec_l1All.l0]; rw [if_neg (by omega), List.drop_eq_nil_of_le (by omega)]; simp
  | succ d ih =>
    intro i k hi' hk
    obtain ⟨k, rfl⟩ : ∃ m, k = m + 1 := ⟨k - 1, by omega⟩
    have hlt : i < l.length := by omega
    simp only [spec_l1All.l0]
    rw [if_pos (by omega), if_pos (by omega), if_pos (by omega), e_l1In, rd_nat l i hlt, List.drop_eq_getElem_cons hlt, w64 (by omega) (by omega)]
    simp only [Option.bind_some, decide_eq_true_eq, List.forall_mem_cons]
    by_cases h : lo ≤ l[i] ∧ l[i] ≤ hi
    · rw [if_pos h]
      have := ih (i + 1) k (by omega) (by omega)
      rw [show ((i : Int) + 1) = ((i + 1 : Nat) : Int) from by omega, this]; simp [h]
    · rw [if_neg h]; simp [h]
theorem e_l1All (k : Nat) (l : List Int) (lo hi : Int) (hl : l.length ≤ 2000000) (hk : l.length < k) : spec_l1All.f k l lo hi = some (decide (∀ x ∈ l, lo ≤ x ∧ x ≤ hi)) := by
  unfold spec_l1All.f; exact e_l1All_l0 lo hi l hl l.length 0 k (by omega) hk

theorem e_boSide (a : Int) : spec_boSide.f a = some (decide (1 ≤ a ∧ a ≤ 6)) := by
  unfold spec_boSide.f; rw [e_l1In]; rfl

theorem sh1 (a : Int) (h : 1 ≤ a ∧ a ≤ 6) : wrap64 (shl .i64 1 a - 1) = 2 ^ a.toNat - 1 := by
  obtain ⟨h0, h1⟩ := h
  obtain h | h | h | h | h | h : a = 1 ∨ a = 2 ∨ a = 3 ∨ a = 4 ∨ a = 5 ∨ a = 6 := by omega
  all_goals (subst h; decide +kernel)
theorem e_boGood (k : Nat) (r c : Int) (l : List Int) (hl : l.length ≤ 2000000) (hk : l.length < k) : spec_boGood.f k r c l = some (decide (GoodB r c l)) := by
  unfold spec_boGood.f
  rw [e_boSide, e_boSide]
  simp only [Option.bind_some, decide_eq_true_eq]
  by_cases h0 : 1 ≤ r ∧ r ≤ 6
  · by_cases h1 : 1 ≤ c ∧ c ≤ 6
    · by_cases h2 : (l.length : Int) = r
      · rw [if_pos h0, if_pos h1, if_pos h2, if_pos (by omega), sh1 c h1, e_l1All k l _ _ hl hk]
        simp [GoodB, h0, h1, h2]
      · rw [if_pos h0, if_pos h1, if_neg h2]; simp [GoodB, h2]
    · rw [if_pos h0, if_neg h1]; simp [GoodB, h1]
  · rw [if_neg h0]; simp [GoodB, h0]

theorem rdL (l : List (List Int)) (i : Nat) (h : i < l.length) : rd_L1 l (i : Int) = l[i] := by
  unfold rd_L1; simp [List.getD, h]

theorem e_eqIntSS_l0 (a : List (List Int)) (n : Nat) (hl : a.length ≤ 2000000) (hx : ∀ q ∈ a, q.length ≤ n) (hn : n ≤ 2000000) : ∀ (d i k : Nat), i + d = a.length → d + n < k → laws_eqIntSS.l0 k a a (i : Int) = some true := by
  intro d
  induction d with
  | zero =>
    intro i k hi hk
    obtain ⟨k, rfl⟩ : ∃ m, k = m + 1 := ⟨k - 1, by omega⟩
    simp only [laws_eqIntSS.l0]; rw [if_neg (by omega)]
  | succ d ih =>
    intro i k hi hk
    obtain ⟨k, rfl⟩ : ∃ m, k = m + 1 := ⟨k - 1, by omega⟩
    have hlt : i < a.length := by omega
    have hq := hx _ (List.getElem_mem hlt)
    simp only [laws_eqIntSS.l0]
    have h1 : (i : Int) < (a.length : Int) := by omega
    rw [if_pos h1, if_pos (show (0 : Int) ≤ (i : Int) by omega), if_pos h1, rdL a i hlt, e_eqIntS_self k _ (by omega) (by omega), Option.bind_some, if_pos rfl, w64 (by omega) (by omega), show ((i : Int) + 1) = ((i + 1 : Nat) : Int) from by omega]
    exact ih (i + 1) k (by omega) (by omega)
theorem e_eqIntSS_self (k n : Nat) (a : List (List Int)) (hl : a.length ≤ 2000000) (hx : ∀ q ∈ a, q.length ≤ n) (hn : n ≤ 2000000) (hk : a.length + n < k) : laws_eqIntSS.f k a a = some true := by
  unfold laws_eqIntSS.f
  rw [if_pos rfl]
  exact e_eqIntSS_l0 a n hl hx hn a.length 0 k (by omega) hk

theorem e_heldIntS_l0 (b : Int) (n : Nat) (hn : n ≤ 2000000) (hb : 0 ≤ b) (hbn : b + n ≤ 1000000000) : ∀ (d i k : Nat), i + d = n → d < k →
    laws_heldIntS.l0 k (marks b n) (b + i) (i : Int) = some (b + n) := by
  intro d
  induction d with
  | zero =>
    intro i k hi hk
    obtain ⟨k, rfl⟩ : ∃ m, k = m + 1 := ⟨k - 1, by omega⟩
    simp only [laws_heldIntS.l0, marks_length]; rw [if_neg (by omega)]; congr 1; omega
  | succ d ih =>
    intro i k hi hk
    obtain ⟨k, rfl⟩ : ∃ m, k = m + 1 := ⟨k - 1, by omega⟩
    have hlt : i < (marks b n).length := by rw [marks_length]; omega
    simp only [laws_heldIntS.l0]
    rw [rd_nat _ i hlt, marks_get n b i hlt]
    simp only [marks_length]
    rw [if_pos (by omega), if_pos (by omega), if_pos trivial, w64 (by omega) (by omega), w64 (by omega) (by omega), show ((i : Int) + 1) = ((i + 1 : Nat) : Int) from by omega, show b + (i : Int) + 1 = b + ((i + 1 : Nat) : Int) from by omega]
    exact ih (i + 1) k (by omega) (by omega)
theorem e_heldIntS (k : Nat) (n : Nat) (b : Int) (hn : n ≤ 2000000) (hk : n < k) (hb : 0 ≤ b) (hbn : b + n ≤ 1000000000) : laws_heldIntS.f k (marks b n) b = some (b + n) := by
  unfold laws_heldIntS.f
  have := e_heldIntS_l0 b n hn hb hbn n 0 k (by omega) hk
  simpa using this

def marksSS : Int → List (List Int) → List (List Int)
  | _, [] => []
  | a, q :: t => marks a q.length :: marksSS (a + q.length) t
def totL : List (List Int) → Nat
  | [] => 0
  | q :: t => q.length + totL t
theorem totL_le (n : Nat) : ∀ l : List (List Int), (∀ q ∈ l, q.length ≤ n) → totL l ≤ l.length * n
  | [], _ => by simp [totL]
  | q :: t, h => by
    have h1 := h q (by simp)
    have h2 := totL_le n t (fun x hx => h x (by simp [hx]))
    rw [totL, List.length_cons, Nat.succ_mul]; omega
theorem e_mSS (k n : Nat) (hn : n ≤ 2000000) (hk : n < k) : ∀ (l : List (List Int)) (a : Int), (∀ q ∈ l, q.length ≤ n) → 0 ≤ a → a + totL l ≤ 1000000000 → mSS k l a = some (a + totL l, marksSS a l)
  | [], a, _, _, _ => by simp [mSS, totL, marksSS]
  | q :: t, a, h, h0, h1 => by
    have hq := h q (by simp)
    have ht : totL (q :: t) = q.length + totL t := rfl
    rw [mSS, e_markIntS k q a (by omega) (by omega) h0 (by omega), Option.bind_some]
    simp only
    rw [e_mSS k n hn hk t (a + q.length) (fun x hx => h x (by simp [hx])) (by omega) (by omega), Option.bind_some, ht, marksSS]
    congr 2
    omega
theorem e_markIntSS (k n : Nat) (hn : n ≤ 2000000) (hk : n < k) (l : List (List Int)) (a : Int) (hl : l.length ≤ 2000000) (h : ∀ q ∈ l, q.length ≤ n) (h0 : 0 ≤ a) (h1 : a + totL l ≤ 1000000000) : laws_markIntSS.f k l a = some (a + totL l, marksSS a l) := by
  unfold laws_markIntSS.f
  rw [if_pos hl, e_mSS k n hn hk l a h h0 h1]
theorem e_heldIntSS_l0 (n : Nat) (hn : n ≤ 2000000) : ∀ (t pre : List (List Int)) (a : Int) (k : Nat), (∀ q ∈ t, q.length ≤ n) → pre.length + t.length ≤ 2000000 → t.length + n < k → 0 ≤ a → a + totL t ≤ 1000000000 →
    laws_heldIntSS.l0 k (pre ++ marksSS a t) a (pre.length : Int) = some (a + totL t)
  | [], pre, a, k, _, _, hk, _, _ => by
    obtain ⟨k, rfl⟩ : ∃ m, k = m + 1 := ⟨k - 1, by omega⟩
    simp only [laws_heldIntSS.l0, marksSS, List.append_nil]
    rw [if_neg (by omega)]; simp [totL]
  | q :: t, pre, a, k, h, hl, hk, h0, h1 => by
    obtain ⟨k, rfl⟩ : ∃ m, k = m + 1 := ⟨k - 1, by omega⟩
    have hq := h q (by simp)
    have ht : totL (q :: t) = q.length + totL t := rfl
    simp only [List.length_cons] at hk hl
    have hL : (pre ++ marksSS a (q :: t)).length = pre.length + (marksSS (a + q.length) t).length + 1 := by simp [marksSS]; omega
    simp only [laws_heldIntSS.l0]
    rw [if_pos (by omega), if_pos (by omega), rdL _ pre.length (by omega)]
    have hg : (pre ++ marksSS a (q :: t))[pre.length]'(by omega) = marks a q.length := by simp [marksSS]
    rw [hg, e_heldIntS k q.length a (by omega) (by omega) h0 (by omega), Option.bind_some, if_neg (by omega), w64 (by omega) (by omega)]
    have := e_heldIntSS_l0 n hn t (pre ++ [marks a q.length]) (a + q.length) k (fun x hx => h x (by simp [hx])) (by simp; omega) (by omega) (by omega) (by omega)
    rw [List.length_append, List.length_singleton, List.append_assoc] at this
    rw [show ((pre.length : Int) + 1) = ((pre.length + 1 : Nat) : Int) from by omega]
    have e : pre ++ marksSS a (q :: t) = pre ++ ([marks a q.length] ++ marksSS (a + q.length) t) := by simp [marksSS]
    rw [e, this, ht]
    congr 1; omega
theorem e_heldIntSS (k n : Nat) (hn : n ≤ 2000000) (l : List (List Int)) (a : Int) (hl : l.length ≤ 2000000) (h : ∀ q ∈ l, q.length ≤ n) (hk : l.length + n < k) (h0 : 0 ≤ a) (h1 : a + totL l ≤ 1000000000) : laws_heldIntSS.f k (marksSS a l) a = some (a + totL l) := by
  unfold laws_heldIntSS.f
  have := e_heldIntSS_l0 n hn l [] a k h (by simpa using hl) hk h0 h1
  simpa using this

def ceOut (r c : Int) (l : List Int) : List (List Int) × Bool := if GoodB r c l then (cellsC c.toNat l 0, true) else ([], false)
theorem ce_spec (k : Nat) (r c : Int) (l : List Int) (hl : l.length ≤ 2000000) (hk : l.length < k) (hk2 : 100 ≤ k) : spec_CellsOf.f k r c l = some (ceOut r c l) := by
  unfold spec_CellsOf.f ceOut
  rw [e_boGood k r c l hl hk]
  simp only [Option.bind_some, decide_eq_true_eq]
  by_cases g : GoodB r c l
  · rw [if_pos g, if_pos g, e_boCells k r c l g hk2]; rfl
  · rw [if_neg g, if_neg g]
theorem rowC_two (m i : Int) : ∀ d j, ∀ q ∈ rowC m i d j, q.length ≤ 2
  | 0, _, q, h => by simp [rowC] at h
  | d + 1, j, q, h => by
    rw [rowC, List.mem_append] at h
    rcases h with h | h
    · split at h
      · simp only [List.mem_cons, List.not_mem_nil, or_false] at h; subst h; simp
      · simp at h
    · exact rowC_two m i d (j + 1) q h
theorem cellsC_two (c : Nat) : ∀ l i, ∀ q ∈ cellsC c l i, q.length ≤ 2
  | [], _, q, h => by simp [cellsC] at h
  | m :: r, i, q, h => by
    rw [cellsC, List.mem_append] at h
    rcases h with h | h
    · exact rowC_two m i c 0 q h
    · exact cellsC_two c r (i + 1) q h
theorem ceOut_bd (r c : Int) (l : List Int) : (ceOut r c l).1.length ≤ 117649 ∧ ∀ q ∈ (ceOut r c l).1, q.length ≤ 6 := by
  unfold ceOut
  split
  · rename_i g
    have hr := g.2.2.1; have hc := g.2.1; have hn := goodB_len g
    have hb : l.length * c.toNat ≤ 6 * 6 := Nat.mul_le_mul (by omega) (by omega)
    have := cellsC_len c.toNat l 0
    exact ⟨by simp only; omega, fun q hq => Nat.le_trans (cellsC_two c.toNat l 0 q hq) (by omega)⟩
  · simp
theorem FnExactCellsOf : laws_FnExactCellsOf.Pure := by
  intro r c l _ _ hm _
  refine ⟨4000010, ?_⟩
  unfold laws_FnExactCellsOf.f
  rw [e_szBoard r c l 1048576 hm (by omega) (by omega), Option.bind_some]
  by_cases h : (1048576 : Int) - l.length < 0
  · rw [if_pos h]; rw [if_pos (by omega)]
  rw [if_neg h, if_neg (by omega), e_toBoard _ r c l (by omega) (by omega), Option.bind_some]
  simp only
  rw [ce_spec _ r c l (by omega) (by omega) (by omega), Option.bind_some, show impl_CellsOf.f _ r c l = some (ceOut r c l) from i_CellsOf _ r c l (by omega), Option.bind_some]
  have hb := ceOut_bd r c l
  generalize ceOut r c l = o at hb ⊢
  have ht := totL_le 6 o.1 hb.2
  rw [e_eqIntSS_self _ 6 o.1 (by omega) hb.2 (by omega) (by omega), Option.bind_some, e_eqBoard_self _ r c l (by omega) (by omega), Option.bind_some, e_markBoard _ r c l 1 (by omega) (by omega) (by omega) (by omega), Option.bind_some]
  rw [e_markIntSS _ 6 (by omega) (by omega) o.1 1 (by omega) hb.2 (by omega) (by omega), Option.bind_some]
  simp only
  rw [e_heldIntSS _ 6 (by omega) o.1 1 (by omega) hb.2 (by omega) (by omega) (by omega), Option.bind_some, if_pos]
  refine ⟨?_, ?_, ?_, ?_, ?_, ?_⟩ <;> first | trivial | omega

end Go.Proofs.Ytcdikbiikmhmhaa.Pure
