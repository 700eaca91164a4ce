/- TurnPlacement: the law's function comes to true at every board and list. -/
import Derived.Test.YtmhlnpokjjclhaaPFnExactTurnPlacementx5
namespace Go.Proofs.Ytmhlnpokjjclhaa.Pure
open Go.RowKit Go.Proofs.Ytmhlnpokjjclhaa.PFnExactTurnPlacement Go.Proofs.YtmhlnpokjjclhaaW.PrintWords Go.Proofs.YtmhlnpokjjclhaaW.PrintLast
set_option linter.unusedVariables false
set_option linter.unusedSimpArgs false

theorem w64 {x : Int} (h0 : -9223372036854775808 ≤ x) (h1 : x < 9223372036854775808) : wrap64 x = x := by
  unfold wrap64; omega
theorem rd_nat (l : List Int) (i : Nat) (h : i < l.length) : rd l (i : Int) = l[i] := by
  unfold rd; simp [List.getD, h]

theorem e_szIntS (l : List Int) (a : Int) (hl : l.length ≤ maxLen) (h0 : 0 ≤ a) (h1 : a ≤ 1048576) : laws_szIntS.f l a = some (if a - l.length < 0 then -1 else a - l.length) := by
  unfold laws_szIntS.f
  have : l.length ≤ 9223372036854775807 := hl
  rw [w64 (by omega) (by omega)]
  by_cases h : a - (l.length : Int) < 0
  · rw [if_pos h, if_pos h]
  · rw [if_neg h, if_neg h]

theorem e_szBoard (r c : Int) (l : List Int) (a : Int) (hl : l.length ≤ maxLen) (h0 : 0 ≤ a) (h1 : a ≤ 1048576) : laws_szBoard.f r c l a = some (if a - l.length < 0 then -1 else a - l.length) := by
  unfold laws_szBoard.f
  rw [e_szIntS l a hl h0 h1]
  simp only [Option.bind_some]
  by_cases h : a - (l.length : Int) < 0
  · rw [if_pos h]; rfl
  · rw [if_neg h, if_neg h]

theorem e_toIntS_l0 (l : List Int) (hl : l.length ≤ 2000000) : ∀ (d i k : Nat) (m : List Int), i + d = l.length → d < k → m.length = l.length → m.take i = l.take i →
    laws_toIntS.l0 k l m (i : Int) = some l := by
  intro d
  induction d with
  | zero =>
    intro i k m hi' hk hm ht
    obtain ⟨k, rfl⟩ : ∃ m, k = m + 1 := ⟨k - 1, by omega⟩
    simp only [laws_toIntS.l0]; rw [if_neg (by omega)]
    rw [List.take_of_length_le (by omega), List.take_of_length_le (by omega)] at ht; rw [ht]
  | succ d ih =>
    intro i k m hi' hk hm ht
    obtain ⟨k, rfl⟩ : ∃ m, k = m + 1 := ⟨k - 1, by omega⟩
    have hlt : i < l.length := by omega
    simp only [laws_toIntS.l0]
    rw [if_pos (by omega), if_pos (by omega), if_pos (by omega), rd_nat l i hlt, w64 (by omega) (by omega), show ((i : Int) + 1) = ((i + 1 : Nat) : Int) from by omega]
    refine ih (i + 1) k _ (by omega) (by omega) (by simpa using hm) ?_
    rw [Int.toNat_natCast, List.take_succ_eq_append_getElem (by simpa using (by omega : i < m.length)), List.take_succ_eq_append_getElem hlt]
    simp [List.take_set_of_le, ht]
theorem e_toIntS (k : Nat) (l : List Int) (hl : l.length ≤ 2000000) (hk : l.length < k) : laws_toIntS.f k l = some l := by
  unfold laws_toIntS.f
  rw [if_pos (by omega), if_pos (by omega)]
  exact e_toIntS_l0 l hl l.length 0 k _ (by omega) hk (by simp) (by simp)

theorem e_toBoard (k : Nat) (r c : Int) (l : List Int) (hl : l.length ≤ 2000000) (hk : l.length < k) : laws_toBoard.f k r c l = some (r, c, l) := by
  unfold laws_toBoard.f; rw [e_toIntS k l hl hk]; rfl

theorem e_eqIntS_l0 (a b : List Int) (hl : a.length ≤ 2000000) (hab : a.length = b.length) : ∀ (d i k : Nat), i + d = a.length → d < k →
    laws_eqIntS.l0 k a b (i : Int) = some (decide (a.drop i = b.drop i)) := by
  intro d
  induction d with
  | zero =>
    intro i k hi' hk
    obtain ⟨k, rfl⟩ : ∃ m, k = m + 1 := ⟨k - 1, by omega⟩
    simp only [laws_eqIntS.l0]; rw [if_neg (by omega), List.drop_eq_nil_of_le (by omega), List.drop_eq_nil_of_le (by omega)]; simp
  | succ d ih =>
    intro i k hi' hk
    obtain ⟨k, rfl⟩ : ∃ m, k = m + 1 := ⟨k - 1, by omega⟩
    have hlt : i < a.length := by omega
    have hlt2 : i < b.length := by omega
    simp only [laws_eqIntS.l0]
    rw [if_pos (by omega), if_pos (by omega), if_pos (by omega), rd_nat a i hlt, rd_nat b i hlt2, List.drop_eq_getElem_cons hlt, List.drop_eq_getElem_cons hlt2, w64 (by omega) (by omega), show ((i : Int) + 1) = ((i + 1 : Nat) : Int) from by omega, ih (i + 1) k (by omega) (by omega)]
    by_cases h : a[i] = b[i]
    · rw [if_pos h]; simp only [List.cons.injEq, h, true_and]
    · rw [if_neg h]; simp only [List.cons.injEq, h, false_and, decide_false]
theorem e_eqIntS (k : Nat) (a b : List Int) (hl : a.length ≤ 2000000) (hk : a.length < k) : laws_eqIntS.f k a b = some (decide (a = b)) := by
  unfold laws_eqIntS.f
  by_cases h : (a.length : Int) = (b.length : Int)
  · rw [if_pos h]; exact e_eqIntS_l0 a b hl (by omega) a.length 0 k (by omega) hk
  · rw [if_neg h]; simp; intro hc; rw [hc] at h; exact h rfl
theorem e_eqIntS_self (k : Nat) (a : List Int) (hl : a.length ≤ 2000000) (hk : a.length < k) : laws_eqIntS.f k a a = some true := by
  rw [e_eqIntS k a a hl hk]; simp

theorem e_eqBoard (k : Nat) (r c : Int) (l : List Int) (r' c' : Int) (l' : List Int) (hl : l.length ≤ 2000000) (hk : l.length < k) : laws_eqBoard.f k r c l r' c' l' = some (decide (r = r' ∧ c = c' ∧ l = l')) := by
  unfold laws_eqBoard.f
  by_cases h1 : r = r'
  · by_cases h2 : c = c'
    · rw [if_pos h1, if_pos h2, e_eqIntS k l l' hl hk]
      by_cases h3 : l = l' <;> simp [h1, h2, h3]
    · rw [if_pos h1, if_neg h2]; simp [h2]
  · rw [if_neg h1]; simp [h1]
theorem e_eqBoard_self (k : Nat) (r c : Int) (l : List Int) (hl : l.length ≤ 2000000) (hk : l.length < k) : laws_eqBoard.f k r c l r c l = some true := by
  rw [e_eqBoard k r c l r c l hl hk]; simp

/-- The numbers from a on, n of them. -/
def marks : Int → Nat → List Int
  | _, 0 => []
  | a, n + 1 => a :: marks (a + 1) n
theorem marks_length : ∀ (n : Nat) (a : Int), (marks a n).length = n
  | 0, _ => rfl
  | n + 1, a => by simp [marks, marks_length n]
theorem marks_get : ∀ (n : Nat) (a : Int) (i : Nat) (h : i < (marks a n).length), (marks a n)[i] = a + i
  | 0, _, i, h => by simp [marks] at h
  | n + 1, a, 0, h => by simp [marks]
  | n + 1, a, i + 1, h => by
    simp only [marks, List.getElem_cons_succ]
    rw [marks_get n (a + 1) i]; omega

theorem e_markIntS_l0 (n : Nat) (hn : n ≤ 2000000) : ∀ (d i k : Nat) (l : List Int) (a : Int), l.length = n → i + d = n → d < k → 0 ≤ a → a + d ≤ 1000000000 →
    laws_markIntS.l0 k l a (i : Int) = some (a + d, l.take i ++ marks a d) := by
  intro d
  induction d with
  | zero =>
    intro i k l a hl hi hk h0 h1
    obtain ⟨k, rfl⟩ : ∃ m, k = m + 1 := ⟨k - 1, by omega⟩
    simp only [laws_markIntS.l0]; rw [if_neg (by omega), List.take_of_length_le (by omega)]; simp [marks]
  | succ d ih =>
    intro i k l a hl hi hk h0 h1
    obtain ⟨k, rfl⟩ : ∃ m, k = m + 1 := ⟨k - 1, by omega⟩
    have hlt : i < l.length := by omega
    simp only [laws_markIntS.l0]
    rw [if_pos (by omega), if_pos (by omega), w64 (by omega) (by omega), w64 (by omega) (by omega), show ((i : Int) + 1) = ((i + 1 : Nat) : Int) from by omega]
    rw [ih (i + 1) k _ (a + 1) (by simpa using hl) (by omega) (by omega) (by omega) (by omega)]
    rw [Int.toNat_natCast, List.take_succ_eq_append_getElem (by simpa using hlt)]
    simp only [List.getElem_set_self, List.take_set_of_le (Nat.le_refl i), List.append_assoc, List.singleton_append, marks]
    congr 2; omega
theorem e_markIntS (k : Nat) (l : List Int) (a : Int) (hl : l.length ≤ 2000000) (hk : l.length < k) (h0 : 0 ≤ a) (h1 : a + l.length ≤ 1000000000) : laws_markIntS.f k l a = some (a + l.length, marks a l.length) := by
  unfold laws_markIntS.f
  have := e_markIntS_l0 l.length hl l.length 0 k l a rfl (by omega) hk h0 h1
  simpa using this

theorem e_markBoard (k : Nat) (r c : Int) (l : List Int) (a : Int) (hl : l.length ≤ 2000000) (hk : l.length < k) (h0 : 0 ≤ a) (h1 : a + l.length ≤ 1000000000) : laws_markBoard.f k r c l a = some (a + l.length, marks a l.length) := by
  unfold laws_markBoard.f; rw [e_markIntS k l a hl hk h0 h1]; rfl

theorem e_heldIntS_l0 (b : Int) (n : Nat) (hn : n ≤ 2000000) (hb : 0 ≤ b) (hbn : b + n ≤ 1000000000) : ∀ (d i k : Nat), i + d = n → d < k →
    laws_heldIntS.l0 k (marks b n) (b + i) (i : Int) = some (b + n) := by
  intro d
  induction d with
  | zero =>
    intro i k hi hk
    obtain ⟨k, rfl⟩ : ∃ m, k = m + 1 := ⟨k - 1, by omega⟩
    simp only [laws_heldIntS.l0, marks_length]; rw [if_neg (by omega)]; congr 1; omega
  | succ d ih =>
    intro i k hi hk
    obtain ⟨k, rfl⟩ : ∃ m, k = m + 1 := ⟨k - 1, by omega⟩
    have hlt : i < (marks b n).length := by rw [marks_length]; omega
    simp only [laws_heldIntS.l0]
    rw [rd_nat _ i hlt, marks_get n b i hlt]
    simp only [marks_length]
    rw [if_pos (by omega), if_pos (by omega), if_pos trivial, w64 (by omega) (by omega), w64 (by omega) (by omega), show ((i : Int) + 1) = ((i + 1 : Nat) : Int) from by omega, show b + (i : Int) + 1 = b + ((i + 1 : Nat) : Int) from by omega]
    exact ih (i + 1) k (by omega) (by omega)
theorem e_heldIntS (k : Nat) (n : Nat) (b : Int) (hn : n ≤ 2000000) (hk : n < k) (hb : 0 ≤ b) (hbn : b + n ≤ 1000000000) : laws_heldIntS.f k (marks b n) b = some (b + n) := by
  unfold laws_heldIntS.f
  have := e_heldIntS_l0 b n hn hb hbn n 0 k (by omega) hk
  simpa using this

theorem e_l1In (a b c : Int) : spec_l1In.f a b c = some (decide (b ≤ a ∧ a ≤ c)) := by
  unfold spec_l1In.f
  by_cases h : b ≤ a
  · rw [if_pos h]; simp [h]
  · rw [if_neg h]; simp [h]

theorem e_l1All_l0 (lo hi : Int) (l : List Int) (hl : l.length ≤ 2000000) : ∀ (d i k : Nat), i + d = l.length → d < k →
    spec_l1All.l0 k lo hi l (l.length : Int) (i : Int) = some (decide (∀ x ∈ l.drop i, lo ≤ x ∧ x ≤ hi)) := by
  intro d
  induction d with
  | zero =>
    intro i k hi' hk
    obtain ⟨k, rfl⟩ : ∃ m, k = m + 1 := ⟨k - 1, by omega⟩
    simp only [spec_l1All.l0]; rw [if_neg (by omega), List.drop_eq_nil_of_le (by omega)]; simp
  | succ d ih =>
    intro i k hi' hk
    obtain ⟨k, rfl⟩ : ∃ m, k = m + 1 := ⟨k - 1, by omega⟩
    have hlt : i < l.length := by omega
    simp only [spec_l1All.l0]
    rw [if_pos (by omega), if_pos (by omega), if_pos (by omega), e_l1In, rd_nat l i hlt, List.drop_eq_getElem_cons hlt, w64 (by omega) (by omega)]
    simp only [Option.bind_some, decide_eq_true_eq, List.forall_mem_cons]
    by_cases h : lo ≤ l[i] ∧ l[i] ≤ hi
    · rw [if_pos h]
      have := ih (i + 1) k (by omega) (by omega)
      rw [show ((i : Int) + 1) = ((i + 1 : Nat) : Int) from by omega, this]; simp [h]
    · rw [if_neg h]; simp [h]
theorem e_l1All (k : Nat) (l : List Int) (lo hi : Int) (hl : l.length ≤ 2000000) (hk : l.length < k) : spec_l1All.f k l lo hi = some (decide (∀ x ∈ l, lo ≤ x ∧ x ≤ hi)) := by
  unfold spec_l1All.f; exact e_l1All_l0 lo hi l hl l.length 0 k (by omega) hk

theorem e_boSide (a : Int) : spec_boSide.f a = some (decide (1 ≤ a ∧ a ≤ 6)) := by
  unfold spec_boSide.f; rw [e_l1In]; rfl

/-- Is there a cell in the column c of a row m? -/
def cell (m c : Int) : Bool := decide (m / 2 ^ c.toNat % 2 = 1)
theorem fin_of (m : Int) (n : Nat) (h0 : 0 ≤ m) (h1 : m < n) : ∃ i : Fin n, m = (i.val : Int) := ⟨⟨m.toNat, by omega⟩, by simp; omega⟩
theorem cell_spec (m c : Int) (hm : 0 ≤ m ∧ m ≤ 63) (hc : 0 ≤ c ∧ c ≤ 6) : (Int.tmod (shr .i64 m c) 2 == 1) = cell m c := by
  have h : ∀ m : Fin 64, ∀ c : Fin 7, (Int.tmod (shr .i64 (m.val : Int) (c.val : Int)) 2 == 1) = cell (m.val : Int) (c.val : Int) := by decide +kernel
  obtain ⟨i, rfl⟩ := fin_of m 64 hm.1 (by omega)
  obtain ⟨j, rfl⟩ := fin_of c 7 hc.1 (by omega)
  exact h i j
theorem cell_impl (m c : Int) (hm : 0 ≤ m ∧ m ≤ 63) (hc : 0 ≤ c ∧ c ≤ 6) : (Go.bits .and .i64 (shr .i64 m c) 1 == 1) = cell m c := by
  have h : ∀ m : Fin 64, ∀ c : Fin 7, (Go.bits .and .i64 (shr .i64 (m.val : Int) (c.val : Int)) 1 == 1) = cell (m.val : Int) (c.val : Int) := by decide +kernel
  obtain ⟨i, rfl⟩ := fin_of m 64 hm.1 (by omega)
  obtain ⟨j, rfl⟩ := fin_of c 7 hc.1 (by omega)
  exact h i j
theorem pow_le (a : Int) (h : 1 ≤ a ∧ a ≤ 6) : 2 ≤ (2 : Int) ^ a.toNat ∧ (2 : Int) ^ a.toNat ≤ 64 := by
  obtain ⟨h0, h1⟩ := h
  obtain h | h | h | h | h | h : a = 1 ∨ a = 2 ∨ a = 3 ∨ a = 4 ∨ a = 5 ∨ a = 6 := by omega
  all_goals (subst h; decide +kernel)
theorem rd_mem (l : List Int) (i : Int) (h0 : 0 ≤ i) (h1 : i < l.length) : rd l i ∈ l := by
  obtain ⟨n, rfl⟩ := Int.eq_ofNat_of_zero_le h0
  rw [rd_nat l n (by omega)]; exact List.getElem_mem _

theorem goodB_le {r c : Int} {l : List Int} (h : GoodB r c l) : ∀ x ∈ l, 0 ≤ x ∧ x ≤ 63 := by
  intro x hx
  have := h.2.2.2 x hx
  have := pow_le c h.2.1
  omega
theorem goodB_len {r c : Int} {l : List Int} (h : GoodB r c l) : l.length ≤ 6 := by
  have := h.1; have := h.2.2.1; omega
/-- Is it a place of a board? -/
def Place (r c i j : Int) : Prop := (0 ≤ i ∧ i ≤ r - 1) ∧ (0 ≤ j ∧ j ≤ c - 1)
instance (r c i j : Int) : Decidable (Place r c i j) := by unfold Place; exact inferInstance
theorem i_IsBoard (r c : Int) (l : List Int) : impl_IsBoard.f r c l = some (decide (GoodB r c l)) := rfl

theorem sh1 (a : Int) (h : 1 ≤ a ∧ a ≤ 6) : wrap64 (shl .i64 1 a - 1) = 2 ^ a.toNat - 1 := by
  obtain ⟨h0, h1⟩ := h
  obtain h | h | h | h | h | h : a = 1 ∨ a = 2 ∨ a = 3 ∨ a = 4 ∨ a = 5 ∨ a = 6 := by omega
  all_goals (subst h; decide +kernel)
theorem e_boGood (k : Nat) (r c : Int) (l : List Int) (hl : l.length ≤ 2000000) (hk : l.length < k) : spec_boGood.f k r c l = some (decide (GoodB r c l)) := by
  unfold spec_boGood.f
  rw [e_boSide, e_boSide]
  simp only [Option.bind_some, decide_eq_true_eq]
  by_cases h0 : 1 ≤ r ∧ r ≤ 6
  · by_cases h1 : 1 ≤ c ∧ c ≤ 6
    · by_cases h2 : (l.length : Int) = r
      · rw [if_pos h0, if_pos h1, if_pos h2, if_pos (by omega), sh1 c h1, e_l1All k l _ _ hl hk]
        simp [GoodB, h0, h1, h2]
      · rw [if_pos h0, if_pos h1, if_neg h2]; simp [GoodB, h2]
    · rw [if_pos h0, if_neg h1]; simp [GoodB, h1]
  · rw [if_neg h0]; simp [GoodB, h0]

/-- Is the number with the index i -1, or a column with a cell that none before it has? -/
def okP (c : Int) (l p : List Int) (i : Nat) : Bool := decide (rd p (i : Int) = -1) || (decide (0 ≤ rd p (i : Int) ∧ rd p (i : Int) ≤ c - 1) && (cell (rd l (i : Int)) (rd p (i : Int)) && !((p.take i).contains (rd p (i : Int)))))
def placF (c : Int) (l p : List Int) : Nat → Nat → Bool
  | 0, _ => true
  | d + 1, i => okP c l p i && placF c l p d (i + 1)
/-- Is a list a placement on a board? -/
def isPl (r c : Int) (l p : List Int) : Bool := decide ((p.length : Int) = r) && placF c l p p.length 0

theorem e_boHas (r c : Int) (l : List Int) (i j : Int) (h : GoodB r c l) (hp : Place r c i j) : spec_boHas.f r c l i j = some (cell (rd l i) j) := by
  unfold spec_boHas.f
  have h1 := h.1; have h2 := h.2.1; have h3 := h.2.2.1; have h4 := hp.1; have h5 := hp.2
  have hm := goodB_le h (rd l i) (rd_mem l i (by omega) (by omega))
  rw [if_pos (by omega), if_pos (by omega), if_pos (by omega), cell_spec _ _ hm (by omega)]

theorem l1Has_l0 (a : Int) (l : List Int) (hl : l.length ≤ 2000000) : ∀ (d i k : Nat), i + d = l.length → d < k →
    spec_l1Has.l0 k a l (l.length : Int) (i : Int) = some ((l.drop i).contains a) := by
  intro d
  induction d with
  | zero =>
    intro i k hi hk
    obtain ⟨k, rfl⟩ : ∃ m, k = m + 1 := ⟨k - 1, by omega⟩
    simp only [spec_l1Has.l0]; rw [if_neg (by omega), List.drop_eq_nil_of_le (by omega)]; rfl
  | succ d ih =>
    intro i k hi hk
    obtain ⟨k, rfl⟩ : ∃ m, k = m + 1 := ⟨k - 1, by omega⟩
    have hlt : i < l.length := by omega
    simp only [spec_l1Has.l0]
    rw [if_pos (by omega), if_pos (by omega), if_pos (by omega), rd_nat l i hlt, w64 (by omega) (by omega), show ((i : Int) + 1) = ((i + 1 : Nat) : Int) from by omega, List.drop_eq_getElem_cons hlt, List.contains_cons]
    by_cases h : l[i] = a
    · rw [if_pos h]; simp [h]
    · rw [if_neg h, ih (i + 1) k (by omega) (by omega)]
      have : (a == l[i]) = false := beq_eq_false_iff_ne.2 (fun e => h e.symm)
      rw [this, Bool.false_or]
theorem e_l1Has (k : Nat) (l : List Int) (a : Int) (hl : l.length ≤ 2000000) (hk : l.length < k) : spec_l1Has.f k l a = some (l.contains a) := by
  unfold spec_l1Has.f
  have := l1Has_l0 a l hl l.length 0 k (by omega) hk
  simpa using this

theorem roGood_l0 (r c : Int) (l p : List Int) (g : GoodB r c l) (hp : (p.length : Int) = r) : ∀ (d i k : Nat), i + d = p.length → d + 10 < k →
    spec_roGood.l0 k p p (p.length : Int) (i : Int) r c l = some (placF c l p d i) := by
  have hr := g.2.2.1; have hc := g.2.1; have hn := goodB_len g
  intro d
  induction d with
  | zero =>
    intro i k hi hk
    obtain ⟨k, rfl⟩ : ∃ m, k = m + 1 := ⟨k - 1, by omega⟩
    simp only [spec_roGood.l0]; rw [if_neg (by omega)]; rfl
  | succ d ih =>
    intro i k hi hk
    obtain ⟨k, rfl⟩ : ∃ m, k = m + 1 := ⟨k - 1, by omega⟩
    have hlt : i < p.length := by omega
    simp only [spec_roGood.l0]
    rw [if_pos (by omega), if_pos (by omega), if_pos (by omega), w64 (x := (i : Int) + 1) (by omega) (by omega), show ((i : Int) + 1) = ((i + 1 : Nat) : Int) from by omega, ih (i + 1) k (by omega) (by omega), w64 (by omega) (by omega), e_l1In]
    simp only [placF, okP, Option.bind_some, decide_eq_true_eq]
    by_cases h1 : rd p (i : Int) = -1
    · rw [if_pos h1]; simp [h1]
    · rw [if_neg h1]
      by_cases h2 : 0 ≤ rd p (i : Int) ∧ rd p (i : Int) ≤ c - 1
      · rw [if_pos h2, e_boHas r c l (i : Int) _ g ⟨by omega, h2⟩]
        simp only [Option.bind_some]
        by_cases h3 : cell (rd l (i : Int)) (rd p (i : Int)) = true
        · rw [if_pos h3, if_pos (by omega), Int.toNat_natCast, e_l1Has k _ _ (by rw [List.length_take]; omega) (by rw [List.length_take]; omega)]
          simp only [Option.bind_some]
          generalize (p.take i).contains (rd p (i : Int)) = q
          cases q <;> simp [h1, h2, h3]
        · rw [if_neg h3]; simp [h1, h3]
      · rw [if_neg h2]; simp [h1, h2]
theorem e_roGood (k : Nat) (r c : Int) (l p : List Int) (g : GoodB r c l) (hk : 100 ≤ k) : spec_roGood.f k r c l p = some (isPl r c l p) := by
  unfold spec_roGood.f isPl
  have hr := g.2.2.1; have hn := goodB_len g
  by_cases h : (p.length : Int) = r
  · rw [if_pos h]
    have := roGood_l0 r c l p g h p.length 0 k (by omega) (by omega)
    rw [show ((0 : Nat) : Int) = 0 from rfl] at this
    rw [this]; simp [h]
  · rw [if_neg h]; simp [h]

theorem i_has (r c : Int) (l : List Int) (i j : Int) (h : GoodB r c l) (hp : Place r c i j) : impl_Board_has.f r c l i j = some (cell (rd l i) j) := by
  unfold impl_Board_has.f
  have h1 := h.1; have h2 := h.2.1; have h3 := h.2.2.1; have h4 := hp.1; have h5 := hp.2
  have hm := goodB_le h (rd l i) (rd_mem l i (by omega) (by omega))
  rw [if_pos (by omega), if_pos (by omega), if_pos (by omega), cell_impl _ _ hm (by omega)]

theorem e_within (a b c : Int) : impl_within.f a b c = some (decide (b ≤ a ∧ a ≤ c)) := by
  unfold impl_within.f
  by_cases h : b ≤ a
  · rw [if_pos h]; simp [h]
  · rw [if_neg h]; simp [h]

theorem i_place (r c : Int) (l : List Int) (i j : Int) (h : GoodB r c l) : impl_Board_place.f r c l i j = some (decide (Place r c i j)) := by
  unfold impl_Board_place.f
  have h1 := h.1; have h2 := h.2.1
  rw [w64 (by omega) (by omega), w64 (by omega) (by omega), e_within, e_within]
  simp only [Option.bind_some, decide_eq_true_eq]
  by_cases h : 0 ≤ i ∧ i ≤ r - 1
  · rw [if_pos h]; simp [Place, h]
  · rw [if_neg h]; simp [Place, h]

theorem sIndex_l0 (a : Int) (l : List Int) (hl : l.length ≤ 2000000) : ∀ (d i k : Nat), i + d = l.length → d < k →
    ∃ r, slices_Index_int_int.l0 k l a (l.length : Int) (i : Int) = some r ∧ (decide (r ≥ 0)) = (l.drop i).contains a := by
  intro d
  induction d with
  | zero =>
    intro i k hi hk
    obtain ⟨k, rfl⟩ : ∃ m, k = m + 1 := ⟨k - 1, by omega⟩
    simp only [slices_Index_int_int.l0]; rw [if_neg (by omega), List.drop_eq_nil_of_le (by omega)]; exact ⟨_, rfl, rfl⟩
  | succ d ih =>
    intro i k hi hk
    obtain ⟨k, rfl⟩ : ∃ m, k = m + 1 := ⟨k - 1, by omega⟩
    have hlt : i < l.length := by omega
    simp only [slices_Index_int_int.l0]
    rw [if_pos (by omega), if_pos (by omega), if_pos (by omega), rd_nat l i hlt, w64 (by omega) (by omega), show ((i : Int) + 1) = ((i + 1 : Nat) : Int) from by omega, List.drop_eq_getElem_cons hlt, List.contains_cons]
    by_cases h : a = l[i]
    · rw [if_pos h]; exact ⟨_, rfl, by simp [h]⟩
    · rw [if_neg h]
      obtain ⟨r, h1, h2⟩ := ih (i + 1) k (by omega) (by omega)
      have : (a == l[i]) = false := beq_eq_false_iff_ne.2 h
      exact ⟨r, h1, by rw [this, Bool.false_or]; exact h2⟩
theorem i_Contains (k : Nat) (l : List Int) (a : Int) (hl : l.length ≤ 2000000) (hk : l.length < k) : slices_Contains_int_int.f k l a = some (l.contains a) := by
  unfold slices_Contains_int_int.f slices_Index_int_int.f
  obtain ⟨r, h1, h2⟩ := sIndex_l0 a l hl l.length 0 k (by omega) hk
  rw [show ((0 : Nat) : Int) = 0 from rfl] at h1
  rw [h1]; simp only [Option.bind_some]; rw [h2]; simp

theorem isPl_l0 (r c : Int) (l p : List Int) (g : GoodB r c l) (hp : (p.length : Int) = r) : ∀ (d i k : Nat), i + d = p.length → d + 10 < k →
    impl_Board_isPlacement.l0 k p p (p.length : Int) (i : Int) r c l = some (placF c l p d i) := by
  have hr := g.2.2.1; have hc := g.2.1; have hn := goodB_len g
  intro d
  induction d with
  | zero =>
    intro i k hi hk
    obtain ⟨k, rfl⟩ : ∃ m, k = m + 1 := ⟨k - 1, by omega⟩
    simp only [impl_Board_isPlacement.l0]; rw [if_neg (by omega)]; rfl
  | succ d ih =>
    intro i k hi hk
    obtain ⟨k, rfl⟩ : ∃ m, k = m + 1 := ⟨k - 1, by omega⟩
    have hlt : i < p.length := by omega
    simp only [impl_Board_isPlacement.l0]
    rw [if_pos (by omega), if_pos (by omega), if_pos (by omega), w64 (x := (i : Int) + 1) (by omega) (by omega), show ((i : Int) + 1) = ((i + 1 : Nat) : Int) from by omega, ih (i + 1) k (by omega) (by omega), i_place r c l _ _ g]
    simp only [placF, okP, Option.bind_some, decide_eq_true_eq]
    by_cases h1 : rd p (i : Int) = -1
    · rw [if_pos h1]; simp [h1]
    · rw [if_neg h1]
      by_cases h2 : 0 ≤ rd p (i : Int) ∧ rd p (i : Int) ≤ c - 1
      · rw [if_pos (show Place r c (i : Int) (rd p (i : Int)) from ⟨by omega, h2⟩), i_has r c l (i : Int) _ g ⟨by omega, h2⟩]
        simp only [Option.bind_some]
        by_cases h3 : cell (rd l (i : Int)) (rd p (i : Int)) = true
        · rw [if_pos h3, if_pos (by omega), Int.toNat_natCast, i_Contains k _ _ (by rw [List.length_take]; omega) (by rw [List.length_take]; omega)]
          simp only [Option.bind_some]
          generalize (p.take i).contains (rd p (i : Int)) = q
          cases q <;> simp [h1, h2, h3]
        · rw [if_neg h3]; simp [h1, h3]
      · rw [if_neg (fun x => h2 x.2)]; simp [h1, h2]
theorem i_isPlacement (k : Nat) (r c : Int) (l p : List Int) (g : GoodB r c l) (hk : 100 ≤ k) : impl_Board_isPlacement.f k r c l p = some (isPl r c l p) := by
  unfold impl_Board_isPlacement.f isPl
  have hr := g.2.2.1; have hn := goodB_len g
  by_cases h : (p.length : Int) = r
  · rw [if_pos h]
    have := isPl_l0 r c l p g h p.length 0 k (by omega) (by omega)
    rw [show ((0 : Nat) : Int) = 0 from rfl] at this
    rw [this]; simp [h]
  · rw [if_neg h]; simp [h]

/-- Rows are laid into columns. -/
def tpF (p : List Int) : Nat → Nat → List Int → List Int
  | 0, _, out => out
  | d + 1, i, out => tpF p d (i + 1) (if rd p (i : Int) = -1 then out else out.set (rd p (i : Int)).toNat (i : Int))
theorem tpF_len (p : List Int) : ∀ d i out, (tpF p d i out).length = out.length
  | 0, _, _ => rfl
  | d + 1, i, out => by
    rw [tpF, tpF_len p d]
    split <;> simp
theorem placF_le (c : Int) (l p : List Int) : ∀ (d i : Nat), placF c l p d i = true → ∀ j, i ≤ j → j < i + d → rd p (j : Int) = -1 ∨ (0 ≤ rd p (j : Int) ∧ rd p (j : Int) ≤ c - 1)
  | 0, _, _, j, h1, h2 => by omega
  | d + 1, i, h, j, h1, h2 => by
    rw [placF, Bool.and_eq_true] at h
    by_cases hj : j = i
    · subst hj
      have := h.1
      unfold okP at this
      simp only [Bool.or_eq_true, Bool.and_eq_true, decide_eq_true_eq] at this
      rcases this with h | h
      · exact .inl h
      · exact .inr h.1
    · exact placF_le c l p d (i + 1) h.2 j (by omega) (by omega)
theorem tp_spec (p : List Int) (n : Nat) (hp : p.length ≤ 6) (hn : ∀ j, j < p.length → rd p (j : Int) = -1 ∨ (0 ≤ rd p (j : Int) ∧ rd p (j : Int) < n)) : ∀ (d i k : Nat) (out : List Int), out.length = n → i + d = p.length → d < k → spec_TurnPlacement.l1 k out p (p.length : Int) (i : Int) = some (tpF p d i out, true) := by
  intro d
  induction d with
  | zero =>
    intro i k out ho hi hk
    obtain ⟨k, rfl⟩ : ∃ m, k = m + 1 := ⟨k - 1, by omega⟩
    rw [spec_TurnPlacement.l1, if_neg (by omega)]; rfl
  | succ d ih =>
    intro i k out ho hi hk
    obtain ⟨k, rfl⟩ : ∃ m, k = m + 1 := ⟨k - 1, by omega⟩
    have hv := hn i (by omega)
    rw [spec_TurnPlacement.l1, if_pos (by omega), if_pos (by omega), if_pos (by omega), w64 (x := (i : Int) + 1) (by omega) (by omega), show ((i : Int) + 1) = ((i + 1 : Nat) : Int) from by omega, tpF]
    by_cases h : rd p (i : Int) = -1
    · rw [if_neg (by omega), if_pos h, ih (i + 1) k out ho (by omega) (by omega)]
    · rw [if_pos (by omega), if_pos (by omega), if_pos (by omega), if_neg h, ih (i + 1) k _ (by simpa using ho) (by omega) (by omega)]
theorem tp_impl (p : List Int) (n : Nat) (hp : p.length ≤ 6) (hn : ∀ j, j < p.length → rd p (j : Int) = -1 ∨ (0 ≤ rd p (j : Int) ∧ rd p (j : Int) < n)) : ∀ (d i k : Nat) (out : List Int), out.length = n → i + d = p.length → d < k → impl_TurnPlacement.l0 k out p (p.length : Int) (i : Int) = some (tpF p d i out, true) := by
  intro d
  induction d with
  | zero =>
    intro i k out ho hi hk
    obtain ⟨k, rfl⟩ : ∃ m, k = m + 1 := ⟨k - 1, by omega⟩
    rw [impl_TurnPlacement.l0, if_neg (by omega)]; rfl
  | succ d ih =>
    intro i k out ho hi hk
    obtain ⟨k, rfl⟩ : ∃ m, k = m + 1 := ⟨k - 1, by omega⟩
    have hv := hn i (by omega)
    rw [impl_TurnPlacement.l0, if_pos (by omega), if_pos (by omega), if_pos (by omega), w64 (x := (i : Int) + 1) (by omega) (by omega), show ((i : Int) + 1) = ((i + 1 : Nat) : Int) from by omega, tpF]
    by_cases h : rd p (i : Int) = -1
    · rw [if_pos h, if_pos h, ih (i + 1) k out ho (by omega) (by omega)]
    · rw [if_neg h, if_pos (by omega), if_pos (by omega), if_neg h, ih (i + 1) k _ (by simpa using ho) (by omega) (by omega)]
theorem tp_l0 (p : List Int) (r c : Int) (l : List Int) (hc : 0 ≤ c ∧ c ≤ 6) : ∀ (d i k : Nat), (i : Int) + d = c → spec_TurnPlacement.l0 (k + d + 1) p (List.replicate i (-1)) (i : Int) r c l = spec_TurnPlacement.l1 k (List.replicate c.toNat (-1)) p (p.length : Int) 0 := by
  intro d
  induction d with
  | zero =>
    intro i k hi
    rw [show k + 0 + 1 = k + 1 from rfl, spec_TurnPlacement.l0, if_neg (by omega), show i = c.toNat by omega]
  | succ d ih =>
    intro i k hi
    rw [show k + (d + 1) + 1 = (k + d + 1) + 1 by omega, spec_TurnPlacement.l0, if_pos (by omega), if_pos (by simp; omega), w64 (x := (i : Int) + 1) (by omega) (by omega), show ((i : Int) + 1) = ((i + 1 : Nat) : Int) from by omega, show List.replicate i (-1 : Int) ++ [-1] = List.replicate (i + 1) (-1) by rw [List.replicate_succ']]
    exact ih (i + 1) k (by omega)
def tpOut (r c : Int) (l p : List Int) : List Int × Bool := if GoodB r c l ∧ isPl r c l p = true then (tpF p p.length 0 (List.replicate c.toNat (-1)), true) else ([], false)
theorem tpOut_len (r c : Int) (l p : List Int) : (tpOut r c l p).1.length ≤ 6 := by
  unfold tpOut
  split
  · rename_i h; have := h.1.2.1; rw [tpF_len, List.length_replicate]; omega
  · simp
theorem pl_bound (r c : Int) (l p : List Int) (g : GoodB r c l) (h : isPl r c l p = true) : p.length ≤ 6 ∧ ∀ j, j < p.length → rd p (j : Int) = -1 ∨ (0 ≤ rd p (j : Int) ∧ rd p (j : Int) < (c.toNat : Int)) := by
  unfold isPl at h
  rw [Bool.and_eq_true, decide_eq_true_eq] at h
  have h1 := g.1; have h2 := g.2.1
  refine ⟨by omega, fun j hj => ?_⟩
  rcases placF_le c l p p.length 0 h.2 j (by omega) (by omega) with h | h
  · exact .inl h
  · exact .inr (by omega)
theorem e_TurnPlacement (k : Nat) (r c : Int) (l p : List Int) (hl : l.length ≤ 1048576) (hk : 2000000 ≤ k) : spec_TurnPlacement.f k r c l p = some (tpOut r c l p) := by
  unfold spec_TurnPlacement.f tpOut
  rw [e_boGood k r c l (by omega) (by omega)]
  simp only [Option.bind_some, decide_eq_true_eq]
  obtain ⟨k, rfl⟩ : ∃ m, k = m + 1 := ⟨k - 1, by omega⟩
  by_cases g : GoodB r c l
  · have h2 := g.2.1
    rw [if_pos g, e_roGood _ r c l p g (by omega), Option.bind_some]
    by_cases h : isPl r c l p = true
    · obtain ⟨hp, hn⟩ := pl_bound r c l p g h
      rw [if_pos ⟨g, h⟩, h, spec_TurnPlacement.j0, if_neg (by decide)]
      obtain ⟨k', rfl⟩ : ∃ m, k = m + c.toNat + 1 := ⟨k - c.toNat - 1, by omega⟩
      have e1 := tp_l0 p r c l (by omega) c.toNat 0 k' (by omega)
      rw [show ((0 : Nat) : Int) = 0 from rfl, List.replicate_zero] at e1
      have e2 := tp_spec p c.toNat hp hn p.length 0 k' (List.replicate c.toNat (-1)) (by simp) (by omega) (by omega)
      rw [show ((0 : Nat) : Int) = 0 from rfl] at e2
      rw [e1, e2]
    · rw [if_neg (fun x => h x.2), Bool.eq_false_iff.2 h, spec_TurnPlacement.j0]; rfl
  · rw [if_neg g, if_neg (fun x => g x.1), spec_TurnPlacement.j0]; rfl
theorem i_TurnPlacement (k : Nat) (r c : Int) (l p : List Int) (hk : 10000 ≤ k) : impl_TurnPlacement.f k r c l p = some (tpOut r c l p) := by
  unfold impl_TurnPlacement.f tpOut
  rw [i_IsBoard]
  simp only [Option.bind_some, decide_eq_true_eq]
  obtain ⟨k, rfl⟩ : ∃ m, k = m + 1 := ⟨k - 1, by omega⟩
  by_cases g : GoodB r c l
  · have h2 := g.2.1
    rw [if_pos g, i_isPlacement _ r c l p g (by omega), Option.bind_some]
    by_cases h : isPl r c l p = true
    · obtain ⟨hp, hn⟩ := pl_bound r c l p g h
      rw [if_pos ⟨g, h⟩, h, impl_TurnPlacement.j0, if_neg (by decide)]
      have e2 := tp_impl p c.toNat hp hn p.length 0 k (List.replicate c.toNat (-1)) (by simp) (by omega) (by omega)
      rw [show ((0 : Nat) : Int) = 0 from rfl] at e2
      unfold slices_Repeat_int_int.f
      rw [if_pos ⟨rfl, by omega, by omega⟩, Option.bind_some]
      exact e2
    · rw [if_neg (fun x => h x.2), Bool.eq_false_iff.2 h, impl_TurnPlacement.j0]; rfl
  · rw [if_neg g, if_neg (fun x => g x.1), impl_TurnPlacement.j0]; rfl
theorem FnExactTurnPlacement : laws_FnExactTurnPlacement.Pure := by
  intro r c l p _ _ hm _ _ _
  refine ⟨2000020, ?_⟩
  unfold laws_FnExactTurnPlacement.f
  by_cases hp : (p.length : Int) > 1048576
  · rw [if_pos hp]
  · rw [if_neg hp, e_szBoard r c l 1048576 hm (by omega) (by omega)]
    simp only [Option.bind_some]
    by_cases h : (1048576 : Int) - l.length < 0
    · rw [if_pos h]; rfl
    · rw [if_neg h, if_neg h, e_toBoard _ r c l (by omega) (by omega), e_toIntS _ p (by omega) (by omega)]
      simp only [Option.bind_some]
      rw [e_TurnPlacement _ r c l p (by omega) (by omega), i_TurnPlacement _ r c l p (by omega)]
      have hI : ∀ k, 10000 ≤ k → impl_TurnPlacement.f k r c l p = some (tpOut r c l p) := fun k hk => i_TurnPlacement k r c l p hk
      have hlen := tpOut_len r c l p
      generalize tpOut r c l p = o at hI hlen
      obtain ⟨o1, o2⟩ := o
      simp only at hlen
      repeat (first
      | (simp only [Option.bind_some, bne_self_eq_false, Bool.false_eq_true, if_false, if_true, Bool.not_true, Bool.not_false])
      | (rw [e_toBoard _ _ _ _ (by omega) (by omega)])
      | (rw [e_eqBoard_self _ _ _ _ (by omega) (by omega)])
      | (rw [e_toIntS _ _ (by omega) (by omega)])
      | (rw [e_eqIntS_self _ _ (by omega) (by omega)])
      | (rw [e_markBoard _ _ _ _ _ (by omega) (by omega) (by omega) (by omega)])
      | (rw [e_markIntS _ _ _ (by omega) (by omega) (by omega) (by omega)])
      | (rw [e_heldIntS _ _ _ (by omega) (by omega) (by omega) (by omega)])
      | (rw [hI _ (by omega)])
      | (rw [laws_FnExactTurnPlacement.j0])
      | (rw [laws_FnExactTurnPlacement.j1])
      | (rw [laws_FnExactTurnPlacement.j2])
      | (rw [if_neg (show ¬ (_ : Int) < 0 by omega)])
      | (rw [if_pos (show (_ : Int) = _ from rfl)])
      | (rfl))

end Go.Proofs.Ytmhlnpokjjclhaa.Pure
