/- PlacementsOf: the law's function comes to true at every board and number of rooks. -/
import Derived.Test.YtcdikbiikmhmhaaPFnExactPlacementsOfx8
namespace Go.Proofs.Ytcdikbiikmhmhaa.Pure
open Go.RowKit Go.Proofs.Ytcdikbiikmhmhaa.PFnExactPlacementsOf Go.Proofs.YtcdikbiikmhmhaaW.PrintWords Go.Proofs.YtcdikbiikmhmhaaW.PrintLast
set_option linter.unusedVariables false
set_option linter.unusedSimpArgs false

theorem w64 {x : Int} (h0 : -9223372036854775808 ≤ x) (h1 : x < 9223372036854775808) : wrap64 x = x := by
  unfold wrap64; omega
theorem rd_nat (l : List Int) (i : Nat) (h : i < l.length) : rd l (i : Int) = l[i] := by
  unfold rd; simp [List.getD, h]

theorem e_szIntS (l : List Int) (a : Int) (hl : l.length ≤ maxLen) (h0 : 0 ≤ a) (h1 : a ≤ 1048576) : laws_szIntS.f l a = some (if a - l.length < 0 then -1 else a - l.length) := by
  unfold laws_szIntS.f
  have : l.length ≤ 9223372036854775807 := hl
  rw [w64 (by omega) (by omega)]
  by_cases h : a - (l.length : Int) < 0
  · rw [if_pos h, if_pos h]
  · rw [if_neg h, if_neg h]

theorem e_szBoard (r c : Int) (l : List Int) (a : Int) (hl : l.length ≤ maxLen) (h0 : 0 ≤ a) (h1 : a ≤ 1048576) : laws_szBoard.f r c l a = some (if a - l.length < 0 then -1 else a - l.length) := by
  unfold laws_szBoard.f
  rw [e_szIntS l a hl h0 h1]
  simp only [Option.bind_some]
  by_cases h : a - (l.length : Int) < 0
  · rw [if_pos h]; rfl
  · rw [if_neg h, if_neg h]

theorem e_toIntS_l0 (l : List Int) (hl : l.length ≤ 2000000) : ∀ (d i k : Nat) (m : List Int), i + d = l.length → d < k → m.length = l.length → m.take i = l.take i →
    laws_toIntS.l0 k l m (i : Int) = some l := by
  intro d
  induction d with
  | zero =>
    intro i k m hi' hk hm ht
    obtain ⟨k, rfl⟩ : ∃ m, k = m + 1 := ⟨k - 1, by omega⟩
    simp only [laws_toIntS.l0]; rw [if_neg (by omega)]
    rw [List.take_of_length_le (by omega), List.take_of_length_le (by omega)] at ht; rw [ht]
  | succ d ih =>
    intro i k m hi' hk hm ht
    obtain ⟨k, rfl⟩ : ∃ m, k = m + 1 := ⟨k - 1, by omega⟩
    have hlt : i < l.length := by omega
    simp only [laws_toIntS.l0]
    rw [if_pos (by omega), if_pos (by omega), if_pos (by omega), rd_nat l i hlt, w64 (by omega) (by omega), show ((i : Int) + 1) = ((i + 1 : Nat) : Int) from by omega]
    refine ih (i + 1) k _ (by omega) (by omega) (by simpa using hm) ?_
    rw [Int.toNat_natCast, List.take_succ_eq_append_getElem (by simpa using (by omega : i < m.length)), List.take_succ_eq_append_getElem hlt]
    simp [List.take_set_of_le, ht]
theorem e_toIntS (k : Nat) (l : List Int) (hl : l.length ≤ 2000000) (hk : l.length < k) : laws_toIntS.f k l = some l := by
  unfold laws_toIntS.f
  rw [if_pos (by omega), if_pos (by omega)]
  exact e_toIntS_l0 l hl l.length 0 k _ (by omega) hk (by simp) (by simp)

theorem e_toBoard (k : Nat) (r c : Int) (l : List Int) (hl : l.length ≤ 2000000) (hk : l.length < k) : laws_toBoard.f k r c l = some (r, c, l) := by
  unfold laws_toBoard.f; rw [e_toIntS k l hl hk]; rfl

theorem e_eqIntS_l0 (a b : List Int) (hl : a.length ≤ 2000000) (hab : a.length = b.length) : ∀ (d i k : Nat), i + d = a.length → d < k →
    laws_eqIntS.l0 k a b (i : Int) = some (decide (a.drop i = b.drop i)) := by
  intro d
  induction d with
  | zero =>
    intro i k hi' hk
    obtain ⟨k, rfl⟩ : ∃ m, k = m + 1 := ⟨k - 1, by omega⟩
    simp only [laws_eqIntS.l0]; rw [if_neg (by omega), List.drop_eq_nil_of_le (by omega), List.drop_eq_nil_of_le (by omega)]; simp
  | succ d ih =>
    intro i k hi' hk
    obtain ⟨k, rfl⟩ : ∃ m, k = m + 1 := ⟨k - 1, by omega⟩
    have hlt : i < a.length := by omega
    have hlt2 : i < b.length := by omega
    simp only [laws_eqIntS.l0]
    rw [if_pos (by omega), if_pos (by omega), if_pos (by omega), rd_nat a i hlt, rd_nat b i hlt2, List.drop_eq_getElem_cons hlt, List.drop_eq_getElem_cons hlt2, w64 (by omega) (by omega), show ((i : Int) + 1) = ((i + 1 : Nat) : Int) from by omega, ih (i + 1) k (by omega) (by omega)]
    by_cases h : a[i] = b[i]
    · rw [if_pos h]; simp only [List.cons.injEq, h, true_and]
    · rw [if_neg h]; simp only [List.cons.injEq, h, false_and, decide_false]
theorem e_eqIntS (k : Nat) (a b : List Int) (hl : a.length ≤ 2000000) (hk : a.length < k) : laws_eqIntS.f k a b = some (decide (a = b)) := by
  unfold laws_eqIntS.f
  by_cases h : (a.length : Int) = (b.length : Int)
  · rw [if_pos h]; exact e_eqIntS_l0 a b hl (by omega) a.length 0 k (by omega) hk
  · rw [if_neg h]; simp; intro hc; rw [hc] at h; exact h rfl
theorem e_eqIntS_self (k : Nat) (a : List Int) (hl : a.length ≤ 2000000) (hk : a.length < k) : laws_eqIntS.f k a a = some true := by
  rw [e_eqIntS k a a hl hk]; simp

theorem e_eqBoard (k : Nat) (r c : Int) (l : List Int) (r' c' : Int) (l' : List Int) (hl : l.length ≤ 2000000) (hk : l.length < k) : laws_eqBoard.f k r c l r' c' l' = some (decide (r = r' ∧ c = c' ∧ l = l')) := by
  unfold laws_eqBoard.f
  by_cases h1 : r = r'
  · by_cases h2 : c = c'
    · rw [if_pos h1, if_pos h2, e_eqIntS k l l' hl hk]
      by_cases h3 : l = l' <;> simp [h1, h2, h3]
    · rw [if_pos h1, if_neg h2]; simp [h2]
  · rw [if_neg h1]; simp [h1]
theorem e_eqBoard_self (k : Nat) (r c : Int) (l : List Int) (hl : l.length ≤ 2000000) (hk : l.length < k) : laws_eqBoard.f k r c l r c l = some true := by
  rw [e_eqBoard k r c l r c l hl hk]; simp

/-- The numbers from a on, n of them. -/
def marks : Int → Nat → List Int
  | _, 0 => []
  | a, n + 1 => a :: marks (a + 1) n
theorem marks_length : ∀ (n : Nat) (a : Int), (marks a n).length = n
  | 0, _ => rfl
  | n + 1, a => by simp [marks, marks_length n]
theorem marks_get : ∀ (n : Nat) (a : Int) (i : Nat) (h : i < (marks a n).length), (marks a n)[i] = a + i
  | 0, _, i, h => by simp [marks] at h
  | n + 1, a, 0, h => by simp [marks]
  | n + 1, a, i + 1, h => by
    simp only [marks, List.getElem_cons_succ]
    rw [marks_get n (a + 1) i]; omega

theorem e_markIntS_l0 (n : Nat) (hn : n ≤ 2000000) : ∀ (d i k : Nat) (l : List Int) (a : Int), l.length = n → i + d = n → d < k → 0 ≤ a → a + d ≤ 1000000000 →
    laws_markIntS.l0 k l a (i : Int) = some (a + d, l.take i ++ marks a d) := by
  intro d
  induction d with
  | zero =>
    intro i k l a hl hi hk h0 h1
    obtain ⟨k, rfl⟩ : ∃ m, k = m + 1 := ⟨k - 1, by omega⟩
    simp only [laws_markIntS.l0]; rw [if_neg (by omega), List.take_of_length_le (by omega)]; simp [marks]
  | succ d ih =>
    intro i k l a hl hi hk h0 h1
    obtain ⟨k, rfl⟩ : ∃ m, k = m + 1 := ⟨k - 1, by omega⟩
    have hlt : i < l.length := by omega
    simp only [laws_markIntS.l0]
    rw [if_pos (by omega), if_pos (by omega), w64 (by omega) (by omega), w64 (by omega) (by omega), show ((i : Int) + 1) = ((i + 1 : Nat) : Int) from by omega]
    rw [ih (i + 1) k _ (a + 1) (by simpa using hl) (by omega) (by omega) (by omega) (by omega)]
    rw [Int.toNat_natCast, List.take_succ_eq_append_getElem (by simpa using hlt)]
    simp only [List.getElem_set_self, List.take_set_of_le (Nat.le_refl i), List.append_assoc, List.singleton_append, marks]
    congr 2; omega
theorem e_markIntS (k : Nat) (l : List Int) (a : Int) (hl : l.length ≤ 2000000) (hk : l.length < k) (h0 : 0 ≤ a) (h1 : a + l.length ≤ 1000000000) : laws_markIntS.f k l a = some (a + l.length, marks a l.length) := by
  unfold laws_markIntS.f
  have := e_markIntS_l0 l.length hl l.length 0 k l a rfl (by omega) hk h0 h1
  simpa using this

theorem e_markBoard (k : Nat) (r c : Int) (l : List Int) (a : Int) (hl : l.length ≤ 2000000) (hk : l.length < k) (h0 : 0 ≤ a) (h1 : a + l.length ≤ 1000000000) : laws_markBoard.f k r c l a = some (a + l.length, marks a l.length) := by
  unfold laws_markBoard.f; rw [e_markIntS k l a hl hk h0 h1]; rfl

theorem e_l1In (a b c : Int) : spec_l1In.f a b c = some (decide (b ≤ a ∧ a ≤ c)) := by
  unfold spec_l1In.f
  by_cases h : b ≤ a
  · rw [if_pos h]; simp [h]
  · rw [if_neg h]; simp [h]

theorem e_l1All_l0 (lo hi : Int) (l : List Int) (hl : l.length ≤ 2000000) : ∀ (d i k : Nat), i + d = l.length → d < k →
    spec_l1All.l0 k lo hi l (l.length : Int) (i : Int) = some (decide (∀ x ∈ l.drop i, lo ≤ x ∧ x ≤ hi)) := by
  intro d
  induction d with
  | zero =>
    intro i k hi' hk
    obtain ⟨k, rfl⟩ : ∃ m, k = m + 1 := ⟨k - 1, by omega⟩
    simp only [spec_l1All.l0]; rw [if_neg (by omega), List.drop_eq_nil_of_le (by omega)]; simp
  | succ d ih =>
    intro i k hi' hk
    obtain ⟨k, rfl⟩ : ∃ m, k = m + 1 := ⟨k - 1, by omega⟩
    have hlt : i < l.length := by omega
    simp only [spec_l1All.l0]
    rw [if_pos (by omega), if_pos (by omega), if_pos (by omega), e_l1In, rd_nat l i hlt, List.drop_eq_getElem_cons hlt, w64 (by omega) (by omega)]
    simp only [Option.bind_some, decide_eq_true_eq, List.forall_mem_cons]
    by_cases h : lo ≤ l[i] ∧ l[i] ≤ hi
    · rw [if_pos h]
      have := ih (i + 1) k (by omega) (by omega)
      rw [show ((i : Int) + 1) = ((i + 1 : Nat) : Int) from by omega, this]; simp [h]
    · rw [if_neg h]; simp [h]
theorem e_l1All (k : Nat) (l : List Int) (lo hi : Int) (hl : l.length ≤ 2000000) (hk : l.length < k) : spec_l1All.f k l lo hi = some (decide (∀ x ∈ l, lo ≤ x ∧ x ≤ hi)) := by
  unfold spec_l1All.f; exact e_l1All_l0 lo hi l hl l.length 0 k (by omega) hk

theorem e_boSide (a : Int) : spec_boSide.f a = some (decide (1 ≤ a ∧ a ≤ 6)) := by
  unfold spec_boSide.f; rw [e_l1In]; rfl

/-- Is there a cell in the column c of a row m? -/
def cell (m c : Int) : Bool := decide (m / 2 ^ c.toNat % 2 = 1)
theorem fin_of (m : Int) (n : Nat) (h0 : 0 ≤ m) (h1 : m < n) : ∃ i : Fin n, m = (i.val : Int) := ⟨⟨m.toNat, by omega⟩, by simp; omega⟩
theorem cell_spec (m c : Int) (hm : 0 ≤ m ∧ m ≤ 63) (hc : 0 ≤ c ∧ c ≤ 6) : (Int.tmod (shr .i64 m c) 2 == 1) = cell m c := by
  have h : ∀ m : Fin 64, ∀ c : Fin 7, (Int.tmod (shr .i64 (m.val : Int) (c.val : Int)) 2 == 1) = cell (m.val : Int) (c.val : Int) := by decide +kernel
  obtain ⟨i, rfl⟩ := fin_of m 64 hm.1 (by omega)
  obtain ⟨j, rfl⟩ := fin_of c 7 hc.1 (by omega)
  exact h i j
theorem cell_impl (m c : Int) (hm : 0 ≤ m ∧ m ≤ 63) (hc : 0 ≤ c ∧ c ≤ 6) : (Go.bits .and .i64 (shr .i64 m c) 1 == 1) = cell m c := by
  have h : ∀ m : Fin 64, ∀ c : Fin 7, (Go.bits .and .i64 (shr .i64 (m.val : Int) (c.val : Int)) 1 == 1) = cell (m.val : Int) (c.val : Int) := by decide +kernel
  obtain ⟨i, rfl⟩ := fin_of m 64 hm.1 (by omega)
  obtain ⟨j, rfl⟩ := fin_of c 7 hc.1 (by omega)
  exact h i j
theorem pow_le (a : Int) (h : 1 ≤ a ∧ a ≤ 6) : 2 ≤ (2 : Int) ^ a.toNat ∧ (2 : Int) ^ a.toNat ≤ 64 := by
  obtain ⟨h0, h1⟩ := h
  obtain h | h | h | h | h | h : a = 1 ∨ a = 2 ∨ a = 3 ∨ a = 4 ∨ a = 5 ∨ a = 6 := by omega
  all_goals (subst h; decide +kernel)
theorem rd_mem (l : List Int) (i : Int) (h0 : 0 ≤ i) (h1 : i < l.length) : rd l i ∈ l := by
  obtain ⟨n, rfl⟩ := Int.eq_ofNat_of_zero_le h0
  rw [rd_nat l n (by omega)]; exact List.getElem_mem _

theorem goodB_le {r c : Int} {l : List Int} (h : GoodB r c l) : ∀ x ∈ l, 0 ≤ x ∧ x ≤ 63 := by
  intro x hx
  have := h.2.2.2 x hx
  have := pow_le c h.2.1
  omega
theorem goodB_len {r c : Int} {l : List Int} (h : GoodB r c l) : l.length ≤ 6 := by
  have := h.1; have := h.2.2.1; omega
/-- Is it a place of a board? -/
def Place (r c i j : Int) : Prop := (0 ≤ i ∧ i ≤ r - 1) ∧ (0 ≤ j ∧ j ≤ c - 1)
instance (r c i j : Int) : Decidable (Place r c i j) := by unfold Place; exact inferInstance
theorem i_IsBoard (r c : Int) (l : List Int) : impl_IsBoard.f r c l = some (decide (GoodB r c l)) := rfl

theorem sh1 (a : Int) (h : 1 ≤ a ∧ a ≤ 6) : wrap64 (shl .i64 1 a - 1) = 2 ^ a.toNat - 1 := by
  obtain ⟨h0, h1⟩ := h
  obtain h | h | h | h | h | h : a = 1 ∨ a = 2 ∨ a = 3 ∨ a = 4 ∨ a = 5 ∨ a = 6 := by omega
  all_goals (subst h; decide +kernel)
theorem e_boGood (k : Nat) (r c : Int) (l : List Int) (hl : l.length ≤ 2000000) (hk : l.length < k) : spec_boGood.f k r c l = some (decide (GoodB r c l)) := by
  unfold spec_boGood.f
  rw [e_boSide, e_boSide]
  simp only [Option.bind_some, decide_eq_true_eq]
  by_cases h0 : 1 ≤ r ∧ r ≤ 6
  · by_cases h1 : 1 ≤ c ∧ c ≤ 6
    · by_cases h2 : (l.length : Int) = r
      · rw [if_pos h0, if_pos h1, if_pos h2, if_pos (by omega), sh1 c h1, e_l1All k l _ _ hl hk]
        simp [GoodB, h0, h1, h2]
      · rw [if_pos h0, if_pos h1, if_neg h2]; simp [GoodB, h2]
    · rw [if_pos h0, if_neg h1]; simp [GoodB, h1]
  · rw [if_neg h0]; simp [GoodB, h0]

theorem rdL (l : List (List Int)) (i : Nat) (h : i < l.length) : rd_L1 l (i : Int) = l[i] := by
  unfold rd_L1; simp [List.getD, h]

theorem e_eqIntSS_l0 (a : List (List Int)) (n : Nat) (hl : a.length ≤ 2000000) (hx : ∀ q ∈ a, q.length ≤ n) (hn : n ≤ 2000000) : ∀ (d i k : Nat), i + d = a.length → d + n < k → laws_eqIntSS.l0 k a a (i : Int) = some true := by
  intro d
  induction d with
  | zero =>
    intro i k hi hk
    obtain ⟨k, rfl⟩ : ∃ m, k = m + 1 := ⟨k - 1, by omega⟩
    simp only [laws_eqIntSS.l0]; rw [if_neg (by omega)]
  | succ d ih =>
    intro i k hi hk
    obtain ⟨k, rfl⟩ : ∃ m, k = m + 1 := ⟨k - 1, by omega⟩
    have hlt : i < a.length := by omega
    have hq := hx _ (List.getElem_mem hlt)
    simp only [laws_eqIntSS.l0]
    have h1 : (i : Int) < (a.length : Int) := by omega
    rw [if_pos h1, if_pos (show (0 : Int) ≤ (i : Int) by omega), if_pos h1, rdL a i hlt, e_eqIntS_self k _ (by omega) (by omega), Option.bind_some, if_pos rfl, w64 (by omega) (by omega), show ((i : Int) + 1) = ((i + 1 : Nat) : Int) from by omega]
    exact ih (i + 1) k (by omega) (by omega)
theorem e_eqIntSS_self (k n : Nat) (a : List (List Int)) (hl : a.length ≤ 2000000) (hx : ∀ q ∈ a, q.length ≤ n) (hn : n ≤ 2000000) (hk : a.length + n < k) : laws_eqIntSS.f k a a = some true := by
  unfold laws_eqIntSS.f
  rw [if_pos rfl]
  exact e_eqIntSS_l0 a n hl hx hn a.length 0 k (by omega) hk

theorem e_heldIntS_l0 (b : Int) (n : Nat) (hn : n ≤ 2000000) (hb : 0 ≤ b) (hbn : b + n ≤ 1000000000) : ∀ (d i k : Nat), i + d = n → d < k →
    laws_heldIntS.l0 k (marks b n) (b + i) (i : Int) = some (b + n) := by
  intro d
  induction d with
  | zero =>
    intro i k hi hk
    obtain ⟨k, rfl⟩ : ∃ m, k = m + 1 := ⟨k - 1, by omega⟩
    simp only [laws_heldIntS.l0, marks_length]; rw [if_neg (by omega)]; congr 1; omega
  | succ d ih =>
    intro i k hi hk
    obtain ⟨k, rfl⟩ : ∃ m, k = m + 1 := ⟨k - 1, by omega⟩
    have hlt : i < (marks b n).length := by rw [marks_length]; omega
    simp only [laws_heldIntS.l0]
    rw [rd_nat _ i hlt, marks_get n b i hlt]
    simp only [marks_length]
    rw [if_pos (by omega), if_pos (by omega), if_pos trivial, w64 (by omega) (by omega), w64 (by omega) (by omega), show ((i : Int) + 1) = ((i + 1 : Nat) : Int) from by omega, show b + (i : Int) + 1 = b + ((i + 1 : Nat) : Int) from by omega]
    exact ih (i + 1) k (by omega) (by omega)
theorem e_heldIntS (k : Nat) (n : Nat) (b : Int) (hn : n ≤ 2000000) (hk : n < k) (hb : 0 ≤ b) (hbn : b + n ≤ 1000000000) : laws_heldIntS.f k (marks b n) b = some (b + n) := by
  unfold laws_heldIntS.f
  have := e_heldIntS_l0 b n hn hb hbn n 0 k (by omega) hk
  simpa using this

def marksSS : Int → List (List Int) → List (List Int)
  | _, [] => []
  | a, q :: t => marks a q.length :: marksSS (a + q.length) t
def totL : List (List Int) → Nat
  | [] => 0
  | q :: t => q.length + totL t
theorem totL_le (n : Nat) : ∀ l : List (List Int), (∀ q ∈ l, q.length ≤ n) → totL l ≤ l.length * n
  | [], _ => by simp [totL]
  | q :: t, h => by
    have h1 := h q (by simp)
    have h2 := totL_le n t (fun x hx => h x (by simp [hx]))
    rw [totL, List.length_cons, Nat.succ_mul]; omega
theorem e_mSS (k n : Nat) (hn : n ≤ 2000000) (hk : n < k) : ∀ (l : List (List Int)) (a : Int), (∀ q ∈ l, q.length ≤ n) → 0 ≤ a → a + totL l ≤ 1000000000 → mSS k l a = some (a + totL l, marksSS a l)
  | [], a, _, _, _ => by simp [mSS, totL, marksSS]
  | q :: t, a, h, h0, h1 => by
    have hq := h q (by simp)
    have ht : totL (q :: t) = q.length + totL t := rfl
    rw [mSS, e_markIntS k q a (by omega) (by omega) h0 (by omega), Option.bind_some]
    simp only
    rw [e_mSS k n hn hk t (a + q.length) (fun x hx => h x (by simp [hx])) (by omega) (by omega), Option.bind_some, ht, marksSS]
    congr 2
    omega
theorem e_markIntSS (k n : Nat) (hn : n ≤ 2000000) (hk : n < k) (l : List (List Int)) (a : Int) (hl : l.length ≤ 2000000) (h : ∀ q ∈ l, q.length ≤ n) (h0 : 0 ≤ a) (h1 : a + totL l ≤ 1000000000) : laws_markIntSS.f k l a = some (a + totL l, marksSS a l) := by
  unfold laws_markIntSS.f
  rw [if_pos hl, e_mSS k n hn hk l a h h0 h1]
theorem e_heldIntSS_l0 (n : Nat) (hn : n ≤ 2000000) : ∀ (t pre : List (List Int)) (a : Int) (k : Nat), (∀ q ∈ t, q.length ≤ n) → pre.length + t.length ≤ 2000000 → t.length + n < k → 0 ≤ a → a + totL t ≤ 1000000000 →
    laws_heldIntSS.l0 k (pre ++ marksSS a t) a (pre.length : Int) = some (a + totL t)
  | [], pre, a, k, _, _, hk, _, _ => by
    obtain ⟨k, rfl⟩ : ∃ m, k = m + 1 := ⟨k - 1, by omega⟩
    simp only [laws_heldIntSS.l0, marksSS, List.append_nil]
    rw [if_neg (by omega)]; simp [totL]
  | q :: t, pre, a, k, h, hl, hk, h0, h1 => by
    obtain ⟨k, rfl⟩ : ∃ m, k = m + 1 := ⟨k - 1, by omega⟩
    have hq := h q (by simp)
    have ht : totL (q :: t) = q.length + totL t := rfl
    simp only [List.length_cons] at hk hl
    have hL : (pre ++ marksSS a (q :: t)).length = pre.length + (marksSS (a + q.length) t).length + 1 := by simp [marksSS]; omega
    simp only [laws_heldIntSS.l0]
    rw [if_pos (by omega), if_pos (by omega), rdL _ pre.length (by omega)]
    have hg : (pre ++ marksSS a (q :: t))[pre.length]'(by omega) = marks a q.length := by simp [marksSS]
    rw [hg, e_heldIntS k q.length a (by omega) (by omega) h0 (by omega), Option.bind_some, if_neg (by omega), w64 (by omega) (by omega)]
    have := e_heldIntSS_l0 n hn t (pre ++ [marks a q.length]) (a + q.length) k (fun x hx => h x (by simp [hx])) (by simp; omega) (by omega) (by omega) (by omega)
    rw [List.length_append, List.length_singleton, List.append_assoc] at this
    rw [show ((pre.length : Int) + 1) = ((pre.length + 1 : Nat) : Int) from by omega]
    have e : pre ++ marksSS a (q :: t) = pre ++ ([marks a q.length] ++ marksSS (a + q.length) t) := by simp [marksSS]
    rw [e, this, ht]
    congr 1; omega
theorem e_heldIntSS (k n : Nat) (hn : n ≤ 2000000) (l : List (List Int)) (a : Int) (hl : l.length ≤ 2000000) (h : ∀ q ∈ l, q.length ≤ n) (hk : l.length + n < k) (h0 : 0 ≤ a) (h1 : a + totL l ≤ 1000000000) : laws_heldIntSS.f k (marksSS a l) a = some (a + totL l) := by
  unfold laws_heldIntSS.f
  have := e_heldIntSS_l0 n hn l [] a k h (by simpa using hl) hk h0 h1
  simpa using this

theorem e_within (a b c : Int) : impl_within.f a b c = some (decide (b ≤ a ∧ a ≤ c)) := by
  unfold impl_within.f
  by_cases h : b ≤ a
  · rw [if_pos h]; simp [h]
  · rw [if_neg h]; simp [h]

theorem e_boHas (r c : Int) (l : List Int) (i j : Int) (h : GoodB r c l) (hp : Place r c i j) : spec_boHas.f r c l i j = some (cell (rd l i) j) := by
  unfold spec_boHas.f
  have h1 := h.1; have h2 := h.2.1; have h3 := h.2.2.1; have h4 := hp.1; have h5 := hp.2
  have hm := goodB_le h (rd l i) (rd_mem l i (by omega) (by omega))
  rw [if_pos (by omega), if_pos (by omega), if_pos (by omega), cell_spec _ _ hm (by omega)]

theorem rd_set (l : List Int) (i : Nat) (v : Int) (j : Nat) (h : i < l.length) : rd (l.set i v) (j : Int) = if i = j then v else rd l (j : Int) := by
  unfold rd
  simp only [List.getD, Int.toNat_natCast, List.getElem?_set]
  by_cases hij : i = j
  · subst hij; simp [h]
  · simp [hij]
theorem rd_ext (a b : List Int) (hl : a.length = b.length) (h : ∀ j : Nat, j < a.length → rd a (j : Int) = rd b (j : Int)) : a = b := by
  refine List.ext_getElem hl ?_
  intro i h1 h2
  have := h i h1
  rwa [rd_nat a i h1, rd_nat b i h2] at this

/-- The columns taken, with one more. -/
def orZ (taken : Int) (j : Nat) : Int := Go.bits .or .i64 taken (shl .i64 1 (j : Int))
/-- Numbers of rooks of all placements, in order: rows that are left, columns taken. -/
def Z (C : Nat) : List Int → Int → List Nat
  | [], _ => [0]
  | m :: t, taken => (List.range (C + 1)).flatMap fun i => if i = 0 then Z C t taken else if cell m ((i - 1 : Nat) : Int) && !cell taken ((i - 1 : Nat) : Int) then (Z C t (orZ taken (i - 1))).map (· + 1) else []
/-- How often each number below M stands. -/
def HZ (M : Nat) (z : List Nat) : List Int := (List.range M).map fun k => ((z.count k : Nat) : Int)
theorem HZ_len (M : Nat) (z : List Nat) : (HZ M z).length = M := by simp [HZ]
theorem HZ_rd (M : Nat) (z : List Nat) (i : Nat) (h : i < M) : rd (HZ M z) (i : Int) = ((z.count i : Nat) : Int) := by
  rw [rd_nat _ i (by rw [HZ_len]; exact h)]; simp [HZ]
/-- How many columns are free. -/
def frZ (C : Nat) (taken : Int) : Nat := ((List.range C).filter fun j : Nat => !cell taken (j : Int)).length
theorem orZ_ok (C : Nat) (taken : Int) (j : Nat) (hC : C ≤ 6) (h : 0 ≤ taken ∧ taken ≤ 63) (hj : j < C) (hf : cell taken (j : Int) = false) : (0 ≤ orZ taken j ∧ orZ taken j ≤ 63) ∧ frZ C (orZ taken j) + 1 ≤ frZ C taken := by
  have key : ∀ C : Fin 7, ∀ j : Fin 6, ∀ t : Fin 64, j.val < C.val → cell (t.val : Int) (j.val : Int) = false → (0 ≤ orZ (t.val : Int) j.val ∧ orZ (t.val : Int) j.val ≤ 63) ∧ frZ C.val (orZ (t.val : Int) j.val) + 1 ≤ frZ C.val (t.val : Int) := by decide +kernel
  obtain ⟨t, rfl⟩ := fin_of taken 64 h.1 (by omega)
  exact key ⟨C, by omega⟩ ⟨j, by omega⟩ t hj hf
theorem frZ_le (C : Nat) (taken : Int) : frZ C taken ≤ C := by
  unfold frZ
  exact Nat.le_trans (List.length_filter_le _ _) (by simp)
theorem Z_le (C : Nat) (hC : C ≤ 6) : ∀ (t : List Int) (taken : Int), 0 ≤ taken ∧ taken ≤ 63 → ∀ z ∈ Z C t taken, z ≤ t.length ∧ z ≤ frZ C taken
  | [], _, _, z, hz => by simp [Z] at hz; omega
  | m :: t, taken, h, z, hz => by
    simp only [Z, List.mem_flatMap, List.mem_range] at hz
    obtain ⟨i, hi, hz⟩ := hz
    by_cases h0 : i = 0
    · rw [if_pos h0] at hz
      have := Z_le C hC t taken h z hz
      exact ⟨by simp; omega, this.2⟩
    · rw [if_neg h0] at hz
      split at hz
      case isFalse => simp at hz
      case isTrue hc =>
        simp only [Bool.and_eq_true, Bool.not_eq_true'] at hc
        obtain ⟨y, hy, rfl⟩ := List.mem_map.1 hz
        have ho := orZ_ok C taken (i - 1) hC h (by omega) hc.2
        have := Z_le C hC t _ ho.1 y hy
        exact ⟨by simp; omega, by omega⟩
theorem flat_len {α β : Type} (f : α → List β) (b : Nat) : ∀ l : List α, (∀ x ∈ l, (f x).length ≤ b) → (l.flatMap f).length ≤ l.length * b
  | [], _ => by simp
  | x :: t, h => by
    have h1 := h x (by simp)
    have h2 := flat_len f b t (fun y hy => h y (by simp [hy]))
    simp only [List.flatMap_cons, List.length_append, List.length_cons, Nat.succ_mul]
    omega
theorem Z_length (C : Nat) (hC : C ≤ 6) : ∀ (t : List Int) (taken : Int), (Z C t taken).length ≤ 7 ^ t.length
  | [], _ => by simp [Z]
  | m :: t, taken => by
    simp only [Z, List.length_cons]
    refine Nat.le_trans (flat_len _ (7 ^ t.length) _ ?_) ?_
    · intro i _
      by_cases h0 : i = 0
      · rw [if_pos h0]; exact Z_length C hC t taken
      · rw [if_neg h0]
        split
        · rw [List.length_map]; exact Z_length C hC t _
        · simp
    · rw [List.length_range, Nat.pow_succ, Nat.mul_comm]
      exact Nat.mul_le_mul_left _ (by omega)
theorem Z_small (C : Nat) (hC : C ≤ 6) (t : List Int) (taken : Int) (ht : t.length ≤ 6) (k : Nat) : (Z C t taken).count k ≤ 117649 := by
  refine Nat.le_trans List.count_le_length (Nat.le_trans (Z_length C hC t taken) ?_)
  exact Nat.le_trans (Nat.pow_le_pow_right (by omega) ht) (by decide)

theorem count_succ (B : List Nat) (j : Nat) : (B.map (· + 1)).count j = if j = 0 then 0 else B.count (j - 1) := by
  induction B with
  | nil => simp
  | cons x B ih =>
    rw [List.map_cons, List.count_cons, ih, List.count_cons]
    by_cases h : j = 0
    · subst h; simp
    · simp only [h, if_false]
      congr 1
      by_cases h2 : x = j - 1
      · have : x + 1 = j := by omega
        simp [h2, this]; omega
      · have : ¬ x + 1 = j := by omega
        simp [h2, this]
theorem w_l0 (M : Nat) (hM : M ≤ 7) (H : List Int) (hH : H.length = M) (hs : ∀ j, j < M → 0 ≤ rd H (j : Int) ∧ rd H (j : Int) ≤ 117649) (x1 x2 r c : Int) (l : List Int) : ∀ (d i k : Nat) (y : List Int), i + d = M → y.length = M → (∀ j, j < M → rd y (j : Int) = if j < i then rd H (j : Int) else 0) → spec_roWays.l0 (k + (d + 1)) x1 x2 y H (M : Int) (i : Int) r c l = spec_roWays.l1 k x1 x2 H 0 r c l
  | 0, i, k, y, hi, hy, hv => by
    rw [show k + (0 + 1) = k + 1 from rfl, spec_roWays.l0, if_neg (by omega)]
    rw [rd_ext y H (by omega) (fun j hj => by rw [hv j (by omega), if_pos (by omega)])]
  | d + 1, i, k, y, hi, hy, hv => by
    have h0 := hs i (by omega)
    rw [show k + (d + 1 + 1) = (k + (d + 1)) + 1 from rfl, spec_roWays.l0, if_pos (by omega), if_pos (by omega), if_pos (by omega), if_pos (by omega), hv i (by omega), if_neg (by omega), w64 (x := 0 + rd H (i : Int)) (by omega) (by omega), w64 (by omega) (by omega), Int.toNat_natCast, show ((i : Int) + 1) = ((i + 1 : Nat) : Int) from by omega]
    refine w_l0 M hM H hH hs x1 x2 r c l d (i + 1) k _ (by omega) (by simp [hy]) ?_
    intro j hj
    rw [rd_set y i _ j (by omega)]
    by_cases h1 : i = j
    · subst h1; rw [if_pos rfl, if_pos (by omega)]; omega
    · rw [if_neg h1, hv j hj]
      by_cases h2 : j < i
      · rw [if_pos h2, if_pos (by omega)]
      · rw [if_neg h2, if_neg (by omega)]
theorem w_l2 (M : Nat) (hM : M ≤ 7) (A B : List Nat) (hA : ∀ j, A.count j ≤ 1000000) (hB : ∀ j, B.count j ≤ 117649) (hb : ∀ z ∈ B, z + 1 < M) (x1 x2 x10 r c : Int) (l : List Int) : ∀ (d i k : Nat) (y : List Int), i + d = M → y.length = M → (∀ j, j < M → rd y (j : Int) = ((A.count j : Nat) : Int) + (if 1 ≤ j ∧ j ≤ i then ((B.count (j - 1) : Nat) : Int) else 0)) → spec_roWays.l2 (k + (d + 1)) x1 x2 y x10 (HZ M B) (M : Int) (i : Int) r c l = spec_roWays.l1 k x1 x2 (HZ M (A ++ B.map (· + 1))) (wrap64 (x10 + 1)) r c l
  | 0, i, k, y, hi, hy, hv => by
    rw [show k + (0 + 1) = k + 1 from rfl, spec_roWays.l2, if_neg (by omega)]
    rw [rd_ext y (HZ M (A ++ B.map (· + 1))) (by rw [HZ_len]; omega) (fun j hj => by
      rw [hv j (by omega), HZ_rd _ _ j (by omega), List.count_append, count_succ]
      by_cases h0 : j = 0
      · rw [if_neg (by omega), if_pos h0]; omega
      · rw [if_pos (by omega), if_neg h0]; omega)]
  | d + 1, i, k, y, hi, hy, hv => by
    rw [show k + (d + 1 + 1) = (k + (d + 1)) + 1 from rfl, spec_roWays.l2, if_pos (by omega), if_pos (by omega), if_pos (by rw [HZ_len]; omega), HZ_rd _ _ i (by omega)]
    have hBi := hB i
    by_cases hp : ((B.count i : Nat) : Int) > 0
    · have hi1 : i + 1 < M := hb i (List.count_pos_iff.1 (by omega))
      have hAi := hA (i + 1)
      rw [if_pos hp, w64 (x := (i : Int) + 1) (by omega) (by omega), if_pos (by omega), if_pos (by omega), show ((i : Int) + 1) = ((i + 1 : Nat) : Int) from by omega, hv (i + 1) hi1, if_neg (by omega), w64 (by omega) (by omega), Int.toNat_natCast]
      refine w_l2 M hM A B hA hB hb x1 x2 x10 r c l d (i + 1) k _ (by omega) (by simp [hy]) ?_
      intro j hj
      rw [rd_set y (i + 1) _ j (by omega)]
      by_cases h1 : i + 1 = j
      · subst h1; rw [if_pos rfl, if_pos (by omega), Nat.add_sub_cancel]; omega
      · rw [if_neg h1, hv j hj]
        by_cases h2 : 1 ≤ j ∧ j ≤ i
        · rw [if_pos h2, if_pos (by omega)]
        · rw [if_neg h2, if_neg (by omega)]
    · rw [if_neg hp, w64 (by omega) (by omega), show ((i : Int) + 1) = ((i + 1 : Nat) : Int) from by omega]
      refine w_l2 M hM A B hA hB hb x1 x2 x10 r c l d (i + 1) k _ (by omega) hy ?_
      intro j hj
      rw [hv j hj]
      by_cases h2 : 1 ≤ j ∧ j ≤ i
      · rw [if_pos h2, if_pos (by omega)]
      · by_cases h3 : j = i + 1
        · subst h3; rw [if_neg h2, if_pos (by omega), Nat.add_sub_cancel]; omega
        · rw [if_neg h2, if_neg (by omega)]
/-- What the placements are whose row m holds no rook, or one in a column below j. -/
def candZ (C : Nat) (m : Int) (t : List Int) (taken : Int) (i : Nat) : List Nat := if i = 0 then Z C t taken else if cell m ((i - 1 : Nat) : Int) && !cell taken ((i - 1 : Nat) : Int) then (Z C t (orZ taken (i - 1))).map (· + 1) else []
theorem candZ_len (C : Nat) (hC : C ≤ 6) (m : Int) (t : List Int) (taken : Int) (ht : t.length ≤ 5) (i : Nat) : (candZ C m t taken i).length ≤ 16807 := by
  have hp : 7 ^ t.length ≤ 16807 := Nat.le_trans (Nat.pow_le_pow_right (by omega) ht) (by decide)
  unfold candZ
  by_cases h0 : i = 0
  · rw [if_pos h0]; exact Nat.le_trans (Z_length C hC t taken) hp
  · rw [if_neg h0]
    split
    · rw [List.length_map]; exact Nat.le_trans (Z_length C hC t _) hp
    · simp
/-- A board's bounds, where there may be no rows or columns. -/
def WB (r c : Int) (l : List Int) : Prop := (0 ≤ r ∧ r ≤ 6) ∧ (0 ≤ c ∧ c ≤ 6) ∧ (l.length : Int) = r ∧ ∀ x ∈ l, 0 ≤ x ∧ x ≤ 63
theorem wb_of {r c : Int} {l : List Int} (h : GoodB r c l) : WB r c l := ⟨⟨by have := h.1; omega, h.1.2⟩, ⟨by have := h.2.1; omega, h.2.1.2⟩, h.2.2.1, goodB_le h⟩
theorem e_boHasW (r c : Int) (l : List Int) (i j : Int) (h : WB r c l) (hp : (0 ≤ i ∧ i < r) ∧ (0 ≤ j ∧ j ≤ 6)) : spec_boHas.f r c l i j = some (cell (rd l i) j) := by
  unfold spec_boHas.f
  have h3 := h.2.2.1
  have hm := h.2.2.2 (rd l i) (rd_mem l i (by omega) (by omega))
  rw [if_pos (by omega), if_pos (by omega), if_pos (by omega), cell_spec _ _ hm (by omega)]
theorem e_roWaysW (r c : Int) (l : List Int) (h : WB r c l) (C M : Nat) (hC : (C : Int) = c) (hM : (M : Int) = min r c + 1) : ∀ (t : List Int) (row : Nat) (taken : Int) (k : Nat), l.drop row = t → row ≤ l.length → 0 ≤ taken ∧ taken ≤ 63 → 100 * t.length + 100 ≤ k → spec_roWays.f k r c l (row : Int) taken = some (HZ M (Z C t taken)) := by
  have h1 := h.1; have h2 := h.2.1; have h3 := h.2.2.1
  have hl : l.length ≤ 6 := by omega
  intro t
  induction t with
  | nil =>
    intro row taken k ht hrow htk hk
    have hrl : row = l.length := by
      have := congrArg List.length ht
      simp at this; omega
    obtain ⟨k, rfl⟩ : ∃ n, k = n + 1 := ⟨k - 1, by omega⟩
    rw [spec_roWays.f]
    unfold spec_l1Least.f
    have e1 : (if r < c then some r else some c) = some (min r c) := by split <;> (congr 1; omega)
    rw [e1]
    simp only [Option.bind_some]
    rw [w64 (by omega) (by omega), ← hM, if_pos (by omega), if_pos (by omega)]
    rw [if_pos (by omega), if_pos (by simp; omega), Int.toNat_natCast]
    congr 1
    refine rd_ext _ _ (by simp [HZ_len]) ?_
    intro j hj
    simp at hj
    rw [show (0 : Int).toNat = 0 from rfl, rd_set _ 0 _ j (by simpa using (by omega : 0 < M)), HZ_rd _ _ j hj]
    by_cases h0 : 0 = j
    · subst h0; simp [Z]
    · rw [if_neg h0, rd_nat _ j (by simpa using hj)]
      have h9 : List.count j [0] = 0 := List.count_eq_zero.2 (by simp; omega)
      simp [Z, h9]
  | cons m t ih =>
    intro row taken k ht hrow htk hk
    have hlt : row < l.length := by
      have := congrArg List.length ht
      simp at this; omega
    have hd := List.drop_eq_getElem_cons hlt
    rw [ht] at hd
    injection hd with hm ht'
    simp only [List.length_cons] at hk
    have htl : t.length = l.length - (row + 1) := by rw [ht']; simp
    obtain ⟨k, rfl⟩ : ∃ n, k = n + 1 := ⟨k - 1, by omega⟩
    rw [spec_roWays.f]
    unfold spec_l1Least.f
    have e1 : (if r < c then some r else some c) = some (min r c) := by split <;> (congr 1; omega)
    rw [e1]
    simp only [Option.bind_some]
    rw [w64 (by omega) (by omega), ← hM, if_pos (by omega), if_pos (by omega)]
    rw [if_neg (by omega), w64 (x := (row : Int) + 1) (by omega) (by omega), show ((row : Int) + 1) = ((row + 1 : Nat) : Int) from by omega, Int.toNat_natCast]
    rw [ih (row + 1) taken k ht'.symm (by omega) htk (by omega)]
    simp only [Option.bind_some]
    obtain ⟨k, rfl⟩ : ∃ n, k = n + (M + 1) := ⟨k - (M + 1), by omega⟩
    have hzs : ∀ (tk : Int) (j : Nat), (Z C t tk).count j ≤ 117649 := fun tk j => Z_small C (by omega) t tk (by omega) j
    have hw0 := w_l0 M (by omega) (HZ M (Z C t taken)) (HZ_len _ _) (fun j hj => by rw [HZ_rd _ _ j hj]; have := hzs taken j; omega) (row : Int) taken r c l M 0 k (List.replicate M 0) (by omega) (by simp) (fun j hj => by rw [rd_nat _ j (by simpa using hj)]; simp)
    rw [show ((0 : Nat) : Int) = 0 from rfl] at hw0
    rw [HZ_len, hw0]
    have hcz : Z C (m :: t) taken = (List.range (C + 1)).flatMap (candZ C m t taken) := rfl
    have hm63 := h.2.2.2 m (by rw [hm]; exact List.getElem_mem _)
    have loop : ∀ (d j k : Nat), j + d = C → 100 * t.length + 100 + d * 12 + 1 ≤ k → spec_roWays.l1 k (row : Int) taken (HZ M ((List.range (j + 1)).flatMap (candZ C m t taken))) (j : Int) r c l = some (HZ M (Z C (m :: t) taken)) := by
      intro d
      induction d with
      | zero =>
        intro j k hj hk
        obtain ⟨k, rfl⟩ : ∃ n, k = n + 1 := ⟨k - 1, by omega⟩
        rw [spec_roWays.l1, if_neg (by omega), hcz, show j = C from by omega]
      | succ d ihd =>
        intro j k hj hk
        obtain ⟨k, rfl⟩ : ∃ n, k = n + 1 + 1 := ⟨k - 2, by omega⟩
        have hjC : j < C := by omega
        rw [spec_roWays.l1, if_pos (by omega), e_boHasW r c l (row : Int) (j : Int) h ⟨by omega, by omega⟩, rd_nat l row hlt, ← hm]
        simp only [Option.bind_some]
        have hcd : candZ C m t taken (j + 1) = if cell m (j : Int) && !cell taken (j : Int) then (Z C t (orZ taken j)).map (· + 1) else [] := by unfold candZ; rw [if_neg (by omega)]; simp
        have hrg : (List.range (j + 1 + 1)).flatMap (candZ C m t taken) = (List.range (j + 1)).flatMap (candZ C m t taken) ++ candZ C m t taken (j + 1) := by rw [List.range_succ (n := j + 1), List.flatMap_append]; simp
        have skip : (cell m (j : Int) && !cell taken (j : Int)) = false → spec_roWays.l1 k (row : Int) taken (HZ M ((List.range (j + 1)).flatMap (candZ C m t taken))) (wrap64 ((j : Int) + 1)) r c l = some (HZ M (Z C (m :: t) taken)) := by
          intro hf
          have := ihd (j + 1) k (by omega) (by omega)
          rw [hrg, hcd, hf] at this
          simp only [Bool.false_eq_true, if_false, List.append_nil] at this
          rw [w64 (by omega) (by omega), show ((j : Int) + 1) = ((j + 1 : Nat) : Int) from by omega]
          exact this
        by_cases hc1 : cell m (j : Int) = true
        · rw [if_pos hc1, if_pos (by omega), cell_spec taken (j : Int) (by omega) (by omega), spec_roWays.j2]
          by_cases hc2 : cell taken (j : Int) = true
          · rw [if_pos hc2]
            exact skip (by rw [hc1, hc2]; rfl)
          · have hc2' := Bool.eq_false_iff.2 hc2
            have ho := orZ_ok C taken j (by omega) htk hjC hc2'
            have hfl := frZ_le C taken
            rw [if_neg hc2, if_pos (by omega), w64 (x := (row : Int) + 1) (by omega) (by omega), show ((row : Int) + 1) = ((row + 1 : Nat) : Int) from by omega, show Go.bits .or .i64 taken (shl .i64 1 (j : Int)) = orZ taken j from rfl]
            rw [ih (row + 1) (orZ taken j) k ht'.symm (by omega) ho.1 (by omega)]
            simp only [Option.bind_some]
            obtain ⟨k, rfl⟩ : ∃ n, k = n + (M + 1) := ⟨k - (M + 1), by omega⟩
            have hAs : ∀ i, ((List.range (j + 1)).flatMap (candZ C m t taken)).count i ≤ 1000000 := fun i => by
              have h7 := flat_len (candZ C m t taken) 16807 (List.range (j + 1)) (fun x _ => candZ_len C (by omega) m t taken (by omega) x)
              rw [List.length_range] at h7
              have := List.count_le_length (a := i) (l := (List.range (j + 1)).flatMap (candZ C m t taken))
              omega
            have hw2 := w_l2 M (by omega) ((List.range (j + 1)).flatMap (candZ C m t taken)) (Z C t (orZ taken j)) hAs (hzs _) (fun z hz => by
              have := Z_le C (by omega) t (orZ taken j) ho.1 z hz
              omega) (row : Int) taken (j : Int) r c l M 0 k (HZ M ((List.range (j + 1)).flatMap (candZ C m t taken))) (by omega) (HZ_len _ _) (fun i hi => by rw [HZ_rd _ _ i hi, if_neg (by omega)]; omega)
            rw [show ((0 : Nat) : Int) = 0 from rfl] at hw2
            rw [HZ_len, hw2]
            have := ihd (j + 1) k (by omega) (by omega)
            rw [hrg, hcd, hc1, hc2'] at this
            rw [w64 (by omega) (by omega), show ((j : Int) + 1) = ((j + 1 : Nat) : Int) from by omega]
            simpa using this
        · rw [if_neg hc1, spec_roWays.j2, if_pos rfl]
          exact skip (by rw [Bool.eq_false_iff.2 hc1]; rfl)
    have := loop C 0 k (by omega) (by omega)
    simpa [candZ] using this
theorem e_roWays (r c : Int) (l : List Int) (h : GoodB r c l) (C M : Nat) (hC : (C : Int) = c) (hM : (M : Int) = min r c + 1) : ∀ (t : List Int) (row : Nat) (taken : Int) (k : Nat), l.drop row = t → row ≤ l.length → 0 ≤ taken ∧ taken ≤ 63 → 100 * t.length + 100 ≤ k → spec_roWays.f k r c l (row : Int) taken = some (HZ M (Z C t taken)) := e_roWaysW r c l (wb_of h) C M hC hM

theorem HZ_nil (M : Nat) : HZ M [] = List.replicate M 0 := by
  refine rd_ext _ _ (by simp [HZ_len]) ?_
  intro j hj
  rw [HZ_len] at hj
  rw [HZ_rd _ _ j hj, rd_nat _ j (by simpa using hj)]; simp
/-- A board's bounds. -/
def Nice (r c : Int) (l : List Int) : Prop := (1 ≤ r ∧ r ≤ 6) ∧ (1 ≤ c ∧ c ≤ 6) ∧ (l.length : Int) = r ∧ ∀ x ∈ l, 0 ≤ x ∧ x ≤ 63
/-- The rook numbers. -/
def numsL (r c : Int) (l : List Int) : List Int := HZ (min r c + 1).toNat (Z c.toNat l 0)
theorem Z_ltN (r c : Int) (l : List Int) (h : Nice r c l) : ∀ z ∈ Z c.toNat l 0, z < (min r c + 1).toNat := by
  intro z hz
  have h1 := h.1; have h2 := h.2.1; have h3 := h.2.2.1
  have := Z_le c.toNat (by omega) l 0 (by omega) z hz
  have := frZ_le c.toNat 0
  omega
theorem numsL_lenN (r c : Int) (l : List Int) (h : Nice r c l) : (numsL r c l).length ≤ 7 := by
  have h1 := h.1; have h2 := h.2.1
  unfold numsL; rw [HZ_len]; omega

theorem nice_of {r c : Int} {l : List Int} (h : GoodB r c l) : Nice r c l := ⟨h.1, h.2.1, h.2.2.1, goodB_le h⟩
theorem numsL_len (r c : Int) (l : List Int) (h : GoodB r c l) : (numsL r c l).length ≤ 7 := numsL_lenN r c l (nice_of h)
theorem e_roNumbers (k : Nat) (r c : Int) (l : List Int) (h : GoodB r c l) (hk : 1000 ≤ k) : spec_roNumbers.f k r c l = some (numsL r c l) := by
  have h1 := h.1; have h2 := h.2.1; have h3 := h.2.2.1
  have hl := goodB_len h
  unfold spec_roNumbers.f
  have := e_roWays r c l h c.toNat (min r c + 1).toNat (by omega) (by omega) l 0 0 k rfl (by omega) (by omega) (by omega)
  rw [show ((0 : Nat) : Int) = 0 from rfl] at this
  rw [this]; rfl
theorem e_roNumbersW (k : Nat) (r c : Int) (l : List Int) (h : WB r c l) (hk : 1000 ≤ k) : spec_roNumbers.f k r c l = some (numsL r c l) := by
  have h1 := h.1; have h2 := h.2.1; have h3 := h.2.2.1
  unfold spec_roNumbers.f
  have := e_roWaysW r c l h c.toNat (min r c + 1).toNat (by omega) (by omega) l 0 0 k rfl (by omega) (by omega) (by omega)
  rw [show ((0 : Nat) : Int) = 0 from rfl] at this
  rw [this]; rfl

theorem e_roOfW (f : Nat) (r c : Int) (l : List Int) (k : Int) (h : WB r c l) (hk : 0 ≤ k) (hf : 1000 ≤ f) : spec_roOf.f f r c l k = some (((Z c.toNat l 0).count k.toNat : Nat) : Int) := by
  unfold spec_roOf.f
  have h1 := h.1; have h2 := h.2.1; have h3 := h.2.2.1
  rw [e_roNumbersW f r c l h hf, Option.bind_some]
  have hl : (numsL r c l).length = (min r c + 1).toNat := by unfold numsL; rw [HZ_len]
  by_cases hc : k ≥ ((numsL r c l).length : Int)
  · rw [if_pos hc]
    have : (Z c.toNat l 0).count k.toNat = 0 := by
      refine List.count_eq_zero.2 ?_
      intro hm
      have := Z_le c.toNat (by omega) l 0 (by omega) _ hm
      have := frZ_le c.toNat 0
      omega
    rw [this]; rfl
  · rw [if_neg hc, if_pos hk, if_pos (by omega)]
    congr 1
    obtain ⟨n, rfl⟩ := Int.eq_ofNat_of_zero_le hk
    unfold numsL
    rw [HZ_rd _ _ n (by omega), Int.toNat_natCast]
theorem e_roOf (f : Nat) (r c : Int) (l : List Int) (k : Int) (h : GoodB r c l) (hk : 0 ≤ k) (hf : 1000 ≤ f) : spec_roOf.f f r c l k = some (((Z c.toNat l 0).count k.toNat : Nat) : Int) := e_roOfW f r c l k (wb_of h) hk hf

theorem cntR_snoc : ∀ (a : List Int) (v : Int), cntR (a ++ [v]) = cntR a + (if v = -1 then 0 else 1)
  | [], v => by simp [cntR]
  | x :: a, v => by simp only [List.cons_append, cntR, cntR_snoc a v]; omega
theorem okC_cell (m taken : Int) (j : Nat) (hm : 0 ≤ m ∧ m ≤ 63) (ht : 0 ≤ taken ∧ taken ≤ 63) (hj : j ≤ 6) : okC m taken j = (cell m (j : Int) && !cell taken (j : Int)) := by
  unfold okC
  rw [cell_impl m (j : Int) hm (by omega), cell_impl taken (j : Int) ht (by omega)]
theorem flatMap_map_eq {α β : Type} (f : α → List (List Int)) (g : α → List Nat) (u : List Int → β) (v : Nat → β) : ∀ l : List α, (∀ x ∈ l, (f x).map u = (g x).map v) → (l.flatMap f).map u = (l.flatMap g).map v
  | [], _ => rfl
  | x :: l, h => by
    simp only [List.flatMap_cons, List.map_append, h x (by simp), flatMap_map_eq f g u v l (fun y hy => h y (by simp [hy]))]
theorem plc_Z (C : Nat) (hC : C ≤ 6) : ∀ (t : List Int) (taken : Int) (acc : List Int), (∀ x ∈ t, 0 ≤ x ∧ x ≤ 63) → 0 ≤ taken ∧ taken ≤ 63 → (plc C t taken acc).map cntR = (Z C t taken).map fun z : Nat => cntR acc + (z : Int)
  | [], taken, acc, _, _ => by simp [plc, Z]
  | m :: t, taken, acc, hm, ht => by
    simp only [plc, Z]
    refine flatMap_map_eq _ _ _ _ _ ?_
    intro i hi
    have hi := List.mem_range.1 hi
    by_cases h0 : i = 0
    · rw [if_pos h0, if_pos h0, plc_Z C hC t taken _ (fun x hx => hm x (by simp [hx])) ht, cntR_snoc]; simp
    · rw [if_neg h0, if_neg h0, okC_cell m taken (i - 1) (hm m (by simp)) ht (by omega)]
      by_cases hc : (cell m ((i - 1 : Nat) : Int) && !cell taken ((i - 1 : Nat) : Int)) = true
      · rw [if_pos hc, if_pos hc]
        simp only [Bool.and_eq_true, Bool.not_eq_true'] at hc
        have ho := orZ_ok C taken (i - 1) hC ht (by omega) hc.2
        rw [show orC taken (i - 1) = orZ taken (i - 1) from rfl, plc_Z C hC t _ _ (fun x hx => hm x (by simp [hx])) ho.1, cntR_snoc, List.map_map, if_neg (by omega)]
        refine List.map_congr_left ?_
        intro z _
        simp only [Function.comp]; omega
      · rw [if_neg hc, if_neg hc]; rfl

theorem plc_cnt (C : Nat) : ∀ (t : List Int) (taken : Int) (acc : List Int), ∀ q ∈ plc C t taken acc, cntR acc ≤ cntR q ∧ cntR q ≤ cntR acc + t.length
  | [], taken, acc, q, h => by
    simp [plc] at h; subst h; simp
  | m :: t, taken, acc, q, h => by
    simp only [plc, List.mem_flatMap, List.mem_range] at h
    obtain ⟨i, hi, h⟩ := h
    by_cases h0 : i = 0
    · rw [if_pos h0] at h
      have := plc_cnt C t _ _ q h
      rw [cntR_snoc, if_pos rfl] at this
      simp only [List.length_cons]; omega
    · rw [if_neg h0] at h
      split at h
      · have := plc_cnt C t _ _ q h
        rw [cntR_snoc, if_neg (by omega)] at this
        simp only [List.length_cons]; omega
      · simp at h
/-- The placements with k rooks more than stand already. -/
def selL (C : Nat) (t : List Int) (taken : Int) (acc : List Int) (k : Int) : List (List Int) := (plc C t taken acc).filter fun q => decide (cntR q = cntR acc + k)
theorem selL_len (C : Nat) (hC : C ≤ 6) (t : List Int) (ht : t.length ≤ 6) (taken : Int) (acc : List Int) (k : Int) : (selL C t taken acc k).length ≤ 117649 := by
  unfold selL
  refine Nat.le_trans (List.length_filter_le _ _) (Nat.le_trans (plc_len C hC t taken acc) ?_)
  exact Nat.le_trans (Nat.pow_le_pow_right (by omega) ht) (by decide)
theorem plc_elem (C : Nat) : ∀ (t : List Int) (taken : Int) (acc : List Int), ∀ q ∈ plc C t taken acc, q.length = acc.length + t.length
  | [], taken, acc, q, h => by
    simp [plc] at h; subst h; simp
  | m :: t, taken, acc, q, h => by
    simp only [plc, List.mem_flatMap, List.mem_range] at h
    obtain ⟨i, hi, h⟩ := h
    by_cases h0 : i = 0
    · rw [if_pos h0] at h
      have := plc_elem C t _ _ q h
      simp only [List.length_append, List.length_cons, List.length_nil] at this ⊢; omega
    · rw [if_neg h0] at h
      split at h
      · have := plc_elem C t _ _ q h
        simp only [List.length_append, List.length_cons, List.length_nil] at this ⊢; omega
      · simp at h
theorem count_cast (zs : List Nat) (k : Int) (hk : 0 ≤ k) : (zs.map fun z : Nat => (0 : Int) + (z : Int)).count k = zs.count k.toNat := by
  induction zs with
  | nil => rfl
  | cons z zs ih =>
    rw [List.map_cons, List.count_cons, List.count_cons, ih]
    by_cases h : z = k.toNat
    · rw [if_pos (by simp; omega), if_pos (by simp [h])]
    · rw [if_neg (by simp; omega), if_neg (by simp [h])]
theorem filter_count (k : Int) : ∀ L : List (List Int), (L.filter fun q => decide (cntR q = k)).length = (L.map cntR).count k
  | [] => rfl
  | q :: L => by
    rw [List.map_cons, List.count_cons, ← filter_count k L]
    by_cases h : cntR q = k
    · rw [List.filter_cons_of_pos (by simpa using h), if_pos (by simpa using h)]; rfl
    · rw [List.filter_cons_of_neg (by simpa using h), if_neg (by simpa using h)]; rfl
theorem selL_count (C : Nat) (hC : C ≤ 6) (l : List Int) (hl : ∀ x ∈ l, 0 ≤ x ∧ x ≤ 63) (k : Int) (hk : 0 ≤ k) : (selL C l 0 [] k).length = (Z C l 0).count k.toNat := by
  unfold selL
  have h := plc_Z C hC l 0 [] hl (by omega)
  have e : cntR [] + k = k := by simp [cntR]
  rw [e, filter_count, h, show cntR [] = 0 from rfl, count_cast _ _ hk]
theorem flatMap_cg {α β : Type} (f g : α → List β) : ∀ l : List α, (∀ x ∈ l, f x = g x) → l.flatMap f = l.flatMap g
  | [], _ => rfl
  | x :: l, h => by simp only [List.flatMap_cons, h x (by simp), flatMap_cg f g l (fun y hy => h y (by simp [hy]))]

theorem l1Has_l0 (a : Int) (l : List Int) (hl : l.length ≤ 2000000) : ∀ (d i k : Nat), i + d = l.length → d < k →
    spec_l1Has.l0 k a l (l.length : Int) (i : Int) = some ((l.drop i).contains a) := by
  intro d
  induction d with
  | zero =>
    intro i k hi hk
    obtain ⟨k, rfl⟩ : ∃ m, k = m + 1 := ⟨k - 1, by omega⟩
    simp only [spec_l1Has.l0]; rw [if_neg (by omega), List.drop_eq_nil_of_le (by omega)]; rfl
  | succ d ih =>
    intro i k hi hk
    obtain ⟨k, rfl⟩ : ∃ m, k = m + 1 := ⟨k - 1, by omega⟩
    have hlt : i < l.length := by omega
    simp only [spec_l1Has.l0]
    rw [if_pos (by omega), if_pos (by omega), if_pos (by omega), rd_nat l i hlt, w64 (by omega) (by omega), show ((i : Int) + 1) = ((i + 1 : Nat) : Int) from by omega, List.drop_eq_getElem_cons hlt, List.contains_cons]
    by_cases h : l[i] = a
    · rw [if_pos h]; simp [h]
    · rw [if_neg h, ih (i + 1) k (by omega) (by omega)]
      have : (a == l[i]) = false := beq_eq_false_iff_ne.2 (fun e => h e.symm)
      rw [this, Bool.false_or]
theorem e_l1Has (k : Nat) (l : List Int) (a : Int) (hl : l.length ≤ 2000000) (hk : l.length < k) : spec_l1Has.f k l a = some (l.contains a) := by
  unfold spec_l1Has.f
  have := l1Has_l0 a l hl l.length 0 k (by omega) hk
  simpa using this

def candF (C : Nat) (m : Int) (t : List Int) (taken : Int) (acc : List Int) (k : Int) (i : Nat) : List (List Int) := if i = 0 then selL C t taken (acc ++ [-1]) k else if okC m taken (i - 1) && decide (0 < k) then selL C t (orC taken (i - 1)) (acc ++ [((i - 1 : Nat) : Int)]) (k - 1) else []
theorem flatMap_congr' {α β : Type} (f g : α → List β) : ∀ l : List α, (∀ x ∈ l, f x = g x) → l.flatMap f = l.flatMap g
  | [], _ => rfl
  | x :: l, h => by simp only [List.flatMap_cons, h x (by simp), flatMap_congr' f g l (fun y hy => h y (by simp [hy]))]
theorem selL_cons (C : Nat) (m : Int) (t : List Int) (taken : Int) (acc : List Int) (k : Int) (hk : 0 ≤ k) : selL C (m :: t) taken acc k = (List.range (C + 1)).flatMap (candF C m t taken acc k) := by
  unfold selL
  simp only [plc]
  rw [List.filter_flatMap]
  refine flatMap_congr' _ _ _ ?_
  intro i hi
  unfold candF
  by_cases h0 : i = 0
  · rw [if_pos h0, if_pos h0]
    unfold selL
    rw [cntR_snoc, if_pos rfl, Int.add_zero]
  · rw [if_neg h0, if_neg h0]
    by_cases h1 : okC m taken (i - 1) = true
    · rw [if_pos h1]
      by_cases h2 : 0 < k
      · rw [if_pos (by simp [h1, h2])]
        unfold selL
        rw [cntR_snoc, if_neg (by omega), show cntR acc + 1 + (k - 1) = cntR acc + k by omega]
      · rw [if_neg (by simp [h2])]
        refine List.filter_eq_nil_iff.2 ?_
        intro q hq
        have := plc_cnt C t _ _ q hq
        rw [cntR_snoc, if_neg (by omega)] at this
        simp; omega
    · rw [if_neg h1, if_neg (by simp [h1])]; rfl
theorem candF_len (C : Nat) (hC : C ≤ 6) (m : Int) (t : List Int) (ht : t.length ≤ 6) (taken : Int) (acc : List Int) (k : Int) (i : Nat) : (candF C m t taken acc k i).length ≤ 117649 := by
  unfold candF
  split
  · exact selL_len C hC t ht _ _ _
  · split
    · exact selL_len C hC t ht _ _ _
    · simp
theorem cell_orZ (taken : Int) (j i : Nat) (h : 0 ≤ taken ∧ taken ≤ 63) (hj : j < 6) (hi : i < 6) : cell (orZ taken j) (i : Int) = (cell taken (i : Int) || decide (i = j)) := by
  have key : ∀ j i : Fin 6, ∀ t : Fin 64, cell (orZ (t.val : Int) j.val) (i.val : Int) = (cell (t.val : Int) (i.val : Int) || decide (i.val = j.val)) := by decide +kernel
  obtain ⟨t, rfl⟩ := fin_of taken 64 h.1 (by omega)
  exact key ⟨j, hj⟩ ⟨i, hi⟩ t
theorem e_l1Own (l : List Int) (h : l.length ≤ 1000000) : spec_l1Own.f l = some l := by
  unfold spec_l1Own.f
  simp only [Option.bind_some, List.length_nil, List.nil_append]
  rw [if_pos (by omega)]
theorem contains_snoc (acc : List Int) (v x : Int) : (acc ++ [v]).contains x = (acc.contains x || (x == v)) := by
  induction acc with
  | nil => rw [List.nil_append, List.contains_cons, List.contains_nil, Bool.or_false, Bool.false_or]
  | cons a acc ih => rw [List.cons_append, List.contains_cons, List.contains_cons, ih, Bool.or_assoc]
theorem e_roAll (r c : Int) (l : List Int) (h : GoodB r c l) (C : Nat) (hC : (C : Int) = c) : ∀ (t acc : List Int) (taken k most : Int) (fuel : Nat), l.drop acc.length = t → acc.length ≤ l.length → (∀ j : Nat, j < C → acc.contains (j : Int) = cell taken (j : Int)) → 0 ≤ taken ∧ taken ≤ 63 → 0 ≤ k ∧ k ≤ 6 → 1 ≤ most ∧ most ≤ 2000000 → 200 * t.length + 100 ≤ fuel → spec_roAll.f fuel r c l acc k most = some ((selL C t taken acc k).take most.toNat) := by
  have h1 := h.1; have h2 := h.2.1; have h3 := h.2.2.1
  have hl := goodB_len h
  intro t
  induction t with
  | nil =>
    intro acc taken k most fuel ht hacc hinv htk hk hm hf
    have hrl : acc.length = l.length := by
      have := congrArg List.length ht
      simp at this; omega
    obtain ⟨fuel, rfl⟩ : ∃ n, fuel = n + 1 := ⟨fuel - 1, by omega⟩
    rw [spec_roAll.f, if_pos (by omega)]
    unfold selL
    simp only [plc]
    by_cases h0 : k = 0
    · subst h0
      rw [if_pos rfl, e_l1Own acc (by omega)]
      rw [Option.bind_some, List.filter_cons_of_pos (by simp), List.filter_nil, List.take_of_length_le (by simp; omega)]
    · rw [if_neg h0, List.filter_cons_of_neg (by simp; omega)]; simp
  | cons m t ih =>
    intro acc taken k most fuel ht hacc hinv htk hk hm hf
    have hlt : acc.length < l.length := by
      have := congrArg List.length ht
      simp at this; omega
    have hd := List.drop_eq_getElem_cons hlt
    rw [ht] at hd
    injection hd with hm' ht'
    simp only [List.length_cons] at hf
    have htl : t.length = l.length - (acc.length + 1) := by rw [ht']; simp
    have hm63 := goodB_le h m (by rw [hm']; exact List.getElem_mem _)
    obtain ⟨fuel, rfl⟩ : ∃ n, fuel = n + 1 := ⟨fuel - 1, by omega⟩
    rw [spec_roAll.f, if_neg (by omega), w64 (by omega) (by omega)]
    by_cases hr : r - (acc.length : Int) < k
    · rw [if_pos hr]
      have : selL C (m :: t) taken acc k = [] := by
        refine List.filter_eq_nil_iff.2 ?_
        intro q hq
        have := plc_cnt C _ _ _ q hq
        simp only [List.length_cons] at this
        simp; omega
      rw [this]; simp
    · rw [if_neg hr]
      have hw := selL_cons C m t taken acc k hk.1
      have hcl : ∀ n, ((List.range n).flatMap (candF C m t taken acc k)).length ≤ n * 117649 := fun n => by
        have := flat_len (candF C m t taken acc k) 117649 (List.range n) (fun x _ => candF_len C (by omega) m t (by omega) taken acc k x)
        rwa [List.length_range] at this
      have loop : ∀ (d j fuel : Nat), j + d = C + 1 → 200 * t.length + 100 + d * 5 + 5 ≤ fuel → spec_roAll.l0 fuel acc k most (acc.length : Int) (((List.range j).flatMap (candF C m t taken acc k)).take most.toNat) ((j : Int) - 1) r c l = some ((selL C (m :: t) taken acc k).take most.toNat) := by
        intro d
        induction d with
        | zero =>
          intro j fuel hj hf
          obtain ⟨fuel, rfl⟩ : ∃ n, fuel = n + 1 + 1 := ⟨fuel - 2, by omega⟩
          rw [spec_roAll.l0, if_neg (by omega), spec_roAll.j1, if_neg (by decide), hw, show j = C + 1 by omega]
        | succ d ihd =>
          intro j fuel hj hf
          obtain ⟨fuel, rfl⟩ : ∃ n, fuel = n + 1 + 1 + 1 := ⟨fuel - 3, by omega⟩
          have hrg : (List.range (j + 1)).flatMap (candF C m t taken acc k) = (List.range j).flatMap (candF C m t taken acc k) ++ candF C m t taken acc k j := by rw [List.range_succ, List.flatMap_append]; simp
          have hsp : ∃ B, selL C (m :: t) taken acc k = (List.range j).flatMap (candF C m t taken acc k) ++ B := by
            refine ⟨((List.range (C + 1)).drop j).flatMap (candF C m t taken acc k), ?_⟩
            rw [hw]
            conv => lhs; rw [← List.take_append_drop j (List.range (C + 1))]
            rw [List.take_range, Nat.min_eq_left (by omega), List.flatMap_append]
          rw [spec_roAll.l0, if_pos (by omega), spec_roAll.j1]
          have hcj := hcl j
          by_cases hfull : ((((List.range j).flatMap (candF C m t taken acc k)).take most.toNat).length : Int) < most
          · rw [if_pos (decide_eq_true hfull)]
            have hAl : ((List.range j).flatMap (candF C m t taken acc k)).length < most.toNat := by
              rw [List.length_take] at hfull; omega
            rw [List.take_of_length_le (by omega)]
            have next := ihd (j + 1)
            rw [hrg, List.take_append, List.take_of_length_le (Nat.le_of_lt hAl)] at next
            have h7 : ((List.range j).flatMap (candF C m t taken acc k)).length ≤ 7 * 117649 := Nat.le_trans hcj (Nat.mul_le_mul_right _ (by omega))
            clear hcj
            rcases j with _ | j
            · rw [if_pos (show (((0 : Nat) : Int) - 1) = -1 by omega), e_l1Own acc (by omega)]
              rw [Option.bind_some, Option.bind_some]
              rw [if_pos (by simp; omega)]
              rw [ih (acc ++ [-1]) taken k most (fuel + 1) (by rw [List.length_append]; exact ht'.symm) (by simp; omega) (fun i hi => by rw [contains_snoc, hinv i hi, show ((i : Int) == -1) = false from beq_eq_false_iff_ne.2 (by omega), Bool.or_false]) htk hk hm (by omega)]
              have hsl := selL_len C (by omega) t (by omega) taken (acc ++ [-1]) k
              have hcz : candF C m t taken acc k 0 = selL C t taken (acc ++ [-1]) k := by unfold candF; rw [if_pos rfl]
              rw [hcz] at next
              rw [show (List.range 0).flatMap (candF C m t taken acc k) = [] from rfl] at next ⊢
              rw [List.nil_append, List.length_nil, Nat.sub_zero] at next
              rw [Option.bind_some, if_pos (by rw [List.length_nil, List.length_take]; omega), List.nil_append, show wrap64 (((0 : Nat) : Int) - 1 + 1) = ((0 + 1 : Nat) : Int) - 1 by rw [w64 (by omega) (by omega)]; omega]
              exact next (fuel + 1) (by omega) (by omega)
            · rw [if_neg (by omega), show (((j + 1 : Nat) : Int) - 1) = (j : Int) by omega]
              rw [show (((j + 1 + 1 : Nat) : Int) - 1) = wrap64 ((j : Int) + 1) by rw [w64 (by omega) (by omega)]; omega] at next
              have hjC : j < C := by omega
              have hcz : candF C m t taken acc k (j + 1) = if okC m taken j && decide (0 < k) then selL C t (orC taken j) (acc ++ [(j : Int)]) (k - 1) else [] := by unfold candF; rw [if_neg (by omega)]; simp
              rw [hcz, okC_cell m taken j hm63 htk (by omega)] at next
              have skip : ∀ b fuel, (cell m (j : Int) && !cell taken (j : Int) && decide (0 < k)) = false → b = false → 200 * t.length + 100 + d * 5 + 5 ≤ fuel → spec_roAll.j2 (fuel + 1) acc k most (acc.length : Int) ((List.range (j + 1)).flatMap (candF C m t taken acc k)) (j : Int) b r c l = some ((selL C (m :: t) taken acc k).take most.toNat) := by
                intro b fuel hf0 hb hfu
                rw [spec_roAll.j2, hb, if_neg (by decide)]
                have n2 := next fuel (by omega) hfu
                rw [if_neg (by rw [hf0]; decide)] at n2
                simpa using n2
              by_cases hk0 : k > 0
              · rw [if_pos hk0, e_boHas r c l (acc.length : Int) (j : Int) h ⟨by omega, by omega⟩, rd_nat l acc.length hlt, ← hm']
                simp only [Option.bind_some]
                by_cases hc1 : cell m (j : Int) = true
                · rw [if_pos hc1, e_l1Has _ acc (j : Int) (by omega) (by omega), hinv j hjC]
                  simp only [Option.bind_some]
                  by_cases hc2 : cell taken (j : Int) = true
                  · exact skip _ fuel (by rw [hc1, hc2]; rfl) (by rw [hc2]; rfl) (by omega)
                  · have hc2' := Bool.eq_false_iff.2 hc2
                    have ho := orZ_ok C taken j (by omega) htk hjC hc2'
                    rw [hc2', spec_roAll.j2, if_pos (show (!false) = true from rfl), e_l1Own acc (by omega)]
                    simp only [Option.bind_some]
                    have hA1 : (((List.range (j + 1)).flatMap (candF C m t taken acc k)).length : Int) < most := by omega
                    rw [if_pos (by simp; omega), w64 (x := k - 1) (by omega) (by omega), w64 (x := most - _) (by omega) (by omega)]
                    rw [ih (acc ++ [(j : Int)]) (orZ taken j) (k - 1) (most - (((List.range (j + 1)).flatMap (candF C m t taken acc k)).length : Int)) fuel (by rw [List.length_append]; exact ht'.symm) (by simp; omega) (fun i hi => by
                      rw [contains_snoc, hinv i hi, cell_orZ taken j i htk (by omega) (by omega)]
                      congr 1
                      by_cases hij : i = j
                      · subst hij; simp
                      · rw [beq_eq_false_iff_ne.2 (by omega), decide_eq_false hij]) ho.1 (by omega) (by omega) (by omega)]
                    have hsl := selL_len C (by omega) t (by omega) (orZ taken j) (acc ++ [(j : Int)]) (k - 1)
                    rw [Option.bind_some, if_pos (by rw [List.length_take]; omega)]
                    have n2 := next fuel (by omega) (by omega)
                    rw [if_pos (by rw [hc1, hc2']; simpa using hk0)] at n2
                    rw [show (most - (((List.range (j + 1)).flatMap (candF C m t taken acc k)).length : Int)).toNat = most.toNat - ((List.range (j + 1)).flatMap (candF C m t taken acc k)).length by omega]
                    exact n2
                · rw [if_neg hc1]
                  exact skip _ fuel (by rw [Bool.eq_false_iff.2 hc1]; rfl) rfl (by omega)
              · rw [if_neg hk0]
                exact skip _ fuel (by rw [show decide (0 < k) = false from decide_eq_false hk0, Bool.and_false]) rfl (by omega)
          · rw [if_neg (by simpa using hfull)]
            obtain ⟨B, hB⟩ := hsp
            rw [hB, List.take_append_of_le_length (by rw [List.length_take] at hfull; omega)]
      have := loop (C + 1) 0 fuel (by omega) (by omega)
      simpa using this

theorem i_with (r c : Int) (l : List Int) (k : Int) (h : GoodB r c l) : impl_Board_with.f r c l k = some (selL c.toNat l 0 [] k) := by
  have h1 := h.1; have h2 := h.2.1; have h3 := h.2.2.1
  unfold impl_Board_with.f selL
  rw [if_pos ⟨by omega, by omega, by omega, by omega, h3⟩, show cntR [] + k = k by simp [cntR]]

theorem both_PlacementsOf (f : Nat) (r c : Int) (l : List Int) (k : Int) (hf : 2000000 ≤ f) (hl : l.length ≤ 1048576) : ∃ o : List (List Int) × Bool, spec_PlacementsOf.f f r c l k = some o ∧ impl_PlacementsOf.f f r c l k = some o ∧ o.1.length ≤ 117649 ∧ ∀ q ∈ o.1, q.length ≤ 6 := by
  unfold spec_PlacementsOf.f impl_PlacementsOf.f spec_roAsked.f
  rw [e_boGood f r c l (by omega) (by omega), i_IsBoard]
  simp only [Option.bind_some]
  by_cases h : GoodB r c l
  · have h1 := h.1; have h2 := h.2.1; have h3 := h.2.2.1
    rw [decide_eq_true h]
    simp only [if_true]
    rw [e_l1In, e_within]
    simp only [Option.bind_some]
    by_cases hk : 0 ≤ k ∧ k ≤ 6
    · rw [decide_eq_true hk]
      simp only [if_true, Bool.not_true]
      rw [e_roOf f r c l k h hk.1 (by omega), Option.bind_some, ← selL_count c.toNat (by omega) l (goodB_le h) k hk.1]
      have hsl := selL_len c.toNat (by omega) l (by have := goodB_len h; omega) 0 [] k
      have h36 := goodB_len h
      obtain ⟨f, rfl⟩ : ∃ m, f = m + 1 := ⟨f - 1, by omega⟩
      rw [impl_PlacementsOf.j0, if_neg (show ¬ (false = true) by decide), i_with r c l k h, Option.bind_some]
      by_cases h5 : ((selL c.toNat l 0 [] k).length : Int) > 500
      · refine ⟨([], false), ?_, ?_, by simp, by simp⟩
        · rw [if_pos h5]
        · rw [if_pos h5]
      · refine ⟨(selL c.toNat l 0 [] k, true), ?_, ?_, hsl, ?_⟩
        · rw [if_neg h5, e_roAll r c l h c.toNat (by omega) l [] 0 k 500 (f + 1) rfl (by simp) (fun j hj => by
            have : ∀ j : Fin 6, cell 0 (j.val : Int) = false := by decide +kernel
            rw [this ⟨j, by omega⟩]; rfl) (by omega) hk (by omega) (by omega), Option.bind_some, List.take_of_length_le (by omega)]
        · rw [if_neg h5]
        · intro q hq
          have := plc_elem c.toNat l 0 [] _ (List.mem_filter.1 hq).1
          simp at this
          omega
    · rw [decide_eq_false hk]
      refine ⟨([], false), rfl, ?_, by simp, by simp⟩
      obtain ⟨f, rfl⟩ : ∃ m, f = m + 1 := ⟨f - 1, by omega⟩
      rw [impl_PlacementsOf.j0]; rfl
  · rw [decide_eq_false h]
    refine ⟨([], false), rfl, ?_, by simp, by simp⟩
    obtain ⟨f, rfl⟩ : ∃ m, f = m + 1 := ⟨f - 1, by omega⟩
    rw [if_neg (by decide), impl_PlacementsOf.j0]; rfl
theorem FnExactPlacementsOf : laws_FnExactPlacementsOf.Pure := by
  intro r c l k _ _ hm _ _
  refine ⟨4000010, ?_⟩
  unfold laws_FnExactPlacementsOf.f
  rw [e_szBoard r c l 1048576 hm (by omega) (by omega), Option.bind_some]
  by_cases h : (1048576 : Int) - l.length < 0
  · rw [if_pos h]; rw [if_pos (by omega)]
  rw [if_neg h, if_neg (by omega), e_toBoard _ r c l (by omega) (by omega), Option.bind_some]
  simp only
  obtain ⟨o, ho1, ho2, hb⟩ := both_PlacementsOf 4000010 r c l k (by omega) (by omega)
  rw [ho1, Option.bind_some, ho2, Option.bind_some]
  have ht := totL_le 6 o.1 hb.2
  rw [e_eqIntSS_self _ 6 o.1 (by omega) hb.2 (by omega) (by omega), Option.bind_some, e_eqBoard_self _ r c l (by omega) (by omega), Option.bind_some, e_markBoard _ r c l 1 (by omega) (by omega) (by omega) (by omega), Option.bind_some]
  rw [e_markIntSS _ 6 (by omega) (by omega) o.1 1 (by omega) hb.2 (by omega) (by omega), Option.bind_some]
  simp only
  rw [e_heldIntSS _ 6 (by omega) o.1 1 (by omega) hb.2 (by omega) (by omega) (by omega), Option.bind_some, if_pos]
  refine ⟨?_, ?_, ?_, ?_, ?_, ?_⟩ <;> first | trivial | omega

end Go.Proofs.Ytcdikbiikmhmhaa.Pure
