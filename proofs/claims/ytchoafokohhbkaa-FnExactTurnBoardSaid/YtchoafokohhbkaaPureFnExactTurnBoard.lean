/- TurnBoard: the law's function comes to true at every board. -/
import Derived.Test.YtchoafokohhbkaaPFnExactTurnBoardx5
namespace Go.Proofs.Ytchoafokohhbkaa.Pure
open Go.RowKit Go.Proofs.Ytchoafokohhbkaa.PFnExactTurnBoard Go.Proofs.YtchoafokohhbkaaW.PrintWords Go.Proofs.YtchoafokohhbkaaW.PrintLast
set_option linter.unusedVariables false
set_option linter.unusedSimpArgs false

theorem w64 {x : Int} (h0 : -9223372036854775808 ≤ x) (h1 : x < 9223372036854775808) : wrap64 x = x := by
  unfold wrap64; omega
theorem rd_nat (l : List Int) (i : Nat) (h : i < l.length) : rd l (i : Int) = l[i] := by
  unfold rd; simp [List.getD, h]

theorem e_szIntS (l : List Int) (a : Int) (hl : l.length ≤ maxLen) (h0 : 0 ≤ a) (h1 : a ≤ 1048576) : laws_szIntS.f l a = some (if a - l.length < 0 then -1 else a - l.length) := by
  unfold laws_szIntS.f
  have : l.length ≤ 9223372036854775807 := hl
  rw [w64 (by omega) (by omega)]
  by_cases h : a - (l.length : Int) < 0
  · rw [if_pos h, if_pos h]
  · rw [if_neg h, if_neg h]

theorem e_szBoard (r c : Int) (l : List Int) (a : Int) (hl : l.length ≤ maxLen) (h0 : 0 ≤ a) (h1 : a ≤ 1048576) : laws_szBoard.f r c l a = some (if a - l.length < 0 then -1 else a - l.length) := by
  unfold laws_szBoard.f
  rw [e_szIntS l a hl h0 h1]
  simp only [Option.bind_some]
  by_cases h : a - (l.length : Int) < 0
  · rw [if_pos h]; rfl
  · rw [if_neg h, if_neg h]

theorem e_toIntS_l0 (l : List Int) (hl : l.length ≤ 2000000) : ∀ (d i k : Nat) (m : List Int), i + d = l.length → d < k → m.length = l.length → m.take i = l.take i →
    laws_toIntS.l0 k l m (i : Int) = some l := by
  intro d
  induction d with
  | zero =>
    intro i k m hi' hk hm ht
    obtain ⟨k, rfl⟩ : ∃ m, k = m + 1 := ⟨k - 1, by omega⟩
    simp only [laws_toIntS.l0]; rw [if_neg (by omega)]
    rw [List.take_of_length_le (by omega), List.take_of_length_le (by omega)] at ht; rw [ht]
  | succ d ih =>
    intro i k m hi' hk hm ht
    obtain ⟨k, rfl⟩ : ∃ m, k = m + 1 := ⟨k - 1, by omega⟩
    have hlt : i < l.length := by omega
    simp only [laws_toIntS.l0]
    rw [if_pos (by omega), if_pos (by omega), if_pos (by omega), rd_nat l i hlt, w64 (by omega) (by omega), show ((i : Int) + 1) = ((i + 1 : Nat) : Int) from by omega]
    refine ih (i + 1) k _ (by omega) (by omega) (by simpa using hm) ?_
    rw [Int.toNat_natCast, List.take_succ_eq_append_getElem (by simpa using (by omega : i < m.length)), List.take_succ_eq_append_getElem hlt]
    simp [List.take_set_of_le, ht]
theorem e_toIntS (k : Nat) (l : List Int) (hl : l.length ≤ 2000000) (hk : l.length < k) : laws_toIntS.f k l = some l := by
  unfold laws_toIntS.f
  rw [if_pos (by omega), if_pos (by omega)]
  exact e_toIntS_l0 l hl l.length 0 k _ (by omega) hk (by simp) (by simp)

theorem e_toBoard (k : Nat) (r c : Int) (l : List Int) (hl : l.length ≤ 2000000) (hk : l.length < k) : laws_toBoard.f k r c l = some (r, c, l) := by
  unfold laws_toBoard.f; rw [e_toIntS k l hl hk]; rfl

theorem e_eqIntS_l0 (a b : List Int) (hl : a.length ≤ 2000000) (hab : a.length = b.length) : ∀ (d i k : Nat), i + d = a.length → d < k →
    laws_eqIntS.l0 k a b (i : Int) = some (decide (a.drop i = b.drop i)) := by
  intro d
  induction d with
  | zero =>
    intro i k hi' hk
    obtain ⟨k, rfl⟩ : ∃ m, k = m + 1 := ⟨k - 1, by omega⟩
    simp only [laws_eqIntS.l0]; rw [if_neg (by omega), List.drop_eq_nil_of_le (by omega), List.drop_eq_nil_of_le (by omega)]; simp
  | succ d ih =>
    intro i k hi' hk
    obtain ⟨k, rfl⟩ : ∃ m, k = m + 1 := ⟨k - 1, by omega⟩
    have hlt : i < a.length := by omega
    have hlt2 : i < b.length := by omega
    simp only [laws_eqIntS.l0]
    rw [if_pos (by omega), if_pos (by omega), if_pos (by omega), rd_nat a i hlt, rd_nat b i hlt2, List.drop_eq_getElem_cons hlt, List.drop_eq_getElem_cons hlt2, w64 (by omega) (by omega), show ((i : Int) + 1) = ((i + 1 : Nat) : Int) from by omega, ih (i + 1) k (by omega) (by omega)]
    by_cases h : a[i] = b[i]
    · rw [if_pos h]; simp only [List.cons.injEq, h, true_and]
    · rw [if_neg h]; simp only [List.cons.injEq, h, false_and, decide_false]
theorem e_eqIntS (k : Nat) (a b : List Int) (hl : a.length ≤ 2000000) (hk : a.length < k) : laws_eqIntS.f k a b = some (decide (a = b)) := by
  unfold laws_eqIntS.f
  by_cases h : (a.length : Int) = (b.length : Int)
  · rw [if_pos h]; exact e_eqIntS_l0 a b hl (by omega) a.length 0 k (by omega) hk
  · rw [if_neg h]; simp; intro hc; rw [hc] at h; exact h rfl
theorem e_eqIntS_self (k : Nat) (a : List Int) (hl : a.length ≤ 2000000) (hk : a.length < k) : laws_eqIntS.f k a a = some true := by
  rw [e_eqIntS k a a hl hk]; simp

theorem e_eqBoard (k : Nat) (r c : Int) (l : List Int) (r' c' : Int) (l' : List Int) (hl : l.length ≤ 2000000) (hk : l.length < k) : laws_eqBoard.f k r c l r' c' l' = some (decide (r = r' ∧ c = c' ∧ l = l')) := by
  unfold laws_eqBoard.f
  by_cases h1 : r = r'
  · by_cases h2 : c = c'
    · rw [if_pos h1, if_pos h2, e_eqIntS k l l' hl hk]
      by_cases h3 : l = l' <;> simp [h1, h2, h3]
    · rw [if_pos h1, if_neg h2]; simp [h2]
  · rw [if_neg h1]; simp [h1]
theorem e_eqBoard_self (k : Nat) (r c : Int) (l : List Int) (hl : l.length ≤ 2000000) (hk : l.length < k) : laws_eqBoard.f k r c l r c l = some true := by
  rw [e_eqBoard k r c l r c l hl hk]; simp

/-- The numbers from a on, n of them. -/
def marks : Int → Nat → List Int
  | _, 0 => []
  | a, n + 1 => a :: marks (a + 1) n
theorem marks_length : ∀ (n : Nat) (a : Int), (marks a n).length = n
  | 0, _ => rfl
  | n + 1, a => by simp [marks, marks_length n]
theorem marks_get : ∀ (n : Nat) (a : Int) (i : Nat) (h : i < (marks a n).length), (marks a n)[i] = a + i
  | 0, _, i, h => by simp [marks] at h
  | n + 1, a, 0, h => by simp [marks]
  | n + 1, a, i + 1, h => by
    simp only [marks, List.getElem_cons_succ]
    rw [marks_get n (a + 1) i]; omega

theorem e_markIntS_l0 (n : Nat) (hn : n ≤ 2000000) : ∀ (d i k : Nat) (l : List Int) (a : Int), l.length = n → i + d = n → d < k → 0 ≤ a → a + d ≤ 1000000000 →
    laws_markIntS.l0 k l a (i : Int) = some (a + d, l.take i ++ marks a d) := by
  intro d
  induction d with
  | zero =>
    intro i k l a hl hi hk h0 h1
    obtain ⟨k, rfl⟩ : ∃ m, k = m + 1 := ⟨k - 1, by omega⟩
    simp only [laws_markIntS.l0]; rw [if_neg (by omega), List.take_of_length_le (by omega)]; simp [marks]
  | succ d ih =>
    intro i k l a hl hi hk h0 h1
    obtain ⟨k, rfl⟩ : ∃ m, k = m + 1 := ⟨k - 1, by omega⟩
    have hlt : i < l.length := by omega
    simp only [laws_markIntS.l0]
    rw [if_pos (by omega), if_pos (by omega), w64 (by omega) (by omega), w64 (by omega) (by omega), show ((i : Int) + 1) = ((i + 1 : Nat) : Int) from by omega]
    rw [ih (i + 1) k _ (a + 1) (by simpa using hl) (by omega) (by omega) (by omega) (by omega)]
    rw [Int.toNat_natCast, List.take_succ_eq_append_getElem (by simpa using hlt)]
    simp only [List.getElem_set_self, List.take_set_of_le (Nat.le_refl i), List.append_assoc, List.singleton_append, marks]
    congr 2; omega
theorem e_markIntS (k : Nat) (l : List Int) (a : Int) (hl : l.length ≤ 2000000) (hk : l.length < k) (h0 : 0 ≤ a) (h1 : a + l.length ≤ 1000000000) : laws_markIntS.f k l a = some (a + l.length, marks a l.length) := by
  unfold laws_markIntS.f
  have := e_markIntS_l0 l.length hl l.length 0 k l a rfl (by omega) hk h0 h1
  simpa using this

theorem e_markBoard (k : Nat) (r c : Int) (l : List Int) (a : Int) (hl : l.length ≤ 2000000) (hk : l.length < k) (h0 : 0 ≤ a) (h1 : a + l.length ≤ 1000000000) : laws_markBoard.f k r c l a = some (a + l.length, marks a l.length) := by
  unfold laws_markBoard.f; rw [e_markIntS k l a hl hk h0 h1]; rfl

theorem e_heldIntS_l0 (b : Int) (n : Nat) (hn : n ≤ 2000000) (hb : 0 ≤ b) (hbn : b + n ≤ 1000000000) : ∀ (d i k : Nat), i + d = n → d < k →
    laws_heldIntS.l0 k (marks b n) (b + i) (i : Int) = some (b + n) := by
  intro d
  induction d with
  | zero =>
    intro i k hi hk
    obtain ⟨k, rfl⟩ : ∃ m, k = m + 1 := ⟨k - 1, by omega⟩
    simp only [laws_heldIntS.l0, marks_length]; rw [if_neg (by omega)]; congr 1; omega
  | succ d ih =>
    intro i k hi hk
    obtain ⟨k, rfl⟩ : ∃ m, k = m + 1 := ⟨k - 1, by omega⟩
    have hlt : i < (marks b n).length := by rw [marks_length]; omega
    simp only [laws_heldIntS.l0]
    rw [rd_nat _ i hlt, marks_get n b i hlt]
    simp only [marks_length]
    rw [if_pos (by omega), if_pos (by omega), if_pos trivial, w64 (by omega) (by omega), w64 (by omega) (by omega), show ((i : Int) + 1) = ((i + 1 : Nat) : Int) from by omega, show b + (i : Int) + 1 = b + ((i + 1 : Nat) : Int) from by omega]
    exact ih (i + 1) k (by omega) (by omega)
theorem e_heldIntS (k : Nat) (n : Nat) (b : Int) (hn : n ≤ 2000000) (hk : n < k) (hb : 0 ≤ b) (hbn : b + n ≤ 1000000000) : laws_heldIntS.f k (marks b n) b = some (b + n) := by
  unfold laws_heldIntS.f
  have := e_heldIntS_l0 b n hn hb hbn n 0 k (by omega) hk
  simpa using this

theorem e_heldBoard (k : Nat) (r c : Int) (n : Nat) (b : Int) (hn : n ≤ 2000000) (hk : n < k) (hb : 0 ≤ b) (hbn : b + n ≤ 1000000000) : laws_heldBoard.f k r c (marks b n) b = some (b + n) := by
  unfold laws_heldBoard.f; rw [e_heldIntS k n b hn hk hb hbn]; simp only [Option.bind_some]; rw [if_neg (by omega)]

/-- Is there a cell in the column c of a row m? -/
def cell (m c : Int) : Bool := decide (m / 2 ^ c.toNat % 2 = 1)
theorem fin_of (m : Int) (n : Nat) (h0 : 0 ≤ m) (h1 : m < n) : ∃ i : Fin n, m = (i.val : Int) := ⟨⟨m.toNat, by omega⟩, by simp; omega⟩
theorem cell_spec (m c : Int) (hm : 0 ≤ m ∧ m ≤ 63) (hc : 0 ≤ c ∧ c ≤ 6) : (Int.tmod (shr .i64 m c) 2 == 1) = cell m c := by
  have h : ∀ m : Fin 64, ∀ c : Fin 7, (Int.tmod (shr .i64 (m.val : Int) (c.val : Int)) 2 == 1) = cell (m.val : Int) (c.val : Int) := by decide +kernel
  obtain ⟨i, rfl⟩ := fin_of m 64 hm.1 (by omega)
  obtain ⟨j, rfl⟩ := fin_of c 7 hc.1 (by omega)
  exact h i j
theorem cell_impl (m c : Int) (hm : 0 ≤ m ∧ m ≤ 63) (hc : 0 ≤ c ∧ c ≤ 6) : (Go.bits .and .i64 (shr .i64 m c) 1 == 1) = cell m c := by
  have h : ∀ m : Fin 64, ∀ c : Fin 7, (Go.bits .and .i64 (shr .i64 (m.val : Int) (c.val : Int)) 1 == 1) = cell (m.val : Int) (c.val : Int) := by decide +kernel
  obtain ⟨i, rfl⟩ := fin_of m 64 hm.1 (by omega)
  obtain ⟨j, rfl⟩ := fin_of c 7 hc.1 (by omega)
  exact h i j
theorem pow_le (a : Int) (h : 1 ≤ a ∧ a ≤ 6) : 2 ≤ (2 : Int) ^ a.toNat ∧ (2 : Int) ^ a.toNat ≤ 64 := by
  obtain ⟨h0, h1⟩ := h
  obtain h | h | h | h | h | h : a = 1 ∨ a = 2 ∨ a = 3 ∨ a = 4 ∨ a = 5 ∨ a = 6 := by omega
  all_goals (subst h; decide +kernel)
theorem rd_mem (l : List Int) (i : Int) (h0 : 0 ≤ i) (h1 : i < l.length) : rd l i ∈ l := by
  obtain ⟨n, rfl⟩ := Int.eq_ofNat_of_zero_le h0
  rw [rd_nat l n (by omega)]; exact List.getElem_mem _

theorem goodB_le {r c : Int} {l : List Int} (h : GoodB r c l) : ∀ x ∈ l, 0 ≤ x ∧ x ≤ 63 := by
  intro x hx
  have := h.2.2.2 x hx
  have := pow_le c h.2.1
  omega
theorem goodB_len {r c : Int} {l : List Int} (h : GoodB r c l) : l.length ≤ 6 := by
  have := h.1; have := h.2.2.1; omega
/-- Is it a place of a board? -/
def Place (r c i j : Int) : Prop := (0 ≤ i ∧ i ≤ r - 1) ∧ (0 ≤ j ∧ j ≤ c - 1)
instance (r c i j : Int) : Decidable (Place r c i j) := by unfold Place; exact inferInstance
theorem i_IsBoard (r c : Int) (l : List Int) : impl_IsBoard.f r c l = some (decide (GoodB r c l)) := rfl

/-- The cells of a row from a column on. -/
def rowC (m i : Int) : Nat → Nat → List (List Int)
  | 0, _ => []
  | d + 1, j => (if cell m (j : Int) = true then [[i, (j : Int)]] else []) ++ rowC m i d (j + 1)
/-- The cells of rows. -/
def cellsC (c : Nat) : List Int → Int → List (List Int)
  | [], _ => []
  | m :: r, i => rowC m i c 0 ++ cellsC c r (i + 1)
theorem rowC_len (m i : Int) : ∀ d j, (rowC m i d j).length ≤ d
  | 0, _ => Nat.le_refl _
  | d + 1, j => by
    have := rowC_len m i d (j + 1)
    simp only [rowC, List.length_append]
    split <;> simp <;> omega
theorem cellsC_len (c : Nat) : ∀ l i, (cellsC c l i).length ≤ l.length * c
  | [], _ => by simp [cellsC]
  | m :: r, i => by
    have := cellsC_len c r (i + 1); have := rowC_len m i c 0
    simp only [cellsC, List.length_append, List.length_cons, Nat.add_mul]
    omega
theorem place_nat {r c : Int} {i j : Nat} (hi : (i : Int) < r) (hj : (j : Int) < c) : Place r c (i : Int) (j : Int) := ⟨⟨by omega, by omega⟩, by omega, by omega⟩

theorem rdL (l : List (List Int)) (i : Nat) (h : i < l.length) : rd_L1 l (i : Int) = l[i] := by
  unfold rd_L1; simp [List.getD, h]
theorem rd_set_self (l : List Int) (i : Nat) (v : Int) (h : i < l.length) : rd (l.set i v) (i : Int) = v := by
  rw [rd_nat _ i (by simpa using h)]; simp
theorem rowC_mem (m i : Int) : ∀ d j x, x ∈ rowC m i d j → ∃ c : Nat, x = [i, (c : Int)] ∧ j ≤ c ∧ c < j + d
  | 0, _, x, h => by simp [rowC] at h
  | d + 1, j, x, h => by
    simp only [rowC, List.mem_append] at h
    rcases h with h | h
    · split at h
      · simp at h; exact ⟨j, h, Nat.le_refl _, by omega⟩
      · simp at h
    · obtain ⟨c, e, h1, h2⟩ := rowC_mem m i d (j + 1) x h
      exact ⟨c, e, by omega, by omega⟩
theorem cellsC_mem (c : Nat) : ∀ (l : List Int) (i : Nat) x, x ∈ cellsC c l (i : Int) → ∃ a b : Nat, x = [(a : Int), (b : Int)] ∧ i ≤ a ∧ a < i + l.length ∧ b < c
  | [], _, x, h => by simp [cellsC] at h
  | m :: t, i, x, h => by
    simp only [cellsC, List.mem_append] at h
    rcases h with h | h
    · obtain ⟨b, e, _, h2⟩ := rowC_mem _ _ _ _ x h
      exact ⟨i, b, e, Nat.le_refl _, by simp, by omega⟩
    · rw [show ((i : Int) + 1) = ((i + 1 : Nat) : Int) from by omega] at h
      obtain ⟨a, b, e, h1, h2, h3⟩ := cellsC_mem c t (i + 1) x h
      exact ⟨a, b, e, by omega, by simp; omega, h3⟩

/-- Each cell changes the number of its column by its row. -/
def foldCol (f : Int → Int → Int) : List (List Int) → List Int → List Int
  | [], out => out
  | x :: t, out => foldCol f t (out.set (rd x 1).toNat (f (rd out (rd x 1)) (rd x 0)))
theorem foldCol_app (f : Int → Int → Int) : ∀ a b out, foldCol f (a ++ b) out = foldCol f b (foldCol f a out)
  | [], _, _ => rfl
  | x :: t, b, out => by simp only [List.cons_append, foldCol, foldCol_app f t b]
theorem foldCol_len (f : Int → Int → Int) : ∀ cs out, (foldCol f cs out).length = out.length
  | [], _ => rfl
  | x :: t, out => by simp only [foldCol, foldCol_len f t, List.length_set]
/-- Numbers below 2 to i from a column on. -/
def Low (i : Nat) (j : Nat) (out : List Int) : Prop := ∀ b (h : b < out.length), 0 ≤ out[b] ∧ out[b] < (if j ≤ b then 2 ^ i else 2 ^ (i + 1))
theorem foldCol_row (f g : Int → Int → Int) (hfg : ∀ (v : Int) (a : Nat), 0 ≤ v → v < 2 ^ a → a ≤ 5 → f v a = g v a ∧ 0 ≤ f v a ∧ f v a < 2 ^ (a + 1)) (m : Int) (i : Nat) (hi : i ≤ 5) :
    ∀ (d j : Nat) (out : List Int), j + d ≤ out.length → Low i j out → foldCol f (rowC m (i : Int) d j) out = foldCol g (rowC m (i : Int) d j) out ∧ Low i (j + d) (foldCol f (rowC m (i : Int) d j) out)
  | 0, j, out, _, hl => ⟨rfl, hl⟩
  | d + 1, j, out, hd, hl => by
    simp only [rowC, foldCol_app]
    have hlt : j < out.length := by omega
    have hj := hl j hlt
    rw [if_pos (Nat.le_refl j)] at hj
    have hf := hfg out[j] i hj.1 hj.2 hi
    by_cases hc : cell m (j : Int) = true
    · simp only [hc, if_true, foldCol]
      have e0 : rd [(i : Int), (j : Int)] 0 = (i : Int) := rfl
      have e1 : rd [(i : Int), (j : Int)] 1 = (j : Int) := rfl
      rw [e0, e1, Int.toNat_natCast, rd_nat out j hlt, ← hf.1]
      have hl' : Low i (j + 1) (out.set j (f out[j] i)) := by
        intro b hb
        rw [List.length_set] at hb
        by_cases hjb : j = b
        · subst hjb
          rw [List.getElem_set_self, if_neg (by omega)]; exact hf.2
        · rw [List.getElem_set_ne hjb]
          have := hl b hb
          by_cases h1 : j ≤ b
          · rw [if_pos h1] at this; rw [if_pos (by omega)]; exact this
          · rw [if_neg h1] at this; rw [if_neg (by omega)]; exact this
      have := foldCol_row f g hfg m i hi d (j + 1) _ (by simpa using (by omega : j + 1 + d ≤ out.length)) hl'
      rw [show j + (d + 1) = j + 1 + d from by omega]; exact this
    · simp only [hc, Bool.false_eq_true, if_false, foldCol]
      have hl' : Low i (j + 1) out := by
        intro b hb
        have := hl b hb
        by_cases h1 : j + 1 ≤ b
        · rw [if_pos (by omega)] at this; rw [if_pos h1]; exact this
        · rw [if_neg h1]
          by_cases h2 : j ≤ b
          · rw [if_pos h2] at this
            have : (2 : Int) ^ i ≤ 2 ^ (i + 1) := by rw [Int.pow_succ]; have : (0 : Int) < 2 ^ i := Int.pow_pos (by omega); omega
            omega
          · rw [if_neg h2] at this; exact this
      have := foldCol_row f g hfg m i hi d (j + 1) out (by omega) hl'
      rw [show j + (d + 1) = j + 1 + d from by omega]; exact this
theorem foldCol_cells (f g : Int → Int → Int) (hfg : ∀ (v : Int) (a : Nat), 0 ≤ v → v < 2 ^ a → a ≤ 5 → f v a = g v a ∧ 0 ≤ f v a ∧ f v a < 2 ^ (a + 1)) (c : Nat) :
    ∀ (l : List Int) (i : Nat) (out : List Int), i + l.length ≤ 6 → out.length = c → Low i 0 out → foldCol f (cellsC c l (i : Int)) out = foldCol g (cellsC c l (i : Int)) out
  | [], _, _, _, _, _ => rfl
  | m :: t, i, out, hi, hc, hl => by
    simp only [List.length_cons] at hi
    simp only [cellsC, foldCol_app]
    have := foldCol_row f g hfg m i (by omega) c 0 out (by omega) hl
    rw [← this.1, show ((i : Int) + 1) = ((i + 1 : Nat) : Int) from by omega]
    refine foldCol_cells f g hfg c t (i + 1) _ (by omega) (by rw [foldCol_len, hc]) ?_
    intro b hb
    have h2 := this.2 b hb
    rw [foldCol_len] at hb
    rw [if_neg (by omega)] at h2
    rw [if_pos (Nat.zero_le b)]; exact h2
theorem low_zero (n : Nat) : Low 0 0 (List.replicate n 0) := by
  intro b hb
  rw [if_pos (Nat.zero_le b)]; simp
def addT (v a : Int) : Int := wrap64 (v + shl .i64 1 a)
def orT (v a : Int) : Int := Go.bits .or .i64 v (shl .i64 1 a)
theorem add_or (v : Int) (a : Nat) (h0 : 0 ≤ v) (h1 : v < 2 ^ a) (ha : a ≤ 5) : addT v a = orT v a ∧ 0 ≤ addT v a ∧ addT v a < 2 ^ (a + 1) := by
  have key : ∀ a : Fin 6, ∀ v : Fin 32, (v.val : Int) < 2 ^ a.val → addT (v.val : Int) (a.val : Int) = orT (v.val : Int) (a.val : Int) ∧ 0 ≤ addT (v.val : Int) (a.val : Int) ∧ addT (v.val : Int) (a.val : Int) < 2 ^ (a.val + 1) := by decide +kernel
  have hp : (2 : Int) ^ a ≤ 32 := by
    have : ∀ a : Fin 6, (2 : Int) ^ a.val ≤ 32 := by decide +kernel
    exact this ⟨a, by omega⟩
  obtain ⟨i, rfl⟩ := fin_of v 32 h0 (by omega)
  exact key ⟨a, by omega⟩ i h1

theorem e_boHas (r c : Int) (l : List Int) (i j : Int) (h : GoodB r c l) (hp : Place r c i j) : spec_boHas.f r c l i j = some (cell (rd l i) j) := by
  unfold spec_boHas.f
  have h1 := h.1; have h2 := h.2.1; have h3 := h.2.2.1; have h4 := hp.1; have h5 := hp.2
  have hm := goodB_le h (rd l i) (rd_mem l i (by omega) (by omega))
  rw [if_pos (by omega), if_pos (by omega), if_pos (by omega), cell_spec _ _ hm (by omega)]

theorem boCells_l1 (r c : Int) (l : List Int) (g : GoodB r c l) (i : Nat) (hi : i < l.length) : ∀ (d j k : Nat) (acc : List (List Int)), (j : Int) + d = c → acc.length + d ≤ 1000 →
    spec_boCells.l1 (k + d + 1) acc (i : Int) (j : Int) r c l = spec_boCells.l0 k (acc ++ rowC l[i] (i : Int) d j) ((i + 1 : Nat) : Int) r c l := by
  have hr := g.2.2.1; have hc := g.2.1; have hn := goodB_len g
  intro d
  induction d with
  | zero =>
    intro j k acc hj ha
    simp only [Nat.add_zero, spec_boCells.l1]
    rw [if_neg (by omega), w64 (by omega) (by omega)]; simp [rowC]
  | succ d ih =>
    intro j k acc hj ha
    obtain ⟨K, hK⟩ : ∃ K, K = k + d + 1 := ⟨_, rfl⟩
    rw [show k + (d + 1) + 1 = K + 1 from by omega]
    simp only [spec_boCells.l1]
    rw [if_pos (by omega), e_boHas r c l _ _ g (place_nat (by omega) (by omega)), rd_nat l i hi, w64 (by omega) (by omega), show ((j : Int) + 1) = ((j + 1 : Nat) : Int) from by omega]
    simp only [Option.bind_some]
    by_cases h : cell l[i] (j : Int) = true
    · rw [if_pos h, if_pos (by omega), hK, ih (j + 1) k _ (by omega) (by simp; omega)]
      simp only [rowC, h, if_true, List.append_assoc]
    · rw [if_neg h, hK, ih (j + 1) k _ (by omega) (by omega)]
      simp only [rowC, h, if_false, List.nil_append, Bool.false_eq_true]
theorem boCells_l0 (r c : Int) (l : List Int) (g : GoodB r c l) (C : Nat) (hC : (C : Int) = c) : ∀ (d i k : Nat) (acc : List (List Int)), i + d = l.length → acc.length + d * C ≤ 900 → d * (C + 2) < k →
    spec_boCells.l0 k acc (i : Int) r c l = some (acc ++ cellsC C (l.drop i) (i : Int)) := by
  have hr := g.2.2.1; have hc := g.2.1; have hn := goodB_len g
  intro d
  induction d with
  | zero =>
    intro i k acc hi ha hk
    obtain ⟨k, rfl⟩ : ∃ m, k = m + 1 := ⟨k - 1, by omega⟩
    simp only [spec_boCells.l0]
    rw [if_neg (by omega), List.drop_eq_nil_of_le (by omega)]; simp [cellsC]
  | succ d ih =>
    intro i k acc hi ha hk
    rw [Nat.add_mul] at ha hk
    obtain ⟨k, rfl⟩ : ∃ m, k = (m + C + 1) + 1 := ⟨k - C - 2, by omega⟩
    have hlt : i < l.length := by omega
    simp only [spec_boCells.l0]
    have := boCells_l1 r c l g i hlt C 0 k acc (by omega) (by omega)
    rw [if_pos (by omega), show (0 : Int) = ((0 : Nat) : Int) from rfl, this]
    have hl := rowC_len l[i] (i : Int) C 0
    rw [ih (i + 1) k _ (by omega) (by rw [List.length_append]; omega) (by omega), List.drop_eq_getElem_cons hlt]
    simp only [cellsC, List.append_assoc]
    rw [show ((i : Int) + 1) = ((i + 1 : Nat) : Int) from by omega]
theorem e_boCells (k : Nat) (r c : Int) (l : List Int) (g : GoodB r c l) (hk : 100 ≤ k) : spec_boCells.f k r c l = some (cellsC c.toNat l 0) := by
  unfold spec_boCells.f
  have hr := g.2.2.1; have hc := g.2.1; have hn := goodB_len g
  have hb : l.length * c.toNat ≤ 6 * 6 := Nat.mul_le_mul (by omega) (by omega)
  have hb2 : l.length * (c.toNat + 2) ≤ 6 * 8 := Nat.mul_le_mul (by omega) (by omega)
  have := boCells_l0 r c l g c.toNat (by omega) l.length 0 k [] (by omega) (by simp; omega) (by omega)
  simpa using this

theorem e_boEmpty (r c : Int) (h : 0 ≤ r ∧ r ≤ 6) : spec_boEmpty.f r c = some (r, c, List.replicate r.toNat 0) := by
  unfold spec_boEmpty.f; rw [if_pos (by omega), if_pos (by omega)]

theorem i_newBoard (r c : Int) (h : 0 ≤ r ∧ r ≤ 6) : impl_newBoard.f r c = some (r, c, List.replicate r.toNat 0) := by
  unfold impl_newBoard.f; rw [if_pos (by omega), if_pos (by omega)]

theorem i_has (r c : Int) (l : List Int) (i j : Int) (h : GoodB r c l) (hp : Place r c i j) : impl_Board_has.f r c l i j = some (cell (rd l i) j) := by
  unfold impl_Board_has.f
  have h1 := h.1; have h2 := h.2.1; have h3 := h.2.2.1; have h4 := hp.1; have h5 := hp.2
  have hm := goodB_le h (rd l i) (rd_mem l i (by omega) (by omega))
  rw [if_pos (by omega), if_pos (by omega), if_pos (by omega), cell_impl _ _ hm (by omega)]

theorem boTurn_l0 (cs : List (List Int)) (hl : cs.length ≤ 1000) (n : Nat) (hx : ∀ x ∈ cs, ∃ a b : Nat, x = [(a : Int), (b : Int)] ∧ b < n) (R C : Int) : ∀ (d i k : Nat) (out : List Int), out.length = n → i + d = cs.length → d < k →
    spec_boTurn.l0 k cs (cs.length : Int) (i : Int) R C out = some (R, C, foldCol addT (cs.drop i) out) := by
  intro d
  induction d with
  | zero =>
    intro i k out ho hi hk
    obtain ⟨k, rfl⟩ : ∃ m, k = m + 1 := ⟨k - 1, by omega⟩
    simp only [spec_boTurn.l0]; rw [if_neg (by omega), List.drop_eq_nil_of_le (by omega)]; rfl
  | succ d ih =>
    intro i k out ho hi hk
    obtain ⟨k, rfl⟩ : ∃ m, k = m + 1 := ⟨k - 1, by omega⟩
    have hlt : i < cs.length := by omega
    obtain ⟨a, b, e, hb⟩ := hx cs[i] (List.getElem_mem _)
    simp only [spec_boTurn.l0]
    rw [rdL cs i hlt, List.drop_eq_getElem_cons hlt]
    simp only [foldCol]
    rw [e]
    have e0 : rd [(a : Int), (b : Int)] 0 = (a : Int) := rfl
    have e1 : rd [(a : Int), (b : Int)] 1 = (b : Int) := rfl
    rw [e0, e1, if_pos (by omega), if_pos (by omega), if_pos (by omega), if_pos (by simp), if_pos (by omega), if_pos (by omega), if_pos (by simp), if_pos (by omega), w64 (x := (i : Int) + 1) (by omega) (by omega), show ((i : Int) + 1) = ((i + 1 : Nat) : Int) from by omega]
    exact ih (i + 1) k _ (by simpa using ho) (by omega) (by omega)
theorem turned_l1 (r c : Int) (l : List Int) (g : GoodB r c l) (R C : Int) (i : Nat) (hi : i < l.length) : ∀ (d j k : Nat) (out : List Int), (j : Int) + d = c → (out.length : Int) = c →
    impl_Board_turned.l1 (k + d + 1) (i : Int) r (i : Int) c (j : Int) r c l R C out = impl_Board_turned.l0 k r ((i + 1 : Nat) : Int) r c l R C (foldCol orT (rowC l[i] (i : Int) d j) out) := by
  have hr := g.2.2.1; have hc := g.2.1; have hn := goodB_len g
  intro d
  induction d with
  | zero =>
    intro j k out hj ho
    simp only [Nat.add_zero, impl_Board_turned.l1]
    rw [if_neg (by omega), w64 (by omega) (by omega)]; simp [rowC, foldCol]
  | succ d ih =>
    intro j k out hj ho
    obtain ⟨K, hK⟩ : ∃ K, K = k + d + 1 := ⟨_, rfl⟩
    rw [show k + (d + 1) + 1 = K + 1 from by omega]
    simp only [impl_Board_turned.l1]
    rw [if_pos (by omega), i_has r c l _ _ g (place_nat (by omega) (by omega)), rd_nat l i hi, w64 (x := (j : Int) + 1) (by omega) (by omega), show ((j : Int) + 1) = ((j + 1 : Nat) : Int) from by omega]
    simp only [Option.bind_some]
    by_cases h : cell l[i] (j : Int) = true
    · rw [if_pos h, if_pos (by omega), if_pos (by omega), if_pos (by omega), hK, ih (j + 1) k _ (by omega) (by simpa using ho)]
      simp only [rowC, h, if_true, List.singleton_append, foldCol]
      rfl
    · rw [if_neg h, hK, ih (j + 1) k _ (by omega) ho]
      simp only [rowC, h, if_false, List.nil_append, Bool.false_eq_true]
theorem turned_l0 (r c : Int) (l : List Int) (g : GoodB r c l) (R C : Int) (C' : Nat) (hC : (C' : Int) = c) : ∀ (d i k : Nat) (out : List Int), i + d = l.length → (out.length : Int) = c → d * (C' + 2) < k →
    impl_Board_turned.l0 k r (i : Int) r c l R C out = some (R, C, foldCol orT (cellsC C' (l.drop i) (i : Int)) out) := by
  have hr := g.2.2.1; have hc := g.2.1; have hn := goodB_len g
  intro d
  induction d with
  | zero =>
    intro i k out hi ho hk
    obtain ⟨k, rfl⟩ : ∃ m, k = m + 1 := ⟨k - 1, by omega⟩
    simp only [impl_Board_turned.l0]
    rw [if_neg (by omega), List.drop_eq_nil_of_le (by omega)]; simp [cellsC, foldCol]
  | succ d ih =>
    intro i k out hi ho hk
    rw [Nat.add_mul] at hk
    obtain ⟨k, rfl⟩ : ∃ m, k = (m + C' + 1) + 1 := ⟨k - C' - 2, by omega⟩
    have hlt : i < l.length := by omega
    simp only [impl_Board_turned.l0]
    have := turned_l1 r c l g R C i hlt C' 0 k out (by omega) ho
    rw [if_pos (by omega), show (0 : Int) = ((0 : Nat) : Int) from rfl, this]
    rw [ih (i + 1) k _ (by omega) (by rw [foldCol_len]; exact ho) (by omega), List.drop_eq_getElem_cons hlt]
    simp only [cellsC, foldCol_app]
    rw [show ((i : Int) + 1) = ((i + 1 : Nat) : Int) from by omega]
/-- The numbers of a turned board. -/
def turnL (r c : Int) (l : List Int) : List Int := foldCol addT (cellsC c.toNat l 0) (List.replicate c.toNat 0)
theorem turnL_len (r c : Int) (l : List Int) : (turnL r c l).length = c.toNat := by unfold turnL; rw [foldCol_len]; simp
theorem e_boTurn (k : Nat) (r c : Int) (l : List Int) (g : GoodB r c l) (hk : 1000 ≤ k) : spec_boTurn.f k r c l = some (c, r, turnL r c l) := by
  unfold spec_boTurn.f turnL
  have h1 := g.1; have h2 := g.2.1; have hn := goodB_len g; have h3 := g.2.2.1
  rw [e_boEmpty c r (by omega), e_boCells k r c l g (by omega)]
  simp only [Option.bind_some]
  have hb := cellsC_len c.toNat l 0
  have hb2 : l.length * c.toNat ≤ 6 * 6 := Nat.mul_le_mul (by omega) (by omega)
  have := boTurn_l0 (cellsC c.toNat l 0) (by omega) c.toNat (fun x hx => by
    obtain ⟨a, b, e, _, _, h6⟩ := cellsC_mem c.toNat l 0 x hx
    exact ⟨a, b, e, by omega⟩) c r (cellsC c.toNat l 0).length 0 k (List.replicate c.toNat 0) (by simp) (by omega) (by omega)
  simpa using this
theorem i_turned (k : Nat) (r c : Int) (l : List Int) (g : GoodB r c l) (hk : 1000 ≤ k) : impl_Board_turned.f k r c l = some (c, r, turnL r c l) := by
  unfold impl_Board_turned.f turnL
  have h1 := g.1; have h2 := g.2.1; have hn := goodB_len g; have h3 := g.2.2.1
  have hb2 : l.length * (c.toNat + 2) ≤ 6 * 8 := Nat.mul_le_mul (by omega) (by omega)
  rw [i_newBoard c r (by omega)]
  simp only [Option.bind_some]
  have := turned_l0 r c l g c r c.toNat (by omega) l.length 0 k (List.replicate c.toNat 0) (by omega) (by simp; omega) (by omega)
  rw [show ((0 : Nat) : Int) = 0 from rfl] at this
  rw [this]
  have e := foldCol_cells addT orT add_or c.toNat l 0 (List.replicate c.toNat 0) (by omega) (by simp) (low_zero _)
  rw [show ((0 : Nat) : Int) = 0 from rfl] at e
  simp only [List.drop_zero, e]

theorem e_l1In (a b c : Int) : spec_l1In.f a b c = some (decide (b ≤ a ∧ a ≤ c)) := by
  unfold spec_l1In.f
  by_cases h : b ≤ a
  · rw [if_pos h]; simp [h]
  · rw [if_neg h]; simp [h]

theorem e_l1All_l0 (lo hi : Int) (l : List Int) (hl : l.length ≤ 2000000) : ∀ (d i k : Nat), i + d = l.length → d < k →
    spec_l1All.l0 k lo hi l (l.length : Int) (i : Int) = some (decide (∀ x ∈ l.drop i, lo ≤ x ∧ x ≤ hi)) := by
  intro d
  induction d with
  | zero =>
    intro i k hi' hk
    obtain ⟨k, rfl⟩ : ∃ m, k = m + 1 := ⟨k - 1, by omega⟩
    simp only [spec_l1All.l0]; rw [if_neg (by omega), List.drop_eq_nil_of_le (by omega)]; simp
  | succ d ih =>
    intro i k hi' hk
    obtain ⟨k, rfl⟩ : ∃ m, k = m + 1 := ⟨k - 1, by omega⟩
    have hlt : i < l.length := by omega
    simp only [spec_l1All.l0]
    rw [if_pos (by omega), if_pos (by omega), if_pos (by omega), e_l1In, rd_nat l i hlt, List.drop_eq_getElem_cons hlt, w64 (by omega) (by omega)]
    simp only [Option.bind_some, decide_eq_true_eq, List.forall_mem_cons]
    by_cases h : lo ≤ l[i] ∧ l[i] ≤ hi
    · rw [if_pos h]
      have := ih (i + 1) k (by omega) (by omega)
      rw [show ((i : Int) + 1) = ((i + 1 : Nat) : Int) from by omega, this]; simp [h]
    · rw [if_neg h]; simp [h]
theorem e_l1All (k : Nat) (l : List Int) (lo hi : Int) (hl : l.length ≤ 2000000) (hk : l.length < k) : spec_l1All.f k l lo hi = some (decide (∀ x ∈ l, lo ≤ x ∧ x ≤ hi)) := by
  unfold spec_l1All.f; exact e_l1All_l0 lo hi l hl l.length 0 k (by omega) hk

theorem e_boSide (a : Int) : spec_boSide.f a = some (decide (1 ≤ a ∧ a ≤ 6)) := by
  unfold spec_boSide.f; rw [e_l1In]; rfl

theorem sh1 (a : Int) (h : 1 ≤ a ∧ a ≤ 6) : wrap64 (shl .i64 1 a - 1) = 2 ^ a.toNat - 1 := by
  obtain ⟨h0, h1⟩ := h
  obtain h | h | h | h | h | h : a = 1 ∨ a = 2 ∨ a = 3 ∨ a = 4 ∨ a = 5 ∨ a = 6 := by omega
  all_goals (subst h; decide +kernel)
theorem e_boGood (k : Nat) (r c : Int) (l : List Int) (hl : l.length ≤ 2000000) (hk : l.length < k) : spec_boGood.f k r c l = some (decide (GoodB r c l)) := by
  unfold spec_boGood.f
  rw [e_boSide, e_boSide]
  simp only [Option.bind_some, decide_eq_true_eq]
  by_cases h0 : 1 ≤ r ∧ r ≤ 6
  · by_cases h1 : 1 ≤ c ∧ c ≤ 6
    · by_cases h2 : (l.length : Int) = r
      · rw [if_pos h0, if_pos h1, if_pos h2, if_pos (by omega), sh1 c h1, e_l1All k l _ _ hl hk]
        simp [GoodB, h0, h1, h2]
      · rw [if_pos h0, if_pos h1, if_neg h2]; simp [GoodB, h2]
    · rw [if_pos h0, if_neg h1]; simp [GoodB, h1]
  · rw [if_neg h0]; simp [GoodB, h0]

def turnOut (r c : Int) (l : List Int) : Int × Int × List Int × Bool := if GoodB r c l then (c, r, turnL r c l, true) else (0, 0, [], false)
theorem turnOut_len (r c : Int) (l : List Int) : (turnOut r c l).2.2.1.length ≤ 6 := by
  unfold turnOut
  split
  · rename_i h; have := h.2.1; simp only [turnL_len]; omega
  · simp
theorem e_TurnBoard (k : Nat) (r c : Int) (l : List Int) (hl : l.length ≤ 2000000) (hk : l.length < k) (hk2 : 1000 ≤ k) : spec_TurnBoard.f k r c l = some (turnOut r c l) := by
  unfold spec_TurnBoard.f turnOut
  rw [e_boGood k r c l hl hk]
  simp only [Option.bind_some, decide_eq_true_eq]
  by_cases g : GoodB r c l
  · rw [if_pos g, if_pos g, e_boTurn k r c l g hk2]; rfl
  · rw [if_neg g, if_neg g]
theorem i_TurnBoard (k : Nat) (r c : Int) (l : List Int) (hk2 : 1000 ≤ k) : impl_TurnBoard.f k r c l = some (turnOut r c l) := by
  unfold impl_TurnBoard.f turnOut
  rw [i_IsBoard]
  simp only [Option.bind_some, decide_eq_true_eq]
  by_cases g : GoodB r c l
  · rw [if_pos g, if_pos g, i_turned k r c l g hk2]; rfl
  · rw [if_neg g, if_neg g]

theorem FnExactTurnBoard : laws_FnExactTurnBoard.Pure := by
  intro r c l _ _ hm _
  refine ⟨2000010, ?_⟩
  unfold laws_FnExactTurnBoard.f
  rw [e_szBoard r c l 1048576 hm (by omega) (by omega)]
  simp only [Option.bind_some]
  by_cases h : (1048576 : Int) - l.length < 0
  · rw [if_pos h]; rfl
  · rw [if_neg h, if_neg h, e_toBoard _ r c l (by omega) (by omega)]
    simp only [Option.bind_some]
    rw [e_TurnBoard _ r c l (by omega) (by omega) (by omega), i_TurnBoard _ r c l (by omega)]
    have hI : ∀ k, 1000 ≤ k → impl_TurnBoard.f k r c l = some (turnOut r c l) := fun k hk => i_TurnBoard k r c l hk
    have hlen := turnOut_len r c l
    generalize turnOut r c l = o at hI hlen
    obtain ⟨o1, o2, o3, o4⟩ := o
    simp only at hlen
    repeat (first
      | (simp only [Option.bind_some, bne_self_eq_false, Bool.false_eq_true, if_false, if_true, Bool.not_true, Bool.not_false])
      | (rw [e_toBoard _ _ _ _ (by omega) (by omega)])
      | (rw [e_eqBoard_self _ _ _ _ (by omega) (by omega)])
      | (rw [e_toIntS _ _ (by omega) (by omega)])
      | (rw [e_eqIntS_self _ _ (by omega) (by omega)])
      | (rw [e_markBoard _ _ _ _ _ (by omega) (by omega) (by omega) (by omega)])
      | (rw [e_heldBoard _ _ _ _ _ (by omega) (by omega) (by omega) (by omega)])
      | (rw [e_markIntS _ _ _ (by omega) (by omega) (by omega) (by omega)])
      | (rw [e_heldIntS _ _ _ (by omega) (by omega) (by omega) (by omega)])
      | (rw [hI _ (by omega)])
      | (rw [laws_FnExactTurnBoard.j0])
      | (rw [laws_FnExactTurnBoard.j1])
      | (rw [laws_FnExactTurnBoard.j2])
      | (rw [if_neg (show ¬ (_ : Int) < 0 by omega)])
      | (rw [if_pos (show (_ : Int) = _ from rfl)])
      | (rfl))

end Go.Proofs.Ytchoafokohhbkaa.Pure
