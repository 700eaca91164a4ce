/- FromCells: the law's function comes to true at all numbers and lists. -/
import Derived.Test.YtcdikbiikmhmhaaPFnExactFromCellsx6
namespace Go.Proofs.Ytcdikbiikmhmhaa.Pure
open Go.RowKit Go.Proofs.Ytcdikbiikmhmhaa.PFnExactFromCells Go.Proofs.YtcdikbiikmhmhaaW.PrintWords Go.Proofs.YtcdikbiikmhmhaaW.PrintLast
set_option linter.unusedVariables false
set_option linter.unusedSimpArgs false

theorem w64 {x : Int} (h0 : -9223372036854775808 ≤ x) (h1 : x < 9223372036854775808) : wrap64 x = x := by
  unfold wrap64; omega
theorem rd_nat (l : List Int) (i : Nat) (h : i < l.length) : rd l (i : Int) = l[i] := by
  unfold rd; simp [List.getD, h]

theorem e_szIntS (l : List Int) (a : Int) (hl : l.length ≤ maxLen) (h0 : 0 ≤ a) (h1 : a ≤ 1048576) : laws_szIntS.f l a = some (if a - l.length < 0 then -1 else a - l.length) := by
  unfold laws_szIntS.f
  have : l.length ≤ 9223372036854775807 := hl
  rw [w64 (by omega) (by omega)]
  by_cases h : a - (l.length : Int) < 0
  · rw [if_pos h, if_pos h]
  · rw [if_neg h, if_neg h]

theorem e_toIntS_l0 (l : List Int) (hl : l.length ≤ 2000000) : ∀ (d i k : Nat) (m : List Int), i + d = l.length → d < k → m.length = l.length → m.take i = l.take i →
    laws_toIntS.l0 k l m (i : Int) = some l := by
  intro d
  induction d with
  | zero =>
    intro i k m hi' hk hm ht
    obtain ⟨k, rfl⟩ : ∃ m, k = m + 1 := ⟨k - 1, by omega⟩
    simp only [laws_toIntS.l0]; rw [if_neg (by omega)]
    rw [List.take_of_length_le (by omega), List.take_of_length_le (by omega)] at ht; rw [ht]
  | succ d ih =>
    intro i k m hi' hk hm ht
    obtain ⟨k, rfl⟩ : ∃ m, k = m + 1 := ⟨k - 1, by omega⟩
    have hlt : i < l.length := by omega
    simp only [laws_toIntS.l0]
    rw [if_pos (by omega), if_pos (by omega), if_pos (by omega), rd_nat l i hlt, w64 (by omega) (by omega), show ((i : Int) + 1) = ((i + 1 : Nat) : Int) from by omega]
    refine ih (i + 1) k _ (by omega) (by omega) (by simpa using hm) ?_
    rw [Int.toNat_natCast, List.take_succ_eq_append_getElem (by simpa using (by omega : i < m.length)), List.take_succ_eq_append_getElem hlt]
    simp [List.take_set_of_le, ht]
theorem e_toIntS (k : Nat) (l : List Int) (hl : l.length ≤ 2000000) (hk : l.length < k) : laws_toIntS.f k l = some l := by
  unfold laws_toIntS.f
  rw [if_pos (by omega), if_pos (by omega)]
  exact e_toIntS_l0 l hl l.length 0 k _ (by omega) hk (by simp) (by simp)

theorem rdL (l : List (List Int)) (i : Nat) (h : i < l.length) : rd_L1 l (i : Int) = l[i] := by
  unfold rd_L1; simp [List.getD, h]

def totL : List (List Int) → Nat
  | [] => 0
  | q :: t => q.length + totL t
theorem totL_le (n : Nat) : ∀ l : List (List Int), (∀ q ∈ l, q.length ≤ n) → totL l ≤ l.length * n
  | [], _ => by simp [totL]
  | q :: t, h => by
    have h1 := h q (by simp)
    have h2 := totL_le n t (fun x hx => h x (by simp [hx]))
    rw [totL, List.length_cons, Nat.succ_mul]; omega

theorem e_szIntSS_l0 (l : List (List Int)) (hl : l.length ≤ 1048576) (hx : ∀ y ∈ l, y.length ≤ maxLen) : ∀ (d i k : Nat) (a : Int), i + d = l.length → d < k → 0 ≤ a → a ≤ 1048576 →
    ∃ s, laws_szIntSS.l0 k l a (i : Int) = some s ∧ (0 ≤ s → (totL (l.drop i) : Int) ≤ a) := by
  intro d
  induction d with
  | zero =>
    intro i k a hi hk h0 h1
    obtain ⟨k, rfl⟩ : ∃ m, k = m + 1 := ⟨k - 1, by omega⟩
    refine ⟨a, ?_, fun _ => ?_⟩
    · simp only [laws_szIntSS.l0]; rw [if_neg (by omega)]
    · rw [List.drop_eq_nil_of_le (by omega)]; simpa [totL] using h0
  | succ d ih =>
    intro i k a hi hk h0 h1
    obtain ⟨k, rfl⟩ : ∃ m, k = m + 1 := ⟨k - 1, by omega⟩
    have hlt : i < l.length := by omega
    simp only [laws_szIntSS.l0]
    rw [if_pos (by omega), if_pos (by omega), rdL l i hlt, e_szIntS _ a (hx _ (List.getElem_mem hlt)) h0 h1, Option.bind_some]
    rw [List.drop_eq_getElem_cons hlt]
    by_cases h : a - ((l[i]).length : Int) < 0
    · rw [if_pos h, if_pos (by decide)]
      exact ⟨-1, rfl, fun h => absurd h (by decide)⟩
    · rw [if_neg h, if_neg (by omega), w64 (by omega) (by omega), show ((i : Int) + 1) = ((i + 1 : Nat) : Int) from by omega]
      obtain ⟨s, e, hs⟩ := ih (i + 1) k (a - ((l[i]).length : Int)) (by omega) (by omega) (by omega) (by omega)
      refine ⟨s, e, fun hp => ?_⟩
      have := hs hp
      rw [totL]; omega
theorem e_szIntSS (k : Nat) (l : List (List Int)) (hl : l.length ≤ maxLen) (hx : ∀ y ∈ l, y.length ≤ maxLen) (hk : 1048576 < k) : ∃ s, laws_szIntSS.f k l 1048576 = some s ∧ (0 ≤ s → l.length + totL l ≤ 1048576) := by
  unfold laws_szIntSS.f
  have hm : l.length ≤ 9223372036854775807 := hl
  rw [w64 (by omega) (by omega)]
  by_cases h : (1048576 : Int) - (l.length : Int) < 0
  · rw [if_pos h]; exact ⟨-1, rfl, fun h => absurd h (by decide)⟩
  · rw [if_neg h]
    obtain ⟨s, e, hs⟩ := e_szIntSS_l0 l (by omega) hx l.length 0 k (1048576 - (l.length : Int)) (by omega) (by omega) (by omega) (by omega)
    refine ⟨s, e, fun hp => ?_⟩
    have := hs hp
    rw [List.drop_zero] at this
    omega
theorem totL_mem : ∀ (l : List (List Int)), ∀ q ∈ l, q.length ≤ totL l
  | [], q, h => by simp at h
  | x :: t, q, h => by
    rw [totL]
    rcases List.mem_cons.1 h with rfl | h
    · omega
    · have := totL_mem t q h; omega
theorem e_toIntSS_l0 (l : List (List Int)) (hl : l.length ≤ 2000000) (hx : ∀ q ∈ l, q.length ≤ 2000000) : ∀ (d i k : Nat) (m : List (List Int)), i + d = l.length → d + 2000000 < k → m.length = l.length → m.take i = l.take i →
    laws_toIntSS.l0 k l m (i : Int) = some l := by
  intro d
  induction d with
  | zero =>
    intro i k m hi' hk hm ht
    obtain ⟨k, rfl⟩ : ∃ m, k = m + 1 := ⟨k - 1, by omega⟩
    simp only [laws_toIntSS.l0]; rw [if_neg (by omega)]
    rw [List.take_of_length_le (by omega), List.take_of_length_le (by omega)] at ht; rw [ht]
  | succ d ih =>
    intro i k m hi' hk hm ht
    obtain ⟨k, rfl⟩ : ∃ m, k = m + 1 := ⟨k - 1, by omega⟩
    have hlt : i < l.length := by omega
    have hq := hx _ (List.getElem_mem hlt)
    simp only [laws_toIntSS.l0]
    rw [if_pos (show (i : Int) < (l.length : Int) by omega), if_pos (show (0 : Int) ≤ (i : Int) by omega), rdL l i hlt, e_toIntS k _ hq (by omega), Option.bind_some, if_pos (by omega), w64 (by omega) (by omega), show ((i : Int) + 1) = ((i + 1 : Nat) : Int) from by omega]
    refine ih (i + 1) k _ (by omega) (by omega) (by simpa using hm) ?_
    rw [Int.toNat_natCast, List.take_succ_eq_append_getElem (by simpa using (by omega : i < m.length)), List.take_succ_eq_append_getElem hlt]
    simp [List.take_set_of_le, ht]
theorem e_toIntSS (k : Nat) (l : List (List Int)) (hl : l.length ≤ 2000000) (hx : ∀ q ∈ l, q.length ≤ 2000000) (hk : l.length + 2000000 < k) : laws_toIntSS.f k l = some l := by
  unfold laws_toIntSS.f
  rw [if_pos (by omega), if_pos (by omega)]
  exact e_toIntSS_l0 l hl hx l.length 0 k _ (by omega) hk (by simp) (by simp)

theorem e_eqIntS_l0 (a b : List Int) (hl : a.length ≤ 2000000) (hab : a.length = b.length) : ∀ (d i k : Nat), i + d = a.length → d < k →
    laws_eqIntS.l0 k a b (i : Int) = some (decide (a.drop i = b.drop i)) := by
  intro d
  induction d with
  | zero =>
    intro i k hi' hk
    obtain ⟨k, rfl⟩ : ∃ m, k = m + 1 := ⟨k - 1, by omega⟩
    simp only [laws_eqIntS.l0]; rw [if_neg (by omega), List.drop_eq_nil_of_le (by omega), List.drop_eq_nil_of_le (by omega)]; simp
  | succ d ih =>
    intro i k hi' hk
    obtain ⟨k, rfl⟩ : ∃ m, k = m + 1 := ⟨k - 1, by omega⟩
    have hlt : i < a.length := by omega
    have hlt2 : i < b.length := by omega
    simp only [laws_eqIntS.l0]
    rw [if_pos (by omega), if_pos (by omega), if_pos (by omega), rd_nat a i hlt, rd_nat b i hlt2, List.drop_eq_getElem_cons hlt, List.drop_eq_getElem_cons hlt2, w64 (by omega) (by omega), show ((i : Int) + 1) = ((i + 1 : Nat) : Int) from by omega, ih (i + 1) k (by omega) (by omega)]
    by_cases h : a[i] = b[i]
    · rw [if_pos h]; simp only [List.cons.injEq, h, true_and]
    · rw [if_neg h]; simp only [List.cons.injEq, h, false_and, decide_false]
theorem e_eqIntS (k : Nat) (a b : List Int) (hl : a.length ≤ 2000000) (hk : a.length < k) : laws_eqIntS.f k a b = some (decide (a = b)) := by
  unfold laws_eqIntS.f
  by_cases h : (a.length : Int) = (b.length : Int)
  · rw [if_pos h]; exact e_eqIntS_l0 a b hl (by omega) a.length 0 k (by omega) hk
  · rw [if_neg h]; simp; intro hc; rw [hc] at h; exact h rfl
theorem e_eqIntS_self (k : Nat) (a : List Int) (hl : a.length ≤ 2000000) (hk : a.length < k) : laws_eqIntS.f k a a = some true := by
  rw [e_eqIntS k a a hl hk]; simp

theorem e_eqIntSS_l0 (a : List (List Int)) (n : Nat) (hl : a.length ≤ 2000000) (hx : ∀ q ∈ a, q.length ≤ n) (hn : n ≤ 2000000) : ∀ (d i k : Nat), i + d = a.length → d + n < k → laws_eqIntSS.l0 k a a (i : Int) = some true := by
  intro d
  induction d with
  | zero =>
    intro i k hi hk
    obtain ⟨k, rfl⟩ : ∃ m, k = m + 1 := ⟨k - 1, by omega⟩
    simp only [laws_eqIntSS.l0]; rw [if_neg (by omega)]
  | succ d ih =>
    intro i k hi hk
    obtain ⟨k, rfl⟩ : ∃ m, k = m + 1 := ⟨k - 1, by omega⟩
    have hlt : i < a.length := by omega
    have hq := hx _ (List.getElem_mem hlt)
    simp only [laws_eqIntSS.l0]
    have h1 : (i : Int) < (a.length : Int) := by omega
    rw [if_pos h1, if_pos (show (0 : Int) ≤ (i : Int) by omega), if_pos h1, rdL a i hlt, e_eqIntS_self k _ (by omega) (by omega), Option.bind_some, if_pos rfl, w64 (by omega) (by omega), show ((i : Int) + 1) = ((i + 1 : Nat) : Int) from by omega]
    exact ih (i + 1) k (by omega) (by omega)
theorem e_eqIntSS_self (k n : Nat) (a : List (List Int)) (hl : a.length ≤ 2000000) (hx : ∀ q ∈ a, q.length ≤ n) (hn : n ≤ 2000000) (hk : a.length + n < k) : laws_eqIntSS.f k a a = some true := by
  unfold laws_eqIntSS.f
  rw [if_pos rfl]
  exact e_eqIntSS_l0 a n hl hx hn a.length 0 k (by omega) hk

theorem e_eqBoard (k : Nat) (r c : Int) (l : List Int) (r' c' : Int) (l' : List Int) (hl : l.length ≤ 2000000) (hk : l.length < k) : laws_eqBoard.f k r c l r' c' l' = some (decide (r = r' ∧ c = c' ∧ l = l')) := by
  unfold laws_eqBoard.f
  by_cases h1 : r = r'
  · by_cases h2 : c = c'
    · rw [if_pos h1, if_pos h2, e_eqIntS k l l' hl hk]
      by_cases h3 : l = l' <;> simp [h1, h2, h3]
    · rw [if_pos h1, if_neg h2]; simp [h2]
  · rw [if_neg h1]; simp [h1]
theorem e_eqBoard_self (k : Nat) (r c : Int) (l : List Int) (hl : l.length ≤ 2000000) (hk : l.length < k) : laws_eqBoard.f k r c l r c l = some true := by
  rw [e_eqBoard k r c l r c l hl hk]; simp

/-- The numbers from a on, n of them. -/
def marks : Int → Nat → List Int
  | _, 0 => []
  | a, n + 1 => a :: marks (a + 1) n
theorem marks_length : ∀ (n : Nat) (a : Int), (marks a n).length = n
  | 0, _ => rfl
  | n + 1, a => by simp [marks, marks_length n]
theorem marks_get : ∀ (n : Nat) (a : Int) (i : Nat) (h : i < (marks a n).length), (marks a n)[i] = a + i
  | 0, _, i, h => by simp [marks] at h
  | n + 1, a, 0, h => by simp [marks]
  | n + 1, a, i + 1, h => by
    simp only [marks, List.getElem_cons_succ]
    rw [marks_get n (a + 1) i]; omega

theorem e_markIntS_l0 (n : Nat) (hn : n ≤ 2000000) : ∀ (d i k : Nat) (l : List Int) (a : Int), l.length = n → i + d = n → d < k → 0 ≤ a → a + d ≤ 1000000000 →
    laws_markIntS.l0 k l a (i : Int) = some (a + d, l.take i ++ marks a d) := by
  intro d
  induction d with
  | zero =>
    intro i k l a hl hi hk h0 h1
    obtain ⟨k, rfl⟩ : ∃ m, k = m + 1 := ⟨k - 1, by omega⟩
    simp only [laws_markIntS.l0]; rw [if_neg (by omega), List.take_of_length_le (by omega)]; simp [marks]
  | succ d ih =>
    intro i k l a hl hi hk h0 h1
    obtain ⟨k, rfl⟩ : ∃ m, k = m + 1 := ⟨k - 1, by omega⟩
    have hlt : i < l.length := by omega
    simp only [laws_markIntS.l0]
    rw [if_pos (by omega), if_pos (by omega), w64 (by omega) (by omega), w64 (by omega) (by omega), show ((i : Int) + 1) = ((i + 1 : Nat) : Int) from by omega]
    rw [ih (i + 1) k _ (a + 1) (by simpa using hl) (by omega) (by omega) (by omega) (by omega)]
    rw [Int.toNat_natCast, List.take_succ_eq_append_getElem (by simpa using hlt)]
    simp only [List.getElem_set_self, List.take_set_of_le (Nat.le_refl i), List.append_assoc, List.singleton_append, marks]
    congr 2; omega
theorem e_markIntS (k : Nat) (l : List Int) (a : Int) (hl : l.length ≤ 2000000) (hk : l.length < k) (h0 : 0 ≤ a) (h1 : a + l.length ≤ 1000000000) : laws_markIntS.f k l a = some (a + l.length, marks a l.length) := by
  unfold laws_markIntS.f
  have := e_markIntS_l0 l.length hl l.length 0 k l a rfl (by omega) hk h0 h1
  simpa using this

theorem e_markBoard (k : Nat) (r c : Int) (l : List Int) (a : Int) (hl : l.length ≤ 2000000) (hk : l.length < k) (h0 : 0 ≤ a) (h1 : a + l.length ≤ 1000000000) : laws_markBoard.f k r c l a = some (a + l.length, marks a l.length) := by
  unfold laws_markBoard.f; rw [e_markIntS k l a hl hk h0 h1]; rfl

theorem e_heldIntS_l0 (b : Int) (n : Nat) (hn : n ≤ 2000000) (hb : 0 ≤ b) (hbn : b + n ≤ 1000000000) : ∀ (d i k : Nat), i + d = n → d < k →
    laws_heldIntS.l0 k (marks b n) (b + i) (i : Int) = some (b + n) := by
  intro d
  induction d with
  | zero =>
    intro i k hi hk
    obtain ⟨k, rfl⟩ : ∃ m, k = m + 1 := ⟨k - 1, by omega⟩
    simp only [laws_heldIntS.l0, marks_length]; rw [if_neg (by omega)]; congr 1; omega
  | succ d ih =>
    intro i k hi hk
    obtain ⟨k, rfl⟩ : ∃ m, k = m + 1 := ⟨k - 1, by omega⟩
    have hlt : i < (marks b n).length := by rw [marks_length]; omega
    simp only [laws_heldIntS.l0]
    rw [rd_nat _ i hlt, marks_get n b i hlt]
    simp only [marks_length]
    rw [if_pos (by omega), if_pos (by omega), if_pos trivial, w64 (by omega) (by omega), w64 (by omega) (by omega), show ((i : Int) + 1) = ((i + 1 : Nat) : Int) from by omega, show b + (i : Int) + 1 = b + ((i + 1 : Nat) : Int) from by omega]
    exact ih (i + 1) k (by omega) (by omega)
theorem e_heldIntS (k : Nat) (n : Nat) (b : Int) (hn : n ≤ 2000000) (hk : n < k) (hb : 0 ≤ b) (hbn : b + n ≤ 1000000000) : laws_heldIntS.f k (marks b n) b = some (b + n) := by
  unfold laws_heldIntS.f
  have := e_heldIntS_l0 b n hn hb hbn n 0 k (by omega) hk
  simpa using this

theorem e_heldBoard (k : Nat) (r c : Int) (n : Nat) (b : Int) (hn : n ≤ 2000000) (hk : n < k) (hb : 0 ≤ b) (hbn : b + n ≤ 1000000000) : laws_heldBoard.f k r c (marks b n) b = some (b + n) := by
  unfold laws_heldBoard.f; rw [e_heldIntS k n b hn hk hb hbn]; simp only [Option.bind_some]; rw [if_neg (by omega)]

def marksSS : Int → List (List Int) → List (List Int)
  | _, [] => []
  | a, q :: t => marks a q.length :: marksSS (a + q.length) t

theorem e_mSS (k n : Nat) (hn : n ≤ 2000000) (hk : n < k) : ∀ (l : List (List Int)) (a : Int), (∀ q ∈ l, q.length ≤ n) → 0 ≤ a → a + totL l ≤ 1000000000 → mSS k l a = some (a + totL l, marksSS a l)
  | [], a, _, _, _ => by simp [mSS, totL, marksSS]
  | q :: t, a, h, h0, h1 => by
    have hq := h q (by simp)
    have ht : totL (q :: t) = q.length + totL t := rfl
    rw [mSS, e_markIntS k q a (by omega) (by omega) h0 (by omega), Option.bind_some]
    simp only
    rw [e_mSS k n hn hk t (a + q.length) (fun x hx => h x (by simp [hx])) (by omega) (by omega), Option.bind_some, ht, marksSS]
    congr 2
    omega
theorem e_markIntSS (k n : Nat) (hn : n ≤ 2000000) (hk : n < k) (l : List (List Int)) (a : Int) (hl : l.length ≤ 2000000) (h : ∀ q ∈ l, q.length ≤ n) (h0 : 0 ≤ a) (h1 : a + totL l ≤ 1000000000) : laws_markIntSS.f k l a = some (a + totL l, marksSS a l) := by
  unfold laws_markIntSS.f
  rw [if_pos hl, e_mSS k n hn hk l a h h0 h1]

/-- Is there a cell in the column c of a row m? -/
def cell (m c : Int) : Bool := decide (m / 2 ^ c.toNat % 2 = 1)
theorem fin_of (m : Int) (n : Nat) (h0 : 0 ≤ m) (h1 : m < n) : ∃ i : Fin n, m = (i.val : Int) := ⟨⟨m.toNat, by omega⟩, by simp; omega⟩
theorem cell_spec (m c : Int) (hm : 0 ≤ m ∧ m ≤ 63) (hc : 0 ≤ c ∧ c ≤ 6) : (Int.tmod (shr .i64 m c) 2 == 1) = cell m c := by
  have h : ∀ m : Fin 64, ∀ c : Fin 7, (Int.tmod (shr .i64 (m.val : Int) (c.val : Int)) 2 == 1) = cell (m.val : Int) (c.val : Int) := by decide +kernel
  obtain ⟨i, rfl⟩ := fin_of m 64 hm.1 (by omega)
  obtain ⟨j, rfl⟩ := fin_of c 7 hc.1 (by omega)
  exact h i j
theorem cell_impl (m c : Int) (hm : 0 ≤ m ∧ m ≤ 63) (hc : 0 ≤ c ∧ c ≤ 6) : (Go.bits .and .i64 (shr .i64 m c) 1 == 1) = cell m c := by
  have h : ∀ m : Fin 64, ∀ c : Fin 7, (Go.bits .and .i64 (shr .i64 (m.val : Int) (c.val : Int)) 1 == 1) = cell (m.val : Int) (c.val : Int) := by decide +kernel
  obtain ⟨i, rfl⟩ := fin_of m 64 hm.1 (by omega)
  obtain ⟨j, rfl⟩ := fin_of c 7 hc.1 (by omega)
  exact h i j
theorem pow_le (a : Int) (h : 1 ≤ a ∧ a ≤ 6) : 2 ≤ (2 : Int) ^ a.toNat ∧ (2 : Int) ^ a.toNat ≤ 64 := by
  obtain ⟨h0, h1⟩ := h
  obtain h | h | h | h | h | h : a = 1 ∨ a = 2 ∨ a = 3 ∨ a = 4 ∨ a = 5 ∨ a = 6 := by omega
  all_goals (subst h; decide +kernel)
theorem rd_mem (l : List Int) (i : Int) (h0 : 0 ≤ i) (h1 : i < l.length) : rd l i ∈ l := by
  obtain ⟨n, rfl⟩ := Int.eq_ofNat_of_zero_le h0
  rw [rd_nat l n (by omega)]; exact List.getElem_mem _

def GoodB (a0 a1 : Int) (l : List Int) : Prop := (1 ≤ a0 ∧ a0 ≤ 6) ∧ (1 ≤ a1 ∧ a1 ≤ 6) ∧ (l.length : Int) = a0 ∧ ∀ x ∈ l, 0 ≤ x ∧ x ≤ 2 ^ a1.toNat - 1
instance (a0 a1 : Int) (l : List Int) : Decidable (GoodB a0 a1 l) := by unfold GoodB; exact inferInstance

theorem goodB_le {r c : Int} {l : List Int} (h : GoodB r c l) : ∀ x ∈ l, 0 ≤ x ∧ x ≤ 63 := by
  intro x hx
  have := h.2.2.2 x hx
  have := pow_le c h.2.1
  omega
theorem goodB_len {r c : Int} {l : List Int} (h : GoodB r c l) : l.length ≤ 6 := by
  have := h.1; have := h.2.2.1; omega
/-- Is it a place of a board? -/
def Place (r c i j : Int) : Prop := (0 ≤ i ∧ i ≤ r - 1) ∧ (0 ≤ j ∧ j ≤ c - 1)
instance (r c i j : Int) : Decidable (Place r c i j) := by unfold Place; exact inferInstance

theorem e_boHas (r c : Int) (l : List Int) (i j : Int) (h : GoodB r c l) (hp : Place r c i j) : spec_boHas.f r c l i j = some (cell (rd l i) j) := by
  unfold spec_boHas.f
  have h1 := h.1; have h2 := h.2.1; have h3 := h.2.2.1; have h4 := hp.1; have h5 := hp.2
  have hm := goodB_le h (rd l i) (rd_mem l i (by omega) (by omega))
  rw [if_pos (by omega), if_pos (by omega), if_pos (by omega), cell_spec _ _ hm (by omega)]

theorem i_has (r c : Int) (l : List Int) (i j : Int) (h : GoodB r c l) (hp : Place r c i j) : impl_Board_has.f r c l i j = some (cell (rd l i) j) := by
  unfold impl_Board_has.f
  have h1 := h.1; have h2 := h.2.1; have h3 := h.2.2.1; have h4 := hp.1; have h5 := hp.2
  have hm := goodB_le h (rd l i) (rd_mem l i (by omega) (by omega))
  rw [if_pos (by omega), if_pos (by omega), if_pos (by omega), cell_impl _ _ hm (by omega)]

theorem e_within (a b c : Int) : impl_within.f a b c = some (decide (b ≤ a ∧ a ≤ c)) := by
  unfold impl_within.f
  by_cases h : b ≤ a
  · rw [if_pos h]; simp [h]
  · rw [if_neg h]; simp [h]

theorem i_place (r c : Int) (l : List Int) (i j : Int) (h : GoodB r c l) : impl_Board_place.f r c l i j = some (decide (Place r c i j)) := by
  unfold impl_Board_place.f
  have h1 := h.1; have h2 := h.2.1
  rw [w64 (by omega) (by omega), w64 (by omega) (by omega), e_within, e_within]
  simp only [Option.bind_some, decide_eq_true_eq]
  by_cases h : 0 ≤ i ∧ i ≤ r - 1
  · rw [if_pos h]; simp [Place, h]
  · rw [if_neg h]; simp [Place, h]

theorem i_newBoard (r c : Int) (h : 0 ≤ r ∧ r ≤ 6) : impl_newBoard.f r c = some (r, c, List.replicate r.toNat 0) := by
  unfold impl_newBoard.f; rw [if_pos (by omega), if_pos (by omega)]

theorem e_boEmpty (r c : Int) (h : 0 ≤ r ∧ r ≤ 6) : spec_boEmpty.f r c = some (r, c, List.replicate r.toNat 0) := by
  unfold spec_boEmpty.f; rw [if_pos (by omega), if_pos (by omega)]

theorem e_l1In (a b c : Int) : spec_l1In.f a b c = some (decide (b ≤ a ∧ a ≤ c)) := by
  unfold spec_l1In.f
  by_cases h : b ≤ a
  · rw [if_pos h]; simp [h]
  · rw [if_neg h]; simp [h]

theorem e_boSide (a : Int) : spec_boSide.f a = some (decide (1 ≤ a ∧ a ≤ 6)) := by
  unfold spec_boSide.f; rw [e_l1In]; rfl

theorem e_isSide (a : Int) : impl_isSide.f a = some (decide (1 ≤ a ∧ a ≤ 6)) := by
  unfold impl_isSide.f; rw [e_within]; rfl

/-- How many cells a row has. -/
def pc (m : Int) : Nat := ((List.range 6).filter fun j : Nat => cell m (j : Int)).length
theorem put_all (m : Int) (hm : 0 ≤ m ∧ m ≤ 63) (j : Nat) (hj : j < 6) (hc : cell m (j : Int) = false) : Go.bits .or .i64 m (shl .i64 1 (j : Int)) = m + 2 ^ j ∧ wrap64 (m + shl .i64 1 (j : Int)) = m + 2 ^ j ∧ m + 2 ^ j ≤ 63 ∧ pc (m + 2 ^ j) = pc m + 1 ∧ ∀ c : Nat, c ≤ 6 → j < c → m ≤ 2 ^ c - 1 → m + 2 ^ j ≤ 2 ^ c - 1 := by
  have h : ∀ m : Fin 64, ∀ j : Fin 6, cell (m.val : Int) (j.val : Int) = false → (Go.bits .or .i64 (m.val : Int) (shl .i64 1 (j.val : Int)) = (m.val : Int) + 2 ^ j.val ∧ shl .i64 1 (j.val : Int) = 2 ^ j.val ∧ (m.val : Int) + 2 ^ j.val ≤ 63 ∧ pc ((m.val : Int) + 2 ^ j.val) = pc (m.val : Int) + 1 ∧ ∀ c : Fin 7, j.val < c.val → (m.val : Int) ≤ 2 ^ c.val - 1 → (m.val : Int) + 2 ^ j.val ≤ 2 ^ c.val - 1) := by decide +kernel
  obtain ⟨i, rfl⟩ := fin_of m 64 hm.1 (by omega)
  have := h i ⟨j, hj⟩ hc
  have hp := Int.pow_pos (n := 2) (m := j) (by decide)
  simp only at this
  exact ⟨this.1, by rw [this.2.1, w64 (by omega) (by omega)], this.2.2.1, this.2.2.2.1, fun c h6 hjc hm => this.2.2.2.2 ⟨c, by omega⟩ hjc hm⟩
theorem pc_le (m : Int) : pc m ≤ 6 := by
  unfold pc
  exact Nat.le_trans (List.length_filter_le _ _) (by simp)
def pcs : List Int → Nat
  | [] => 0
  | m :: t => pc m + pcs t
theorem pcs_le : ∀ l : List Int, pcs l ≤ 6 * l.length
  | [] => by simp [pcs]
  | m :: t => by have := pc_le m; have := pcs_le t; rw [pcs, List.length_cons]; omega
theorem pcs_set : ∀ (l : List Int) (i : Nat) (h : i < l.length) (v : Int), pc v = pc l[i] + 1 → pcs (l.set i v) = pcs l + 1
  | m :: t, 0, _, v, e => by simp only [List.set_cons_zero, pcs]; simp at e; omega
  | m :: t, i + 1, h, v, e => by
    simp only [List.set_cons_succ, pcs]
    have := pcs_set t i (by simpa using h) v (by simpa using e)
    omega
theorem pcs_zero : ∀ n : Nat, pcs (List.replicate n 0) = 0
  | 0 => rfl
  | n + 1 => by rw [List.replicate_succ, pcs, pcs_zero n]; decide +kernel
/-- A board out of a list of cells. -/
def fcL (r c : Int) : List (List Int) → List Int → Option (List Int)
  | [], m => some m
  | q :: t, m => if q.length = 2 ∧ Place r c (rd q 0) (rd q 1) ∧ cell (rd m (rd q 0)) (rd q 1) = false then fcL r c t (m.set (rd q 0).toNat (rd m (rd q 0) + 2 ^ (rd q 1).toNat)) else none
def fcR (r c : Int) (o : Option (List Int)) : Int × Int × List Int × Bool := match o with | some m => (r, c, m, true) | none => (0, 0, [], false)
theorem fc_good (r c : Int) (m : List Int) (g : GoodB r c m) (q : List Int) (hp : Place r c (rd q 0) (rd q 1)) (hc : cell (rd m (rd q 0)) (rd q 1) = false) :
    GoodB r c (m.set (rd q 0).toNat (rd m (rd q 0) + 2 ^ (rd q 1).toNat)) ∧ pcs (m.set (rd q 0).toNat (rd m (rd q 0) + 2 ^ (rd q 1).toNat)) = pcs m + 1 ∧ Go.bits .or .i64 (rd m (rd q 0)) (shl .i64 1 (rd q 1)) = rd m (rd q 0) + 2 ^ (rd q 1).toNat ∧ wrap64 (rd m (rd q 0) + shl .i64 1 (rd q 1)) = rd m (rd q 0) + 2 ^ (rd q 1).toNat := by
  have h1 := g.1; have h2 := g.2.1; have h3 := g.2.2.1
  obtain ⟨⟨p0, p1⟩, p2, p3⟩ := hp
  generalize rd q 0 = x at *
  generalize rd q 1 = y at *
  obtain ⟨i, rfl⟩ := Int.eq_ofNat_of_zero_le p0
  obtain ⟨j, rfl⟩ := Int.eq_ofNat_of_zero_le p2
  have hi : i < m.length := by omega
  rw [rd_nat m i hi] at hc ⊢
  have hm := g.2.2.2 _ (List.getElem_mem hi)
  have h63 := goodB_le g _ (List.getElem_mem hi)
  obtain ⟨e1, e2, e3, e4, e5⟩ := put_all m[i] h63 j (by omega) hc
  simp only [Int.toNat_natCast]
  refine ⟨⟨h1, h2, by simpa using h3, ?_⟩, pcs_set m i hi _ e4, e1, e2⟩
  intro x hx
  rcases List.mem_or_eq_of_mem_set hx with hx | hx
  · exact g.2.2.2 x hx
  · subst hx
    have := Int.pow_pos (n := 2) (m := j) (by decide)
    exact ⟨by omega, e5 c.toNat (by omega) (by omega) hm.2⟩
theorem fcL_pcs (r c : Int) : ∀ (t : List (List Int)) (m m' : List Int), GoodB r c m → fcL r c t m = some m' → GoodB r c m' ∧ pcs m' = pcs m + t.length
  | [], m, m', g, h => by cases Option.some.inj h; exact ⟨g, by simp⟩
  | q :: t, m, m', g, h => by
    rw [fcL] at h
    split at h
    · rename_i hc
      have hg := fc_good r c m g q hc.2.1 hc.2.2
      have := fcL_pcs r c t _ m' hg.1 h
      exact ⟨this.1, by rw [this.2, hg.2.1, List.length_cons]; omega⟩
    · exact absurd h (by simp)
theorem fc_spec (r c : Int) (cs : List (List Int)) (hl : cs.length ≤ 2000000) : ∀ (d i k : Nat) (m : List Int), GoodB r c m → i + d = cs.length → d < k → spec_FromCells.l0 k r c cs (cs.length : Int) (i : Int) r c m = some (fcR r c (fcL r c (cs.drop i) m)) := by
  intro d
  induction d with
  | zero =>
    intro i k m g hi hk
    obtain ⟨k, rfl⟩ : ∃ m, k = m + 1 := ⟨k - 1, by omega⟩
    simp only [spec_FromCells.l0]; rw [if_neg (by omega), List.drop_eq_nil_of_le (by omega)]; rfl
  | succ d ih =>
    intro i k m g hi hk
    obtain ⟨k, rfl⟩ : ∃ m, k = m + 1 := ⟨k - 1, by omega⟩
    have hlt : i < cs.length := by omega
    have h1 := g.1; have h2 := g.2.1; have h3 := g.2.2.1
    simp only [spec_FromCells.l0]
    have hlt' : (i : Int) < (cs.length : Int) := by omega
    rw [if_pos hlt', if_pos (show (0 : Int) ≤ (i : Int) by omega), if_pos hlt', rdL cs i hlt, List.drop_eq_getElem_cons hlt]
    generalize cs[i] = q
    rw [fcL]
    by_cases hq : q.length = 2
    case neg => rw [if_neg (show ¬ (q.length : Int) = 2 by omega), if_neg (show ¬ (q.length = 2 ∧ _) from fun h => hq h.1)]; rfl
    rw [if_pos (show (q.length : Int) = 2 by omega), if_pos (show (0 : Int) < (q.length : Int) by omega), w64 (x := r - 1) (by omega) (by omega), w64 (x := c - 1) (by omega) (by omega), e_l1In, e_l1In]
    simp only [Option.bind_some, decide_eq_true_eq]
    by_cases p0 : 0 ≤ rd q 0 ∧ rd q 0 ≤ r - 1
    case neg => rw [if_neg p0, if_neg (show ¬ (q.length = 2 ∧ Place r c (rd q 0) (rd q 1) ∧ _) from fun h => p0 h.2.1.1)]; rfl
    rw [if_pos p0, if_pos (show (1 : Int) < (q.length : Int) by omega)]
    by_cases p1 : 0 ≤ rd q 1 ∧ rd q 1 ≤ c - 1
    case neg => rw [if_neg p1, if_neg (show ¬ (q.length = 2 ∧ Place r c (rd q 0) (rd q 1) ∧ _) from fun h => p1 h.2.1.2)]; rfl
    rw [if_pos p1, e_boHas r c m _ _ g ⟨p0, p1⟩, Option.bind_some]
    by_cases hc : cell (rd m (rd q 0)) (rd q 1) = true
    · rw [if_pos hc, if_neg (show ¬ (q.length = 2 ∧ Place r c (rd q 0) (rd q 1) ∧ _) from fun h => by rw [h.2.2] at hc; exact absurd hc (by decide))]; rfl
    · have hc := Bool.eq_false_iff.2 hc
      obtain ⟨g', _, _, e2⟩ := fc_good r c m g q ⟨p0, p1⟩ hc
      rw [hc, if_neg (show ¬ (false = true) by decide), if_pos p0.1, if_pos (show rd q 0 < (m.length : Int) by omega), if_pos p1.1, if_pos (show (q.length = 2 ∧ Place r c (rd q 0) (rd q 1) ∧ false = false) from ⟨hq, ⟨p0, p1⟩, rfl⟩), e2, w64 (x := (i : Int) + 1) (by omega) (by omega), show ((i : Int) + 1) = ((i + 1 : Nat) : Int) from by omega]
      exact ih (i + 1) k _ g' (by omega) (by omega)
theorem fc_impl (r c : Int) (cs : List (List Int)) (hl : cs.length ≤ 2000000) : ∀ (d i k : Nat) (m : List Int), GoodB r c m → i + d = cs.length → d < k → impl_FromCells.l0 k cs (cs.length : Int) (i : Int) r c m = some (fcR r c (fcL r c (cs.drop i) m)) := by
  intro d
  induction d with
  | zero =>
    intro i k m g hi hk
    obtain ⟨k, rfl⟩ : ∃ m, k = m + 1 := ⟨k - 1, by omega⟩
    simp only [impl_FromCells.l0]; rw [if_neg (by omega), List.drop_eq_nil_of_le (by omega)]; rfl
  | succ d ih =>
    intro i k m g hi hk
    obtain ⟨k, rfl⟩ : ∃ m, k = m + 1 := ⟨k - 1, by omega⟩
    have hlt : i < cs.length := by omega
    have h1 := g.1; have h2 := g.2.1; have h3 := g.2.2.1
    simp only [impl_FromCells.l0]
    have hlt' : (i : Int) < (cs.length : Int) := by omega
    rw [if_pos hlt', if_pos (show (0 : Int) ≤ (i : Int) by omega), if_pos hlt', rdL cs i hlt, List.drop_eq_getElem_cons hlt]
    generalize cs[i] = q
    rw [fcL]
    by_cases hq : q.length = 2
    case neg => rw [if_neg (show ¬ (q.length : Int) = 2 by omega), if_neg (show ¬ (q.length = 2 ∧ _) from fun h => hq h.1)]; rfl
    rw [if_pos (show (q.length : Int) = 2 by omega), if_pos (show (0 : Int) < (q.length : Int) by omega), if_pos (show (1 : Int) < (q.length : Int) by omega), i_place r c m _ _ g, Option.bind_some]
    by_cases hp : Place r c (rd q 0) (rd q 1)
    case neg => rw [decide_eq_false hp, if_neg (show ¬ (false = true) by decide), if_neg (show ¬ (q.length = 2 ∧ Place r c (rd q 0) (rd q 1) ∧ _) from fun h => hp h.2.1)]; rfl
    rw [decide_eq_true hp, if_pos rfl, i_has r c m _ _ g hp, Option.bind_some]
    have p0 := hp.1; have p1 := hp.2
    by_cases hc : cell (rd m (rd q 0)) (rd q 1) = true
    · rw [if_pos hc, if_neg (show ¬ (q.length = 2 ∧ Place r c (rd q 0) (rd q 1) ∧ _) from fun h => by rw [h.2.2] at hc; exact absurd hc (by decide))]; rfl
    · have hc := Bool.eq_false_iff.2 hc
      obtain ⟨g', _, e1, _⟩ := fc_good r c m g q hp hc
      rw [hc, if_neg (show ¬ (false = true) by decide), if_pos p0.1, if_pos (show rd q 0 < (m.length : Int) by omega), if_pos p1.1, if_pos (show (q.length = 2 ∧ Place r c (rd q 0) (rd q 1) ∧ false = false) from ⟨hq, hp, rfl⟩), e1, w64 (x := (i : Int) + 1) (by omega) (by omega), show ((i : Int) + 1) = ((i + 1 : Nat) : Int) from by omega]
      exact ih (i + 1) k _ g' (by omega) (by omega)
def fcOut (r c : Int) (cs : List (List Int)) : Int × Int × List Int × Bool := if (1 ≤ r ∧ r ≤ 6) ∧ (1 ≤ c ∧ c ≤ 6) then fcR r c (fcL r c cs (List.replicate r.toNat 0)) else (0, 0, [], false)
theorem zero_good (r c : Int) (h : (1 ≤ r ∧ r ≤ 6) ∧ (1 ≤ c ∧ c ≤ 6)) : GoodB r c (List.replicate r.toNat 0) := by
  refine ⟨h.1, h.2, by simp; omega, fun x hx => ?_⟩
  have := pow_le c h.2
  rw [List.eq_of_mem_replicate hx]
  omega
theorem fcL_many (r c : Int) (h : (1 ≤ r ∧ r ≤ 6) ∧ (1 ≤ c ∧ c ≤ 6)) (cs : List (List Int)) (hl : 36 < cs.length) : fcL r c cs (List.replicate r.toNat 0) = none := by
  cases e : fcL r c cs (List.replicate r.toNat 0) with
  | none => rfl
  | some m =>
    have h1 := fcL_pcs r c cs _ m (zero_good r c h) e
    have h2 := pcs_le m
    have h3 := h1.1.2.2.1
    rw [pcs_zero] at h1
    have := h1.2
    omega
theorem e_FromCells (k : Nat) (r c : Int) (cs : List (List Int)) (hl : cs.length ≤ 2000000) (hk : cs.length + 2 < k) : spec_FromCells.f k r c cs = some (fcOut r c cs) := by
  unfold spec_FromCells.f fcOut
  rw [e_boSide, e_boSide]
  simp only [Option.bind_some, decide_eq_true_eq]
  obtain ⟨k, rfl⟩ : ∃ m, k = m + 1 := ⟨k - 1, by omega⟩
  by_cases h0 : 1 ≤ r ∧ r ≤ 6
  · by_cases h1 : 1 ≤ c ∧ c ≤ 6
    · rw [if_pos h0, if_pos h1, if_pos ⟨h0, h1⟩]
      simp only [spec_FromCells.j0]
      by_cases h36 : (cs.length : Int) > 36
      · rw [decide_eq_true h36, if_pos rfl, fcL_many r c ⟨h0, h1⟩ cs (by omega)]; rfl
      · rw [decide_eq_false h36, if_neg (by decide), e_boEmpty r c (by omega), Option.bind_some]
        have := fc_spec r c cs hl cs.length 0 k (List.replicate r.toNat 0) (zero_good r c ⟨h0, h1⟩) (by omega) (by omega)
        simpa using this
    · rw [if_pos h0, if_neg h1, if_neg (by intro h; exact h1 h.2)]; simp only [spec_FromCells.j0]; rfl
  · rw [if_neg h0, if_neg (by intro h; exact h0 h.1)]; simp only [spec_FromCells.j0]; rfl
theorem i_FromCells (k : Nat) (r c : Int) (cs : List (List Int)) (hl : cs.length ≤ 2000000) (hk : cs.length + 2 < k) : impl_FromCells.f k r c cs = some (fcOut r c cs) := by
  unfold impl_FromCells.f fcOut
  rw [e_isSide, e_isSide]
  simp only [Option.bind_some, decide_eq_true_eq]
  obtain ⟨k, rfl⟩ : ∃ m, k = m + 1 := ⟨k - 1, by omega⟩
  by_cases h0 : 1 ≤ r ∧ r ≤ 6
  · by_cases h1 : 1 ≤ c ∧ c ≤ 6
    · rw [if_pos h0, if_pos ⟨h0, h1⟩, decide_eq_true h1]
      simp only [impl_FromCells.j0]
      rw [if_neg (by decide), i_newBoard r c (by omega), Option.bind_some]
      have := fc_impl r c cs hl cs.length 0 k (List.replicate r.toNat 0) (zero_good r c ⟨h0, h1⟩) (by omega) (by omega)
      simpa using this
    · rw [if_pos h0, decide_eq_false h1, if_neg (by intro h; exact h1 h.2)]; simp only [impl_FromCells.j0]; rfl
  · rw [if_neg h0, if_neg (by intro h; exact h0 h.1)]; simp only [impl_FromCells.j0]; rfl
theorem fcOut_len (r c : Int) (cs : List (List Int)) : (fcOut r c cs).2.2.1.length ≤ 6 := by
  unfold fcOut
  split
  · rename_i h
    cases e : fcL r c cs (List.replicate r.toNat 0) with
    | none => simp [fcR]
    | some m =>
      have h1 := (fcL_pcs r c cs _ m (zero_good r c h) e).1.2.2.1
      show m.length ≤ 6
      omega
  · simp

theorem FnExactFromCells : laws_FnExactFromCells.Pure := by
  intro r c l _ _ hm hn _
  refine ⟨4000010, ?_⟩
  unfold laws_FnExactFromCells.f
  obtain ⟨s, e, hs⟩ := e_szIntSS 4000010 l hm hn (by omega)
  rw [e, Option.bind_some]
  by_cases h : s < 0
  · rw [if_pos h]
  have ht := hs (by omega)
  have hx : ∀ q ∈ l, q.length ≤ 1048576 := fun q hq => Nat.le_trans (totL_mem l q hq) (by omega)
  rw [if_neg h, e_toIntSS _ l (by omega) (fun q hq => Nat.le_trans (hx q hq) (by omega)) (by omega), Option.bind_some, e_FromCells _ r c l (by omega) (by omega), Option.bind_some, i_FromCells _ r c l (by omega) (by omega), Option.bind_some]
  have hb := fcOut_len r c l
  generalize fcOut r c l = o at hb ⊢
  obtain ⟨o1, o2, o3, o4⟩ := o
  simp only at hb ⊢
  rw [e_eqBoard_self _ o1 o2 o3 (by omega) (by omega), Option.bind_some, e_eqIntSS_self _ 1048576 l (by omega) hx (by omega) (by omega), Option.bind_some, e_markIntSS _ 1048576 (by omega) (by omega) l 1 (by omega) hx (by omega) (by omega), Option.bind_some, e_markBoard _ o1 o2 o3 1 (by omega) (by omega) (by omega) (by omega), Option.bind_some]
  simp only
  rw [e_heldBoard _ o1 o2 o3.length 1 (by omega) (by omega) (by omega) (by omega), Option.bind_some, if_pos]
  refine ⟨?_, ?_, ?_, ?_, ?_, ?_⟩ <;> first | trivial | omega

end Go.Proofs.Ytcdikbiikmhmhaa.Pure
