/- ClassOf: the law's function comes to true at every list. -/
import Derived.Test.YtbjijnehgjfhlaaPFnExactClassOfx7
namespace Go.Proofs.Ytbjijnehgjfhlaa.Pure
open Go.RowKit Go.Proofs.Ytbjijnehgjfhlaa.PFnExactClassOf Go.Proofs.YtbjijnehgjfhlaaW.PrintWords Go.Proofs.YtbjijnehgjfhlaaW.PrintLast
set_option linter.unusedVariables false
set_option linter.unusedSimpArgs false

theorem w64 {x : Int} (h0 : -9223372036854775808 ≤ x) (h1 : x < 9223372036854775808) : wrap64 x = x := by
  unfold wrap64; omega
theorem rd_nat (l : List Int) (i : Nat) (h : i < l.length) : rd l (i : Int) = l[i] := by
  unfold rd; simp [List.getD, h]

theorem e_toIntS_l0 (l : List Int) (hl : l.length ≤ 2000000) : ∀ (d i k : Nat) (m : List Int), i + d = l.length → d < k → m.length = l.length → m.take i = l.take i →
    laws_toIntS.l0 k l m (i : Int) = some l := by
  intro d
  induction d with
  | zero =>
    intro i k m hi' hk hm ht
    obtain ⟨k, rfl⟩ : ∃ m, k = m + 1 := ⟨k - 1, by omega⟩
    simp only [laws_toIntS.l0]; rw [if_neg (by omega)]
    rw [List.take_of_length_le (by omega), List.take_of_length_le (by omega)] at ht; rw [ht]
  | succ d ih =>
    intro i k m hi' hk hm ht
    obtain ⟨k, rfl⟩ : ∃ m, k = m + 1 := ⟨k - 1, by omega⟩
    have hlt : i < l.length := by omega
    simp only [laws_toIntS.l0]
    rw [if_pos (by omega), if_pos (by omega), if_pos (by omega), rd_nat l i hlt, w64 (by omega) (by omega), show ((i : Int) + 1) = ((i + 1 : Nat) : Int) from by omega]
    refine ih (i + 1) k _ (by omega) (by omega) (by simpa using hm) ?_
    rw [Int.toNat_natCast, List.take_succ_eq_append_getElem (by simpa using (by omega : i < m.length)), List.take_succ_eq_append_getElem hlt]
    simp [List.take_set_of_le, ht]
theorem e_toIntS (k : Nat) (l : List Int) (hl : l.length ≤ 2000000) (hk : l.length < k) : laws_toIntS.f k l = some l := by
  unfold laws_toIntS.f
  rw [if_pos (by omega), if_pos (by omega)]
  exact e_toIntS_l0 l hl l.length 0 k _ (by omega) hk (by simp) (by simp)

theorem e_eqIntS_l0 (a b : List Int) (hl : a.length ≤ 2000000) (hab : a.length = b.length) : ∀ (d i k : Nat), i + d = a.length → d < k →
    laws_eqIntS.l0 k a b (i : Int) = some (decide (a.drop i = b.drop i)) := by
  intro d
  induction d with
  | zero =>
    intro i k hi' hk
    obtain ⟨k, rfl⟩ : ∃ m, k = m + 1 := ⟨k - 1, by omega⟩
    simp only [laws_eqIntS.l0]; rw [if_neg (by omega), List.drop_eq_nil_of_le (by omega), List.drop_eq_nil_of_le (by omega)]; simp
  | succ d ih =>
    intro i k hi' hk
    obtain ⟨k, rfl⟩ : ∃ m, k = m + 1 := ⟨k - 1, by omega⟩
    have hlt : i < a.length := by omega
    have hlt2 : i < b.length := by omega
    simp only [laws_eqIntS.l0]
    rw [if_pos (by omega), if_pos (by omega), if_pos (by omega), rd_nat a i hlt, rd_nat b i hlt2, List.drop_eq_getElem_cons hlt, List.drop_eq_getElem_cons hlt2, w64 (by omega) (by omega), show ((i : Int) + 1) = ((i + 1 : Nat) : Int) from by omega, ih (i + 1) k (by omega) (by omega)]
    by_cases h : a[i] = b[i]
    · rw [if_pos h]; simp only [List.cons.injEq, h, true_and]
    · rw [if_neg h]; simp only [List.cons.injEq, h, false_and, decide_false]
theorem e_eqIntS (k : Nat) (a b : List Int) (hl : a.length ≤ 2000000) (hk : a.length < k) : laws_eqIntS.f k a b = some (decide (a = b)) := by
  unfold laws_eqIntS.f
  by_cases h : (a.length : Int) = (b.length : Int)
  · rw [if_pos h]; exact e_eqIntS_l0 a b hl (by omega) a.length 0 k (by omega) hk
  · rw [if_neg h]; simp; intro hc; rw [hc] at h; exact h rfl
theorem e_eqIntS_self (k : Nat) (a : List Int) (hl : a.length ≤ 2000000) (hk : a.length < k) : laws_eqIntS.f k a a = some true := by
  rw [e_eqIntS k a a hl hk]; simp

theorem rdL (l : List (List Int)) (i : Nat) (h : i < l.length) : rd_L1 l (i : Int) = l[i] := by
  unfold rd_L1; simp [List.getD, h]

theorem e_eqIntSS_l0 (a : List (List Int)) (n : Nat) (hl : a.length ≤ 2000000) (hx : ∀ q ∈ a, q.length ≤ n) (hn : n ≤ 2000000) : ∀ (d i k : Nat), i + d = a.length → d + n < k → laws_eqIntSS.l0 k a a (i : Int) = some true := by
  intro d
  induction d with
  | zero =>
    intro i k hi hk
    obtain ⟨k, rfl⟩ : ∃ m, k = m + 1 := ⟨k - 1, by omega⟩
    simp only [laws_eqIntSS.l0]; rw [if_neg (by omega)]
  | succ d ih =>
    intro i k hi hk
    obtain ⟨k, rfl⟩ : ∃ m, k = m + 1 := ⟨k - 1, by omega⟩
    have hlt : i < a.length := by omega
    have hq := hx _ (List.getElem_mem hlt)
    simp only [laws_eqIntSS.l0]
    have h1 : (i : Int) < (a.length : Int) := by omega
    rw [if_pos h1, if_pos (show (0 : Int) ≤ (i : Int) by omega), if_pos h1, rdL a i hlt, e_eqIntS_self k _ (by omega) (by omega), Option.bind_some, if_pos rfl, w64 (by omega) (by omega), show ((i : Int) + 1) = ((i + 1 : Nat) : Int) from by omega]
    exact ih (i + 1) k (by omega) (by omega)
theorem e_eqIntSS_self (k n : Nat) (a : List (List Int)) (hl : a.length ≤ 2000000) (hx : ∀ q ∈ a, q.length ≤ n) (hn : n ≤ 2000000) (hk : a.length + n < k) : laws_eqIntSS.f k a a = some true := by
  unfold laws_eqIntSS.f
  rw [if_pos rfl]
  exact e_eqIntSS_l0 a n hl hx hn a.length 0 k (by omega) hk

/-- The numbers from a on, n of them. -/
def marks : Int → Nat → List Int
  | _, 0 => []
  | a, n + 1 => a :: marks (a + 1) n
theorem marks_length : ∀ (n : Nat) (a : Int), (marks a n).length = n
  | 0, _ => rfl
  | n + 1, a => by simp [marks, marks_length n]
theorem marks_get : ∀ (n : Nat) (a : Int) (i : Nat) (h : i < (marks a n).length), (marks a n)[i] = a + i
  | 0, _, i, h => by simp [marks] at h
  | n + 1, a, 0, h => by simp [marks]
  | n + 1, a, i + 1, h => by
    simp only [marks, List.getElem_cons_succ]
    rw [marks_get n (a + 1) i]; omega

theorem e_markIntS_l0 (n : Nat) (hn : n ≤ 2000000) : ∀ (d i k : Nat) (l : List Int) (a : Int), l.length = n → i + d = n → d < k → 0 ≤ a → a + d ≤ 1000000000 →
    laws_markIntS.l0 k l a (i : Int) = some (a + d, l.take i ++ marks a d) := by
  intro d
  induction d with
  | zero =>
    intro i k l a hl hi hk h0 h1
    obtain ⟨k, rfl⟩ : ∃ m, k = m + 1 := ⟨k - 1, by omega⟩
    simp only [laws_markIntS.l0]; rw [if_neg (by omega), List.take_of_length_le (by omega)]; simp [marks]
  | succ d ih =>
    intro i k l a hl hi hk h0 h1
    obtain ⟨k, rfl⟩ : ∃ m, k = m + 1 := ⟨k - 1, by omega⟩
    have hlt : i < l.length := by omega
    simp only [laws_markIntS.l0]
    rw [if_pos (by omega), if_pos (by omega), w64 (by omega) (by omega), w64 (by omega) (by omega), show ((i : Int) + 1) = ((i + 1 : Nat) : Int) from by omega]
    rw [ih (i + 1) k _ (a + 1) (by simpa using hl) (by omega) (by omega) (by omega) (by omega)]
    rw [Int.toNat_natCast, List.take_succ_eq_append_getElem (by simpa using hlt)]
    simp only [List.getElem_set_self, List.take_set_of_le (Nat.le_refl i), List.append_assoc, List.singleton_append, marks]
    congr 2; omega
theorem e_markIntS (k : Nat) (l : List Int) (a : Int) (hl : l.length ≤ 2000000) (hk : l.length < k) (h0 : 0 ≤ a) (h1 : a + l.length ≤ 1000000000) : laws_markIntS.f k l a = some (a + l.length, marks a l.length) := by
  unfold laws_markIntS.f
  have := e_markIntS_l0 l.length hl l.length 0 k l a rfl (by omega) hk h0 h1
  simpa using this

theorem e_heldIntS_l0 (b : Int) (n : Nat) (hn : n ≤ 2000000) (hb : 0 ≤ b) (hbn : b + n ≤ 1000000000) : ∀ (d i k : Nat), i + d = n → d < k →
    laws_heldIntS.l0 k (marks b n) (b + i) (i : Int) = some (b + n) := by
  intro d
  induction d with
  | zero =>
    intro i k hi hk
    obtain ⟨k, rfl⟩ : ∃ m, k = m + 1 := ⟨k - 1, by omega⟩
    simp only [laws_heldIntS.l0, marks_length]; rw [if_neg (by omega)]; congr 1; omega
  | succ d ih =>
    intro i k hi hk
    obtain ⟨k, rfl⟩ : ∃ m, k = m + 1 := ⟨k - 1, by omega⟩
    have hlt : i < (marks b n).length := by rw [marks_length]; omega
    simp only [laws_heldIntS.l0]
    rw [rd_nat _ i hlt, marks_get n b i hlt]
    simp only [marks_length]
    rw [if_pos (by omega), if_pos (by omega), if_pos trivial, w64 (by omega) (by omega), w64 (by omega) (by omega), show ((i : Int) + 1) = ((i + 1 : Nat) : Int) from by omega, show b + (i : Int) + 1 = b + ((i + 1 : Nat) : Int) from by omega]
    exact ih (i + 1) k (by omega) (by omega)
theorem e_heldIntS (k : Nat) (n : Nat) (b : Int) (hn : n ≤ 2000000) (hk : n < k) (hb : 0 ≤ b) (hbn : b + n ≤ 1000000000) : laws_heldIntS.f k (marks b n) b = some (b + n) := by
  unfold laws_heldIntS.f
  have := e_heldIntS_l0 b n hn hb hbn n 0 k (by omega) hk
  simpa using this

def marksSS : Int → List (List Int) → List (List Int)
  | _, [] => []
  | a, q :: t => marks a q.length :: marksSS (a + q.length) t
def totL : List (List Int) → Nat
  | [] => 0
  | q :: t => q.length + totL t
theorem totL_le (n : Nat) : ∀ l : List (List Int), (∀ q ∈ l, q.length ≤ n) → totL l ≤ l.length * n
  | [], _ => by simp [totL]
  | q :: t, h => by
    have h1 := h q (by simp)
    have h2 := totL_le n t (fun x hx => h x (by simp [hx]))
    rw [totL, List.length_cons, Nat.succ_mul]; omega
theorem e_mSS (k n : Nat) (hn : n ≤ 2000000) (hk : n < k) : ∀ (l : List (List Int)) (a : Int), (∀ q ∈ l, q.length ≤ n) → 0 ≤ a → a + totL l ≤ 1000000000 → mSS k l a = some (a + totL l, marksSS a l)
  | [], a, _, _, _ => by simp [mSS, totL, marksSS]
  | q :: t, a, h, h0, h1 => by
    have hq := h q (by simp)
    have ht : totL (q :: t) = q.length + totL t := rfl
    rw [mSS, e_markIntS k q a (by omega) (by omega) h0 (by omega), Option.bind_some]
    simp only
    rw [e_mSS k n hn hk t (a + q.length) (fun x hx => h x (by simp [hx])) (by omega) (by omega), Option.bind_some, ht, marksSS]
    congr 2
    omega
theorem e_markIntSS (k n : Nat) (hn : n ≤ 2000000) (hk : n < k) (l : List (List Int)) (a : Int) (hl : l.length ≤ 2000000) (h : ∀ q ∈ l, q.length ≤ n) (h0 : 0 ≤ a) (h1 : a + totL l ≤ 1000000000) : laws_markIntSS.f k l a = some (a + totL l, marksSS a l) := by
  unfold laws_markIntSS.f
  rw [if_pos hl, e_mSS k n hn hk l a h h0 h1]
theorem e_heldIntSS_l0 (n : Nat) (hn : n ≤ 2000000) : ∀ (t pre : List (List Int)) (a : Int) (k : Nat), (∀ q ∈ t, q.length ≤ n) → pre.length + t.length ≤ 2000000 → t.length + n < k → 0 ≤ a → a + totL t ≤ 1000000000 →
    laws_heldIntSS.l0 k (pre ++ marksSS a t) a (pre.length : Int) = some (a + totL t)
  | [], pre, a, k, _, _, hk, _, _ => by
    obtain ⟨k, rfl⟩ : ∃ m, k = m + 1 := ⟨k - 1, by omega⟩
    simp only [laws_heldIntSS.l0, marksSS, List.append_nil]
    rw [if_neg (by omega)]; simp [totL]
  | q :: t, pre, a, k, h, hl, hk, h0, h1 => by
    obtain ⟨k, rfl⟩ : ∃ m, k = m + 1 := ⟨k - 1, by omega⟩
    have hq := h q (by simp)
    have ht : totL (q :: t) = q.length + totL t := rfl
    simp only [List.length_cons] at hk hl
    have hL : (pre ++ marksSS a (q :: t)).length = pre.length + (marksSS (a + q.length) t).length + 1 := by simp [marksSS]; omega
    simp only [laws_heldIntSS.l0]
    rw [if_pos (by omega), if_pos (by omega), rdL _ pre.length (by omega)]
    have hg : (pre ++ marksSS a (q :: t))[pre.length]'(by omega) = marks a q.length := by simp [marksSS]
    rw [hg, e_heldIntS k q.length a (by omega) (by omega) h0 (by omega), Option.bind_some, if_neg (by omega), w64 (by omega) (by omega)]
    have := e_heldIntSS_l0 n hn t (pre ++ [marks a q.length]) (a + q.length) k (fun x hx => h x (by simp [hx])) (by simp; omega) (by omega) (by omega) (by omega)
    rw [List.length_append, List.length_singleton, List.append_assoc] at this
    rw [show ((pre.length : Int) + 1) = ((pre.length + 1 : Nat) : Int) from by omega]
    have e : pre ++ marksSS a (q :: t) = pre ++ ([marks a q.length] ++ marksSS (a + q.length) t) := by simp [marksSS]
    rw [e, this, ht]
    congr 1; omega
theorem e_heldIntSS (k n : Nat) (hn : n ≤ 2000000) (l : List (List Int)) (a : Int) (hl : l.length ≤ 2000000) (h : ∀ q ∈ l, q.length ≤ n) (hk : l.length + n < k) (h0 : 0 ≤ a) (h1 : a + totL l ≤ 1000000000) : laws_heldIntSS.f k (marksSS a l) a = some (a + totL l) := by
  unfold laws_heldIntSS.f
  have := e_heldIntSS_l0 n hn l [] a k h (by simpa using hl) hk h0 h1
  simpa using this

/-- A list does not fall. -/
def up : List Int → Prop
  | [] => True
  | [_] => True
  | a :: b :: r => a ≤ b ∧ up (b :: r)
instance upDec : ∀ l, Decidable (up l)
  | [] => .isTrue trivial
  | [_] => .isTrue trivial
  | a :: b :: r => by unfold up; have := upDec (b :: r); exact inferInstance

def Good (l : List Int) : Prop := (1 ≤ (l.length : Int) ∧ (l.length : Int) ≤ 6) ∧ (∀ x ∈ l, 0 ≤ x ∧ x ≤ (l.length : Int)) ∧ up l
instance (l : List Int) : Decidable (Good l) := by unfold Good; exact inferInstance

theorem e_l1In (a b c : Int) : spec_l1In.f a b c = some (decide (b ≤ a ∧ a ≤ c)) := by
  unfold spec_l1In.f
  by_cases h : b ≤ a
  · rw [if_pos h]; simp [h]
  · rw [if_neg h]; simp [h]

theorem e_l1All_l0 (lo hi : Int) (l : List Int) (hl : l.length ≤ 2000000) : ∀ (d i k : Nat), i + d = l.length → d < k →
    spec_l1All.l0 k lo hi l (l.length : Int) (i : Int) = some (decide (∀ x ∈ l.drop i, lo ≤ x ∧ x ≤ hi)) := by
  intro d
  induction d with
  | zero =>
    intro i k hi' hk
    obtain ⟨k, rfl⟩ : ∃ m, k = m + 1 := ⟨k - 1, by omega⟩
    simp only [spec_l1All.l0]; rw [if_neg (by omega), List.drop_eq_nil_of_le (by omega)]; simp
  | succ d ih =>
    intro i k hi' hk
    obtain ⟨k, rfl⟩ : ∃ m, k = m + 1 := ⟨k - 1, by omega⟩
    have hlt : i < l.length := by omega
    simp only [spec_l1All.l0]
    rw [if_pos (by omega), if_pos (by omega), if_pos (by omega), e_l1In, rd_nat l i hlt, List.drop_eq_getElem_cons hlt, w64 (by omega) (by omega)]
    simp only [Option.bind_some, decide_eq_true_eq, List.forall_mem_cons]
    by_cases h : lo ≤ l[i] ∧ l[i] ≤ hi
    · rw [if_pos h]
      have := ih (i + 1) k (by omega) (by omega)
      rw [show ((i : Int) + 1) = ((i + 1 : Nat) : Int) from by omega, this]; simp [h]
    · rw [if_neg h]; simp [h]
theorem e_l1All (k : Nat) (l : List Int) (lo hi : Int) (hl : l.length ≤ 2000000) (hk : l.length < k) : spec_l1All.f k l lo hi = some (decide (∀ x ∈ l, lo ≤ x ∧ x ≤ hi)) := by
  unfold spec_l1All.f; exact e_l1All_l0 lo hi l hl l.length 0 k (by omega) hk

theorem e_boSide (a : Int) : spec_boSide.f a = some (decide (1 ≤ a ∧ a ≤ 6)) := by
  unfold spec_boSide.f; rw [e_l1In]; rfl

theorem e_feGood_l0 (l : List Int) (hl : l.length ≤ 2000000) : ∀ (d i k : Nat), i + 1 + d = l.length → d < k →
    spec_feGood.l0 k l ((i + 1 : Nat) : Int) = some (decide (up (l.drop i))) := by
  intro d
  induction d with
  | zero =>
    intro i k hi' hk
    obtain ⟨k, rfl⟩ : ∃ m, k = m + 1 := ⟨k - 1, by omega⟩
    simp only [spec_feGood.l0]; rw [if_neg (by omega), List.drop_eq_getElem_cons (by omega), List.drop_eq_nil_of_le (by omega)]; exact congrArg some (decide_eq_true trivial).symm
  | succ d ih =>
    intro i k hi' hk
    obtain ⟨k, rfl⟩ : ∃ m, k = m + 1 := ⟨k - 1, by omega⟩
    have hlt : i < l.length := by omega
    have hlt1 : i + 1 < l.length := by omega
    simp only [spec_feGood.l0]
    rw [w64 (x := ((i + 1 : Nat) : Int) - 1) (by omega) (by omega), if_pos (by omega), if_pos (by omega), if_pos (by omega), if_pos (by omega), rd_nat l (i + 1) hlt1,
      show ((i + 1 : Nat) : Int) - 1 = (i : Int) from by omega, rd_nat l i hlt, w64 (by omega) (by omega), show ((i + 1 : Nat) : Int) + 1 = ((i + 1 + 1 : Nat) : Int) from by omega, ih (i + 1) k (by omega) (by omega),
      List.drop_eq_getElem_cons hlt, List.drop_eq_getElem_cons hlt1]
    by_cases h : l[i + 1] < l[i]
    · rw [if_pos h]; simp only [up]; simp; intro h2; omega
    · rw [if_neg h]; simp only [up]; simp; intro; omega
theorem e_feGood (k : Nat) (l : List Int) (hl : l.length ≤ 2000000) (hk : l.length + 1 < k) : spec_feGood.f k l = some (decide (Good l)) := by
  unfold spec_feGood.f
  rw [e_boSide, e_l1All _ _ _ _ hl (by omega)]
  obtain ⟨k, rfl⟩ : ∃ m, k = m + 1 := ⟨k - 1, by omega⟩
  simp only [Option.bind_some, decide_eq_true_eq, spec_feGood.j0]
  by_cases h : 1 ≤ (l.length : Int) ∧ (l.length : Int) ≤ 6
  · rw [if_pos h]
    by_cases h2 : ∀ x ∈ l, 0 ≤ x ∧ x ≤ (l.length : Int)
    · have := e_feGood_l0 l hl (l.length - 1) 0 k (by omega) (by omega)
      rw [show ((0 + 1 : Nat) : Int) = 1 from rfl] at this
      simp only [decide_eq_true h2, Bool.not_true, Bool.false_eq_true, if_false]
      rw [this]; simp only [Good]; simp [h]; exact fun _ => h2
    · simp only [decide_eq_false h2, Bool.not_false, if_true]; simp only [Good]; simp [h2]
  · rw [if_neg h]; simp only [Good]; simp [h]

theorem e_Less (a b : Int) : cmp_Less_int.f a b = some (decide (a < b)) := by
  unfold cmp_Less_int.f; rw [show cmp_isNaN_int.f a = some false from by unfold cmp_isNaN_int.f; simp]; rfl
theorem up_take_succ (l : List Int) (i : Nat) (h : i + 1 < l.length) : up (l.drop i) ↔ l[i] ≤ l[i + 1] ∧ up (l.drop (i + 1)) := by
  rw [List.drop_eq_getElem_cons (by omega), List.drop_eq_getElem_cons h]; rfl
theorem not_up (l : List Int) (i : Nat) (hi : i + 1 < l.length) (h : l[i + 1] < l[i]) : ∀ (d j : Nat), j + d = i → ¬ up (l.drop j) := by
  intro d
  induction d with
  | zero =>
    intro j hj
    obtain rfl : j = i := hj
    rw [up_take_succ l j hi]; intro hc; omega
  | succ d ih => intro j hj; rw [up_take_succ l j (by omega)]; intro hc; exact ih (j + 1) (by omega) hc.2
theorem e_IsSorted_l0 (l : List Int) (hl : l.length ≤ 2000000) : ∀ (i k : Nat), i < l.length → i < k → up (l.drop i) →
    slices_IsSorted_int_int.l0 k l (i : Int) = some (decide (up l)) := by
  intro i
  induction i with
  | zero =>
    intro k hi' hk hu
    obtain ⟨k, rfl⟩ : ∃ m, k = m + 1 := ⟨k - 1, by omega⟩
    simp only [slices_IsSorted_int_int.l0]; rw [if_neg (by omega)]; rw [List.drop_zero] at hu; simp [hu]
  | succ i ih =>
    intro k hi' hk hu
    obtain ⟨k, rfl⟩ : ∃ m, k = m + 1 := ⟨k - 1, by omega⟩
    have hlt : i < l.length := by omega
    simp only [slices_IsSorted_int_int.l0]
    rw [w64 (x := ((i + 1 : Nat) : Int) - 1) (by omega) (by omega), if_pos (by omega), if_pos (by omega), if_pos (by omega), if_pos (by omega), if_pos (by omega), rd_nat l (i + 1) hi',
      show ((i + 1 : Nat) : Int) - 1 = (i : Int) from by omega, rd_nat l i hlt, e_Less]
    simp only [Option.bind_some, decide_eq_true_eq]
    by_cases h : l[i + 1] < l[i]
    · rw [if_pos h]
      have := not_up l i hi' h i 0 (by omega)
      rw [List.drop_zero] at this; simp [this]
    · rw [if_neg h]; exact ih k hlt (by omega) ((up_take_succ l i hi').2 ⟨by omega, hu⟩)
theorem e_IsSorted (k : Nat) (l : List Int) (hl : l.length ≤ 2000000) (h1 : 1 ≤ l.length) (hk : l.length < k) : slices_IsSorted_int_int.f k l = some (decide (up l)) := by
  unfold slices_IsSorted_int_int.f
  rw [w64 (by omega) (by omega), show (l.length : Int) - 1 = ((l.length - 1 : Nat) : Int) from by omega]
  refine e_IsSorted_l0 l hl (l.length - 1) k (by omega) (by omega) ?_
  rw [List.drop_eq_getElem_cons (by omega), List.drop_eq_nil_of_le (by omega)]; simp [up]

theorem up_ge (l : List Int) (h : up l) : ∀ x ∈ l, ∀ a r, l = a :: r → a ≤ x := by
  induction l with
  | nil => intro x hx; cases hx
  | cons a r ih =>
    intro x hx a' r' he
    injection he with h1 h2
    subst h1; subst h2
    rcases List.mem_cons.1 hx with rfl | hx
    · omega
    · cases r with
      | nil => cases hx
      | cons b r => have := ih h.2 x hx b r rfl; have := h.1; omega
theorem up_le (l : List Int) (h : up l) : ∀ x ∈ l, ∀ y, l.getLast? = some y → x ≤ y := by
  induction l with
  | nil => intro x hx; cases hx
  | cons a r ih =>
    intro x hx y hy
    cases r with
    | nil => simp at hx hy; omega
    | cons b r =>
      have hy2 : (b :: r).getLast? = some y := by simpa using hy
      rcases List.mem_cons.1 hx with rfl | hx
      · have := ih h.2 b (by simp) y hy2; have := h.1; omega
      · exact ih h.2 x hx y hy2

theorem e_within (a b c : Int) : impl_within.f a b c = some (decide (b ≤ a ∧ a ≤ c)) := by
  unfold impl_within.f
  by_cases h : b ≤ a
  · rw [if_pos h]; simp [h]
  · rw [if_neg h]; simp [h]

theorem e_isSide (a : Int) : impl_isSide.f a = some (decide (1 ≤ a ∧ a ≤ 6)) := by
  unfold impl_isSide.f; rw [e_within]; rfl

theorem i_AreLengths (k : Nat) (l : List Int) (hl : l.length ≤ 2000000) (hk : l.length < k) : impl_AreLengths.f k l = some (decide (Good l)) := by
  unfold impl_AreLengths.f
  rw [e_isSide]
  simp only [Option.bind_some, decide_eq_true_eq]
  by_cases h : 1 ≤ (l.length : Int) ∧ (l.length : Int) ≤ 6
  · rw [if_pos h, e_IsSorted k l hl (by omega) hk]
    simp only [Option.bind_some, decide_eq_true_eq]
    by_cases hu : up l
    · rw [if_pos hu, if_pos (by omega), e_within, w64 (by omega) (by omega), if_pos (by omega), if_pos (by omega), e_within]
      simp only [Option.bind_some, decide_eq_true_eq]
      have hne : 0 < l.length := by omega
      have r0 : rd l 0 = l[0] := rd_nat l 0 hne
      rw [r0]
      have r1 : rd l ((l.length : Int) - 1) = l[l.length - 1] := by
        rw [show (l.length : Int) - 1 = ((l.length - 1 : Nat) : Int) from by omega]; exact rd_nat l _ (by omega)
      rw [r1]
      have key : Good l ↔ ((0 : Int) ≤ l[0] ∧ l[0] ≤ (l.length : Int)) ∧ (0 ≤ l[l.length - 1] ∧ l[l.length - 1] ≤ (l.length : Int)) := by
        constructor
        · intro g; exact ⟨g.2.1 _ (List.getElem_mem _), g.2.1 _ (List.getElem_mem _)⟩
        · intro g
          refine ⟨h, fun x hx => ?_, hu⟩
          have a1 := up_ge l hu x hx l[0] (l.drop 1) (by rw [← List.drop_eq_getElem_cons hne]; rfl)
          have a2 := up_le l hu x hx l[l.length - 1] (by rw [List.getLast?_eq_getElem?]; simp)
          omega
      by_cases g0 : (0 : Int) ≤ l[0] ∧ l[0] ≤ (l.length : Int)
      · rw [if_pos g0]; simp only [Option.some.injEq, decide_eq_decide]; rw [key]; simp [g0]
      · rw [if_neg g0]; simp only [Option.some.injEq]; symm; rw [decide_eq_false_iff_not, key]; intro hc; exact g0 hc.1
    · rw [if_neg hu]; simp [Good, hu]
  · rw [if_neg h]; simp [Good, h]

theorem rd_set (l : List Int) (i : Nat) (v : Int) (j : Nat) (h : i < l.length) : rd (l.set i v) (j : Int) = if i = j then v else rd l (j : Int) := by
  unfold rd
  simp only [List.getD, Int.toNat_natCast, List.getElem?_set]
  by_cases hij : i = j
  · subst hij; simp [h]
  · simp [hij]
theorem rd_ext (a b : List Int) (hl : a.length = b.length) (h : ∀ j : Nat, j < a.length → rd a (j : Int) = rd b (j : Int)) : a = b := by
  refine List.ext_getElem hl ?_
  intro i h1 h2
  have := h i h1
  rwa [rd_nat a i h1, rd_nat b i h2] at this

theorem up_get : ∀ (l : List Int), up l → ∀ i j (hi : i < l.length) (hj : j < l.length), i ≤ j → l[i] ≤ l[j]
  | [], _, i, j, hi, _, _ => by simp at hi
  | [a], _, i, j, hi, hj, _ => by
    simp at hi hj; subst hi; subst hj; exact Int.le_refl _
  | a :: b :: r, h, 0, j, hi, hj, _ => up_ge (a :: b :: r) h _ (List.getElem_mem _) a (b :: r) rfl
  | a :: b :: r, h, i + 1, j, hi, hj, hij => by
    obtain ⟨j, rfl⟩ : ∃ m, j = m + 1 := ⟨j - 1, by omega⟩
    simp only [List.getElem_cons_succ]
    exact up_get (b :: r) h.2 i j (by simp at hi ⊢; omega) (by simp at hj ⊢; omega) (by omega)

/-- A number put into a list, behind what is not greater. -/
def insI (x : Int) : List Int → List Int
  | [] => [x]
  | a :: t => if a ≤ x then a :: insI x t else x :: a :: t
theorem insI_len (x : Int) : ∀ l, (insI x l).length = l.length + 1
  | [] => rfl
  | a :: t => by
    simp only [insI]
    split
    · simp [insI_len x t]
    · simp
theorem insI_mem (x : Int) : ∀ l y, y ∈ insI x l ↔ y = x ∨ y ∈ l
  | [], y => by simp [insI]
  | a :: t, y => by
    simp only [insI]
    split
    · simp only [List.mem_cons, insI_mem x t y]
      constructor
      · rintro (h | h | h) <;> simp [h]
      · rintro (h | h | h) <;> simp [h]
    · simp
theorem insI_gt (x p : Int) (h : x < p) : ∀ P : List Int, insI x (P ++ [p]) = insI x P ++ [p]
  | [] => by simp [insI, show ¬ p ≤ x by omega]
  | a :: P => by
    simp only [List.cons_append, insI]
    split
    · rw [insI_gt x p h P]; rfl
    · rfl
theorem insI_le (x : Int) : ∀ P : List Int, (∀ y ∈ P, y ≤ x) → insI x P = P ++ [x]
  | [], _ => rfl
  | a :: P, h => by
    simp only [insI, if_pos (h a (by simp)), List.cons_append]
    rw [insI_le x P (fun y hy => h y (by simp [hy]))]
theorem up_cons (a : Int) (l : List Int) (hl : up l) (h : ∀ y ∈ l, a ≤ y) : up (a :: l) := by
  cases l with
  | nil => trivial
  | cons b r => exact ⟨h b (by simp), hl⟩
theorem up_tail (a : Int) (l : List Int) (h : up (a :: l)) : up l := by
  cases l with
  | nil => trivial
  | cons b r => exact h.2
theorem insI_up (x : Int) : ∀ l, up l → up (insI x l)
  | [], _ => trivial
  | a :: t, h => by
    simp only [insI]
    split
    case isTrue hx =>
      refine up_cons a _ (insI_up x t (up_tail a t h)) ?_
      intro y hy
      rcases (insI_mem x t y).1 hy with rfl | hy
      · exact hx
      · exact up_ge (a :: t) h y (by simp [hy]) a t rfl
    case isFalse hx => exact ⟨by omega, h⟩
def isortI (l : List Int) : List Int := l.foldl (fun acc x => insI x acc) []
theorem isortI_snoc (l : List Int) (x : Int) : isortI (l ++ [x]) = insI x (isortI l) := by simp [isortI]
theorem isortI_len_aux : ∀ (l acc : List Int), (l.foldl (fun acc x => insI x acc) acc).length = acc.length + l.length
  | [], acc => by simp
  | x :: l, acc => by simp only [List.foldl_cons, isortI_len_aux l, insI_len, List.length_cons]; omega
theorem isortI_len (l : List Int) : (isortI l).length = l.length := by unfold isortI; rw [isortI_len_aux]; simp
theorem isortI_up_aux : ∀ (l acc : List Int), up acc → up (l.foldl (fun acc x => insI x acc) acc)
  | [], acc, h => h
  | x :: l, acc, h => by simp only [List.foldl_cons]; exact isortI_up_aux l _ (insI_up x acc h)
theorem isortI_up (l : List Int) : up (isortI l) := isortI_up_aux l [] trivial
theorem less_int (a b : Int) : cmp_Less_int.f a b = some (decide (a < b)) := by
  unfold cmp_Less_int.f cmp_isNaN_int.f
  simp
theorem rd_mid (P S : List Int) (x : Int) : rd (P ++ x :: S) (P.length : Int) = x := by
  rw [rd_nat _ _ (by simp)]; simp
theorem rd_mid1 (P S : List Int) (p x : Int) : rd (P ++ p :: x :: S) (P.length : Int) = p := rd_mid P (x :: S) p
theorem set_mid (P S : List Int) (p x : Int) : ((P ++ p :: x :: S).set (P.length + 1) p).set P.length x = P ++ x :: p :: S := by
  rw [List.set_append_right _ _ (by omega)]
  simp
theorem sort_l1 (n : Int) (i K : Nat) (hi : i ≤ 100) (R : List Int) : ∀ (m : Nat) (P S : List Int) (x : Int) (k : Nat), P.length = m → up P → (P ++ x :: S).length ≤ 100 → K + (m + 1) ≤ k → (∀ k', K ≤ k' → slices_insertionSortOrdered_int.l0 k' (insI x P ++ S) 0 n ((i + 1 : Nat) : Int) = some R) → slices_insertionSortOrdered_int.l1 k (P ++ x :: S) 0 n (i : Int) (P.length : Int) = some R
  | 0, P, S, x, k, hP, _, _, hk, hR => by
    obtain rfl := List.eq_nil_of_length_eq_zero hP
    obtain ⟨k, rfl⟩ : ∃ m, k = m + 1 := ⟨k - 1, by omega⟩
    rw [slices_insertionSortOrdered_int.l1, if_neg (by simp), w64 (by omega) (by omega), show ((i : Int) + 1) = ((i + 1 : Nat) : Int) from by omega]
    exact hR k (by omega)
  | m + 1, P, S, x, k, hP, hup, hlen, hk, hR => by
    obtain ⟨k, rfl⟩ : ∃ m, k = m + 1 := ⟨k - 1, by omega⟩
    have hne : P ≠ [] := by rintro rfl; simp at hP
    obtain ⟨Q, p, rfl⟩ : ∃ Q p, P = Q ++ [p] := ⟨P.dropLast, P.getLast hne, (List.dropLast_concat_getLast hne).symm⟩
    have hQ : Q.length = m := by simpa using hP
    have hl2 : (Q ++ [p]).length = m + 1 := hP
    rw [hl2]
    have hL : (Q ++ [p]) ++ x :: S = Q ++ p :: x :: S := by simp
    rw [hL] at hlen ⊢
    have hlL : (Q ++ p :: x :: S).length = m + 2 + S.length := by simp; omega
    have e1 : wrap64 (((m + 1 : Nat) : Int) - 1) = (m : Int) := by rw [w64 (by omega) (by omega)]; omega
    have c1 : ((m + 1 : Nat) : Int) > 0 := by omega
    have c2 : 0 ≤ ((m + 1 : Nat) : Int) := by omega
    have c3 : ((m + 1 : Nat) : Int) < ((Q ++ p :: x :: S).length : Int) := by omega
    have c4 : 0 ≤ (m : Int) := by omega
    have c5 : (m : Int) < ((Q ++ p :: x :: S).length : Int) := by omega
    have r1 : rd (Q ++ p :: x :: S) ((m + 1 : Nat) : Int) = x := by
      have := rd_mid (Q ++ [p]) S x
      rw [hl2, hL] at this; exact this
    have r0 : rd (Q ++ p :: x :: S) (m : Int) = p := by
      have := rd_mid1 Q S p x
      rwa [hQ] at this
    rw [slices_insertionSortOrdered_int.l1, e1, if_pos c1, if_pos c2, if_pos c3, if_pos c4, if_pos c5, r1, r0, less_int, Option.bind_some]
    by_cases hx : x < p
    · rw [if_pos (decide_eq_true hx), Int.toNat_natCast, Int.toNat_natCast]
      have hs := set_mid Q S p x
      rw [hQ] at hs
      rw [hs]
      have := sort_l1 n i K hi R m Q (p :: S) x k hQ ?_ (by simp at hlen ⊢; omega) (by omega) ?_
      · rwa [hQ] at this
      · have : ∀ (Q : List Int), up (Q ++ [p]) → up Q := by
          intro Q
          induction Q with
          | nil => intro _; trivial
          | cons a Q ih =>
            intro h
            refine up_cons a Q (ih (up_tail a _ h)) ?_
            intro y hy
            exact up_ge (a :: (Q ++ [p])) h y (by simp [hy]) a _ rfl
        exact this Q hup
      · intro k' hk'
        have := hR k' hk'
        rw [insI_gt x p hx Q] at this
        simpa using this
    · rw [if_neg (by simpa using hx), w64 (by omega) (by omega), show ((i : Int) + 1) = ((i + 1 : Nat) : Int) from by omega]
      have := hR k (by omega)
      rw [insI_le x (Q ++ [p]) ?_] at this
      · simpa using this
      · intro y hy
        have : y ≤ p := up_le (Q ++ [p]) hup y hy p (by simp)
        omega
theorem sort_l0 (l : List Int) (hl : l.length ≤ 12) : ∀ (d i k : Nat), i + d = l.length → 20 * d + 1 ≤ k → slices_insertionSortOrdered_int.l0 k (isortI (l.take i) ++ l.drop i) 0 (l.length : Int) (i : Int) = some (isortI l)
  | 0, i, k, hi, hk => by
    obtain ⟨k, rfl⟩ : ∃ m, k = m + 1 := ⟨k - 1, by omega⟩
    rw [slices_insertionSortOrdered_int.l0, if_neg (by omega), List.take_of_length_le (by omega), List.drop_eq_nil_of_le (by omega)]; simp
  | d + 1, i, k, hi, hk => by
    obtain ⟨k, rfl⟩ : ∃ m, k = m + 1 := ⟨k - 1, by omega⟩
    have hlt : i < l.length := by omega
    have hpl : (isortI (l.take i)).length = i := by rw [isortI_len, List.length_take]; omega
    rw [slices_insertionSortOrdered_int.l0, if_pos (by omega), List.drop_eq_getElem_cons hlt]
    have := sort_l1 (l.length : Int) i (20 * d + 1) (by omega) (isortI l) i (isortI (l.take i)) (l.drop (i + 1)) l[i] k hpl (isortI_up _) (by simp [hpl]; omega) (by omega) ?_
    · rwa [hpl] at this
    · intro k' hk'
      rw [← isortI_snoc, ← List.take_succ_eq_append_getElem hlt]
      exact sort_l0 l hl d (i + 1) k' (by omega) hk'
theorem i_Sort (k : Nat) (l : List Int) (hl : l.length ≤ 12) (hk : 1000 ≤ k) : slices_Sort_int_int.f k l = some (isortI l) := by
  unfold slices_Sort_int_int.f bits_Len.f bits_Len64.f slices_pdqsortOrdered_int.f slices_insertionSortOrdered_int.f
  have e : IntKind.u64.wrap (l.length : Int) = (l.length : Int) := by
    have : ∀ n : Fin 13, IntKind.u64.wrap (n.val : Int) = (n.val : Int) := by decide +kernel
    exact this ⟨l.length, by omega⟩
  rw [e, if_pos (by omega), Option.bind_some, Option.bind_some, w64 (x := (l.length : Int) - 0) (by omega) (by omega), if_pos (by omega), show wrap64 (0 + 1) = ((1 : Nat) : Int) from by decide +kernel]
  by_cases h0 : l.length = 0
  · obtain rfl := List.eq_nil_of_length_eq_zero h0
    obtain ⟨k, rfl⟩ : ∃ m, k = m + 1 := ⟨k - 1, by omega⟩
    rw [slices_insertionSortOrdered_int.l0, if_neg (by simp)]; rfl
  · have := sort_l0 l hl (l.length - 1) 1 k (by omega) (by omega)
    have e2 : isortI (l.take 1) ++ l.drop 1 = l := by
      cases l with
      | nil => simp at h0
      | cons a t => simp [isortI, insI]
    rw [e2] at this
    rw [this]; rfl

theorem e_l1OwnF (l : List Int) (hl : l.length ≤ 1000) : spec_l1Own.f l = some l := by
  unfold spec_l1Own.f
  rw [Option.bind_some, if_pos (by simp; omega)]; rfl
theorem feS_l1 (v : List Int) (n : Int) (i K : Nat) (hi : i ≤ 100) (x : Int) (R : List Int) : ∀ (Q P : List Int) (k : Nat), (P ++ Q).length ≤ 100 → (∀ y ∈ P, y ≤ x) → K + (Q.length + 1) ≤ k → (∀ k', K ≤ k' → spec_feSorted.l0 k' (P ++ insI x Q) v n ((i + 1 : Nat) : Int) = some R) → spec_feSorted.l1 k (P ++ Q) x (P.length : Int) v n (i : Int) = some R
  | [], P, k, hl, hP, hk, hR => by
    obtain ⟨k, rfl⟩ : ∃ m, k = m + 1 := ⟨k - 1, by omega⟩
    simp only [List.append_nil] at hl ⊢
    have c1 : ¬ (P.length : Int) < (P.length : Int) := by omega
    have c2 : 0 ≤ (P.length : Int) := by omega
    have c3 : (P.length : Int) ≤ (P.length : Int) := by omega
    rw [spec_feSorted.l1, if_neg c1, if_pos c2, if_pos c3, Int.toNat_natCast, List.take_length, List.drop_length, e_l1OwnF P (by omega), Option.bind_some, if_pos (by omega), Option.bind_some, Option.bind_some, if_pos (by simp; omega), w64 (by omega) (by omega), show ((i : Int) + 1) = ((i + 1 : Nat) : Int) from by omega]
    have := hR k (by simp at hk; omega)
    simpa [insI] using this
  | a :: Q, P, k, hl, hP, hk, hR => by
    obtain ⟨k, rfl⟩ : ∃ m, k = m + 1 := ⟨k - 1, by omega⟩
    simp only [List.length_append, List.length_cons] at hl
    simp only [List.length_cons] at hk
    have hL : (P ++ a :: Q).length = P.length + Q.length + 1 := by simp; omega
    have c1 : (P.length : Int) < ((P ++ a :: Q).length : Int) := by omega
    have c2 : 0 ≤ (P.length : Int) := by omega
    have c3 : (P.length : Int) ≤ ((P ++ a :: Q).length : Int) := by omega
    rw [spec_feSorted.l1, if_pos c1, if_pos c2, rd_mid]
    by_cases h : a ≤ x
    · rw [if_pos h, w64 (by omega) (by omega)]
      have := feS_l1 v n i K hi x R Q (P ++ [a]) k (by simp; omega) (by
        intro y hy
        rcases List.mem_append.1 hy with hy | hy
        · exact hP y hy
        · simp at hy; rw [hy]; exact h) (by omega) (by
        intro k' hk'
        have := hR k' hk'
        simp only [insI, if_pos h] at this
        simpa using this)
      simpa using this
    · rw [if_neg h, if_pos c3, Int.toNat_natCast, List.take_left, List.drop_left, e_l1OwnF P (by omega), Option.bind_some, if_pos (by omega), Option.bind_some, Option.bind_some, if_pos (by simp; omega), w64 (by omega) (by omega), show ((i : Int) + 1) = ((i + 1 : Nat) : Int) from by omega]
      have := hR k (by omega)
      simp only [insI, if_neg h] at this
      simpa using this
theorem feS_l0 (v : List Int) (hv : v.length ≤ 12) : ∀ (d i k : Nat), i + d = v.length → 20 * d + 1 ≤ k → spec_feSorted.l0 k (isortI (v.take i)) v (v.length : Int) (i : Int) = some (isortI v)
  | 0, i, k, hi, hk => by
    obtain ⟨k, rfl⟩ : ∃ m, k = m + 1 := ⟨k - 1, by omega⟩
    rw [spec_feSorted.l0, if_neg (by omega), List.take_of_length_le (by omega)]
  | d + 1, i, k, hi, hk => by
    obtain ⟨k, rfl⟩ : ∃ m, k = m + 1 := ⟨k - 1, by omega⟩
    have hlt : i < v.length := by omega
    have hpl : (isortI (v.take i)).length = i := by rw [isortI_len, List.length_take]; omega
    rw [spec_feSorted.l0, if_pos (by omega), if_pos (by omega), if_pos (by omega), rd_nat v i hlt]
    have := feS_l1 v (v.length : Int) i (20 * d + 1) (by omega) v[i] (isortI v) (isortI (v.take i)) [] k (by simp [hpl]; omega) (by simp) (by omega) (by
      intro k' hk'
      rw [List.nil_append, ← isortI_snoc, ← List.take_succ_eq_append_getElem hlt]
      exact feS_l0 v hv d (i + 1) k' (by omega) hk')
    simpa using this
theorem e_feSorted (k : Nat) (v : List Int) (hv : v.length ≤ 12) (hk : 1000 ≤ k) : spec_feSorted.f k v = some (isortI v) := by
  unfold spec_feSorted.f
  exact feS_l0 v hv v.length 0 k (by omega) (by omega)
/-- Numbers less their places. -/
def lessI : List Int → Int → List Int
  | [], _ => []
  | x :: t, i => (x - i) :: lessI t (i + 1)
theorem lessI_len : ∀ (l : List Int) (i : Int), (lessI l i).length = l.length
  | [], _ => rfl
  | x :: t, i => by simp [lessI, lessI_len t]
theorem feF_l0 (l : List Int) (hl : l.length ≤ 6) (hx : ∀ x ∈ l, 0 ≤ x ∧ x ≤ 6) : ∀ (d i k : Nat) (acc : List Int), i + d = l.length → acc.length = i → 1000 + d + 1 ≤ k → spec_feFactors.l0 k acc l (l.length : Int) (i : Int) = some (isortI (acc ++ lessI (l.drop i) (i : Int)))
  | 0, i, k, acc, hi, ha, hk => by
    obtain ⟨k, rfl⟩ : ∃ m, k = m + 1 := ⟨k - 1, by omega⟩
    rw [spec_feFactors.l0, if_neg (by omega), e_feSorted k acc (by omega) (by omega), List.drop_eq_nil_of_le (by omega)]
    simp [lessI]
  | d + 1, i, k, acc, hi, ha, hk => by
    obtain ⟨k, rfl⟩ : ∃ m, k = m + 1 := ⟨k - 1, by omega⟩
    have hlt : i < l.length := by omega
    have hm := hx l[i] (List.getElem_mem _)
    rw [spec_feFactors.l0, if_pos (by omega), if_pos (by omega), if_pos (by omega), if_pos (by omega), rd_nat l i hlt, w64 (x := l[i] - (i : Int)) (by omega) (by omega), w64 (by omega) (by omega), show ((i : Int) + 1) = ((i + 1 : Nat) : Int) from by omega, feF_l0 l hl hx d (i + 1) k _ (by omega) (by simp [ha]) (by omega), List.drop_eq_getElem_cons hlt]
    simp only [lessI, List.append_assoc, List.singleton_append]
    rfl
theorem iF_l0 (l : List Int) (hl : l.length ≤ 6) (hx : ∀ x ∈ l, 0 ≤ x ∧ x ≤ 6) : ∀ (d i k : Nat) (acc : List Int), i + d = l.length → acc.length = i → 1000 + d + 1 ≤ k → impl_factors.l0 k acc l (l.length : Int) (i : Int) = some (isortI (acc ++ lessI (l.drop i) (i : Int)))
  | 0, i, k, acc, hi, ha, hk => by
    obtain ⟨k, rfl⟩ : ∃ m, k = m + 1 := ⟨k - 1, by omega⟩
    rw [impl_factors.l0, if_neg (by omega), i_Sort k acc (by omega) (by omega), List.drop_eq_nil_of_le (by omega)]
    simp [lessI]
  | d + 1, i, k, acc, hi, ha, hk => by
    obtain ⟨k, rfl⟩ : ∃ m, k = m + 1 := ⟨k - 1, by omega⟩
    have hlt : i < l.length := by omega
    have hm := hx l[i] (List.getElem_mem _)
    rw [impl_factors.l0, if_pos (by omega), if_pos (by omega), if_pos (by omega), if_pos (by omega), rd_nat l i hlt, w64 (x := l[i] - (i : Int)) (by omega) (by omega), w64 (by omega) (by omega), show ((i : Int) + 1) = ((i + 1 : Nat) : Int) from by omega, iF_l0 l hl hx d (i + 1) k _ (by omega) (by simp [ha]) (by omega), List.drop_eq_getElem_cons hlt]
    simp only [lessI, List.append_assoc, List.singleton_append]
    rfl
theorem good6 {l : List Int} (g : Good l) : l.length ≤ 6 ∧ ∀ x ∈ l, 0 ≤ x ∧ x ≤ 6 := by
  have h1 := g.1
  refine ⟨by omega, fun x hx => ?_⟩
  have := g.2.1 x hx
  omega
/-- The factors of lengths, in order. -/
def facL (l : List Int) : List Int := isortI (lessI l 0)
theorem facL_len (l : List Int) : (facL l).length = l.length := by unfold facL; rw [isortI_len, lessI_len]
theorem e_feFactors (k : Nat) (l : List Int) (g : Good l) (hk : 2000 ≤ k) : spec_feFactors.f k l = some (facL l) := by
  have h := good6 g
  unfold spec_feFactors.f
  exact feF_l0 l h.1 h.2 l.length 0 k [] (by omega) rfl (by omega)
theorem i_factors (k : Nat) (l : List Int) (g : Good l) (hk : 2000 ≤ k) : impl_factors.f k l = some (facL l) := by
  have h := good6 g
  unfold impl_factors.f
  exact iF_l0 l h.1 h.2 l.length 0 k [] (by omega) rfl (by omega)

/-- Is there a cell in the column c of a row m? -/
def cell (m c : Int) : Bool := decide (m / 2 ^ c.toNat % 2 = 1)
theorem fin_of (m : Int) (n : Nat) (h0 : 0 ≤ m) (h1 : m < n) : ∃ i : Fin n, m = (i.val : Int) := ⟨⟨m.toNat, by omega⟩, by simp; omega⟩
theorem cell_spec (m c : Int) (hm : 0 ≤ m ∧ m ≤ 63) (hc : 0 ≤ c ∧ c ≤ 6) : (Int.tmod (shr .i64 m c) 2 == 1) = cell m c := by
  have h : ∀ m : Fin 64, ∀ c : Fin 7, (Int.tmod (shr .i64 (m.val : Int) (c.val : Int)) 2 == 1) = cell (m.val : Int) (c.val : Int) := by decide +kernel
  obtain ⟨i, rfl⟩ := fin_of m 64 hm.1 (by omega)
  obtain ⟨j, rfl⟩ := fin_of c 7 hc.1 (by omega)
  exact h i j
theorem cell_impl (m c : Int) (hm : 0 ≤ m ∧ m ≤ 63) (hc : 0 ≤ c ∧ c ≤ 6) : (Go.bits .and .i64 (shr .i64 m c) 1 == 1) = cell m c := by
  have h : ∀ m : Fin 64, ∀ c : Fin 7, (Go.bits .and .i64 (shr .i64 (m.val : Int) (c.val : Int)) 1 == 1) = cell (m.val : Int) (c.val : Int) := by decide +kernel
  obtain ⟨i, rfl⟩ := fin_of m 64 hm.1 (by omega)
  obtain ⟨j, rfl⟩ := fin_of c 7 hc.1 (by omega)
  exact h i j
theorem pow_le (a : Int) (h : 1 ≤ a ∧ a ≤ 6) : 2 ≤ (2 : Int) ^ a.toNat ∧ (2 : Int) ^ a.toNat ≤ 64 := by
  obtain ⟨h0, h1⟩ := h
  obtain h | h | h | h | h | h : a = 1 ∨ a = 2 ∨ a = 3 ∨ a = 4 ∨ a = 5 ∨ a = 6 := by omega
  all_goals (subst h; decide +kernel)
theorem rd_mem (l : List Int) (i : Int) (h0 : 0 ≤ i) (h1 : i < l.length) : rd l i ∈ l := by
  obtain ⟨n, rfl⟩ := Int.eq_ofNat_of_zero_le h0
  rw [rd_nat l n (by omega)]; exact List.getElem_mem _

/-- The columns taken, with one more. -/
def orZ (taken : Int) (j : Nat) : Int := Go.bits .or .i64 taken (shl .i64 1 (j : Int))
/-- Numbers of rooks of all placements, in order: rows that are left, columns taken. -/
def Z (C : Nat) : List Int → Int → List Nat
  | [], _ => [0]
  | m :: t, taken => (List.range (C + 1)).flatMap fun i => if i = 0 then Z C t taken else if cell m ((i - 1 : Nat) : Int) && !cell taken ((i - 1 : Nat) : Int) then (Z C t (orZ taken (i - 1))).map (· + 1) else []
/-- How often each number below M stands. -/
def HZ (M : Nat) (z : List Nat) : List Int := (List.range M).map fun k => ((z.count k : Nat) : Int)
theorem HZ_len (M : Nat) (z : List Nat) : (HZ M z).length = M := by simp [HZ]
theorem HZ_rd (M : Nat) (z : List Nat) (i : Nat) (h : i < M) : rd (HZ M z) (i : Int) = ((z.count i : Nat) : Int) := by
  rw [rd_nat _ i (by rw [HZ_len]; exact h)]; simp [HZ]
/-- How many columns are free. -/
def frZ (C : Nat) (taken : Int) : Nat := ((List.range C).filter fun j : Nat => !cell taken (j : Int)).length
theorem orZ_ok (C : Nat) (taken : Int) (j : Nat) (hC : C ≤ 6) (h : 0 ≤ taken ∧ taken ≤ 63) (hj : j < C) (hf : cell taken (j : Int) = false) : (0 ≤ orZ taken j ∧ orZ taken j ≤ 63) ∧ frZ C (orZ taken j) + 1 ≤ frZ C taken := by
  have key : ∀ C : Fin 7, ∀ j : Fin 6, ∀ t : Fin 64, j.val < C.val → cell (t.val : Int) (j.val : Int) = false → (0 ≤ orZ (t.val : Int) j.val ∧ orZ (t.val : Int) j.val ≤ 63) ∧ frZ C.val (orZ (t.val : Int) j.val) + 1 ≤ frZ C.val (t.val : Int) := by decide +kernel
  obtain ⟨t, rfl⟩ := fin_of taken 64 h.1 (by omega)
  exact key ⟨C, by omega⟩ ⟨j, by omega⟩ t hj hf
theorem frZ_le (C : Nat) (taken : Int) : frZ C taken ≤ C := by
  unfold frZ
  exact Nat.le_trans (List.length_filter_le _ _) (by simp)
theorem Z_le (C : Nat) (hC : C ≤ 6) : ∀ (t : List Int) (taken : Int), 0 ≤ taken ∧ taken ≤ 63 → ∀ z ∈ Z C t taken, z ≤ t.length ∧ z ≤ frZ C taken
  | [], _, _, z, hz => by simp [Z] at hz; omega
  | m :: t, taken, h, z, hz => by
    simp only [Z, List.mem_flatMap, List.mem_range] at hz
    obtain ⟨i, hi, hz⟩ := hz
    by_cases h0 : i = 0
    · rw [if_pos h0] at hz
      have := Z_le C hC t taken h z hz
      exact ⟨by simp; omega, this.2⟩
    · rw [if_neg h0] at hz
      split at hz
      case isFalse => simp at hz
      case isTrue hc =>
        simp only [Bool.and_eq_true, Bool.not_eq_true'] at hc
        obtain ⟨y, hy, rfl⟩ := List.mem_map.1 hz
        have ho := orZ_ok C taken (i - 1) hC h (by omega) hc.2
        have := Z_le C hC t _ ho.1 y hy
        exact ⟨by simp; omega, by omega⟩
theorem flat_len {α β : Type} (f : α → List β) (b : Nat) : ∀ l : List α, (∀ x ∈ l, (f x).length ≤ b) → (l.flatMap f).length ≤ l.length * b
  | [], _ => by simp
  | x :: t, h => by
    have h1 := h x (by simp)
    have h2 := flat_len f b t (fun y hy => h y (by simp [hy]))
    simp only [List.flatMap_cons, List.length_append, List.length_cons, Nat.succ_mul]
    omega
theorem Z_length (C : Nat) (hC : C ≤ 6) : ∀ (t : List Int) (taken : Int), (Z C t taken).length ≤ 7 ^ t.length
  | [], _ => by simp [Z]
  | m :: t, taken => by
    simp only [Z, List.length_cons]
    refine Nat.le_trans (flat_len _ (7 ^ t.length) _ ?_) ?_
    · intro i _
      by_cases h0 : i = 0
      · rw [if_pos h0]; exact Z_length C hC t taken
      · rw [if_neg h0]
        split
        · rw [List.length_map]; exact Z_length C hC t _
        · simp
    · rw [List.length_range, Nat.pow_succ, Nat.mul_comm]
      exact Nat.mul_le_mul_left _ (by omega)
theorem Z_small (C : Nat) (hC : C ≤ 6) (t : List Int) (taken : Int) (ht : t.length ≤ 6) (k : Nat) : (Z C t taken).count k ≤ 117649 := by
  refine Nat.le_trans List.count_le_length (Nat.le_trans (Z_length C hC t taken) ?_)
  exact Nat.le_trans (Nat.pow_le_pow_right (by omega) ht) (by decide)

theorem e_feFactors6 (k : Nat) (l : List Int) (hl : l.length ≤ 6) (hx : ∀ x ∈ l, 0 ≤ x ∧ x ≤ 6) (hk : 2000 ≤ k) : spec_feFactors.f k l = some (facL l) := by
  unfold spec_feFactors.f facL
  have := feF_l0 l hl hx l.length 0 k [] (by omega) rfl (by omega)
  simpa using this
theorem i_factors6 (k : Nat) (l : List Int) (hl : l.length ≤ 6) (hx : ∀ x ∈ l, 0 ≤ x ∧ x ≤ 6) (hk : 2000 ≤ k) : impl_factors.f k l = some (facL l) := by
  unfold impl_factors.f facL
  have := iF_l0 l hl hx l.length 0 k [] (by omega) rfl (by omega)
  simpa using this
theorem same_l0 (a b : List Int) (hl : a.length ≤ 2000000) (hab : a.length = b.length) : ∀ (d i k : Nat), i + d = a.length → d < k → spec_l1Same.l0 k a b (a.length : Int) (i : Int) = some (decide (a.drop i = b.drop i)) ∧ slices_Equal_int_int.l0 k a b (a.length : Int) (i : Int) = some (decide (a.drop i = b.drop i)) := by
  intro d
  induction d with
  | zero =>
    intro i k hi hk
    obtain ⟨k, rfl⟩ : ∃ m, k = m + 1 := ⟨k - 1, by omega⟩
    rw [spec_l1Same.l0, slices_Equal_int_int.l0, if_neg (by omega), if_neg (by omega), List.drop_eq_nil_of_le (by omega), List.drop_eq_nil_of_le (by omega)]
    exact ⟨by simp, by simp⟩
  | succ d ih =>
    intro i k hi hk
    obtain ⟨k, rfl⟩ : ∃ m, k = m + 1 := ⟨k - 1, by omega⟩
    have h1 : i < a.length := by omega
    have h2 : i < b.length := by omega
    have ih := ih (i + 1) k (by omega) (by omega)
    have hcons : (decide (a.drop i = b.drop i)) = (decide (a[i] = b[i]) && decide (a.drop (i + 1) = b.drop (i + 1))) := by
      rw [List.drop_eq_getElem_cons h1, List.drop_eq_getElem_cons h2]
      by_cases h : a[i] = b[i]
      · simp only [List.cons.injEq, h, true_and, decide_true, Bool.true_and]
      · simp only [List.cons.injEq, h, false_and, decide_false, Bool.false_and]
    rw [hcons]
    refine ⟨?_, ?_⟩
    · rw [spec_l1Same.l0, if_pos (by omega), if_pos (by omega), if_pos (by omega), if_pos (by omega), rd_nat a i h1, rd_nat b i h2, w64 (x := (i : Int) + 1) (by omega) (by omega), show ((i : Int) + 1) = ((i + 1 : Nat) : Int) from by omega]
      by_cases h : a[i] = b[i]
      · rw [if_pos h, ih.1]; simp [h]
      · rw [if_neg h]; simp [h]
    · rw [slices_Equal_int_int.l0, if_pos (by omega), if_pos (by omega), if_pos (by omega), if_pos (by omega), rd_nat a i h1, rd_nat b i h2, w64 (x := (i : Int) + 1) (by omega) (by omega), show ((i : Int) + 1) = ((i + 1 : Nat) : Int) from by omega]
      by_cases h : a[i] = b[i]
      · rw [if_pos h, ih.2]; simp [h]
      · rw [if_neg h]; simp [h]
theorem same_eq (k : Nat) (a b : List Int) (ha : a.length ≤ 1000000) (hk : a.length < k) : spec_l1Same.f k a b = some (decide (a = b)) ∧ slices_Equal_int_int.f k a b = some (decide (a = b)) := by
  unfold spec_l1Same.f slices_Equal_int_int.f
  by_cases h : (a.length : Int) = (b.length : Int)
  · rw [if_pos h, if_pos h]
    have := same_l0 a b (by omega) (by omega) a.length 0 k (by omega) hk
    rw [show ((0 : Nat) : Int) = 0 from rfl] at this
    simpa using this
  · rw [if_neg h, if_neg h]
    have : ¬ a = b := fun e => h (by rw [e])
    simp [this]
theorem lastD_bd (n : Nat) (l : List Int) (hx : ∀ x ∈ l, 0 ≤ x ∧ x ≤ n) : 0 ≤ l.getLastD 0 ∧ l.getLastD 0 ≤ n := by
  cases l with
  | nil => simp [List.getLastD]
  | cons a t =>
    have : (a :: t).getLastD 0 ∈ a :: t := by
      rw [List.getLastD_cons]
      rw [← List.getLast_eq_getLastD]
      · exact List.getLast_mem _
      · exact List.cons_ne_nil _ _
    exact hx _ this
theorem allL_mem (n : Nat) : ∀ (d : Nat) (l : List Int), (∀ x ∈ l, 0 ≤ x ∧ x ≤ n) → ∀ q ∈ allL n d l, q.length = l.length + d ∧ ∀ x ∈ q, 0 ≤ x ∧ x ≤ n
  | 0, l, hx, q, hq => by
    simp [allL] at hq; subst hq; exact ⟨rfl, hx⟩
  | d + 1, l, hx, q, hq => by
    simp only [allL, List.mem_flatMap, List.mem_range] at hq
    obtain ⟨i, hi, hq⟩ := hq
    have hb := lastD_bd n l hx
    have := allL_mem n d _ (fun x hx' => by
      rcases List.mem_append.1 hx' with h | h
      · exact hx x h
      · rw [List.mem_singleton] at h; subst h; omega) q hq
    exact ⟨by simp only [List.length_append, List.length_cons, List.length_nil] at this; omega, this.2⟩
theorem allL_len (n : Nat) (hn : n ≤ 6) : ∀ (d : Nat) (l : List Int), (allL n d l).length ≤ 7 ^ d
  | 0, l => by simp [allL]
  | d + 1, l => by
    unfold allL
    refine Nat.le_trans (flat_len _ (7 ^ d) _ (fun i _ => allL_len n hn d _)) ?_
    rw [List.length_range, Nat.pow_succ, Nat.mul_comm]
    exact Nat.mul_le_mul_left _ (by omega)
theorem own6 (l : List Int) (h : l.length ≤ 1000) : spec_l1Own.f l = some l := e_l1OwnF l h
theorem e_feAll (n : Nat) (hn : n ≤ 6) : ∀ (d : Nat) (l : List Int) (k : Nat), l.length + d = n → (∀ x ∈ l, 0 ≤ x ∧ x ≤ n) → 20 * d + 20 ≤ k → spec_feAll.f k l (n : Int) = some (allL n d l) := by
  intro d
  induction d with
  | zero =>
    intro l k hl hx hk
    obtain ⟨k, rfl⟩ : ∃ m, k = m + 1 := ⟨k - 1, by omega⟩
    rw [spec_feAll.f, if_pos (by omega), own6 l (by omega)]; rfl
  | succ d ih =>
    intro l k hl hx hk
    have hb := lastD_bd n l hx
    obtain ⟨k, rfl⟩ : ∃ m, k = m + 1 + 1 := ⟨k - 2, by omega⟩
    obtain ⟨a, ha⟩ := Int.eq_ofNat_of_zero_le hb.1
    have loop : ∀ (e i k : Nat), i + e = n + 1 - a → 20 * d + 20 + e + 1 ≤ k → spec_feAll.l0 k l (n : Int) ((List.range i).flatMap fun i => allL n d (l ++ [((a + i : Nat) : Int)])) ((a : Int) + i) = some ((List.range (n + 1 - a)).flatMap fun i => allL n d (l ++ [((a + i : Nat) : Int)])) := by
      intro e
      induction e with
      | zero =>
        intro i k hi hk
        obtain ⟨k, rfl⟩ : ∃ m, k = m + 1 := ⟨k - 1, by omega⟩
        rw [spec_feAll.l0, if_neg (by omega), show i = n + 1 - a by omega]
      | succ e ihe =>
        intro i k hi hk
        obtain ⟨k, rfl⟩ : ∃ m, k = m + 1 := ⟨k - 1, by omega⟩
        have h1 := flat_len (fun i => allL n d (l ++ [((a + i : Nat) : Int)])) (7 ^ d) (List.range i) (fun i _ => allL_len n hn d _)
        have h2 := allL_len n hn d (l ++ [((a + i : Nat) : Int)])
        have h3 : 7 ^ d ≤ 117649 := Nat.le_trans (Nat.pow_le_pow_right (by omega) (show d ≤ 6 by omega)) (by decide)
        rw [List.length_range] at h1
        have h4 : i * 7 ^ d ≤ 7 * 117649 := Nat.mul_le_mul (by omega) h3
        rw [spec_feAll.l0, if_pos (by omega), own6 l (by omega), Option.bind_some, if_pos (by omega), show ((a : Int) + (i : Int)) = ((a + i : Nat) : Int) by omega]
        rw [ih (l ++ [((a + i : Nat) : Int)]) k (by simp; omega) (fun x hx' => by
          rcases List.mem_append.1 hx' with h | h
          · exact hx x h
          · simp at h; subst h; omega) (by omega), Option.bind_some, if_pos (by omega), w64 (by omega) (by omega), show (((a + i : Nat) : Int) + 1) = (a : Int) + ((i + 1 : Nat) : Int) by omega]
        have := ihe (i + 1) k (by omega) (by omega)
        rw [List.range_succ, List.flatMap_append] at this
        simpa using this
    have hj : spec_feAll.j0 (k + 1) l (n : Int) (a : Int) = some (allL n (d + 1) l) := by
      rw [spec_feAll.j0]
      have := loop (n + 1 - a) 0 k (by omega) (by omega)
      rw [show ((a : Int) + ((0 : Nat) : Int)) = (a : Int) by omega] at this
      unfold allL
      rw [ha, Int.toNat_natCast]
      exact this
    rw [spec_feAll.f, if_neg (by omega)]
    by_cases h0 : l.length = 0
    · have : l = [] := List.eq_nil_of_length_eq_zero h0
      subst this
      rw [if_neg (by simp)]
      have : a = 0 := by simp [List.getLastD] at ha; omega
      subst this
      exact hj
    · have hlr : rd l ((l.length : Int) - 1) = (a : Int) := by
        rw [← ha, show ((l.length : Int) - 1) = ((l.length - 1 : Nat) : Int) by omega, rd_nat l _ (by omega)]
        cases l with
        | nil => simp at h0
        | cons x t =>
          rw [List.getLastD_cons, ← List.getLast_eq_getLastD]
          · rw [List.getLast_eq_getElem]
          · exact List.cons_ne_nil _ _
      rw [if_pos (by omega), w64 (by omega) (by omega), if_pos (by omega), if_pos (by omega), hlr]
      exact hj
/-- All lists of lengths that have some factors. -/
def havL (own : List Int) : List (List Int) := (allL own.length own.length []).filter fun l => decide (facL l = own)
theorem rdLL (l : List (List Int)) (i : Nat) (h : i < l.length) : rd_L1 l (i : Int) = l[i] := by
  unfold rd_L1; simp [List.getD, h]
theorem feClass_l0 (own : List Int) (L : List (List Int)) (hL : L.length ≤ 200000) (hx : ∀ q ∈ L, q.length ≤ 6 ∧ ∀ x ∈ q, 0 ≤ x ∧ x ≤ 6) : ∀ (d i k : Nat) (acc : List (List Int)), i + d = L.length → d + 3000 < k → acc.length ≤ i → spec_feClass.l0 k own acc L (L.length : Int) (i : Int) = some (acc ++ (L.drop i).filter fun l => decide (facL l = own)) := by
  intro d
  induction d with
  | zero =>
    intro i k acc hi hk ha
    obtain ⟨k, rfl⟩ : ∃ m, k = m + 1 := ⟨k - 1, by omega⟩
    rw [spec_feClass.l0, if_neg (by omega), List.drop_eq_nil_of_le (by omega)]; simp
  | succ d ih =>
    intro i k acc hi hk ha
    obtain ⟨k, rfl⟩ : ∃ m, k = m + 1 := ⟨k - 1, by omega⟩
    have hlt : i < L.length := by omega
    have hq := hx L[i] (List.getElem_mem hlt)
    have hfl := facL_len L[i]
    rw [spec_feClass.l0, if_pos (by omega), if_pos (by omega), if_pos (by omega), rdLL L i hlt, e_feFactors6 k _ hq.1 hq.2 (by omega), Option.bind_some, (same_eq k (facL L[i]) own (by omega) (by omega)).1, Option.bind_some, w64 (x := (i : Int) + 1) (by omega) (by omega), show ((i : Int) + 1) = ((i + 1 : Nat) : Int) from by omega, List.drop_eq_getElem_cons hlt]
    by_cases h : facL L[i] = own
    · rw [decide_eq_true h, if_pos rfl, if_pos (by omega), ih (i + 1) k _ (by omega) (by omega) (by simp; omega), List.filter_cons_of_pos (by simpa using h), List.append_assoc]; rfl
    · rw [decide_eq_false h, if_neg (by decide), ih (i + 1) k _ (by omega) (by omega) (by omega), List.filter_cons_of_neg (by simpa using h)]
theorem all6 (n : Nat) (hn : n ≤ 6) : (allL n n []).length ≤ 117649 ∧ ∀ q ∈ allL n n [], q.length ≤ 6 ∧ ∀ x ∈ q, 0 ≤ x ∧ x ≤ 6 := by
  refine ⟨Nat.le_trans (allL_len n hn n []) (Nat.le_trans (Nat.pow_le_pow_right (by omega) hn) (by decide)), fun q hq => ?_⟩
  have := allL_mem n n [] (by simp) q hq
  exact ⟨by simp at this; omega, fun x hx => by have := this.2 x hx; omega⟩
theorem e_feClass (k : Nat) (own : List Int) (ho : own.length ≤ 6) (hk : 1000000 ≤ k) : spec_feClass.f k own = some (havL own) := by
  unfold spec_feClass.f havL
  have h6 := all6 own.length ho
  rw [e_feAll own.length ho own.length [] k (by simp) (by simp) (by omega), Option.bind_some]
  have := feClass_l0 own (allL own.length own.length []) (by omega) h6.2 (allL own.length own.length []).length 0 k [] (by omega) (by omega) (by simp)
  rw [show ((0 : Nat) : Int) = 0 from rfl] at this
  rw [this]; simp
theorem i_having (k : Nat) (own : List Int) (ho : own.length ≤ 6) (hk : 1000000 ≤ k) : impl_having.f k own = some (havL own) := by
  unfold impl_having.f havL
  have h6 := all6 own.length ho
  rw [if_pos ⟨ho, List.all_eq_true.2 fun l hl => by
    have hq := h6.2 l hl
    unfold okH
    rw [i_factors6 k l hq.1 hq.2 (by omega)]
    simp only
    rw [(same_eq k (facL l) own (by rw [facL_len]; omega) (by rw [facL_len]; omega)).2]; simp⟩]
  congr 1
  refine List.filter_congr ?_
  intro l hl
  have hq := h6.2 l hl
  rw [i_factors6 k l hq.1 hq.2 (by omega)]
  rw [Bool.eq_iff_iff]; simp
theorem havL_mem (own : List Int) (ho : own.length ≤ 6) : (havL own).length ≤ 117649 ∧ ∀ q ∈ havL own, q.length ≤ 6 := by
  have h6 := all6 own.length ho
  exact ⟨Nat.le_trans (List.length_filter_le _ _) h6.1, fun q hq => (h6.2 q (List.mem_filter.1 hq).1).1⟩

def clOut (l : List Int) : List (List Int) × Bool := if Good l then (havL (facL l), true) else ([], false)
theorem e_ClassOf (k : Nat) (l : List Int) (hl : l.length ≤ 1048576) (hk : 2000000 ≤ k) : spec_ClassOf.f k l = some (clOut l) := by
  unfold spec_ClassOf.f clOut
  rw [e_feGood k l (by omega) (by omega)]
  simp only [Option.bind_some, decide_eq_true_eq]
  by_cases g : Good l
  · rw [if_pos g, if_pos g, e_feFactors k l g (by omega), Option.bind_some, e_feClass k _ (by rw [facL_len]; exact (good6 g).1) (by omega)]; rfl
  · rw [if_neg g, if_neg g]
theorem i_ClassOf (k : Nat) (l : List Int) (hl : l.length ≤ 1048576) (hk : 2000000 ≤ k) : impl_ClassOf.f k l = some (clOut l) := by
  unfold impl_ClassOf.f clOut
  rw [i_AreLengths k l (by omega) (by omega)]
  simp only [Option.bind_some, decide_eq_true_eq]
  by_cases g : Good l
  · rw [if_pos g, if_pos g, i_factors k l g (by omega), Option.bind_some, i_having k _ (by rw [facL_len]; exact (good6 g).1) (by omega)]; rfl
  · rw [if_neg g, if_neg g]
theorem clOut_bd (l : List Int) : (clOut l).1.length ≤ 117649 ∧ ∀ q ∈ (clOut l).1, q.length ≤ 6 := by
  unfold clOut
  split
  · rename_i g; exact havL_mem _ (by rw [facL_len]; exact (good6 g).1)
  · simp
theorem FnExactClassOf : laws_FnExactClassOf.Pure := by
  intro l _ _
  refine ⟨4000010, ?_⟩
  unfold laws_FnExactClassOf.f
  by_cases h : l.length ≤ 1048576
  case neg => rw [if_neg h]
  rw [if_pos h, e_toIntS _ l (by omega) (by omega), Option.bind_some, e_ClassOf _ l (by omega) (by omega), Option.bind_some, i_ClassOf _ l (by omega) (by omega), Option.bind_some]
  have hb := clOut_bd l
  generalize clOut l = o at hb ⊢
  have ht := totL_le 6 o.1 hb.2
  rw [e_eqIntSS_self _ 6 o.1 (by omega) hb.2 (by omega) (by omega), Option.bind_some, e_eqIntS_self _ l (by omega) (by omega), Option.bind_some, e_markIntS _ l 1 (by omega) (by omega) (by omega) (by omega), Option.bind_some]
  rw [e_markIntSS _ 6 (by omega) (by omega) o.1 1 (by omega) hb.2 (by omega) (by omega), Option.bind_some]
  simp only
  rw [e_heldIntSS _ 6 (by omega) o.1 1 (by omega) hb.2 (by omega) (by omega) (by omega), Option.bind_some, if_pos]
  refine ⟨?_, ?_, ?_, ?_, ?_, ?_⟩ <;> first | trivial | omega

end Go.Proofs.Ytbjijnehgjfhlaa.Pure
