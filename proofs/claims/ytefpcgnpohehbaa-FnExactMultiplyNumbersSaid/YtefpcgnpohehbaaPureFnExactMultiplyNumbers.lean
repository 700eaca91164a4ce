/- MultiplyNumbers: the law's function comes to true at every two lists. -/
import Derived.Test.YtefpcgnpohehbaaPFnExactMultiplyNumbersx3
namespace Go.Proofs.Ytefpcgnpohehbaa.Pure
open Go.RowKit Go.Proofs.Ytefpcgnpohehbaa.PFnExactMultiplyNumbers Go.Proofs.YtefpcgnpohehbaaW.PrintWords Go.Proofs.YtefpcgnpohehbaaW.PrintLast
set_option linter.unusedVariables false
set_option linter.unusedSimpArgs false

theorem w64 {x : Int} (h0 : -9223372036854775808 ≤ x) (h1 : x < 9223372036854775808) : wrap64 x = x := by
  unfold wrap64; omega
theorem rd_nat (l : List Int) (i : Nat) (h : i < l.length) : rd l (i : Int) = l[i] := by
  unfold rd; simp [List.getD, h]

theorem e_toIntS_l0 (l : List Int) (hl : l.length ≤ 2000000) : ∀ (d i k : Nat) (m : List Int), i + d = l.length → d < k → m.length = l.length → m.take i = l.take i →
    laws_toIntS.l0 k l m (i : Int) = some l := by
  intro d
  induction d with
  | zero =>
    intro i k m hi' hk hm ht
    obtain ⟨k, rfl⟩ : ∃ m, k = m + 1 := ⟨k - 1, by omega⟩
    simp only [laws_toIntS.l0]; rw [if_neg (by omega)]
    rw [List.take_of_length_le (by omega), List.take_of_length_le (by omega)] at ht; rw [ht]
  | succ d ih =>
    intro i k m hi' hk hm ht
    obtain ⟨k, rfl⟩ : ∃ m, k = m + 1 := ⟨k - 1, by omega⟩
    have hlt : i < l.length := by omega
    simp only [laws_toIntS.l0]
    rw [if_pos (by omega), if_pos (by omega), if_pos (by omega), rd_nat l i hlt, w64 (by omega) (by omega), show ((i : Int) + 1) = ((i + 1 : Nat) : Int) from by omega]
    refine ih (i + 1) k _ (by omega) (by omega) (by simpa using hm) ?_
    rw [Int.toNat_natCast, List.take_succ_eq_append_getElem (by simpa using (by omega : i < m.length)), List.take_succ_eq_append_getElem hlt]
    simp [List.take_set_of_le, ht]
theorem e_toIntS (k : Nat) (l : List Int) (hl : l.length ≤ 2000000) (hk : l.length < k) : laws_toIntS.f k l = some l := by
  unfold laws_toIntS.f
  rw [if_pos (by omega), if_pos (by omega)]
  exact e_toIntS_l0 l hl l.length 0 k _ (by omega) hk (by simp) (by simp)

theorem e_eqIntS_l0 (a b : List Int) (hl : a.length ≤ 2000000) (hab : a.length = b.length) : ∀ (d i k : Nat), i + d = a.length → d < k →
    laws_eqIntS.l0 k a b (i : Int) = some (decide (a.drop i = b.drop i)) := by
  intro d
  induction d with
  | zero =>
    intro i k hi' hk
    obtain ⟨k, rfl⟩ : ∃ m, k = m + 1 := ⟨k - 1, by omega⟩
    simp only [laws_eqIntS.l0]; rw [if_neg (by omega), List.drop_eq_nil_of_le (by omega), List.drop_eq_nil_of_le (by omega)]; simp
  | succ d ih =>
    intro i k hi' hk
    obtain ⟨k, rfl⟩ : ∃ m, k = m + 1 := ⟨k - 1, by omega⟩
    have hlt : i < a.length := by omega
    have hlt2 : i < b.length := by omega
    simp only [laws_eqIntS.l0]
    rw [if_pos (by omega), if_pos (by omega), if_pos (by omega), rd_nat a i hlt, rd_nat b i hlt2, List.drop_eq_getElem_cons hlt, List.drop_eq_getElem_cons hlt2, w64 (by omega) (by omega), show ((i : Int) + 1) = ((i + 1 : Nat) : Int) from by omega, ih (i + 1) k (by omega) (by omega)]
    by_cases h : a[i] = b[i]
    · rw [if_pos h]; simp only [List.cons.injEq, h, true_and]
    · rw [if_neg h]; simp only [List.cons.injEq, h, false_and, decide_false]
theorem e_eqIntS (k : Nat) (a b : List Int) (hl : a.length ≤ 2000000) (hk : a.length < k) : laws_eqIntS.f k a b = some (decide (a = b)) := by
  unfold laws_eqIntS.f
  by_cases h : (a.length : Int) = (b.length : Int)
  · rw [if_pos h]; exact e_eqIntS_l0 a b hl (by omega) a.length 0 k (by omega) hk
  · rw [if_neg h]; simp; intro hc; rw [hc] at h; exact h rfl
theorem e_eqIntS_self (k : Nat) (a : List Int) (hl : a.length ≤ 2000000) (hk : a.length < k) : laws_eqIntS.f k a a = some true := by
  rw [e_eqIntS k a a hl hk]; simp

/-- The numbers from a on, n of them. -/
def marks : Int → Nat → List Int
  | _, 0 => []
  | a, n + 1 => a :: marks (a + 1) n
theorem marks_length : ∀ (n : Nat) (a : Int), (marks a n).length = n
  | 0, _ => rfl
  | n + 1, a => by simp [marks, marks_length n]
theorem marks_get : ∀ (n : Nat) (a : Int) (i : Nat) (h : i < (marks a n).length), (marks a n)[i] = a + i
  | 0, _, i, h => by simp [marks] at h
  | n + 1, a, 0, h => by simp [marks]
  | n + 1, a, i + 1, h => by
    simp only [marks, List.getElem_cons_succ]
    rw [marks_get n (a + 1) i]; omega

theorem e_markIntS_l0 (n : Nat) (hn : n ≤ 2000000) : ∀ (d i k : Nat) (l : List Int) (a : Int), l.length = n → i + d = n → d < k → 0 ≤ a → a + d ≤ 1000000000 →
    laws_markIntS.l0 k l a (i : Int) = some (a + d, l.take i ++ marks a d) := by
  intro d
  induction d with
  | zero =>
    intro i k l a hl hi hk h0 h1
    obtain ⟨k, rfl⟩ : ∃ m, k = m + 1 := ⟨k - 1, by omega⟩
    simp only [laws_markIntS.l0]; rw [if_neg (by omega), List.take_of_length_le (by omega)]; simp [marks]
  | succ d ih =>
    intro i k l a hl hi hk h0 h1
    obtain ⟨k, rfl⟩ : ∃ m, k = m + 1 := ⟨k - 1, by omega⟩
    have hlt : i < l.length := by omega
    simp only [laws_markIntS.l0]
    rw [if_pos (by omega), if_pos (by omega), w64 (by omega) (by omega), w64 (by omega) (by omega), show ((i : Int) + 1) = ((i + 1 : Nat) : Int) from by omega]
    rw [ih (i + 1) k _ (a + 1) (by simpa using hl) (by omega) (by omega) (by omega) (by omega)]
    rw [Int.toNat_natCast, List.take_succ_eq_append_getElem (by simpa using hlt)]
    simp only [List.getElem_set_self, List.take_set_of_le (Nat.le_refl i), List.append_assoc, List.singleton_append, marks]
    congr 2; omega
theorem e_markIntS (k : Nat) (l : List Int) (a : Int) (hl : l.length ≤ 2000000) (hk : l.length < k) (h0 : 0 ≤ a) (h1 : a + l.length ≤ 1000000000) : laws_markIntS.f k l a = some (a + l.length, marks a l.length) := by
  unfold laws_markIntS.f
  have := e_markIntS_l0 l.length hl l.length 0 k l a rfl (by omega) hk h0 h1
  simpa using this

theorem e_heldIntS_l0 (b : Int) (n : Nat) (hn : n ≤ 2000000) (hb : 0 ≤ b) (hbn : b + n ≤ 1000000000) : ∀ (d i k : Nat), i + d = n → d < k →
    laws_heldIntS.l0 k (marks b n) (b + i) (i : Int) = some (b + n) := by
  intro d
  induction d with
  | zero =>
    intro i k hi hk
    obtain ⟨k, rfl⟩ : ∃ m, k = m + 1 := ⟨k - 1, by omega⟩
    simp only [laws_heldIntS.l0, marks_length]; rw [if_neg (by omega)]; congr 1; omega
  | succ d ih =>
    intro i k hi hk
    obtain ⟨k, rfl⟩ : ∃ m, k = m + 1 := ⟨k - 1, by omega⟩
    have hlt : i < (marks b n).length := by rw [marks_length]; omega
    simp only [laws_heldIntS.l0]
    rw [rd_nat _ i hlt, marks_get n b i hlt]
    simp only [marks_length]
    rw [if_pos (by omega), if_pos (by omega), if_pos trivial, w64 (by omega) (by omega), w64 (by omega) (by omega), show ((i : Int) + 1) = ((i + 1 : Nat) : Int) from by omega, show b + (i : Int) + 1 = b + ((i + 1 : Nat) : Int) from by omega]
    exact ih (i + 1) k (by omega) (by omega)
theorem e_heldIntS (k : Nat) (n : Nat) (b : Int) (hn : n ≤ 2000000) (hk : n < k) (hb : 0 ≤ b) (hbn : b + n ≤ 1000000000) : laws_heldIntS.f k (marks b n) b = some (b + n) := by
  unfold laws_heldIntS.f
  have := e_heldIntS_l0 b n hn hb hbn n 0 k (by omega) hk
  simpa using this

theorem e_l1In (a b c : Int) : spec_l1In.f a b c = some (decide (b ≤ a ∧ a ≤ c)) := by
  unfold spec_l1In.f
  by_cases h : b ≤ a
  · rw [if_pos h]; simp [h]
  · rw [if_neg h]; simp [h]

theorem e_l1All_l0 (lo hi : Int) (l : List Int) (hl : l.length ≤ 2000000) : ∀ (d i k : Nat), i + d = l.length → d < k →
    spec_l1All.l0 k lo hi l (l.length : Int) (i : Int) = some (decide (∀ x ∈ l.drop i, lo ≤ x ∧ x ≤ hi)) := by
  intro d
  induction d with
  | zero =>
    intro i k hi' hk
    obtain ⟨k, rfl⟩ : ∃ m, k = m + 1 := ⟨k - 1, by omega⟩
    simp only [spec_l1All.l0]; rw [if_neg (by omega), List.drop_eq_nil_of_le (by omega)]; simp
  | succ d ih =>
    intro i k hi' hk
    obtain ⟨k, rfl⟩ : ∃ m, k = m + 1 := ⟨k - 1, by omega⟩
    have hlt : i < l.length := by omega
    simp only [spec_l1All.l0]
    rw [if_pos (by omega), if_pos (by omega), if_pos (by omega), e_l1In, rd_nat l i hlt, List.drop_eq_getElem_cons hlt, w64 (by omega) (by omega)]
    simp only [Option.bind_some, decide_eq_true_eq, List.forall_mem_cons]
    by_cases h : lo ≤ l[i] ∧ l[i] ≤ hi
    · rw [if_pos h]
      have := ih (i + 1) k (by omega) (by omega)
      rw [show ((i : Int) + 1) = ((i + 1 : Nat) : Int) from by omega, this]; simp [h]
    · rw [if_neg h]; simp [h]
theorem e_l1All (k : Nat) (l : List Int) (lo hi : Int) (hl : l.length ≤ 2000000) (hk : l.length < k) : spec_l1All.f k l lo hi = some (decide (∀ x ∈ l, lo ≤ x ∧ x ≤ hi)) := by
  unfold spec_l1All.f; exact e_l1All_l0 lo hi l hl l.length 0 k (by omega) hk

theorem mul_in (b : List Int) (hb : b.length ≤ 7) (v : List Int) (x7 n : Int) (i m : Nat) (hm : i + b.length ≤ m) (hm2 : m ≤ 100) : ∀ (d j k k' : Nat) (y : List Int), j + d = b.length → y.length = m → ∃ y' : List Int, y'.length = m ∧ spec_roTimes.l1 (k + (d + 1)) b y (i : Int) x7 v n (i : Int) b (b.length : Int) (j : Int) = spec_roTimes.l0 k b y' v n ((i + 1 : Nat) : Int) ∧ impl_product.l1 (k' + (d + 1)) b y (i : Int) x7 v n (i : Int) b (b.length : Int) (j : Int) = impl_product.l0 k' b y' v n ((i + 1 : Nat) : Int) := by
  intro d
  induction d with
  | zero =>
    intro j k k' y hj hy
    rw [show k + (0 + 1) = k + 1 from rfl, show k' + (0 + 1) = k' + 1 from rfl, spec_roTimes.l1, impl_product.l1, if_neg (by omega), if_neg (by omega), w64 (x := (i : Int) + 1) (by omega) (by omega)]
    exact ⟨y, hy, rfl, rfl⟩
  | succ d ih =>
    intro j k k' y hj hy
    have c1 : (j : Int) < (b.length : Int) := by omega
    have c2 : 0 ≤ (j : Int) := by omega
    have e1 : wrap64 ((i : Int) + (j : Int)) = ((i + j : Nat) : Int) := by rw [w64 (by omega) (by omega)]; omega
    have c3 : 0 ≤ ((i + j : Nat) : Int) := by omega
    have c4 : ((i + j : Nat) : Int) < (y.length : Int) := by omega
    have e2 : wrap64 ((j : Int) + 1) = ((j + 1 : Nat) : Int) := by rw [w64 (by omega) (by omega)]; omega
    rw [show k + (d + 1 + 1) = (k + (d + 1)) + 1 from rfl, show k' + (d + 1 + 1) = (k' + (d + 1)) + 1 from rfl, spec_roTimes.l1, impl_product.l1]
    simp only [if_pos c1, if_pos c2, e1, if_pos c3, if_pos c4, e2]
    exact ih (j + 1) k k' _ (by omega) (by simpa using hy)
theorem mul_out (a b : List Int) (ha : a.length ≤ 7) (hb : b.length ≤ 7) (m : Nat) (hm : a.length + b.length ≤ m + 1) (hm2 : m ≤ 100) : ∀ (d i k k' : Nat) (y : List Int), i + d = a.length → y.length = m → 10 * d + 10 ≤ k → 10 * d + 10 ≤ k' → ∃ y' : List Int, y'.length = m ∧ spec_roTimes.l0 k b y a (a.length : Int) (i : Int) = some y' ∧ impl_product.l0 k' b y a (a.length : Int) (i : Int) = some y' := by
  intro d
  induction d with
  | zero =>
    intro i k k' y hi hy hk hk'
    obtain ⟨k, rfl⟩ : ∃ m, k = m + 1 := ⟨k - 1, by omega⟩
    obtain ⟨k', rfl⟩ : ∃ m, k' = m + 1 := ⟨k' - 1, by omega⟩
    rw [spec_roTimes.l0, impl_product.l0, if_neg (by omega), if_neg (by omega)]
    exact ⟨y, hy, rfl, rfl⟩
  | succ d ih =>
    intro i k k' y hi hy hk hk'
    obtain ⟨k, rfl⟩ : ∃ m, k = m + (b.length + 1) + 1 := ⟨k - (b.length + 2), by omega⟩
    obtain ⟨k', rfl⟩ : ∃ m, k' = m + (b.length + 1) + 1 := ⟨k' - (b.length + 2), by omega⟩
    have c1 : (i : Int) < (a.length : Int) := by omega
    have c2 : 0 ≤ (i : Int) := by omega
    rw [spec_roTimes.l0, impl_product.l0]
    simp only [if_pos c1, if_pos c2]
    obtain ⟨y1, hy1, h1, h2⟩ := mul_in b hb a (rd a (i : Int)) (a.length : Int) i m (by omega) hm2 b.length 0 k k' y (by omega) hy
    rw [show ((0 : Nat) : Int) = 0 from rfl] at h1 h2
    rw [h1, h2]
    exact ih (i + 1) k k' y1 (by omega) hy1 (by omega) (by omega)
theorem mul_both (a b : List Int) (ha : 1 ≤ a.length ∧ a.length ≤ 7) (hb : 1 ≤ b.length ∧ b.length ≤ 7) (k k' : Nat) (hk : 1000 ≤ k) (hk' : 1000 ≤ k') : ∃ o : List Int, o.length ≤ 13 ∧ spec_roTimes.f k a b = some o ∧ impl_product.f k' a b = some o := by
  unfold spec_roTimes.f impl_product.f
  have e : wrap64 (wrap64 ((a.length : Int) + (b.length : Int)) - 1) = ((a.length + b.length - 1 : Nat) : Int) := by
    rw [w64 (x := (a.length : Int) + (b.length : Int)) (by omega) (by omega), w64 (by omega) (by omega)]; omega
  have c1 : (0 : Int) ≤ ((a.length + b.length - 1 : Nat) : Int) := by omega
  have c2 : ((a.length + b.length - 1 : Nat) : Int).toNat ≤ 35184372088832 := by omega
  rw [e]
  simp only [if_pos c1, if_pos c2]
  obtain ⟨o, h0, h1, h2⟩ := mul_out a b ha.2 hb.2 (a.length + b.length - 1) (by omega) (by omega) a.length 0 k k' (List.replicate ((a.length + b.length - 1 : Nat) : Int).toNat 0) (by omega) (by simp) (by omega) (by omega)
  exact ⟨o, by omega, h1, h2⟩
theorem e_roFactors (k : Nat) (l : List Int) (hk : 100 ≤ k) : spec_roFactors.f k l = some (okM l) := by
  unfold spec_roFactors.f okM
  rw [e_l1In]
  simp only [Option.bind_some]
  by_cases h : 1 ≤ (l.length : Int) ∧ (l.length : Int) ≤ 7
  · rw [if_pos (decide_eq_true h), e_l1All k l 0 100000 (by omega) (by omega), decide_eq_true h]
    simp only [Option.bind_some, Bool.true_and]
    congr 1
    rw [Bool.eq_iff_iff]
    simp [badM, List.any_eq_false]
  · rw [if_neg (by simpa using h), decide_eq_false h]; rfl
theorem okM_len {l : List Int} (h : okM l = true) : 1 ≤ l.length ∧ l.length ≤ 7 := by
  unfold okM at h
  simp only [Bool.and_eq_true, decide_eq_true_eq] at h
  omega
theorem both_MultiplyNumbers (a b : List Int) : ∃ o : List Int × Bool, o.1.length ≤ 13 ∧ ∀ k, 2000 ≤ k → spec_MultiplyNumbers.f k a b = some o ∧ impl_MultiplyNumbers.f k a b = some o := by
  unfold spec_MultiplyNumbers.f impl_MultiplyNumbers.f
  by_cases ha : okM a = true
  · by_cases hb : okM b = true
    · obtain ⟨K, hK⟩ : ∃ K : Nat, K = 2000 := ⟨_, rfl⟩
      obtain ⟨o, h0, h1, h2⟩ := mul_both a b (okM_len ha) (okM_len hb) K K (by omega) (by omega)
      refine ⟨(o, true), h0, fun k hk => ?_⟩
      obtain ⟨o1, _, a1, a2⟩ := mul_both a b (okM_len ha) (okM_len hb) k K (by omega) (by omega)
      obtain ⟨o2, _, b1, b2⟩ := mul_both a b (okM_len ha) (okM_len hb) K k (by omega) (by omega)
      rw [h2] at a2
      rw [h1] at b1
      obtain rfl := Option.some.inj a2
      obtain rfl := Option.some.inj b1
      rw [e_roFactors k a (by omega), e_roFactors k b (by omega), ha, hb]
      rw [Option.bind_some, if_pos rfl, Option.bind_some, if_pos rfl, if_pos rfl, if_pos rfl, a1, b2, Option.bind_some]
      exact ⟨rfl, rfl⟩
    · refine ⟨([], false), by simp, fun k hk => ?_⟩
      rw [e_roFactors k a (by omega), e_roFactors k b (by omega), ha, Bool.eq_false_iff.2 hb]
      exact ⟨rfl, rfl⟩
  · refine ⟨([], false), by simp, fun k hk => ?_⟩
    rw [e_roFactors k a (by omega), Bool.eq_false_iff.2 ha]
    exact ⟨rfl, rfl⟩
theorem FnExactMultiplyNumbers : laws_FnExactMultiplyNumbers.Pure := by
  intro a b _ _ _ _
  refine ⟨2000010, ?_⟩
  unfold laws_FnExactMultiplyNumbers.f
  by_cases h : (a.length : Int) > 1048576
  · rw [if_pos h]
  · rw [if_neg h]
    by_cases h' : (b.length : Int) > 1048576
    · rw [if_pos h']
    · rw [if_neg h', e_toIntS _ a (by omega) (by omega), e_toIntS _ b (by omega) (by omega)]
      simp only [Option.bind_some]
      obtain ⟨o, hlen, hb⟩ := both_MultiplyNumbers a b
      have hI : ∀ k, 2000 ≤ k → impl_MultiplyNumbers.f k a b = some o := fun k hk => (hb k hk).2
      rw [(hb _ (by omega)).1, (hb _ (by omega)).2]
      obtain ⟨o1, o2⟩ := o
      simp only at hlen
      repeat (first
      | (simp only [Option.bind_some, bne_self_eq_false, Bool.false_eq_true, if_false, if_true, Bool.not_true, Bool.not_false])
      | (rw [e_toIntS _ _ (by omega) (by omega)])
      | (rw [e_eqIntS_self _ _ (by omega) (by omega)])
      | (rw [e_markIntS _ _ _ (by omega) (by omega) (by omega) (by omega)])
      | (rw [e_heldIntS _ _ _ (by omega) (by omega) (by omega) (by omega)])
      | (rw [hI _ (by omega)])
      | (rw [laws_FnExactMultiplyNumbers.j0])
      | (rw [laws_FnExactMultiplyNumbers.j1])
      | (rw [laws_FnExactMultiplyNumbers.j2])
      | (rw [if_neg (show ¬ (_ : Int) < 0 by omega)])
      | (rw [if_pos (show (_ : Int) = _ from rfl)])
      | (rfl))

end Go.Proofs.Ytefpcgnpohehbaa.Pure
