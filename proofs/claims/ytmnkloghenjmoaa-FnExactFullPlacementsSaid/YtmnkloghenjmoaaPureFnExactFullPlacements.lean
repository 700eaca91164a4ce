/- FullPlacements: the law's function comes to true at every list. -/
import Derived.Test.YtmnkloghenjmoaaPFnExactFullPlacementsx2
namespace Go.Proofs.Ytmnkloghenjmoaa.Pure
open Go.RowKit Go.Proofs.Ytmnkloghenjmoaa.PFnExactFullPlacements Go.Proofs.YtmnkloghenjmoaaW.PrintWords Go.Proofs.YtmnkloghenjmoaaW.PrintLast
set_option linter.unusedVariables false
set_option linter.unusedSimpArgs false

theorem w64 {x : Int} (h0 : -9223372036854775808 ≤ x) (h1 : x < 9223372036854775808) : wrap64 x = x := by
  unfold wrap64; omega
theorem rd_nat (l : List Int) (i : Nat) (h : i < l.length) : rd l (i : Int) = l[i] := by
  unfold rd; simp [List.getD, h]

theorem e_toIntS_l0 (l : List Int) (hl : l.length ≤ 2000000) : ∀ (d i k : Nat) (m : List Int), i + d = l.length → d < k → m.length = l.length → m.take i = l.take i →
    laws_toIntS.l0 k l m (i : Int) = some l := by
  intro d
  induction d with
  | zero =>
    intro i k m hi' hk hm ht
    obtain ⟨k, rfl⟩ : ∃ m, k = m + 1 := ⟨k - 1, by omega⟩
    simp only [laws_toIntS.l0]; rw [if_neg (by omega)]
    rw [List.take_of_length_le (by omega), List.take_of_length_le (by omega)] at ht; rw [ht]
  | succ d ih =>
    intro i k m hi' hk hm ht
    obtain ⟨k, rfl⟩ : ∃ m, k = m + 1 := ⟨k - 1, by omega⟩
    have hlt : i < l.length := by omega
    simp only [laws_toIntS.l0]
    rw [if_pos (by omega), if_pos (by omega), if_pos (by omega), rd_nat l i hlt, w64 (by omega) (by omega), show ((i : Int) + 1) = ((i + 1 : Nat) : Int) from by omega]
    refine ih (i + 1) k _ (by omega) (by omega) (by simpa using hm) ?_
    rw [Int.toNat_natCast, List.take_succ_eq_append_getElem (by simpa using (by omega : i < m.length)), List.take_succ_eq_append_getElem hlt]
    simp [List.take_set_of_le, ht]
theorem e_toIntS (k : Nat) (l : List Int) (hl : l.length ≤ 2000000) (hk : l.length < k) : laws_toIntS.f k l = some l := by
  unfold laws_toIntS.f
  rw [if_pos (by omega), if_pos (by omega)]
  exact e_toIntS_l0 l hl l.length 0 k _ (by omega) hk (by simp) (by simp)

theorem e_eqIntS_l0 (a b : List Int) (hl : a.length ≤ 2000000) (hab : a.length = b.length) : ∀ (d i k : Nat), i + d = a.length → d < k →
    laws_eqIntS.l0 k a b (i : Int) = some (decide (a.drop i = b.drop i)) := by
  intro d
  induction d with
  | zero =>
    intro i k hi' hk
    obtain ⟨k, rfl⟩ : ∃ m, k = m + 1 := ⟨k - 1, by omega⟩
    simp only [laws_eqIntS.l0]; rw [if_neg (by omega), List.drop_eq_nil_of_le (by omega), List.drop_eq_nil_of_le (by omega)]; simp
  | succ d ih =>
    intro i k hi' hk
    obtain ⟨k, rfl⟩ : ∃ m, k = m + 1 := ⟨k - 1, by omega⟩
    have hlt : i < a.length := by omega
    have hlt2 : i < b.length := by omega
    simp only [laws_eqIntS.l0]
    rw [if_pos (by omega), if_pos (by omega), if_pos (by omega), rd_nat a i hlt, rd_nat b i hlt2, List.drop_eq_getElem_cons hlt, List.drop_eq_getElem_cons hlt2, w64 (by omega) (by omega), show ((i : Int) + 1) = ((i + 1 : Nat) : Int) from by omega, ih (i + 1) k (by omega) (by omega)]
    by_cases h : a[i] = b[i]
    · rw [if_pos h]; simp only [List.cons.injEq, h, true_and]
    · rw [if_neg h]; simp only [List.cons.injEq, h, false_and, decide_false]
theorem e_eqIntS (k : Nat) (a b : List Int) (hl : a.length ≤ 2000000) (hk : a.length < k) : laws_eqIntS.f k a b = some (decide (a = b)) := by
  unfold laws_eqIntS.f
  by_cases h : (a.length : Int) = (b.length : Int)
  · rw [if_pos h]; exact e_eqIntS_l0 a b hl (by omega) a.length 0 k (by omega) hk
  · rw [if_neg h]; simp; intro hc; rw [hc] at h; exact h rfl

/-- A list does not fall. -/
def up : List Int → Prop
  | [] => True
  | [_] => True
  | a :: b :: r => a ≤ b ∧ up (b :: r)
instance upDec : ∀ l, Decidable (up l)
  | [] => .isTrue trivial
  | [_] => .isTrue trivial
  | a :: b :: r => by unfold up; have := upDec (b :: r); exact inferInstance

def Good (l : List Int) : Prop := (1 ≤ (l.length : Int) ∧ (l.length : Int) ≤ 6) ∧ (∀ x ∈ l, 0 ≤ x ∧ x ≤ (l.length : Int)) ∧ up l
instance (l : List Int) : Decidable (Good l) := by unfold Good; exact inferInstance

theorem e_l1In (a b c : Int) : spec_l1In.f a b c = some (decide (b ≤ a ∧ a ≤ c)) := by
  unfold spec_l1In.f
  by_cases h : b ≤ a
  · rw [if_pos h]; simp [h]
  · rw [if_neg h]; simp [h]
theorem e_boSide (a : Int) : spec_boSide.f a = some (decide (1 ≤ a ∧ a ≤ 6)) := by
  unfold spec_boSide.f; rw [e_l1In]; rfl

theorem e_l1All_l0 (lo hi : Int) (l : List Int) (hl : l.length ≤ 2000000) : ∀ (d i k : Nat), i + d = l.length → d < k →
    spec_l1All.l0 k lo hi l (l.length : Int) (i : Int) = some (decide (∀ x ∈ l.drop i, lo ≤ x ∧ x ≤ hi)) := by
  intro d
  induction d with
  | zero =>
    intro i k hi' hk
    obtain ⟨k, rfl⟩ : ∃ m, k = m + 1 := ⟨k - 1, by omega⟩
    simp only [spec_l1All.l0]; rw [if_neg (by omega), List.drop_eq_nil_of_le (by omega)]; simp
  | succ d ih =>
    intro i k hi' hk
    obtain ⟨k, rfl⟩ : ∃ m, k = m + 1 := ⟨k - 1, by omega⟩
    have hlt : i < l.length := by omega
    simp only [spec_l1All.l0]
    rw [if_pos (by omega), if_pos (by omega), if_pos (by omega), e_l1In, rd_nat l i hlt, List.drop_eq_getElem_cons hlt, w64 (by omega) (by omega)]
    simp only [Option.bind_some, decide_eq_true_eq, List.forall_mem_cons]
    by_cases h : lo ≤ l[i] ∧ l[i] ≤ hi
    · rw [if_pos h]
      have := ih (i + 1) k (by omega) (by omega)
      rw [show ((i : Int) + 1) = ((i + 1 : Nat) : Int) from by omega, this]; simp [h]
    · rw [if_neg h]; simp [h]
theorem e_l1All (k : Nat) (l : List Int) (lo hi : Int) (hl : l.length ≤ 2000000) (hk : l.length < k) : spec_l1All.f k l lo hi = some (decide (∀ x ∈ l, lo ≤ x ∧ x ≤ hi)) := by
  unfold spec_l1All.f; exact e_l1All_l0 lo hi l hl l.length 0 k (by omega) hk

theorem e_feGood_l0 (l : List Int) (hl : l.length ≤ 2000000) : ∀ (d i k : Nat), i + 1 + d = l.length → d < k →
    spec_feGood.l0 k l ((i + 1 : Nat) : Int) = some (decide (up (l.drop i))) := by
  intro d
  induction d with
  | zero =>
    intro i k hi' hk
    obtain ⟨k, rfl⟩ : ∃ m, k = m + 1 := ⟨k - 1, by omega⟩
    simp only [spec_feGood.l0]; rw [if_neg (by omega), List.drop_eq_getElem_cons (by omega), List.drop_eq_nil_of_le (by omega)]; exact congrArg some (decide_eq_true trivial).symm
  | succ d ih =>
    intro i k hi' hk
    obtain ⟨k, rfl⟩ : ∃ m, k = m + 1 := ⟨k - 1, by omega⟩
    have hlt : i < l.length := by omega
    have hlt1 : i + 1 < l.length := by omega
    simp only [spec_feGood.l0]
    rw [w64 (x := ((i + 1 : Nat) : Int) - 1) (by omega) (by omega), if_pos (by omega), if_pos (by omega), if_pos (by omega), if_pos (by omega), rd_nat l (i + 1) hlt1,
      show ((i + 1 : Nat) : Int) - 1 = (i : Int) from by omega, rd_nat l i hlt, w64 (by omega) (by omega), show ((i + 1 : Nat) : Int) + 1 = ((i + 1 + 1 : Nat) : Int) from by omega, ih (i + 1) k (by omega) (by omega),
      List.drop_eq_getElem_cons hlt, List.drop_eq_getElem_cons hlt1]
    by_cases h : l[i + 1] < l[i]
    · rw [if_pos h]; simp only [up]; simp; intro h2; omega
    · rw [if_neg h]; simp only [up]; simp; intro; omega
theorem e_feGood (k : Nat) (l : List Int) (hl : l.length ≤ 2000000) (hk : l.length + 1 < k) : spec_feGood.f k l = some (decide (Good l)) := by
  unfold spec_feGood.f
  rw [e_boSide, e_l1All _ _ _ _ hl (by omega)]
  obtain ⟨k, rfl⟩ : ∃ m, k = m + 1 := ⟨k - 1, by omega⟩
  simp only [Option.bind_some, decide_eq_true_eq, spec_feGood.j0]
  by_cases h : 1 ≤ (l.length : Int) ∧ (l.length : Int) ≤ 6
  · rw [if_pos h]
    by_cases h2 : ∀ x ∈ l, 0 ≤ x ∧ x ≤ (l.length : Int)
    · have := e_feGood_l0 l hl (l.length - 1) 0 k (by omega) (by omega)
      rw [show ((0 + 1 : Nat) : Int) = 1 from rfl] at this
      simp only [decide_eq_true h2, Bool.not_true, Bool.false_eq_true, if_false]
      rw [this]; simp only [Good]; simp [h]; exact fun _ => h2
    · simp only [decide_eq_false h2, Bool.not_false, if_true]; simp only [Good]; simp [h2]
  · rw [if_neg h]; simp only [Good]; simp [h]

theorem e_Less (a b : Int) : cmp_Less_int.f a b = some (decide (a < b)) := by
  unfold cmp_Less_int.f; rw [show cmp_isNaN_int.f a = some false from by unfold cmp_isNaN_int.f; simp]; rfl
theorem up_take_succ (l : List Int) (i : Nat) (h : i + 1 < l.length) : up (l.drop i) ↔ l[i] ≤ l[i + 1] ∧ up (l.drop (i + 1)) := by
  rw [List.drop_eq_getElem_cons (by omega), List.drop_eq_getElem_cons h]; rfl
theorem not_up (l : List Int) (i : Nat) (hi : i + 1 < l.length) (h : l[i + 1] < l[i]) : ∀ (d j : Nat), j + d = i → ¬ up (l.drop j) := by
  intro d
  induction d with
  | zero =>
    intro j hj
    obtain rfl : j = i := hj
    rw [up_take_succ l j hi]; intro hc; omega
  | succ d ih => intro j hj; rw [up_take_succ l j (by omega)]; intro hc; exact ih (j + 1) (by omega) hc.2
theorem e_IsSorted_l0 (l : List Int) (hl : l.length ≤ 2000000) : ∀ (i k : Nat), i < l.length → i < k → up (l.drop i) →
    slices_IsSorted_int_int.l0 k l (i : Int) = some (decide (up l)) := by
  intro i
  induction i with
  | zero =>
    intro k hi' hk hu
    obtain ⟨k, rfl⟩ : ∃ m, k = m + 1 := ⟨k - 1, by omega⟩
    simp only [slices_IsSorted_int_int.l0]; rw [if_neg (by omega)]; rw [List.drop_zero] at hu; simp [hu]
  | succ i ih =>
    intro k hi' hk hu
    obtain ⟨k, rfl⟩ : ∃ m, k = m + 1 := ⟨k - 1, by omega⟩
    have hlt : i < l.length := by omega
    simp only [slices_IsSorted_int_int.l0]
    rw [w64 (x := ((i + 1 : Nat) : Int) - 1) (by omega) (by omega), if_pos (by omega), if_pos (by omega), if_pos (by omega), if_pos (by omega), if_pos (by omega), rd_nat l (i + 1) hi',
      show ((i + 1 : Nat) : Int) - 1 = (i : Int) from by omega, rd_nat l i hlt, e_Less]
    simp only [Option.bind_some, decide_eq_true_eq]
    by_cases h : l[i + 1] < l[i]
    · rw [if_pos h]
      have := not_up l i hi' h i 0 (by omega)
      rw [List.drop_zero] at this; simp [this]
    · rw [if_neg h]; exact ih k hlt (by omega) ((up_take_succ l i hi').2 ⟨by omega, hu⟩)
theorem e_IsSorted (k : Nat) (l : List Int) (hl : l.length ≤ 2000000) (h1 : 1 ≤ l.length) (hk : l.length < k) : slices_IsSorted_int_int.f k l = some (decide (up l)) := by
  unfold slices_IsSorted_int_int.f
  rw [w64 (by omega) (by omega), show (l.length : Int) - 1 = ((l.length - 1 : Nat) : Int) from by omega]
  refine e_IsSorted_l0 l hl (l.length - 1) k (by omega) (by omega) ?_
  rw [List.drop_eq_getElem_cons (by omega), List.drop_eq_nil_of_le (by omega)]; simp [up]

theorem up_ge (l : List Int) (h : up l) : ∀ x ∈ l, ∀ a r, l = a :: r → a ≤ x := by
  induction l with
  | nil => intro x hx; cases hx
  | cons a r ih =>
    intro x hx a' r' he
    injection he with h1 h2
    subst h1; subst h2
    rcases List.mem_cons.1 hx with rfl | hx
    · omega
    · cases r with
      | nil => cases hx
      | cons b r => have := ih h.2 x hx b r rfl; have := h.1; omega
theorem up_le (l : List Int) (h : up l) : ∀ x ∈ l, ∀ y, l.getLast? = some y → x ≤ y := by
  induction l with
  | nil => intro x hx; cases hx
  | cons a r ih =>
    intro x hx y hy
    cases r with
    | nil => simp at hx hy; omega
    | cons b r =>
      have hy2 : (b :: r).getLast? = some y := by simpa using hy
      rcases List.mem_cons.1 hx with rfl | hx
      · have := ih h.2 b (by simp) y hy2; have := h.1; omega
      · exact ih h.2 x hx y hy2

theorem e_within (a b c : Int) : impl_within.f a b c = some (decide (b ≤ a ∧ a ≤ c)) := by
  unfold impl_within.f
  by_cases h : b ≤ a
  · rw [if_pos h]; simp [h]
  · rw [if_neg h]; simp [h]
theorem e_isSide (a : Int) : impl_isSide.f a = some (decide (1 ≤ a ∧ a ≤ 6)) := by
  unfold impl_isSide.f; rw [e_within]; rfl

theorem i_AreLengths (k : Nat) (l : List Int) (hl : l.length ≤ 2000000) (hk : l.length < k) : impl_AreLengths.f k l = some (decide (Good l)) := by
  unfold impl_AreLengths.f
  rw [e_isSide]
  simp only [Option.bind_some, decide_eq_true_eq]
  by_cases h : 1 ≤ (l.length : Int) ∧ (l.length : Int) ≤ 6
  · rw [if_pos h, e_IsSorted k l hl (by omega) hk]
    simp only [Option.bind_some, decide_eq_true_eq]
    by_cases hu : up l
    · rw [if_pos hu, if_pos (by omega), e_within, w64 (by omega) (by omega), if_pos (by omega), if_pos (by omega), e_within]
      simp only [Option.bind_some, decide_eq_true_eq]
      have hne : 0 < l.length := by omega
      have r0 : rd l 0 = l[0] := rd_nat l 0 hne
      rw [r0]
      have r1 : rd l ((l.length : Int) - 1) = l[l.length - 1] := by
        rw [show (l.length : Int) - 1 = ((l.length - 1 : Nat) : Int) from by omega]; exact rd_nat l _ (by omega)
      rw [r1]
      have key : Good l ↔ ((0 : Int) ≤ l[0] ∧ l[0] ≤ (l.length : Int)) ∧ (0 ≤ l[l.length - 1] ∧ l[l.length - 1] ≤ (l.length : Int)) := by
        constructor
        · intro g; exact ⟨g.2.1 _ (List.getElem_mem _), g.2.1 _ (List.getElem_mem _)⟩
        · intro g
          refine ⟨h, fun x hx => ?_, hu⟩
          have a1 := up_ge l hu x hx l[0] (l.drop 1) (by rw [← List.drop_eq_getElem_cons hne]; rfl)
          have a2 := up_le l hu x hx l[l.length - 1] (by rw [List.getLast?_eq_getElem?]; simp)
          omega
      by_cases g0 : (0 : Int) ≤ l[0] ∧ l[0] ≤ (l.length : Int)
      · rw [if_pos g0]; simp only [Option.some.injEq, decide_eq_decide]; rw [key]; simp [g0]
      · rw [if_neg g0]; simp only [Option.some.injEq]; symm; rw [decide_eq_false_iff_not, key]; intro hc; exact g0 hc.1
    · rw [if_neg hu]; simp [Good, hu]
  · rw [if_neg h]; simp [Good, h]

theorem e_l1Most (a b : Int) : spec_l1Most.f a b = some (if b < a then a else b) := by
  unfold spec_l1Most.f
  by_cases h : b < a
  · rw [if_pos h, if_pos h]
  · rw [if_neg h, if_neg h]

theorem fp_same : ∀ (k : Nat) (a : Int) (l : List Int) (n i : Int), spec_FullPlacements.l0 k a l n i = impl_FullPlacements.l0 k a l n i := by
  intro k
  induction k with
  | zero => intro a l n i; rfl
  | succ k ih =>
    intro a l n i
    simp only [spec_FullPlacements.l0, impl_FullPlacements.l0, e_l1Most, Option.bind_some, ih]
    rfl
theorem fp_ends (l : List Int) (hl : l.length ≤ 2000000) : ∀ (d i k : Nat) (a : Int), i + d = l.length → d < k → ∃ r, impl_FullPlacements.l0 k a l (l.length : Int) (i : Int) = some (r, true) := by
  intro d
  induction d with
  | zero =>
    intro i k a hi hk
    obtain ⟨k, rfl⟩ : ∃ m, k = m + 1 := ⟨k - 1, by omega⟩
    simp only [impl_FullPlacements.l0]; rw [if_neg (by omega)]; exact ⟨_, rfl⟩
  | succ d ih =>
    intro i k a hi hk
    obtain ⟨k, rfl⟩ : ∃ m, k = m + 1 := ⟨k - 1, by omega⟩
    simp only [impl_FullPlacements.l0]
    rw [if_pos (by omega), if_pos (by omega), if_pos (by omega), w64 (x := (i : Int) + 1) (by omega) (by omega), show ((i : Int) + 1) = ((i + 1 : Nat) : Int) from by omega]
    exact ih (i + 1) k _ (by omega) (by omega)
theorem fp_both (k : Nat) (l : List Int) (hl : l.length ≤ 2000000) (hk : l.length + 1 < k) : ∃ r b, spec_FullPlacements.f k l = some (r, b) ∧ impl_FullPlacements.f k l = some (r, b) := by
  unfold spec_FullPlacements.f impl_FullPlacements.f
  rw [e_feGood k l hl hk, i_AreLengths k l hl (by omega)]
  simp only [Option.bind_some, decide_eq_true_eq]
  by_cases h : Good l
  · rw [if_pos h, if_pos h, fp_same]
    obtain ⟨r, hr⟩ := fp_ends l hl l.length 0 k 1 (by omega) (by omega)
    exact ⟨r, true, hr, hr⟩
  · rw [if_neg h, if_neg h]; exact ⟨0, false, rfl, rfl⟩
theorem FnExactFullPlacements : laws_FnExactFullPlacements.Pure := by
  intro l _ _
  refine ⟨2000010, ?_⟩
  unfold laws_FnExactFullPlacements.f
  by_cases h : (l.length : Int) > 1048576
  · rw [if_pos h]
  · rw [if_neg h, e_toIntS _ l (by omega) (by omega)]
    obtain ⟨r, b, h1, h2⟩ := fp_both 2000010 l (by omega) (by omega)
    simp only [Option.bind_some, h1, h2, if_true, bne_self_eq_false]
    rw [laws_FnExactFullPlacements.j0]
    simp only [Bool.false_eq_true, if_false]
    rw [e_toIntS _ l (by omega) (by omega)]
    simp only [Option.bind_some]
    rw [e_eqIntS _ l l (by omega) (by omega)]
    simp

end Go.Proofs.Ytmnkloghenjmoaa.Pure
