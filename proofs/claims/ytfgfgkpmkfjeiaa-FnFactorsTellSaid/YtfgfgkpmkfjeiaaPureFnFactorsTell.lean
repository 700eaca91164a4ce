/- FactorsTell: the law's function comes to true. -/
import Derived.Test.YtfgfgkpmkfjeiaaPFnFactorsTellx10
namespace Go.Proofs.Ytfgfgkpmkfjeiaa.Pure
open Go.RowKit Go.Proofs.Ytfgfgkpmkfjeiaa.PFnFactorsTell Go.Proofs.YtfgfgkpmkfjeiaaW.PrintWords Go.Proofs.YtfgfgkpmkfjeiaaW.PrintLast
set_option linter.unusedVariables false
set_option linter.unusedSimpArgs false

theorem w64 {x : Int} (h0 : -9223372036854775808 ≤ x) (h1 : x < 9223372036854775808) : wrap64 x = x := by
  unfold wrap64; omega
theorem rd_nat (l : List Int) (i : Nat) (h : i < l.length) : rd l (i : Int) = l[i] := by
  unfold rd; simp [List.getD, h]

/-- A list does not fall. -/
def up : List Int → Prop
  | [] => True
  | [_] => True
  | a :: b :: r => a ≤ b ∧ up (b :: r)
instance upDec : ∀ l, Decidable (up l)
  | [] => .isTrue trivial
  | [_] => .isTrue trivial
  | a :: b :: r => by unfold up; have := upDec (b :: r); exact inferInstance

def Good (l : List Int) : Prop := (1 ≤ (l.length : Int) ∧ (l.length : Int) ≤ 6) ∧ (∀ x ∈ l, 0 ≤ x ∧ x ≤ (l.length : Int)) ∧ up l
instance (l : List Int) : Decidable (Good l) := by unfold Good; exact inferInstance

theorem e_l1In (a b c : Int) : spec_l1In.f a b c = some (decide (b ≤ a ∧ a ≤ c)) := by
  unfold spec_l1In.f
  by_cases h : b ≤ a
  · rw [if_pos h]; simp [h]
  · rw [if_neg h]; simp [h]

theorem e_l1All_l0 (lo hi : Int) (l : List Int) (hl : l.length ≤ 2000000) : ∀ (d i k : Nat), i + d = l.length → d < k →
    spec_l1All.l0 k lo hi l (l.length : Int) (i : Int) = some (decide (∀ x ∈ l.drop i, lo ≤ x ∧ x ≤ hi)) := by
  intro d
  induction d with
  | zero =>
    intro i k hi' hk
    obtain ⟨k, rfl⟩ : ∃ m, k = m + 1 := ⟨k - 1, by omega⟩
    simp only [spec_l1All.l0]; rw [if_neg (by omega), List.drop_eq_nil_of_le (by omega)]; simp
  | succ d ih =>
    intro i k hi' hk
    obtain ⟨k, rfl⟩ : ∃ m, k = m + 1 := ⟨k - 1, by omega⟩
    have hlt : i < l.length := by omega
    simp only [spec_l1All.l0]
    rw [if_pos (by omega), if_pos (by omega), if_pos (by omega), e_l1In, rd_nat l i hlt, List.drop_eq_getElem_cons hlt, w64 (by omega) (by omega)]
    simp only [Option.bind_some, decide_eq_true_eq, List.forall_mem_cons]
    by_cases h : lo ≤ l[i] ∧ l[i] ≤ hi
    · rw [if_pos h]
      have := ih (i + 1) k (by omega) (by omega)
      rw [show ((i : Int) + 1) = ((i + 1 : Nat) : Int) from by omega, this]; simp [h]
    · rw [if_neg h]; simp [h]
theorem e_l1All (k : Nat) (l : List Int) (lo hi : Int) (hl : l.length ≤ 2000000) (hk : l.length < k) : spec_l1All.f k l lo hi = some (decide (∀ x ∈ l, lo ≤ x ∧ x ≤ hi)) := by
  unfold spec_l1All.f; exact e_l1All_l0 lo hi l hl l.length 0 k (by omega) hk

theorem e_boSide (a : Int) : spec_boSide.f a = some (decide (1 ≤ a ∧ a ≤ 6)) := by
  unfold spec_boSide.f; rw [e_l1In]; rfl

theorem e_feGood_l0 (l : List Int) (hl : l.length ≤ 2000000) : ∀ (d i k : Nat), i + 1 + d = l.length → d < k →
    spec_feGood.l0 k l ((i + 1 : Nat) : Int) = some (decide (up (l.drop i))) := by
  intro d
  induction d with
  | zero =>
    intro i k hi' hk
    obtain ⟨k, rfl⟩ : ∃ m, k = m + 1 := ⟨k - 1, by omega⟩
    simp only [spec_feGood.l0]; rw [if_neg (by omega), List.drop_eq_getElem_cons (by omega), List.drop_eq_nil_of_le (by omega)]; exact congrArg some (decide_eq_true trivial).symm
  | succ d ih =>
    intro i k hi' hk
    obtain ⟨k, rfl⟩ : ∃ m, k = m + 1 := ⟨k - 1, by omega⟩
    have hlt : i < l.length := by omega
    have hlt1 : i + 1 < l.length := by omega
    simp only [spec_feGood.l0]
    rw [w64 (x := ((i + 1 : Nat) : Int) - 1) (by omega) (by omega), if_pos (by omega), if_pos (by omega), if_pos (by omega), if_pos (by omega), rd_nat l (i + 1) hlt1,
      show ((i + 1 : Nat) : Int) - 1 = (i : Int) from by omega, rd_nat l i hlt, w64 (by omega) (by omega), show ((i + 1 : Nat) : Int) + 1 = ((i + 1 + 1 : Nat) : Int) from by omega, ih (i + 1) k (by omega) (by omega),
      List.drop_eq_getElem_cons hlt, List.drop_eq_getElem_cons hlt1]
    by_cases h : l[i + 1] < l[i]
    · rw [if_pos h]; simp only [up]; simp; intro h2; omega
    · rw [if_neg h]; simp only [up]; simp; intro; omega
theorem e_feGood (k : Nat) (l : List Int) (hl : l.length ≤ 2000000) (hk : l.length + 1 < k) : spec_feGood.f k l = some (decide (Good l)) := by
  unfold spec_feGood.f
  rw [e_boSide, e_l1All _ _ _ _ hl (by omega)]
  obtain ⟨k, rfl⟩ : ∃ m, k = m + 1 := ⟨k - 1, by omega⟩
  simp only [Option.bind_some, decide_eq_true_eq, spec_feGood.j0]
  by_cases h : 1 ≤ (l.length : Int) ∧ (l.length : Int) ≤ 6
  · rw [if_pos h]
    by_cases h2 : ∀ x ∈ l, 0 ≤ x ∧ x ≤ (l.length : Int)
    · have := e_feGood_l0 l hl (l.length - 1) 0 k (by omega) (by omega)
      rw [show ((0 + 1 : Nat) : Int) = 1 from rfl] at this
      simp only [decide_eq_true h2, Bool.not_true, Bool.false_eq_true, if_false]
      rw [this]; simp only [Good]; simp [h]; exact fun _ => h2
    · simp only [decide_eq_false h2, Bool.not_false, if_true]; simp only [Good]; simp [h2]
  · rw [if_neg h]; simp only [Good]; simp [h]

theorem e_Less (a b : Int) : cmp_Less_int.f a b = some (decide (a < b)) := by
  unfold cmp_Less_int.f; rw [show cmp_isNaN_int.f a = some false from by unfold cmp_isNaN_int.f; simp]; rfl
theorem up_take_succ (l : List Int) (i : Nat) (h : i + 1 < l.length) : up (l.drop i) ↔ l[i] ≤ l[i + 1] ∧ up (l.drop (i + 1)) := by
  rw [List.drop_eq_getElem_cons (by omega), List.drop_eq_getElem_cons h]; rfl
theorem not_up (l : List Int) (i : Nat) (hi : i + 1 < l.length) (h : l[i + 1] < l[i]) : ∀ (d j : Nat), j + d = i → ¬ up (l.drop j) := by
  intro d
  induction d with
  | zero =>
    intro j hj
    obtain rfl : j = i := hj
    rw [up_take_succ l j hi]; intro hc; omega
  | succ d ih => intro j hj; rw [up_take_succ l j (by omega)]; intro hc; exact ih (j + 1) (by omega) hc.2
theorem e_IsSorted_l0 (l : List Int) (hl : l.length ≤ 2000000) : ∀ (i k : Nat), i < l.length → i < k → up (l.drop i) →
    slices_IsSorted_int_int.l0 k l (i : Int) = some (decide (up l)) := by
  intro i
  induction i with
  | zero =>
    intro k hi' hk hu
    obtain ⟨k, rfl⟩ : ∃ m, k = m + 1 := ⟨k - 1, by omega⟩
    simp only [slices_IsSorted_int_int.l0]; rw [if_neg (by omega)]; rw [List.drop_zero] at hu; simp [hu]
  | succ i ih =>
    intro k hi' hk hu
    obtain ⟨k, rfl⟩ : ∃ m, k = m + 1 := ⟨k - 1, by omega⟩
    have hlt : i < l.length := by omega
    simp only [slices_IsSorted_int_int.l0]
    rw [w64 (x := ((i + 1 : Nat) : Int) - 1) (by omega) (by omega), if_pos (by omega), if_pos (by omega), if_pos (by omega), if_pos (by omega), if_pos (by omega), rd_nat l (i + 1) hi',
      show ((i + 1 : Nat) : Int) - 1 = (i : Int) from by omega, rd_nat l i hlt, e_Less]
    simp only [Option.bind_some, decide_eq_true_eq]
    by_cases h : l[i + 1] < l[i]
    · rw [if_pos h]
      have := not_up l i hi' h i 0 (by omega)
      rw [List.drop_zero] at this; simp [this]
    · rw [if_neg h]; exact ih k hlt (by omega) ((up_take_succ l i hi').2 ⟨by omega, hu⟩)
theorem e_IsSorted (k : Nat) (l : List Int) (hl : l.length ≤ 2000000) (h1 : 1 ≤ l.length) (hk : l.length < k) : slices_IsSorted_int_int.f k l = some (decide (up l)) := by
  unfold slices_IsSorted_int_int.f
  rw [w64 (by omega) (by omega), show (l.length : Int) - 1 = ((l.length - 1 : Nat) : Int) from by omega]
  refine e_IsSorted_l0 l hl (l.length - 1) k (by omega) (by omega) ?_
  rw [List.drop_eq_getElem_cons (by omega), List.drop_eq_nil_of_le (by omega)]; simp [up]

theorem up_ge (l : List Int) (h : up l) : ∀ x ∈ l, ∀ a r, l = a :: r → a ≤ x := by
  induction l with
  | nil => intro x hx; cases hx
  | cons a r ih =>
    intro x hx a' r' he
    injection he with h1 h2
    subst h1; subst h2
    rcases List.mem_cons.1 hx with rfl | hx
    · omega
    · cases r with
      | nil => cases hx
      | cons b r => have := ih h.2 x hx b r rfl; have := h.1; omega
theorem up_le (l : List Int) (h : up l) : ∀ x ∈ l, ∀ y, l.getLast? = some y → x ≤ y := by
  induction l with
  | nil => intro x hx; cases hx
  | cons a r ih =>
    intro x hx y hy
    cases r with
    | nil => simp at hx hy; omega
    | cons b r =>
      have hy2 : (b :: r).getLast? = some y := by simpa using hy
      rcases List.mem_cons.1 hx with rfl | hx
      · have := ih h.2 b (by simp) y hy2; have := h.1; omega
      · exact ih h.2 x hx y hy2

theorem e_within (a b c : Int) : impl_within.f a b c = some (decide (b ≤ a ∧ a ≤ c)) := by
  unfold impl_within.f
  by_cases h : b ≤ a
  · rw [if_pos h]; simp [h]
  · rw [if_neg h]; simp [h]

theorem e_isSide (a : Int) : impl_isSide.f a = some (decide (1 ≤ a ∧ a ≤ 6)) := by
  unfold impl_isSide.f; rw [e_within]; rfl

theorem i_AreLengths (k : Nat) (l : List Int) (hl : l.length ≤ 2000000) (hk : l.length < k) : impl_AreLengths.f k l = some (decide (Good l)) := by
  unfold impl_AreLengths.f
  rw [e_isSide]
  simp only [Option.bind_some, decide_eq_true_eq]
  by_cases h : 1 ≤ (l.length : Int) ∧ (l.length : Int) ≤ 6
  · rw [if_pos h, e_IsSorted k l hl (by omega) hk]
    simp only [Option.bind_some, decide_eq_true_eq]
    by_cases hu : up l
    · rw [if_pos hu, if_pos (by omega), e_within, w64 (by omega) (by omega), if_pos (by omega), if_pos (by omega), e_within]
      simp only [Option.bind_some, decide_eq_true_eq]
      have hne : 0 < l.length := by omega
      have r0 : rd l 0 = l[0] := rd_nat l 0 hne
      rw [r0]
      have r1 : rd l ((l.length : Int) - 1) = l[l.length - 1] := by
        rw [show (l.length : Int) - 1 = ((l.length - 1 : Nat) : Int) from by omega]; exact rd_nat l _ (by omega)
      rw [r1]
      have key : Good l ↔ ((0 : Int) ≤ l[0] ∧ l[0] ≤ (l.length : Int)) ∧ (0 ≤ l[l.length - 1] ∧ l[l.length - 1] ≤ (l.length : Int)) := by
        constructor
        · intro g; exact ⟨g.2.1 _ (List.getElem_mem _), g.2.1 _ (List.getElem_mem _)⟩
        · intro g
          refine ⟨h, fun x hx => ?_, hu⟩
          have a1 := up_ge l hu x hx l[0] (l.drop 1) (by rw [← List.drop_eq_getElem_cons hne]; rfl)
          have a2 := up_le l hu x hx l[l.length - 1] (by rw [List.getLast?_eq_getElem?]; simp)
          omega
      by_cases g0 : (0 : Int) ≤ l[0] ∧ l[0] ≤ (l.length : Int)
      · rw [if_pos g0]; simp only [Option.some.injEq, decide_eq_decide]; rw [key]; simp [g0]
      · rw [if_neg g0]; simp only [Option.some.injEq]; symm; rw [decide_eq_false_iff_not, key]; intro hc; exact g0 hc.1
    · rw [if_neg hu]; simp [Good, hu]
  · rw [if_neg h]; simp [Good, h]

theorem rd_set (l : List Int) (i : Nat) (v : Int) (j : Nat) (h : i < l.length) : rd (l.set i v) (j : Int) = if i = j then v else rd l (j : Int) := by
  unfold rd
  simp only [List.getD, Int.toNat_natCast, List.getElem?_set]
  by_cases hij : i = j
  · subst hij; simp [h]
  · simp [hij]
theorem rd_ext (a b : List Int) (hl : a.length = b.length) (h : ∀ j : Nat, j < a.length → rd a (j : Int) = rd b (j : Int)) : a = b := by
  refine List.ext_getElem hl ?_
  intro i h1 h2
  have := h i h1
  rwa [rd_nat a i h1, rd_nat b i h2] at this

theorem up_get : ∀ (l : List Int), up l → ∀ i j (hi : i < l.length) (hj : j < l.length), i ≤ j → l[i] ≤ l[j]
  | [], _, i, j, hi, _, _ => by simp at hi
  | [a], _, i, j, hi, hj, _ => by
    simp at hi hj; subst hi; subst hj; exact Int.le_refl _
  | a :: b :: r, h, 0, j, hi, hj, _ => up_ge (a :: b :: r) h _ (List.getElem_mem _) a (b :: r) rfl
  | a :: b :: r, h, i + 1, j, hi, hj, hij => by
    obtain ⟨j, rfl⟩ : ∃ m, j = m + 1 := ⟨j - 1, by omega⟩
    simp only [List.getElem_cons_succ]
    exact up_get (b :: r) h.2 i j (by simp at hi ⊢; omega) (by simp at hj ⊢; omega) (by omega)

/-- A number put into a list, behind what is not greater. -/
def insI (x : Int) : List Int → List Int
  | [] => [x]
  | a :: t => if a ≤ x then a :: insI x t else x :: a :: t
theorem insI_len (x : Int) : ∀ l, (insI x l).length = l.length + 1
  | [] => rfl
  | a :: t => by
    simp only [insI]
    split
    · simp [insI_len x t]
    · simp
theorem insI_mem (x : Int) : ∀ l y, y ∈ insI x l ↔ y = x ∨ y ∈ l
  | [], y => by simp [insI]
  | a :: t, y => by
    simp only [insI]
    split
    · simp only [List.mem_cons, insI_mem x t y]
      constructor
      · rintro (h | h | h) <;> simp [h]
      · rintro (h | h | h) <;> simp [h]
    · simp
theorem insI_gt (x p : Int) (h : x < p) : ∀ P : List Int, insI x (P ++ [p]) = insI x P ++ [p]
  | [] => by simp [insI, show ¬ p ≤ x by omega]
  | a :: P => by
    simp only [List.cons_append, insI]
    split
    · rw [insI_gt x p h P]; rfl
    · rfl
theorem insI_le (x : Int) : ∀ P : List Int, (∀ y ∈ P, y ≤ x) → insI x P = P ++ [x]
  | [], _ => rfl
  | a :: P, h => by
    simp only [insI, if_pos (h a (by simp)), List.cons_append]
    rw [insI_le x P (fun y hy => h y (by simp [hy]))]
theorem up_cons (a : Int) (l : List Int) (hl : up l) (h : ∀ y ∈ l, a ≤ y) : up (a :: l) := by
  cases l with
  | nil => trivial
  | cons b r => exact ⟨h b (by simp), hl⟩
theorem up_tail (a : Int) (l : List Int) (h : up (a :: l)) : up l := by
  cases l with
  | nil => trivial
  | cons b r => exact h.2
theorem insI_up (x : Int) : ∀ l, up l → up (insI x l)
  | [], _ => trivial
  | a :: t, h => by
    simp only [insI]
    split
    case isTrue hx =>
      refine up_cons a _ (insI_up x t (up_tail a t h)) ?_
      intro y hy
      rcases (insI_mem x t y).1 hy with rfl | hy
      · exact hx
      · exact up_ge (a :: t) h y (by simp [hy]) a t rfl
    case isFalse hx => exact ⟨by omega, h⟩
def isortI (l : List Int) : List Int := l.foldl (fun acc x => insI x acc) []
theorem isortI_snoc (l : List Int) (x : Int) : isortI (l ++ [x]) = insI x (isortI l) := by simp [isortI]
theorem isortI_len_aux : ∀ (l acc : List Int), (l.foldl (fun acc x => insI x acc) acc).length = acc.length + l.length
  | [], acc => by simp
  | x :: l, acc => by simp only [List.foldl_cons, isortI_len_aux l, insI_len, List.length_cons]; omega
theorem isortI_len (l : List Int) : (isortI l).length = l.length := by unfold isortI; rw [isortI_len_aux]; simp
theorem isortI_up_aux : ∀ (l acc : List Int), up acc → up (l.foldl (fun acc x => insI x acc) acc)
  | [], acc, h => h
  | x :: l, acc, h => by simp only [List.foldl_cons]; exact isortI_up_aux l _ (insI_up x acc h)
theorem isortI_up (l : List Int) : up (isortI l) := isortI_up_aux l [] trivial
theorem rd_mid (P S : List Int) (x : Int) : rd (P ++ x :: S) (P.length : Int) = x := by
  rw [rd_nat _ _ (by simp)]; simp
theorem rd_mid1 (P S : List Int) (p x : Int) : rd (P ++ p :: x :: S) (P.length : Int) = p := rd_mid P (x :: S) p
theorem set_mid (P S : List Int) (p x : Int) : ((P ++ p :: x :: S).set (P.length + 1) p).set P.length x = P ++ x :: p :: S := by
  rw [List.set_append_right _ _ (by omega)]
  simp

theorem less_int (a b : Int) : cmp_Less_int.f a b = some (decide (a < b)) := by
  unfold cmp_Less_int.f cmp_isNaN_int.f
  simp
theorem sort_l1 (n : Int) (i K : Nat) (hi : i ≤ 100) (R : List Int) : ∀ (m : Nat) (P S : List Int) (x : Int) (k : Nat), P.length = m → up P → (P ++ x :: S).length ≤ 100 → K + (m + 1) ≤ k → (∀ k', K ≤ k' → slices_insertionSortOrdered_int.l0 k' (insI x P ++ S) 0 n ((i + 1 : Nat) : Int) = some R) → slices_insertionSortOrdered_int.l1 k (P ++ x :: S) 0 n (i : Int) (P.length : Int) = some R
  | 0, P, S, x, k, hP, _, _, hk, hR => by
    obtain rfl := List.eq_nil_of_length_eq_zero hP
    obtain ⟨k, rfl⟩ : ∃ m, k = m + 1 := ⟨k - 1, by omega⟩
    rw [slices_insertionSortOrdered_int.l1, if_neg (by simp), w64 (by omega) (by omega), show ((i : Int) + 1) = ((i + 1 : Nat) : Int) from by omega]
    exact hR k (by omega)
  | m + 1, P, S, x, k, hP, hup, hlen, hk, hR => by
    obtain ⟨k, rfl⟩ : ∃ m, k = m + 1 := ⟨k - 1, by omega⟩
    have hne : P ≠ [] := by rintro rfl; simp at hP
    obtain ⟨Q, p, rfl⟩ : ∃ Q p, P = Q ++ [p] := ⟨P.dropLast, P.getLast hne, (List.dropLast_concat_getLast hne).symm⟩
    have hQ : Q.length = m := by simpa using hP
    have hl2 : (Q ++ [p]).length = m + 1 := hP
    rw [hl2]
    have hL : (Q ++ [p]) ++ x :: S = Q ++ p :: x :: S := by simp
    rw [hL] at hlen ⊢
    have hlL : (Q ++ p :: x :: S).length = m + 2 + S.length := by simp; omega
    have e1 : wrap64 (((m + 1 : Nat) : Int) - 1) = (m : Int) := by rw [w64 (by omega) (by omega)]; omega
    have c1 : ((m + 1 : Nat) : Int) > 0 := by omega
    have c2 : 0 ≤ ((m + 1 : Nat) : Int) := by omega
    have c3 : ((m + 1 : Nat) : Int) < ((Q ++ p :: x :: S).length : Int) := by omega
    have c4 : 0 ≤ (m : Int) := by omega
    have c5 : (m : Int) < ((Q ++ p :: x :: S).length : Int) := by omega
    have r1 : rd (Q ++ p :: x :: S) ((m + 1 : Nat) : Int) = x := by
      have := rd_mid (Q ++ [p]) S x
      rw [hl2, hL] at this; exact this
    have r0 : rd (Q ++ p :: x :: S) (m : Int) = p := by
      have := rd_mid1 Q S p x
      rwa [hQ] at this
    rw [slices_insertionSortOrdered_int.l1, e1, if_pos c1, if_pos c2, if_pos c3, if_pos c4, if_pos c5, r1, r0, less_int, Option.bind_some]
    by_cases hx : x < p
    · rw [if_pos (decide_eq_true hx), Int.toNat_natCast, Int.toNat_natCast]
      have hs := set_mid Q S p x
      rw [hQ] at hs
      rw [hs]
      have := sort_l1 n i K hi R m Q (p :: S) x k hQ ?_ (by simp at hlen ⊢; omega) (by omega) ?_
      · rwa [hQ] at this
      · have : ∀ (Q : List Int), up (Q ++ [p]) → up Q := by
          intro Q
          induction Q with
          | nil => intro _; trivial
          | cons a Q ih =>
            intro h
            refine up_cons a Q (ih (up_tail a _ h)) ?_
            intro y hy
            exact up_ge (a :: (Q ++ [p])) h y (by simp [hy]) a _ rfl
        exact this Q hup
      · intro k' hk'
        have := hR k' hk'
        rw [insI_gt x p hx Q] at this
        simpa using this
    · rw [if_neg (by simpa using hx), w64 (by omega) (by omega), show ((i : Int) + 1) = ((i + 1 : Nat) : Int) from by omega]
      have := hR k (by omega)
      rw [insI_le x (Q ++ [p]) ?_] at this
      · simpa using this
      · intro y hy
        have : y ≤ p := up_le (Q ++ [p]) hup y hy p (by simp)
        omega
theorem sort_l0 (l : List Int) (hl : l.length ≤ 12) : ∀ (d i k : Nat), i + d = l.length → 20 * d + 1 ≤ k → slices_insertionSortOrdered_int.l0 k (isortI (l.take i) ++ l.drop i) 0 (l.length : Int) (i : Int) = some (isortI l)
  | 0, i, k, hi, hk => by
    obtain ⟨k, rfl⟩ : ∃ m, k = m + 1 := ⟨k - 1, by omega⟩
    rw [slices_insertionSortOrdered_int.l0, if_neg (by omega), List.take_of_length_le (by omega), List.drop_eq_nil_of_le (by omega)]; simp
  | d + 1, i, k, hi, hk => by
    obtain ⟨k, rfl⟩ : ∃ m, k = m + 1 := ⟨k - 1, by omega⟩
    have hlt : i < l.length := by omega
    have hpl : (isortI (l.take i)).length = i := by rw [isortI_len, List.length_take]; omega
    rw [slices_insertionSortOrdered_int.l0, if_pos (by omega), List.drop_eq_getElem_cons hlt]
    have := sort_l1 (l.length : Int) i (20 * d + 1) (by omega) (isortI l) i (isortI (l.take i)) (l.drop (i + 1)) l[i] k hpl (isortI_up _) (by simp [hpl]; omega) (by omega) ?_
    · rwa [hpl] at this
    · intro k' hk'
      rw [← isortI_snoc, ← List.take_succ_eq_append_getElem hlt]
      exact sort_l0 l hl d (i + 1) k' (by omega) hk'
theorem i_Sort (k : Nat) (l : List Int) (hl : l.length ≤ 12) (hk : 1000 ≤ k) : slices_Sort_int_int.f k l = some (isortI l) := by
  unfold slices_Sort_int_int.f bits_Len.f bits_Len64.f slices_pdqsortOrdered_int.f slices_insertionSortOrdered_int.f
  have e : IntKind.u64.wrap (l.length : Int) = (l.length : Int) := by
    have : ∀ n : Fin 13, IntKind.u64.wrap (n.val : Int) = (n.val : Int) := by decide +kernel
    exact this ⟨l.length, by omega⟩
  rw [e, if_pos (by omega), Option.bind_some, Option.bind_some, w64 (x := (l.length : Int) - 0) (by omega) (by omega), if_pos (by omega), show wrap64 (0 + 1) = ((1 : Nat) : Int) from by decide +kernel]
  by_cases h0 : l.length = 0
  · obtain rfl := List.eq_nil_of_length_eq_zero h0
    obtain ⟨k, rfl⟩ : ∃ m, k = m + 1 := ⟨k - 1, by omega⟩
    rw [slices_insertionSortOrdered_int.l0, if_neg (by simp)]; rfl
  · have := sort_l0 l hl (l.length - 1) 1 k (by omega) (by omega)
    have e2 : isortI (l.take 1) ++ l.drop 1 = l := by
      cases l with
      | nil => simp at h0
      | cons a t => simp [isortI, insI]
    rw [e2] at this
    rw [this]; rfl

theorem e_l1OwnF (l : List Int) (hl : l.length ≤ 1000) : spec_l1Own.f l = some l := by
  unfold spec_l1Own.f
  rw [Option.bind_some, if_pos (by simp; omega)]; rfl
theorem feS_l1 (v : List Int) (n : Int) (i K : Nat) (hi : i ≤ 100) (x : Int) (R : List Int) : ∀ (Q P : List Int) (k : Nat), (P ++ Q).length ≤ 100 → (∀ y ∈ P, y ≤ x) → K + (Q.length + 1) ≤ k → (∀ k', K ≤ k' → spec_feSorted.l0 k' (P ++ insI x Q) v n ((i + 1 : Nat) : Int) = some R) → spec_feSorted.l1 k (P ++ Q) x (P.length : Int) v n (i : Int) = some R
  | [], P, k, hl, hP, hk, hR => by
    obtain ⟨k, rfl⟩ : ∃ m, k = m + 1 := ⟨k - 1, by omega⟩
    simp only [List.append_nil] at hl ⊢
    have c1 : ¬ (P.length : Int) < (P.length : Int) := by omega
    have c2 : 0 ≤ (P.length : Int) := by omega
    have c3 : (P.length : Int) ≤ (P.length : Int) := by omega
    rw [spec_feSorted.l1, if_neg c1, if_pos c2, if_pos c3, Int.toNat_natCast, List.take_length, List.drop_length, e_l1OwnF P (by omega), Option.bind_some, if_pos (by omega), Option.bind_some, Option.bind_some, if_pos (by simp; omega), w64 (by omega) (by omega), show ((i : Int) + 1) = ((i + 1 : Nat) : Int) from by omega]
    have := hR k (by simp at hk; omega)
    simpa [insI] using this
  | a :: Q, P, k, hl, hP, hk, hR => by
    obtain ⟨k, rfl⟩ : ∃ m, k = m + 1 := ⟨k - 1, by omega⟩
    simp only [List.length_append, List.length_cons] at hl
    simp only [List.length_cons] at hk
    have hL : (P ++ a :: Q).length = P.length + Q.length + 1 := by simp; omega
    have c1 : (P.length : Int) < ((P ++ a :: Q).length : Int) := by omega
    have c2 : 0 ≤ (P.length : Int) := by omega
    have c3 : (P.length : Int) ≤ ((P ++ a :: Q).length : Int) := by omega
    rw [spec_feSorted.l1, if_pos c1, if_pos c2, rd_mid]
    by_cases h : a ≤ x
    · rw [if_pos h, w64 (by omega) (by omega)]
      have := feS_l1 v n i K hi x R Q (P ++ [a]) k (by simp; omega) (by
        intro y hy
        rcases List.mem_append.1 hy with hy | hy
        · exact hP y hy
        · simp at hy; rw [hy]; exact h) (by omega) (by
        intro k' hk'
        have := hR k' hk'
        simp only [insI, if_pos h] at this
        simpa using this)
      simpa using this
    · rw [if_neg h, if_pos c3, Int.toNat_natCast, List.take_left, List.drop_left, e_l1OwnF P (by omega), Option.bind_some, if_pos (by omega), Option.bind_some, Option.bind_some, if_pos (by simp; omega), w64 (by omega) (by omega), show ((i : Int) + 1) = ((i + 1 : Nat) : Int) from by omega]
      have := hR k (by omega)
      simp only [insI, if_neg h] at this
      simpa using this
theorem feS_l0 (v : List Int) (hv : v.length ≤ 12) : ∀ (d i k : Nat), i + d = v.length → 20 * d + 1 ≤ k → spec_feSorted.l0 k (isortI (v.take i)) v (v.length : Int) (i : Int) = some (isortI v)
  | 0, i, k, hi, hk => by
    obtain ⟨k, rfl⟩ : ∃ m, k = m + 1 := ⟨k - 1, by omega⟩
    rw [spec_feSorted.l0, if_neg (by omega), List.take_of_length_le (by omega)]
  | d + 1, i, k, hi, hk => by
    obtain ⟨k, rfl⟩ : ∃ m, k = m + 1 := ⟨k - 1, by omega⟩
    have hlt : i < v.length := by omega
    have hpl : (isortI (v.take i)).length = i := by rw [isortI_len, List.length_take]; omega
    rw [spec_feSorted.l0, if_pos (by omega), if_pos (by omega), if_pos (by omega), rd_nat v i hlt]
    have := feS_l1 v (v.length : Int) i (20 * d + 1) (by omega) v[i] (isortI v) (isortI (v.take i)) [] k (by simp [hpl]; omega) (by simp) (by omega) (by
      intro k' hk'
      rw [List.nil_append, ← isortI_snoc, ← List.take_succ_eq_append_getElem hlt]
      exact feS_l0 v hv d (i + 1) k' (by omega) hk')
    simpa using this
theorem e_feSorted (k : Nat) (v : List Int) (hv : v.length ≤ 12) (hk : 1000 ≤ k) : spec_feSorted.f k v = some (isortI v) := by
  unfold spec_feSorted.f
  exact feS_l0 v hv v.length 0 k (by omega) (by omega)

/-- Numbers less their places. -/
def lessI : List Int → Int → List Int
  | [], _ => []
  | x :: t, i => (x - i) :: lessI t (i + 1)
theorem lessI_len : ∀ (l : List Int) (i : Int), (lessI l i).length = l.length
  | [], _ => rfl
  | x :: t, i => by simp [lessI, lessI_len t]
theorem feF_l0 (l : List Int) (hl : l.length ≤ 6) (hx : ∀ x ∈ l, 0 ≤ x ∧ x ≤ 6) : ∀ (d i k : Nat) (acc : List Int), i + d = l.length → acc.length = i → 1000 + d + 1 ≤ k → spec_feFactors.l0 k acc l (l.length : Int) (i : Int) = some (isortI (acc ++ lessI (l.drop i) (i : Int)))
  | 0, i, k, acc, hi, ha, hk => by
    obtain ⟨k, rfl⟩ : ∃ m, k = m + 1 := ⟨k - 1, by omega⟩
    rw [spec_feFactors.l0, if_neg (by omega), e_feSorted k acc (by omega) (by omega), List.drop_eq_nil_of_le (by omega)]
    simp [lessI]
  | d + 1, i, k, acc, hi, ha, hk => by
    obtain ⟨k, rfl⟩ : ∃ m, k = m + 1 := ⟨k - 1, by omega⟩
    have hlt : i < l.length := by omega
    have hm := hx l[i] (List.getElem_mem _)
    rw [spec_feFactors.l0, if_pos (by omega), if_pos (by omega), if_pos (by omega), if_pos (by omega), rd_nat l i hlt, w64 (x := l[i] - (i : Int)) (by omega) (by omega), w64 (by omega) (by omega), show ((i : Int) + 1) = ((i + 1 : Nat) : Int) from by omega, feF_l0 l hl hx d (i + 1) k _ (by omega) (by simp [ha]) (by omega), List.drop_eq_getElem_cons hlt]
    simp only [lessI, List.append_assoc, List.singleton_append]
    rfl
theorem iF_l0 (l : List Int) (hl : l.length ≤ 6) (hx : ∀ x ∈ l, 0 ≤ x ∧ x ≤ 6) : ∀ (d i k : Nat) (acc : List Int), i + d = l.length → acc.length = i → 1000 + d + 1 ≤ k → impl_factors.l0 k acc l (l.length : Int) (i : Int) = some (isortI (acc ++ lessI (l.drop i) (i : Int)))
  | 0, i, k, acc, hi, ha, hk => by
    obtain ⟨k, rfl⟩ : ∃ m, k = m + 1 := ⟨k - 1, by omega⟩
    rw [impl_factors.l0, if_neg (by omega), i_Sort k acc (by omega) (by omega), List.drop_eq_nil_of_le (by omega)]
    simp [lessI]
  | d + 1, i, k, acc, hi, ha, hk => by
    obtain ⟨k, rfl⟩ : ∃ m, k = m + 1 := ⟨k - 1, by omega⟩
    have hlt : i < l.length := by omega
    have hm := hx l[i] (List.getElem_mem _)
    rw [impl_factors.l0, if_pos (by omega), if_pos (by omega), if_pos (by omega), if_pos (by omega), rd_nat l i hlt, w64 (x := l[i] - (i : Int)) (by omega) (by omega), w64 (by omega) (by omega), show ((i : Int) + 1) = ((i + 1 : Nat) : Int) from by omega, iF_l0 l hl hx d (i + 1) k _ (by omega) (by simp [ha]) (by omega), List.drop_eq_getElem_cons hlt]
    simp only [lessI, List.append_assoc, List.singleton_append]
    rfl
theorem good6 {l : List Int} (g : Good l) : l.length ≤ 6 ∧ ∀ x ∈ l, 0 ≤ x ∧ x ≤ 6 := by
  have h1 := g.1
  refine ⟨by omega, fun x hx => ?_⟩
  have := g.2.1 x hx
  omega
/-- The factors of lengths, in order. -/
def facL (l : List Int) : List Int := isortI (lessI l 0)
theorem facL_len (l : List Int) : (facL l).length = l.length := by unfold facL; rw [isortI_len, lessI_len]
theorem e_feFactors (k : Nat) (l : List Int) (g : Good l) (hk : 2000 ≤ k) : spec_feFactors.f k l = some (facL l) := by
  have h := good6 g
  unfold spec_feFactors.f
  exact feF_l0 l h.1 h.2 l.length 0 k [] (by omega) rfl (by omega)
theorem i_factors (k : Nat) (l : List Int) (g : Good l) (hk : 2000 ≤ k) : impl_factors.f k l = some (facL l) := by
  have h := good6 g
  unfold impl_factors.f
  exact iF_l0 l h.1 h.2 l.length 0 k [] (by omega) rfl (by omega)

theorem i_isPoint (a : Int) : impl_isPoint.f a = some (decide (-20 ≤ a ∧ a ≤ 20)) := by
  unfold impl_isPoint.f
  rw [e_within]; rfl


theorem prod_loop (x1 : Int) (v : List Int) (hv : v.length ≤ 100) : ∀ (d i k k' : Nat) (a : Int), i + d = v.length → d < k → d < k' → ∃ o, spec_ProductAt.l0 k x1 a v (v.length : Int) (i : Int) = some o ∧ impl_ProductAt.l0 k' x1 a v (v.length : Int) (i : Int) = some o := by
  intro d
  induction d with
  | zero =>
    intro i k k' a hi hk hk'
    obtain ⟨k, rfl⟩ : ∃ m, k = m + 1 := ⟨k - 1, by omega⟩
    obtain ⟨k', rfl⟩ : ∃ m, k' = m + 1 := ⟨k' - 1, by omega⟩
    rw [spec_ProductAt.l0, impl_ProductAt.l0, if_neg (by omega), if_neg (by omega)]
    exact ⟨_, rfl, rfl⟩
  | succ d ih =>
    intro i k k' a hi hk hk'
    obtain ⟨k, rfl⟩ : ∃ m, k = m + 1 := ⟨k - 1, by omega⟩
    obtain ⟨k', rfl⟩ : ∃ m, k' = m + 1 := ⟨k' - 1, by omega⟩
    rw [spec_ProductAt.l0, impl_ProductAt.l0, if_pos (by omega), if_pos (by omega), if_pos (by omega), if_pos (by omega), if_pos (by omega), if_pos (by omega), w64 (x := (i : Int) + 1) (by omega) (by omega), show ((i : Int) + 1) = ((i + 1 : Nat) : Int) from by omega]
    exact ih (i + 1) k k' _ (by omega) (by omega) (by omega)
theorem both_ProductAt (k k' : Nat) (l : List Int) (a : Int) (hk : 2000000 ≤ k) (hk' : 2000000 ≤ k') (hl : l.length ≤ 1048576) : ∃ o, spec_ProductAt.f k l a = some o ∧ impl_ProductAt.f k' l a = some o := by
  unfold spec_ProductAt.f impl_ProductAt.f
  rw [e_feGood k l (by omega) (by omega), i_AreLengths k' l (by omega) (by omega)]
  simp only [Option.bind_some]
  obtain ⟨k, rfl⟩ : ∃ m, k = m + 1 := ⟨k - 1, by omega⟩
  obtain ⟨k', rfl⟩ : ∃ m, k' = m + 1 := ⟨k' - 1, by omega⟩
  by_cases h : Good l
  · have hn := facL_len l
    have h6 := (good6 h).1
    rw [if_pos (decide_eq_true h), if_pos (decide_eq_true h), e_l1In, i_isPoint]
    simp only [Option.bind_some]
    rw [spec_ProductAt.j0, impl_ProductAt.j0]
    by_cases hp : (-20 ≤ a ∧ a ≤ 20)
    · rw [if_neg (by simpa using hp), if_neg (by simpa using hp), e_feFactors k l h (by omega), i_factors k' l h (by omega)]
      simp only [Option.bind_some]
      exact prod_loop a (facL l) (by omega) (facL l).length 0 k k' 1 (by omega) (by omega) (by omega)
    · rw [if_pos (by simp [hp]), if_pos (by simp [hp])]
      exact ⟨_, rfl, rfl⟩
  · rw [if_neg (by simpa using h), if_neg (by simpa using h), spec_ProductAt.j0, impl_ProductAt.j0, if_pos rfl, if_pos rfl]
    exact ⟨_, rfl, rfl⟩

/-- Is there a cell in the column c of a row m? -/
def cell (m c : Int) : Bool := decide (m / 2 ^ c.toNat % 2 = 1)
theorem fin_of (m : Int) (n : Nat) (h0 : 0 ≤ m) (h1 : m < n) : ∃ i : Fin n, m = (i.val : Int) := ⟨⟨m.toNat, by omega⟩, by simp; omega⟩
theorem cell_spec (m c : Int) (hm : 0 ≤ m ∧ m ≤ 63) (hc : 0 ≤ c ∧ c ≤ 6) : (Int.tmod (shr .i64 m c) 2 == 1) = cell m c := by
  have h : ∀ m : Fin 64, ∀ c : Fin 7, (Int.tmod (shr .i64 (m.val : Int) (c.val : Int)) 2 == 1) = cell (m.val : Int) (c.val : Int) := by decide +kernel
  obtain ⟨i, rfl⟩ := fin_of m 64 hm.1 (by omega)
  obtain ⟨j, rfl⟩ := fin_of c 7 hc.1 (by omega)
  exact h i j
theorem cell_impl (m c : Int) (hm : 0 ≤ m ∧ m ≤ 63) (hc : 0 ≤ c ∧ c ≤ 6) : (Go.bits .and .i64 (shr .i64 m c) 1 == 1) = cell m c := by
  have h : ∀ m : Fin 64, ∀ c : Fin 7, (Go.bits .and .i64 (shr .i64 (m.val : Int) (c.val : Int)) 1 == 1) = cell (m.val : Int) (c.val : Int) := by decide +kernel
  obtain ⟨i, rfl⟩ := fin_of m 64 hm.1 (by omega)
  obtain ⟨j, rfl⟩ := fin_of c 7 hc.1 (by omega)
  exact h i j
theorem pow_le (a : Int) (h : 1 ≤ a ∧ a ≤ 6) : 2 ≤ (2 : Int) ^ a.toNat ∧ (2 : Int) ^ a.toNat ≤ 64 := by
  obtain ⟨h0, h1⟩ := h
  obtain h | h | h | h | h | h : a = 1 ∨ a = 2 ∨ a = 3 ∨ a = 4 ∨ a = 5 ∨ a = 6 := by omega
  all_goals (subst h; decide +kernel)
theorem rd_mem (l : List Int) (i : Int) (h0 : 0 ≤ i) (h1 : i < l.length) : rd l i ∈ l := by
  obtain ⟨n, rfl⟩ := Int.eq_ofNat_of_zero_le h0
  rw [rd_nat l n (by omega)]; exact List.getElem_mem _

/-- The columns taken, with one more. -/
def orZ (taken : Int) (j : Nat) : Int := Go.bits .or .i64 taken (shl .i64 1 (j : Int))
/-- Numbers of rooks of all placements, in order: rows that are left, columns taken. -/
def Z (C : Nat) : List Int → Int → List Nat
  | [], _ => [0]
  | m :: t, taken => (List.range (C + 1)).flatMap fun i => if i = 0 then Z C t taken else if cell m ((i - 1 : Nat) : Int) && !cell taken ((i - 1 : Nat) : Int) then (Z C t (orZ taken (i - 1))).map (· + 1) else []
/-- How often each number below M stands. -/
def HZ (M : Nat) (z : List Nat) : List Int := (List.range M).map fun k => ((z.count k : Nat) : Int)
theorem HZ_len (M : Nat) (z : List Nat) : (HZ M z).length = M := by simp [HZ]
theorem HZ_rd (M : Nat) (z : List Nat) (i : Nat) (h : i < M) : rd (HZ M z) (i : Int) = ((z.count i : Nat) : Int) := by
  rw [rd_nat _ i (by rw [HZ_len]; exact h)]; simp [HZ]
/-- How many columns are free. -/
def frZ (C : Nat) (taken : Int) : Nat := ((List.range C).filter fun j : Nat => !cell taken (j : Int)).length
theorem orZ_ok (C : Nat) (taken : Int) (j : Nat) (hC : C ≤ 6) (h : 0 ≤ taken ∧ taken ≤ 63) (hj : j < C) (hf : cell taken (j : Int) = false) : (0 ≤ orZ taken j ∧ orZ taken j ≤ 63) ∧ frZ C (orZ taken j) + 1 ≤ frZ C taken := by
  have key : ∀ C : Fin 7, ∀ j : Fin 6, ∀ t : Fin 64, j.val < C.val → cell (t.val : Int) (j.val : Int) = false → (0 ≤ orZ (t.val : Int) j.val ∧ orZ (t.val : Int) j.val ≤ 63) ∧ frZ C.val (orZ (t.val : Int) j.val) + 1 ≤ frZ C.val (t.val : Int) := by decide +kernel
  obtain ⟨t, rfl⟩ := fin_of taken 64 h.1 (by omega)
  exact key ⟨C, by omega⟩ ⟨j, by omega⟩ t hj hf
theorem frZ_le (C : Nat) (taken : Int) : frZ C taken ≤ C := by
  unfold frZ
  exact Nat.le_trans (List.length_filter_le _ _) (by simp)
theorem Z_le (C : Nat) (hC : C ≤ 6) : ∀ (t : List Int) (taken : Int), 0 ≤ taken ∧ taken ≤ 63 → ∀ z ∈ Z C t taken, z ≤ t.length ∧ z ≤ frZ C taken
  | [], _, _, z, hz => by simp [Z] at hz; omega
  | m :: t, taken, h, z, hz => by
    simp only [Z, List.mem_flatMap, List.mem_range] at hz
    obtain ⟨i, hi, hz⟩ := hz
    by_cases h0 : i = 0
    · rw [if_pos h0] at hz
      have := Z_le C hC t taken h z hz
      exact ⟨by simp; omega, this.2⟩
    · rw [if_neg h0] at hz
      split at hz
      case isFalse => simp at hz
      case isTrue hc =>
        simp only [Bool.and_eq_true, Bool.not_eq_true'] at hc
        obtain ⟨y, hy, rfl⟩ := List.mem_map.1 hz
        have ho := orZ_ok C taken (i - 1) hC h (by omega) hc.2
        have := Z_le C hC t _ ho.1 y hy
        exact ⟨by simp; omega, by omega⟩
theorem flat_len {α β : Type} (f : α → List β) (b : Nat) : ∀ l : List α, (∀ x ∈ l, (f x).length ≤ b) → (l.flatMap f).length ≤ l.length * b
  | [], _ => by simp
  | x :: t, h => by
    have h1 := h x (by simp)
    have h2 := flat_len f b t (fun y hy => h y (by simp [hy]))
    simp only [List.flatMap_cons, List.length_append, List.length_cons, Nat.succ_mul]
    omega
theorem Z_length (C : Nat) (hC : C ≤ 6) : ∀ (t : List Int) (taken : Int), (Z C t taken).length ≤ 7 ^ t.length
  | [], _ => by simp [Z]
  | m :: t, taken => by
    simp only [Z, List.length_cons]
    refine Nat.le_trans (flat_len _ (7 ^ t.length) _ ?_) ?_
    · intro i _
      by_cases h0 : i = 0
      · rw [if_pos h0]; exact Z_length C hC t taken
      · rw [if_neg h0]
        split
        · rw [List.length_map]; exact Z_length C hC t _
        · simp
    · rw [List.length_range, Nat.pow_succ, Nat.mul_comm]
      exact Nat.mul_le_mul_left _ (by omega)
theorem Z_small (C : Nat) (hC : C ≤ 6) (t : List Int) (taken : Int) (ht : t.length ≤ 6) (k : Nat) : (Z C t taken).count k ≤ 117649 := by
  refine Nat.le_trans List.count_le_length (Nat.le_trans (Z_length C hC t taken) ?_)
  exact Nat.le_trans (Nat.pow_le_pow_right (by omega) ht) (by decide)

theorem cntR_snoc : ∀ (a : List Int) (v : Int), cntR (a ++ [v]) = cntR a + (if v = -1 then 0 else 1)
  | [], v => by simp [cntR]
  | x :: a, v => by simp only [List.cons_append, cntR, cntR_snoc a v]; omega
theorem okC_cell (m taken : Int) (j : Nat) (hm : 0 ≤ m ∧ m ≤ 63) (ht : 0 ≤ taken ∧ taken ≤ 63) (hj : j ≤ 6) : okC m taken j = (cell m (j : Int) && !cell taken (j : Int)) := by
  unfold okC
  rw [cell_impl m (j : Int) hm (by omega), cell_impl taken (j : Int) ht (by omega)]
theorem flatMap_map_eq {α β : Type} (f : α → List (List Int)) (g : α → List Nat) (u : List Int → β) (v : Nat → β) : ∀ l : List α, (∀ x ∈ l, (f x).map u = (g x).map v) → (l.flatMap f).map u = (l.flatMap g).map v
  | [], _ => rfl
  | x :: l, h => by
    simp only [List.flatMap_cons, List.map_append, h x (by simp), flatMap_map_eq f g u v l (fun y hy => h y (by simp [hy]))]
theorem plc_Z (C : Nat) (hC : C ≤ 6) : ∀ (t : List Int) (taken : Int) (acc : List Int), (∀ x ∈ t, 0 ≤ x ∧ x ≤ 63) → 0 ≤ taken ∧ taken ≤ 63 → (plc C t taken acc).map cntR = (Z C t taken).map fun z : Nat => cntR acc + (z : Int)
  | [], taken, acc, _, _ => by simp [plc, Z]
  | m :: t, taken, acc, hm, ht => by
    simp only [plc, Z]
    refine flatMap_map_eq _ _ _ _ _ ?_
    intro i hi
    have hi := List.mem_range.1 hi
    by_cases h0 : i = 0
    · rw [if_pos h0, if_pos h0, plc_Z C hC t taken _ (fun x hx => hm x (by simp [hx])) ht, cntR_snoc]; simp
    · rw [if_neg h0, if_neg h0, okC_cell m taken (i - 1) (hm m (by simp)) ht (by omega)]
      by_cases hc : (cell m ((i - 1 : Nat) : Int) && !cell taken ((i - 1 : Nat) : Int)) = true
      · rw [if_pos hc, if_pos hc]
        simp only [Bool.and_eq_true, Bool.not_eq_true'] at hc
        have ho := orZ_ok C taken (i - 1) hC ht (by omega) hc.2
        rw [show orC taken (i - 1) = orZ taken (i - 1) from rfl, plc_Z C hC t _ _ (fun x hx => hm x (by simp [hx])) ho.1, cntR_snoc, List.map_map, if_neg (by omega)]
        refine List.map_congr_left ?_
        intro z _
        simp only [Function.comp]; omega
      · rw [if_neg hc, if_neg hc]; rfl

theorem HZ_nil (M : Nat) : HZ M [] = List.replicate M 0 := by
  refine rd_ext _ _ (by simp [HZ_len]) ?_
  intro j hj
  rw [HZ_len] at hj
  rw [HZ_rd _ _ j hj, rd_nat _ j (by simpa using hj)]; simp
/-- A board's bounds. -/
def Nice (r c : Int) (l : List Int) : Prop := (1 ≤ r ∧ r ≤ 6) ∧ (1 ≤ c ∧ c ≤ 6) ∧ (l.length : Int) = r ∧ ∀ x ∈ l, 0 ≤ x ∧ x ≤ 63
/-- The rook numbers. -/
def numsL (r c : Int) (l : List Int) : List Int := HZ (min r c + 1).toNat (Z c.toNat l 0)
theorem Z_ltN (r c : Int) (l : List Int) (h : Nice r c l) : ∀ z ∈ Z c.toNat l 0, z < (min r c + 1).toNat := by
  intro z hz
  have h1 := h.1; have h2 := h.2.1; have h3 := h.2.2.1
  have := Z_le c.toNat (by omega) l 0 (by omega) z hz
  have := frZ_le c.toNat 0
  omega
theorem numsL_lenN (r c : Int) (l : List Int) (h : Nice r c l) : (numsL r c l).length ≤ 7 := by
  have h1 := h.1; have h2 := h.2.1
  unfold numsL; rw [HZ_len]; omega

theorem bump_H (M : Nat) : ∀ (L : List (List Int)) (zs z0 : List Nat), L.map cntR = zs.map (fun z : Nat => (z : Int)) → (∀ z ∈ zs, z < M) → z0.length + zs.length ≤ 1000000 → L.foldl bumpN (HZ M z0) = HZ M (z0 ++ zs)
  | [], zs, z0, h, _, _ => by
    have : zs = [] := by
      have := congrArg List.length h
      simp at this; exact List.eq_nil_of_length_eq_zero this.symm
    subst this; simp
  | q :: L, [], z0, h, _, _ => by simp at h
  | q :: L, z :: zs, z0, h, hz, hl => by
    simp only [List.map_cons, List.cons.injEq] at h
    have hzM := hz z (by simp)
    simp only [List.length_cons] at hl
    have hcl := List.count_le_length (a := z) (l := z0)
    have e : bumpN (HZ M z0) q = HZ M (z0 ++ [z]) := by
      unfold bumpN
      rw [h.1, Int.toNat_natCast, HZ_rd M z0 z hzM, w64 (by omega) (by omega)]
      refine rd_ext _ _ (by simp [HZ_len]) ?_
      intro j hj
      rw [List.length_set, HZ_len] at hj
      rw [rd_set _ z _ j (by rw [HZ_len]; exact hzM), HZ_rd _ _ j hj, HZ_rd _ _ j hj, List.count_append, List.count_singleton]
      by_cases hzj : z = j
      · subst hzj; simp
      · rw [if_neg hzj]; simp [hzj]
    rw [List.foldl_cons, e, bump_H M L zs (z0 ++ [z]) h.2 (fun y hy => hz y (by simp [hy])) (by simp; omega)]
    simp
theorem i_numbersN (r c : Int) (l : List Int) (h : Nice r c l) : impl_Board_numbers.f r c l = some (numsL r c l) := by
  have h1 := h.1; have h2 := h.2.1; have h3 := h.2.2.1
  have hl : l.length ≤ 6 := by omega
  have hp := plc_Z c.toNat (by omega) l 0 [] h.2.2.2 (by omega)
  have hzl := Z_length c.toNat (by omega) l 0
  have h7 : 7 ^ l.length ≤ 117649 := Nat.le_trans (Nat.pow_le_pow_right (by omega) hl) (by decide)
  simp only [cntR, Int.zero_add] at hp
  unfold impl_Board_numbers.f
  rw [if_pos]
  · congr 1
    rw [← HZ_nil, bump_H _ _ (Z c.toNat l 0) [] hp (Z_ltN r c l h) (by simp; omega)]
    rfl
  · refine ⟨by omega, by omega, by omega, by omega, h3, ?_⟩
    rw [List.all_eq_true]
    intro x hx
    have : cntR x ∈ (plc c.toNat l 0 []).map cntR := List.mem_map.2 ⟨x, hx, rfl⟩
    rw [hp] at this
    obtain ⟨z, hz, e⟩ := List.mem_map.1 this
    have := Z_ltN r c l h z hz
    exact decide_eq_true (by omega)

/-- The rows of the board of lengths. -/
def boardL (l : List Int) : List Int := l.map (fun m => 2 ^ m.toNat - 1)
theorem sh0 (m : Int) (h : 0 ≤ m ∧ m ≤ 6) : wrap64 (shl .i64 1 m - 1) = 2 ^ m.toNat - 1 := by
  have key : ∀ i : Fin 7, wrap64 (shl .i64 1 (i.val : Int) - 1) = 2 ^ (i.val : Int).toNat - 1 := by decide +kernel
  obtain ⟨i, rfl⟩ := fin_of m 7 h.1 (by omega)
  exact key i

/-- All placements of rows: number of rooks, columns taken in the end. -/
def Y (C : Nat) : List Int → Nat × Int → List (Nat × Int)
  | [], p => [p]
  | m :: t, p => (List.range (C + 1)).flatMap fun i => if i = 0 then Y C t p else if cell m ((i - 1 : Nat) : Int) && !cell p.2 ((i - 1 : Nat) : Int) then Y C t (p.1 + 1, orZ p.2 (i - 1)) else []
def rowY (C : Nat) (m : Int) (p : Nat × Int) : List (Nat × Int) := (List.range (C + 1)).flatMap fun i => if i = 0 then [p] else if cell m ((i - 1 : Nat) : Int) && !cell p.2 ((i - 1 : Nat) : Int) then [(p.1 + 1, orZ p.2 (i - 1))] else []
theorem Y_snoc (C : Nat) (m : Int) : ∀ (t : List Int) (p : Nat × Int), Y C (t ++ [m]) p = (Y C t p).flatMap (rowY C m)
  | [], p => by simp [Y, rowY]
  | x :: t, p => by
    simp only [List.cons_append, Y, List.flatMap_assoc]
    congr 1
    funext i
    by_cases h0 : i = 0
    · rw [if_pos h0, if_pos h0, Y_snoc C m t p]
    · rw [if_neg h0, if_neg h0]
      split
      · rw [Y_snoc C m t _]
      · rfl
theorem Y_Z (C : Nat) : ∀ (t : List Int) (n : Nat) (taken : Int), (Y C t (n, taken)).map (·.1) = (Z C t taken).map (fun z : Nat => n + z)
  | [], n, taken => by simp [Y, Z]
  | m :: t, n, taken => by
    simp only [Y, Z, List.map_flatMap]
    congr 1
    funext i
    by_cases h0 : i = 0
    · rw [if_pos h0, if_pos h0, Y_Z C t n taken]
    · rw [if_neg h0, if_neg h0]
      split
      · rw [Y_Z C t (n + 1) _, List.map_map]
        congr 1
        funext z
        simp only [Function.comp]; omega
      · rfl
/-- How many columns are taken. -/
def pcZ (taken : Int) : Nat := ((List.range 6).filter fun j : Nat => cell taken (j : Int)).length
/-- Which columns a row can take still. -/
def canZ (C : Nat) (m taken : Int) : List Nat := (List.range C).filter fun j : Nat => cell m (j : Int) && !cell taken (j : Int)
/-- A way that is good up to a length. -/
def OkY (a : Nat) (p : Nat × Int) : Prop := 0 ≤ p.2 ∧ p.2 < 2 ^ a ∧ pcZ p.2 = p.1
theorem pcZ_le (taken : Int) (a : Nat) (ha : a ≤ 6) (h : 0 ≤ taken ∧ taken < 2 ^ a) : pcZ taken ≤ a := by
  have key : ∀ a : Fin 7, ∀ t : Fin 64, (t.val : Int) < 2 ^ a.val → pcZ (t.val : Int) ≤ a.val := by decide +kernel
  have h6 : ∀ a : Fin 7, (2 : Int) ^ a.val ≤ 64 := by decide +kernel
  have := h6 ⟨a, by omega⟩
  obtain ⟨t, rfl⟩ := fin_of taken 64 h.1 (by simp only at this; omega)
  exact key ⟨a, by omega⟩ t h.2
theorem canZ_len (C a : Nat) (taken : Int) (hC : C ≤ 6) (ha : a ≤ C) (h : 0 ≤ taken ∧ taken < 2 ^ a) : (canZ C (2 ^ a - 1) taken).length = a - pcZ taken := by
  have key : ∀ C : Fin 7, ∀ a : Fin 7, a.val ≤ C.val → ∀ t : Fin 64, (t.val : Int) < 2 ^ a.val → (canZ C.val (2 ^ a.val - 1) (t.val : Int)).length = a.val - pcZ (t.val : Int) := by decide +kernel
  have h6 : ∀ a : Fin 7, (2 : Int) ^ a.val ≤ 64 := by decide +kernel
  have := h6 ⟨a, by omega⟩
  obtain ⟨t, rfl⟩ := fin_of taken 64 h.1 (by simp only at this; omega)
  exact key ⟨C, by omega⟩ ⟨a, by omega⟩ ha t h.2
theorem orZ_pc (a j : Nat) (taken : Int) (ha : a ≤ 6) (h : 0 ≤ taken ∧ taken < 2 ^ a) (hj : cell (2 ^ a - 1) (j : Int) = true) (hj6 : j < 6) (hf : cell taken (j : Int) = false) : (0 ≤ orZ taken j ∧ orZ taken j < 2 ^ a) ∧ pcZ (orZ taken j) = pcZ taken + 1 := by
  have key : ∀ a : Fin 7, ∀ j : Fin 6, ∀ t : Fin 64, (t.val : Int) < 2 ^ a.val → cell (2 ^ a.val - 1) (j.val : Int) = true → cell (t.val : Int) (j.val : Int) = false → (0 ≤ orZ (t.val : Int) j.val ∧ orZ (t.val : Int) j.val < 2 ^ a.val) ∧ pcZ (orZ (t.val : Int) j.val) = pcZ (t.val : Int) + 1 := by decide +kernel
  have h6 : ∀ a : Fin 7, (2 : Int) ^ a.val ≤ 64 := by decide +kernel
  have := h6 ⟨a, by omega⟩
  obtain ⟨t, rfl⟩ := fin_of taken 64 h.1 (by simp only at this; omega)
  exact key ⟨a, by omega⟩ ⟨j, hj6⟩ t h.2 hj hf
theorem rowY_ok (C a : Nat) (hC : C ≤ 6) (ha : a ≤ C) (p : Nat × Int) (h : OkY a p) : ∀ q ∈ rowY C (2 ^ a - 1) p, OkY a q := by
  intro q hq
  simp only [rowY, List.mem_flatMap, List.mem_range] at hq
  obtain ⟨i, hi, hq⟩ := hq
  by_cases h0 : i = 0
  · rw [if_pos h0] at hq; simp at hq; rw [hq]; exact h
  · rw [if_neg h0] at hq
    split at hq
    case isFalse => simp at hq
    case isTrue hc =>
      simp only [Bool.and_eq_true, Bool.not_eq_true'] at hc
      simp at hq
      have := orZ_pc a (i - 1) p.2 (by omega) ⟨h.1, h.2.1⟩ hc.1 (by omega) hc.2
      rw [hq]
      exact ⟨this.1.1, this.1.2, by simp only [this.2, h.2.2]⟩
theorem OkY_mono {a b : Nat} (hab : a ≤ b) (hb : b ≤ 6) {p : Nat × Int} (h : OkY a p) : OkY b p := by
  refine ⟨h.1, ?_, h.2.2⟩
  have key : ∀ a b : Fin 7, a.val ≤ b.val → (2 : Int) ^ a.val ≤ 2 ^ b.val := by decide +kernel
  have := key ⟨a, by omega⟩ ⟨b, by omega⟩ hab
  simp only at this
  have := h.2.1
  omega
theorem range_shift {β : Type} (C : Nat) (x : List β) (f : Nat → List β) : ((List.range (C + 1)).flatMap fun i => if i = 0 then x else f (i - 1)) = x ++ (List.range C).flatMap f := by
  rw [List.range_succ_eq_map, List.flatMap_cons, if_pos rfl, List.flatMap_map]
  congr 1
theorem flat_filter {β : Type} (c : Nat → Bool) (g : Nat → β) : ∀ l : List Nat, (l.flatMap fun j => if c j then [g j] else []) = (l.filter c).map g
  | [] => rfl
  | x :: l => by
    rw [List.flatMap_cons, flat_filter c g l, List.filter_cons]
    cases c x <;> simp
theorem rowY_count (C a : Nat) (hC : C ≤ 6) (ha : a ≤ C) (p : Nat × Int) (h : OkY a p) (k : Nat) : ((rowY C (2 ^ a - 1) p).map (·.1)).count k = (if p.1 = k then 1 else 0) + (if p.1 + 1 = k then a - p.1 else 0) := by
  unfold rowY
  rw [range_shift C [p] (fun j => if cell (2 ^ a - 1) (j : Int) && !cell p.2 (j : Int) then [(p.1 + 1, orZ p.2 j)] else []), flat_filter (fun j : Nat => cell (2 ^ a - 1) (j : Int) && !cell p.2 (j : Int)) (fun j => (p.1 + 1, orZ p.2 j))]
  rw [List.map_append, List.count_append, List.map_map]
  have e : ((fun x : Nat × Int => x.1) ∘ fun j => (p.1 + 1, orZ p.2 j)) = fun _ => p.1 + 1 := rfl
  rw [e, List.map_const', List.count_replicate]
  have hl := canZ_len C a p.2 hC ha ⟨h.1, h.2.1⟩
  unfold canZ at hl
  rw [hl, h.2.2]
  simp [List.count_cons]
theorem flat_count (C a : Nat) (hC : C ≤ 6) (ha : a ≤ C) (k : Nat) : ∀ L : List (Nat × Int), (∀ p ∈ L, OkY a p) → ((L.flatMap (rowY C (2 ^ a - 1))).map (·.1)).count k = (L.map (·.1)).count k + (if k = 0 then 0 else (a - (k - 1)) * (L.map (·.1)).count (k - 1))
  | [], _ => by simp
  | p :: L, h => by
    rw [List.flatMap_cons, List.map_append, List.count_append, rowY_count C a hC ha p (h p (by simp)) k, flat_count C a hC ha k L (fun q hq => h q (by simp [hq])), List.map_cons, List.count_cons, List.count_cons]
    by_cases h0 : k = 0
    · subst h0
      by_cases h1 : p.1 = 0
      · simp [h1]; omega
      · simp [h1]
    · simp only [h0, if_false]
      by_cases h1 : p.1 = k
      · have h2 : ¬ p.1 + 1 = k := by omega
        have h3 : ¬ p.1 = k - 1 := by omega
        simp [h1, h2, h3]
        have h4 : ¬ k = k - 1 := by omega
        simp [h4]; omega
      · by_cases h2 : p.1 + 1 = k
        · have h3 : p.1 = k - 1 := by omega
          have h5 : ¬ k - 1 = k := by omega
          simp [h3, h5, Nat.mul_add]
          have h6 : k - 1 + 1 = k := by omega
          simp [h6]; omega
        · have h3 : ¬ p.1 = k - 1 := by omega
          simp [h1, h2, h3]
theorem Y_ok (l : List Int) (C : Nat) (hC : C ≤ 6) (hx : ∀ x ∈ l, 0 ≤ x ∧ x.toNat ≤ C) (hup : ∀ i j (hi : i < l.length) (hj : j < l.length), i ≤ j → l[i] ≤ l[j]) : ∀ (i : Nat), i ≤ l.length → ∀ p ∈ Y C ((boardL l).take i) (0, 0), ∀ b : Nat, b ≤ C → (∀ j (hj : j < l.length), j < i → l[j].toNat ≤ b) → OkY b p
  | 0, _, p, hp, b, hb, _ => by
    simp [Y] at hp
    rw [hp]
    exact ⟨Int.le_refl _, by show (0 : Int) < 2 ^ b; exact Int.pow_pos (by omega), by decide⟩
  | i + 1, hi, p, hp, b, hb, hbx => by
    have hlt : i < l.length := by omega
    have hlb : i < (boardL l).length := by simpa [boardL] using hlt
    rw [List.take_succ_eq_append_getElem hlb, Y_snoc] at hp
    obtain ⟨q, hq, hp⟩ := List.mem_flatMap.1 hp
    have hm := hx l[i] (List.getElem_mem _)
    have e : (boardL l)[i] = 2 ^ l[i].toNat - 1 := by simp [boardL]
    rw [e] at hp
    have hq' := Y_ok l C hC hx hup i (by omega) q hq l[i].toNat hm.2 (fun j hj hji => by have := hup j i hj hlt (by omega); omega)
    exact OkY_mono (hbx i hlt (by omega)) (by omega) (rowY_ok C l[i].toNat hC hm.2 q hq' p hp)
theorem Z_snoc (l : List Int) (C : Nat) (hC : C ≤ 6) (hx : ∀ x ∈ l, 0 ≤ x ∧ x.toNat ≤ C) (hup : ∀ i j (hi : i < l.length) (hj : j < l.length), i ≤ j → l[i] ≤ l[j]) (i : Nat) (hi : i < l.length) (k : Nat) : (Z C ((boardL l).take (i + 1)) 0).count k = (Z C ((boardL l).take i) 0).count k + (if k = 0 then 0 else (l[i].toNat - (k - 1)) * (Z C ((boardL l).take i) 0).count (k - 1)) := by
  have hm := hx l[i] (List.getElem_mem _)
  have hlb : i < (boardL l).length := by simpa [boardL] using hi
  have e : (boardL l)[i] = 2 ^ l[i].toNat - 1 := by simp [boardL]
  have z : ∀ t, (Y C t (0, 0)).map (·.1) = Z C t 0 := fun t => by rw [Y_Z]; simp
  rw [← z, ← z, List.take_succ_eq_append_getElem hlb, Y_snoc, e]
  exact flat_count C l[i].toNat hC hm.2 k _ (fun p hp => Y_ok l C hC hx hup i (by omega) p hp l[i].toNat hm.2 (fun j hj hji => by have := hup j i hj hi (by omega); omega))
theorem fe_l1 (l : List Int) (n a : Nat) (hn : n ≤ 6) (ha : a ≤ 6) (z z' : List Nat) (hz : ∀ j, z.count j ≤ 117649) (hz' : ∀ j, z'.count j = z.count j + (if j = 0 then 0 else (a - (j - 1)) * z.count (j - 1))) (v : List Int) (nn i : Int) : ∀ (x6 k : Nat) (y : List Int), x6 ≤ n → y.length = n + 1 → (∀ j : Nat, j ≤ n → rd y (j : Int) = if j ≤ x6 then ((z.count j : Nat) : Int) else ((z'.count j : Nat) : Int)) → spec_feNumbers.l1 (k + (x6 + 1)) l y (a : Int) (x6 : Int) v nn i = spec_feNumbers.l0 k l (HZ (n + 1) z') v nn (wrap64 (i + 1))
  | 0, k, y, _, hy, hv => by
    rw [show k + (0 + 1) = k + 1 from rfl, spec_feNumbers.l1, if_neg (by omega)]
    rw [rd_ext y (HZ (n + 1) z') (by rw [HZ_len]; omega) (fun j hj => by
      rw [hv j (by omega), HZ_rd _ _ j (by omega)]
      by_cases h0 : j = 0
      · subst h0; rw [if_pos (Nat.le_refl _), hz' 0]; simp
      · rw [if_neg (by omega)])]
  | x + 1, k, y, hx, hy, hv => by
    have c1 : ((x + 1 : Nat) : Int) > 0 := by omega
    have c2 : (0 : Int) ≤ ((x + 1 : Nat) : Int) := by omega
    have c3 : ((x + 1 : Nat) : Int) < (y.length : Int) := by omega
    have e1 : wrap64 (((x + 1 : Nat) : Int) - 1) = (x : Int) := by rw [w64 (by omega) (by omega)]; omega
    have c4 : (0 : Int) ≤ (x : Int) := by omega
    have c5 : (x : Int) < (y.length : Int) := by omega
    rw [show k + (x + 1 + 1) = (k + (x + 1)) + 1 from rfl, spec_feNumbers.l1]
    simp only [e1, if_pos c1, if_pos c2, if_pos c3, if_pos c4, if_pos c5]
    have e2 : spec_l1Most.f 0 (wrap64 (wrap64 ((a : Int) - ((x + 1 : Nat) : Int)) + 1)) = some ((a - x : Nat) : Int) := by
      rw [w64 (x := (a : Int) - ((x + 1 : Nat) : Int)) (by omega) (by omega), w64 (by omega) (by omega)]
      unfold spec_l1Most.f
      by_cases h : (0 : Int) > (a : Int) - ((x + 1 : Nat) : Int) + 1
      · rw [if_pos h]; congr 1; omega
      · rw [if_neg h]; congr 1; omega
    rw [e2]
    simp only [Option.bind_some]
    have h1 := hv (x + 1) (by omega)
    have h2 := hv x (by omega)
    rw [if_pos (Nat.le_refl _)] at h1
    rw [if_pos (by omega)] at h2
    have hzx := hz x
    have hzx1 := hz (x + 1)
    have hp : (z.count x) * (a - x) ≤ 117649 * 6 := Nat.mul_le_mul hzx (by omega)
    have e3 : ((z.count x : Nat) : Int) * ((a - x : Nat) : Int) = (((z.count x) * (a - x) : Nat) : Int) := by push_cast; rfl
    have e4 := hz' (x + 1)
    rw [if_neg (by omega), Nat.add_sub_cancel, Nat.mul_comm] at e4
    rw [h1, h2, e3, w64 (x := (((z.count x) * (a - x) : Nat) : Int)) (by omega) (by omega), w64 (x := ((z.count (x + 1) : Nat) : Int) + _) (by omega) (by omega), Int.toNat_natCast]
    refine fe_l1 l n a hn ha z z' hz hz' v nn i x k _ (by omega) (by simp [hy]) ?_
    intro j hj
    rw [rd_set y (x + 1) _ j (by omega)]
    by_cases h3 : x + 1 = j
    · subst h3; rw [if_pos rfl, if_neg (by omega)]; omega
    · rw [if_neg h3, hv j hj]
      by_cases h4 : j ≤ x
      · rw [if_pos h4, if_pos (by omega)]
      · rw [if_neg h4, if_neg (by omega)]
theorem fe_l0 (l : List Int) (hl : l.length ≤ 6) (hx : ∀ x ∈ l, 0 ≤ x ∧ x.toNat ≤ l.length) (hup : ∀ i j (hi : i < l.length) (hj : j < l.length), i ≤ j → l[i] ≤ l[j]) : ∀ (d i k : Nat), i + d = l.length → d * 9 < k → spec_feNumbers.l0 k l (HZ (l.length + 1) (Z l.length ((boardL l).take i) 0)) l (l.length : Int) (i : Int) = some (HZ (l.length + 1) (Z l.length (boardL l) 0))
  | 0, i, k, hi, hk => by
    obtain ⟨k, rfl⟩ : ∃ m, k = m + 1 := ⟨k - 1, by omega⟩
    rw [spec_feNumbers.l0, if_neg (by omega), List.take_of_length_le (by simp [boardL]; omega)]
  | d + 1, i, k, hi, hk => by
    obtain ⟨k, rfl⟩ : ∃ m, k = m + (l.length + 1) + 1 := ⟨k - (l.length + 2), by omega⟩
    have hlt : i < l.length := by omega
    have hm := hx l[i] (List.getElem_mem _)
    rw [spec_feNumbers.l0, if_pos (by omega), if_pos (by omega), if_pos (by omega), rd_nat l i hlt]
    have hz := fun j => Z_small l.length hl ((boardL l).take i) 0 (by rw [List.length_take]; simp [boardL]; omega) j
    have := fe_l1 l l.length l[i].toNat hl (by omega) (Z l.length ((boardL l).take i) 0) (Z l.length ((boardL l).take (i + 1)) 0) hz (fun j => Z_snoc l l.length hl hx hup i hlt j) l (l.length : Int) (i : Int) l.length k (HZ (l.length + 1) (Z l.length ((boardL l).take i) 0)) (Nat.le_refl _) (HZ_len _ _) (fun j hj => by rw [HZ_rd _ _ j (by omega), if_pos hj])
    rw [show ((l[i].toNat : Nat) : Int) = l[i] from by omega] at this
    rw [this, w64 (by omega) (by omega), show ((i : Int) + 1) = ((i + 1 : Nat) : Int) from by omega]
    exact fe_l0 l hl hx hup d (i + 1) k (by omega) (by omega)
theorem e_feNumbers (k : Nat) (l : List Int) (h1 : 1 ≤ l.length) (hl : l.length ≤ 6) (hx : ∀ x ∈ l, 0 ≤ x ∧ x.toNat ≤ l.length) (hup : ∀ i j (hi : i < l.length) (hj : j < l.length), i ≤ j → l[i] ≤ l[j]) (hk : 100 ≤ k) : spec_feNumbers.f k l = some (numsL (l.length : Int) (l.length : Int) (boardL l)) := by
  unfold spec_feNumbers.f
  rw [w64 (by omega) (by omega), if_pos (by omega), if_pos (by omega)]
  simp only [Option.bind_some]
  rw [if_pos (by simp <;> omega)]
  have e : (List.replicate ((l.length : Int) + 1).toNat (0 : Int)).set (0 : Int).toNat 1 = HZ (l.length + 1) (Z l.length ((boardL l).take 0) 0) := by
    refine rd_ext _ _ (by simp [HZ_len] <;> omega) ?_
    intro j hj
    simp at hj
    rw [show (0 : Int).toNat = 0 from rfl, rd_set _ 0 _ j (by simp <;> omega), HZ_rd _ _ j (by omega)]
    by_cases h0 : 0 = j
    · subst h0; simp [Z]
    · rw [if_neg h0, rd_nat _ j (by simp <;> omega)]
      have h9 : List.count j [0] = 0 := List.count_eq_zero.2 (by simp; omega)
      simp [Z, h9]
  rw [e]
  have := fe_l0 l hl hx hup l.length 0 k (by omega) (by omega)
  rw [show ((0 : Nat) : Int) = 0 from rfl] at this
  rw [this]
  unfold numsL
  rw [show (min (l.length : Int) (l.length : Int) + 1).toNat = l.length + 1 from by omega, Int.toNat_natCast]
theorem nice_boardL (l : List Int) (h1 : 1 ≤ l.length) (hl : l.length ≤ 6) (hx : ∀ x ∈ l, 0 ≤ x ∧ x.toNat ≤ l.length) : Nice (l.length : Int) (l.length : Int) (boardL l) := by
  refine ⟨by omega, by omega, by simp [boardL], ?_⟩
  intro x hx'
  obtain ⟨y, hy, rfl⟩ := List.mem_map.1 hx'
  have key : ∀ a : Fin 7, 0 ≤ (2 : Int) ^ a.val - 1 ∧ (2 : Int) ^ a.val - 1 ≤ 63 := by decide +kernel
  have := hx y hy
  exact key ⟨y.toNat, by omega⟩

theorem i_newBoard (r c : Int) (h : 0 ≤ r ∧ r ≤ 6) : impl_newBoard.f r c = some (r, c, List.replicate r.toNat 0) := by
  unfold impl_newBoard.f; rw [if_pos (by omega), if_pos (by omega)]

theorem iboardOf_l0 (l : List Int) (hl : l.length ≤ 6) (hx : ∀ x ∈ l, 0 ≤ x ∧ x ≤ 6) (R C : Int) : ∀ (d i k : Nat) (out : List Int), out.length = l.length → i + d = l.length → d < k → out.take i = (boardL l).take i →
    impl_boardOf.l0 k l (l.length : Int) (i : Int) R C out = some (R, C, boardL l) := by
  intro d
  induction d with
  | zero =>
    intro i k out ho hi hk ht
    obtain ⟨k, rfl⟩ : ∃ m, k = m + 1 := ⟨k - 1, by omega⟩
    simp only [impl_boardOf.l0]; rw [if_neg (by omega)]
    rw [List.take_of_length_le (by omega), List.take_of_length_le (by simp [boardL]; omega)] at ht; rw [ht]
  | succ d ih =>
    intro i k out ho hi hk ht
    obtain ⟨k, rfl⟩ : ∃ m, k = m + 1 := ⟨k - 1, by omega⟩
    have hlt : i < l.length := by omega
    have hm := hx l[i] (List.getElem_mem _)
    simp only [impl_boardOf.l0]
    rw [if_pos (by omega), if_pos (by omega), if_pos (by omega), rd_nat l i hlt, if_pos (by omega), if_pos (by omega), sh0 _ hm, w64 (by omega) (by omega), show ((i : Int) + 1) = ((i + 1 : Nat) : Int) from by omega]
    refine ih (i + 1) k _ (by simpa using ho) (by omega) (by omega) ?_
    rw [Int.toNat_natCast, List.take_succ_eq_append_getElem (by simpa using (by omega : i < out.length)), List.take_succ_eq_append_getElem (by simpa [boardL] using hlt)]
    simp only [List.getElem_set_self, List.take_set_of_le (Nat.le_refl i), ht]
    simp [boardL]
theorem i_boardOf (k : Nat) (l : List Int) (g : Good l) (hk : 10 ≤ k) : impl_boardOf.f k l = some ((l.length : Int), (l.length : Int), boardL l) := by
  unfold impl_boardOf.f
  have h1 := g.1
  rw [i_newBoard _ _ (by omega)]
  simp only [Option.bind_some]
  exact iboardOf_l0 l (by omega) (fun x hx => by have := g.2.1 x hx; omega) _ _ l.length 0 k _ (by simp) (by omega) (by omega) (by simp)

def nolOut (l : List Int) : List Int × Bool := if Good l then (numsL (l.length : Int) (l.length : Int) (boardL l), true) else ([], false)
theorem good_nat {l : List Int} (g : Good l) : ∀ x ∈ l, 0 ≤ x ∧ x.toNat ≤ l.length := by
  intro x hx
  have := g.2.1 x hx
  omega
theorem nolOut_len (l : List Int) : (nolOut l).1.length ≤ 7 := by
  unfold nolOut
  split
  case isTrue g => exact numsL_lenN _ _ _ (nice_boardL l (by have := g.1; omega) (by have := g.1; omega) (good_nat g))
  case isFalse => simp
theorem e_NumbersOfLengths (k : Nat) (l : List Int) (hl : l.length ≤ 1048576) (hk : 2000000 ≤ k) : spec_NumbersOfLengths.f k l = some (nolOut l) := by
  unfold spec_NumbersOfLengths.f nolOut
  rw [e_feGood k l (by omega) (by omega)]
  simp only [Option.bind_some, decide_eq_true_eq]
  by_cases g : Good l
  · have h1 := g.1
    rw [if_pos g, if_pos g, e_feNumbers k l (by omega) (by omega) (good_nat g) (up_get l g.2.2) (by omega)]; rfl
  · rw [if_neg g, if_neg g]
theorem i_NumbersOfLengths (k : Nat) (l : List Int) (hl : l.length ≤ 1048576) (hk : 2000000 ≤ k) : impl_NumbersOfLengths.f k l = some (nolOut l) := by
  unfold impl_NumbersOfLengths.f nolOut
  rw [i_AreLengths k l (by omega) (by omega)]
  simp only [Option.bind_some, decide_eq_true_eq]
  by_cases g : Good l
  · have h1 := g.1
    rw [if_pos g, if_pos g, i_boardOf k l g (by omega)]
    simp only [Option.bind_some]
    rw [i_numbersN _ _ _ (nice_boardL l (by omega) (by omega) (good_nat g))]; rfl
  · rw [if_neg g, if_neg g]

def focOut (l : List Int) : List Int × Bool := if Good l then (facL l, true) else ([], false)
theorem focOut_len (l : List Int) : (focOut l).1.length ≤ 6 := by
  unfold focOut
  split
  case isTrue g => rw [facL_len]; exact (good6 g).1
  case isFalse => simp
theorem e_FactorsOf (k : Nat) (l : List Int) (hl : l.length ≤ 1048576) (hk : 2000000 ≤ k) : spec_FactorsOf.f k l = some (focOut l) := by
  unfold spec_FactorsOf.f focOut
  rw [e_feGood k l (by omega) (by omega)]
  simp only [Option.bind_some, decide_eq_true_eq]
  by_cases g : Good l
  · rw [if_pos g, if_pos g, e_feFactors k l g (by omega)]; rfl
  · rw [if_neg g, if_neg g]
theorem i_FactorsOf (k : Nat) (l : List Int) (hl : l.length ≤ 1048576) (hk : 2000000 ≤ k) : impl_FactorsOf.f k l = some (focOut l) := by
  unfold impl_FactorsOf.f focOut
  rw [i_AreLengths k l (by omega) (by omega)]
  simp only [Option.bind_some, decide_eq_true_eq]
  by_cases g : Good l
  · rw [if_pos g, if_pos g, i_factors k l g (by omega)]; rfl
  · rw [if_neg g, if_neg g]

theorem e_l1Most (a b : Int) : spec_l1Most.f a b = some (if b < a then a else b) := by
  unfold spec_l1Most.f
  by_cases h : b < a
  · rw [if_pos h, if_pos h]
  · rw [if_neg h, if_neg h]

theorem fp_same : ∀ (k : Nat) (a : Int) (l : List Int) (n i : Int), spec_FullPlacements.l0 k a l n i = impl_FullPlacements.l0 k a l n i := by
  intro k
  induction k with
  | zero => intro a l n i; rfl
  | succ k ih =>
    intro a l n i
    simp only [spec_FullPlacements.l0, impl_FullPlacements.l0, e_l1Most, Option.bind_some, ih]
    rfl
theorem fp_ends (l : List Int) (hl : l.length ≤ 2000000) : ∀ (d i k : Nat) (a : Int), i + d = l.length → d < k → ∃ r, impl_FullPlacements.l0 k a l (l.length : Int) (i : Int) = some (r, true) := by
  intro d
  induction d with
  | zero =>
    intro i k a hi hk
    obtain ⟨k, rfl⟩ : ∃ m, k = m + 1 := ⟨k - 1, by omega⟩
    simp only [impl_FullPlacements.l0]; rw [if_neg (by omega)]; exact ⟨_, rfl⟩
  | succ d ih =>
    intro i k a hi hk
    obtain ⟨k, rfl⟩ : ∃ m, k = m + 1 := ⟨k - 1, by omega⟩
    simp only [impl_FullPlacements.l0]
    rw [if_pos (by omega), if_pos (by omega), if_pos (by omega), w64 (x := (i : Int) + 1) (by omega) (by omega), show ((i : Int) + 1) = ((i + 1 : Nat) : Int) from by omega]
    exact ih (i + 1) k _ (by omega) (by omega)
theorem fp_both (k : Nat) (l : List Int) (hl : l.length ≤ 2000000) (hk : l.length + 1 < k) : ∃ r b, spec_FullPlacements.f k l = some (r, b) ∧ impl_FullPlacements.f k l = some (r, b) := by
  unfold spec_FullPlacements.f impl_FullPlacements.f
  rw [e_feGood k l hl hk, i_AreLengths k l hl (by omega)]
  simp only [Option.bind_some, decide_eq_true_eq]
  by_cases h : Good l
  · rw [if_pos h, if_pos h, fp_same]
    obtain ⟨r, hr⟩ := fp_ends l hl l.length 0 k 1 (by omega) (by omega)
    exact ⟨r, true, hr, hr⟩
  · rw [if_neg h, if_neg h]; exact ⟨0, false, rfl, rfl⟩

/-- The numbers below n. -/
def stair (n : Nat) : List Int := (List.range n).map fun i : Nat => (i : Int)
theorem stair_len (n : Nat) : (stair n).length = n := by simp [stair]
theorem stair_get (n i : Nat) (h : i < (stair n).length) : (stair n)[i] = (i : Int) := by simp [stair]
theorem stair_snoc (n : Nat) : stair (n + 1) = stair n ++ [(n : Int)] := by simp [stair, List.range_succ]
theorem stair_mem (n : Nat) : ∀ x ∈ stair n, 0 ≤ x ∧ x ≤ (n : Int) - 1 := by
  intro x hx
  obtain ⟨i, hi, rfl⟩ := List.mem_map.1 hx
  have := List.mem_range.1 hi
  omega
theorem stair_up (n : Nat) : ∀ i j (hi : i < (stair n).length) (hj : j < (stair n).length), i ≤ j → (stair n)[i] ≤ (stair n)[j] := by
  intro i j hi hj hij
  rw [stair_get, stair_get]; omega
theorem e_st0 (n : Nat) (hn : n ≤ 6) : ∀ (d i k : Nat), i + d = n → spec_StaircaseNumbers.l0 (k + (d + 1)) (n : Int) (stair i) (i : Int) = (spec_feNumbers.f k (stair n)).bind fun t => some (t, true)
  | 0, i, k, hi => by
    obtain rfl : i = n := hi
    rw [show k + (0 + 1) = k + 1 from rfl, spec_StaircaseNumbers.l0, if_neg (by omega)]
  | d + 1, i, k, hi => by
    rw [show k + (d + 1 + 1) = (k + (d + 1)) + 1 from rfl, spec_StaircaseNumbers.l0, if_pos (by omega), if_pos (by rw [stair_len]; omega), w64 (by omega) (by omega), ← stair_snoc, show ((i : Int) + 1) = ((i + 1 : Nat) : Int) from by omega]
    exact e_st0 n hn d (i + 1) k (by omega)
theorem i_st0 (n : Nat) (hn : n ≤ 6) : ∀ (d i k : Nat), i + d = n → impl_StaircaseNumbers.l0 (k + (d + 1)) (stair i) (n : Int) (i : Int) = (impl_boardOf.f k (stair n)).bind fun b => (impl_Board_numbers.f b.1 b.2.1 b.2.2).bind fun t => some (t, true)
  | 0, i, k, hi => by
    obtain rfl : i = n := hi
    rw [show k + (0 + 1) = k + 1 from rfl, impl_StaircaseNumbers.l0, if_neg (by omega)]
  | d + 1, i, k, hi => by
    rw [show k + (d + 1 + 1) = (k + (d + 1)) + 1 from rfl, impl_StaircaseNumbers.l0, if_pos (by omega), if_pos (by rw [stair_len]; omega), w64 (by omega) (by omega), ← stair_snoc, show ((i : Int) + 1) = ((i + 1 : Nat) : Int) from by omega]
    exact i_st0 n hn d (i + 1) k (by omega)
def stOut (n : Int) : List Int × Bool := if 1 ≤ n ∧ n ≤ 6 then (numsL n n (boardL (stair n.toNat)), true) else ([], false)
theorem st_facts (n : Nat) (h1 : 1 ≤ n) (hn : n ≤ 6) : ∀ x ∈ stair n, 0 ≤ x ∧ x.toNat ≤ (stair n).length := by
  intro x hx
  have := stair_mem n x hx
  rw [stair_len]; omega
theorem stair_good (n : Nat) (h1 : 1 ≤ n) (hn : n ≤ 6) : Good (stair n) := by
  have key : ∀ n : Fin 6, Good (stair (n.val + 1)) := by decide +kernel
  have := key ⟨n - 1, by omega⟩
  simp only at this
  rwa [show n - 1 + 1 = n from by omega] at this
theorem stOut_len (n : Int) : (stOut n).1.length ≤ 7 := by
  unfold stOut
  split
  case isTrue g =>
    have := numsL_lenN _ _ _ (nice_boardL (stair n.toNat) (by rw [stair_len]; omega) (by rw [stair_len]; omega) (st_facts n.toNat (by omega) (by omega)))
    rw [stair_len, show ((n.toNat : Nat) : Int) = n from by omega] at this
    exact this
  case isFalse => simp
theorem e_StaircaseNumbers (k : Nat) (n : Int) (hk : 2000000 ≤ k) : spec_StaircaseNumbers.f k n = some (stOut n) := by
  unfold spec_StaircaseNumbers.f stOut
  rw [e_boSide]
  simp only [Option.bind_some, decide_eq_true_eq]
  by_cases h : 1 ≤ n ∧ n ≤ 6
  · rw [if_pos h, if_pos h]
    obtain ⟨k, rfl⟩ : ∃ m, k = m + (n.toNat + 1) := ⟨k - (n.toNat + 1), by omega⟩
    have := e_st0 n.toNat (by omega) n.toNat 0 k (by omega)
    rw [show ((n.toNat : Nat) : Int) = n from by omega] at this
    have h2 := e_feNumbers k (stair n.toNat) (by rw [stair_len]; omega) (by rw [stair_len]; omega) (st_facts n.toNat (by omega) (by omega)) (stair_up n.toNat) (by omega)
    rw [stair_len, show ((n.toNat : Nat) : Int) = n from by omega] at h2
    rw [h2] at this
    exact this
  · rw [if_neg h, if_neg h]
theorem i_StaircaseNumbers (k : Nat) (n : Int) (hk : 2000000 ≤ k) : impl_StaircaseNumbers.f k n = some (stOut n) := by
  unfold impl_StaircaseNumbers.f stOut
  rw [e_isSide]
  simp only [Option.bind_some, decide_eq_true_eq]
  by_cases h : 1 ≤ n ∧ n ≤ 6
  · rw [if_pos h, if_pos h]
    obtain ⟨k, rfl⟩ : ∃ m, k = m + (n.toNat + 1) := ⟨k - (n.toNat + 1), by omega⟩
    have := i_st0 n.toNat (by omega) n.toNat 0 k (by omega)
    rw [show ((n.toNat : Nat) : Int) = n from by omega, i_boardOf k _ (stair_good n.toNat (by omega) (by omega)) (by omega)] at this
    simp only [Option.bind_some] at this
    rw [i_numbersN _ _ _ (nice_boardL (stair n.toNat) (by rw [stair_len]; omega) (by rw [stair_len]; omega) (st_facts n.toNat (by omega) (by omega))), stair_len, show ((n.toNat : Nat) : Int) = n from by omega] at this
    exact this
  · rw [if_neg h, if_neg h]

theorem e_boEmpty (r c : Int) (h : 0 ≤ r ∧ r ≤ 6) : spec_boEmpty.f r c = some (r, c, List.replicate r.toNat 0) := by
  unfold spec_boEmpty.f; rw [if_pos (by omega), if_pos (by omega)]

theorem feBoard_l0 (l : List Int) (hl : l.length ≤ 6) (hx : ∀ x ∈ l, 0 ≤ x ∧ x ≤ 6) (R C : Int) : ∀ (d i k : Nat) (out : List Int), out.length = l.length → i + d = l.length → d < k → out.take i = (boardL l).take i →
    spec_feBoard.l0 k l (l.length : Int) (i : Int) R C out = some (R, C, boardL l) := by
  intro d
  induction d with
  | zero =>
    intro i k out ho hi hk ht
    obtain ⟨k, rfl⟩ : ∃ m, k = m + 1 := ⟨k - 1, by omega⟩
    simp only [spec_feBoard.l0]; rw [if_neg (by omega)]
    rw [List.take_of_length_le (by omega), List.take_of_length_le (by simp [boardL]; omega)] at ht; rw [ht]
  | succ d ih =>
    intro i k out ho hi hk ht
    obtain ⟨k, rfl⟩ : ∃ m, k = m + 1 := ⟨k - 1, by omega⟩
    have hlt : i < l.length := by omega
    have hm := hx l[i] (List.getElem_mem _)
    simp only [spec_feBoard.l0]
    rw [if_pos (by omega), if_pos (by omega), if_pos (by omega), rd_nat l i hlt, if_pos (by omega), if_pos (by omega), sh0 _ hm, w64 (by omega) (by omega), show ((i : Int) + 1) = ((i + 1 : Nat) : Int) from by omega]
    refine ih (i + 1) k _ (by simpa using ho) (by omega) (by omega) ?_
    rw [Int.toNat_natCast, List.take_succ_eq_append_getElem (by simpa using (by omega : i < out.length)), List.take_succ_eq_append_getElem (by simpa [boardL] using hlt)]
    simp only [List.getElem_set_self, List.take_set_of_le (Nat.le_refl i), ht]
    simp [boardL]
theorem e_feBoard (k : Nat) (l : List Int) (g : Good l) (hk : 10 ≤ k) : spec_feBoard.f k l = some ((l.length : Int), (l.length : Int), boardL l) := by
  unfold spec_feBoard.f
  have h1 := g.1
  rw [e_boEmpty _ _ (by omega)]
  simp only [Option.bind_some]
  exact feBoard_l0 l (by omega) (fun x hx => by have := g.2.1 x hx; omega) _ _ l.length 0 k _ (by simp) (by omega) (by omega) (by simp)

def bolOut (l : List Int) : Int × Int × List Int × Bool := if Good l then ((l.length : Int), (l.length : Int), boardL l, true) else (0, 0, [], false)
theorem bolOut_len (l : List Int) : (bolOut l).2.2.1.length ≤ 6 := by
  unfold bolOut
  split
  · rename_i h; have := h.1; simp [boardL]; omega
  · simp
theorem e_BoardOfLengths (k : Nat) (l : List Int) (hl : l.length ≤ 2000000) (hk : l.length + 1 < k) (hk2 : 10 ≤ k) : spec_BoardOfLengths.f k l = some (bolOut l) := by
  unfold spec_BoardOfLengths.f bolOut
  rw [e_feGood k l hl hk]
  simp only [Option.bind_some, decide_eq_true_eq]
  by_cases g : Good l
  · rw [if_pos g, if_pos g, e_feBoard k l g hk2]; rfl
  · rw [if_neg g, if_neg g]
theorem i_BoardOfLengths (k : Nat) (l : List Int) (hl : l.length ≤ 2000000) (hk : l.length < k) (hk2 : 10 ≤ k) : impl_BoardOfLengths.f k l = some (bolOut l) := by
  unfold impl_BoardOfLengths.f bolOut
  rw [i_AreLengths k l hl hk]
  simp only [Option.bind_some, decide_eq_true_eq]
  by_cases g : Good l
  · rw [if_pos g, if_pos g, i_boardOf k l g hk2]; rfl
  · rw [if_neg g, if_neg g]

theorem i_IsBoard (r c : Int) (l : List Int) : impl_IsBoard.f r c l = some (decide (GoodB r c l)) := rfl

theorem goodB_le {r c : Int} {l : List Int} (h : GoodB r c l) : ∀ x ∈ l, 0 ≤ x ∧ x ≤ 63 := by
  intro x hx
  have := h.2.2.2 x hx
  have := pow_le c h.2.1
  omega
theorem goodB_len {r c : Int} {l : List Int} (h : GoodB r c l) : l.length ≤ 6 := by
  have := h.1; have := h.2.2.1; omega
/-- Is it a place of a board? -/
def Place (r c i j : Int) : Prop := (0 ≤ i ∧ i ≤ r - 1) ∧ (0 ≤ j ∧ j ≤ c - 1)
instance (r c i j : Int) : Decidable (Place r c i j) := by unfold Place; exact inferInstance

theorem nice_of {r c : Int} {l : List Int} (h : GoodB r c l) : Nice r c l := ⟨h.1, h.2.1, h.2.2.1, goodB_le h⟩
theorem numsL_len (r c : Int) (l : List Int) (h : GoodB r c l) : (numsL r c l).length ≤ 7 := numsL_lenN r c l (nice_of h)

theorem i_numbers (r c : Int) (l : List Int) (h : GoodB r c l) : impl_Board_numbers.f r c l = some (numsL r c l) := i_numbersN r c l (nice_of h)

theorem i_isSquare (r c : Int) (l : List Int) : impl_isSquare.f r c l = some (decide (GoodB r c l ∧ r = c)) := by
  unfold impl_isSquare.f
  rw [i_IsBoard]
  simp only [Option.bind_some, Bool.decide_and]
  generalize decide (GoodB r c l) = p
  cases p <;> simp
  exact (Bool.beq_eq_decide_eq r c)

/-- A falling product, as both compute it. -/
def fallF (x : Int) : Nat → Int → Int → Int
  | 0, _, a => a
  | d + 1, i, a => fallF x d (i + 1) (wrap64 (a * wrap64 (x - i)))
theorem i_fall (x n : Int) (hn : n ≤ 100) : ∀ (d k : Nat) (i a : Int), i + d = n → 0 ≤ i → d < k → impl_falling.l0 k x a n i = some (fallF x d i a)
  | 0, k, i, a, hi, h0, hk => by
    obtain ⟨k, rfl⟩ : ∃ m, k = m + 1 := ⟨k - 1, by omega⟩
    rw [impl_falling.l0, if_neg (by omega)]; rfl
  | d + 1, k, i, a, hi, h0, hk => by
    obtain ⟨k, rfl⟩ : ∃ m, k = m + 1 := ⟨k - 1, by omega⟩
    rw [impl_falling.l0, if_pos (by omega), w64 (x := i + 1) (by omega) (by omega), i_fall x n hn d k (i + 1) _ (by omega) (by omega) (by omega)]; rfl
def sumF (x R : Int) (v : List Int) : Nat → Nat → Int → Int
  | 0, _, s => s
  | d + 1, i, s => sumF x R v d (i + 1) (wrap64 (s + wrap64 (rd v (i : Int) * fallF x (R.toNat - i) 0 1)))
theorem i_sum (x R c : Int) (l v : List Int) (hv : (v.length : Int) = R + 1) (hR : 1 ≤ R ∧ R ≤ 6) : ∀ (d i k : Nat) (s : Int), i + d = v.length → d + 200 < k → impl_FactorialAt.l0 k x s v (v.length : Int) (i : Int) R c l = some (sumF x R v d i s, true)
  | 0, i, k, s, hi, hk => by
    obtain ⟨k, rfl⟩ : ∃ m, k = m + 1 := ⟨k - 1, by omega⟩
    rw [impl_FactorialAt.l0, if_neg (by omega)]; rfl
  | d + 1, i, k, s, hi, hk => by
    obtain ⟨k, rfl⟩ : ∃ m, k = m + 1 := ⟨k - 1, by omega⟩
    rw [impl_FactorialAt.l0, if_pos (by omega), if_pos (by omega), if_pos (by omega), w64 (x := (i : Int) + 1) (by omega) (by omega), w64 (x := R - (i : Int)) (by omega) (by omega)]
    unfold impl_falling.f
    rw [i_fall x (R - (i : Int)) (by omega) (R.toNat - i) k 0 1 (by omega) (by omega) (by omega), Option.bind_some, show ((i : Int) + 1) = ((i + 1 : Nat) : Int) from by omega, i_sum x R c l v hv hR d (i + 1) k _ (by omega) (by omega)]; rfl
def faOut (r c : Int) (l : List Int) (a : Int) : Int × Bool := if (GoodB r c l ∧ r = c) ∧ (-20 ≤ a ∧ a ≤ 20) then (sumF a r (numsL r c l) (numsL r c l).length 0 0, true) else (0, false)
theorem i_FactorialAt (k : Nat) (r c : Int) (l : List Int) (a : Int) (hk : 1000 ≤ k) : impl_FactorialAt.f k r c l a = some (faOut r c l a) := by
  unfold impl_FactorialAt.f faOut
  rw [i_isSquare, Option.bind_some]
  obtain ⟨k, rfl⟩ : ∃ m, k = m + 1 := ⟨k - 1, by omega⟩
  by_cases h : GoodB r c l ∧ r = c
  · have h1 := h.1.1
    have hn : ((numsL r c l).length : Int) = r + 1 := by have := h.2; subst this; unfold numsL; rw [HZ_len]; omega
    rw [if_pos (decide_eq_true h), i_isPoint, Option.bind_some, impl_FactorialAt.j0]
    by_cases hp : (-20 ≤ a ∧ a ≤ 20)
    · rw [if_neg (by simpa using hp), if_pos ⟨h, hp⟩, i_numbers r c l h.1, Option.bind_some]
      exact i_sum a r c l (numsL r c l) hn h1 (numsL r c l).length 0 k 0 (by omega) (by omega)
    · rw [if_pos (by simp [hp]), if_neg (fun x => hp x.2)]
  · rw [if_neg (by simpa using h), impl_FactorialAt.j0, if_pos rfl, if_neg (fun x => h x.1)]

def pmOut (r c : Int) (l : List Int) : Int × Bool := if GoodB r c l ∧ r = c then (rd (numsL r c l) r, true) else (0, false)
theorem i_PermanentOf (r c : Int) (l : List Int) : impl_PermanentOf.f r c l = some (pmOut r c l) := by
  unfold impl_PermanentOf.f pmOut
  rw [i_isSquare, Option.bind_some]
  by_cases h : GoodB r c l ∧ r = c
  · have h1 := h.1.1
    have hn : ((numsL r c l).length : Int) = r + 1 := by have := h.2; subst this; unfold numsL; rw [HZ_len]; omega
    rw [if_pos (decide_eq_true h), if_pos h, i_numbers r c l h.1, Option.bind_some, if_pos (by omega), if_pos (by omega)]
  · rw [if_neg (by simpa using h), if_neg h]

def numsOut (r c : Int) (l : List Int) : List Int × Bool := if GoodB r c l then (numsL r c l, true) else ([], false)
theorem numsOut_len (r c : Int) (l : List Int) : (numsOut r c l).1.length ≤ 7 := by
  unfold numsOut
  split
  case isTrue h => exact numsL_len r c l h
  case isFalse => simp
theorem i_RookNumbers (r c : Int) (l : List Int) : impl_RookNumbers.f r c l = some (numsOut r c l) := by
  unfold impl_RookNumbers.f numsOut
  rw [i_IsBoard]
  simp only [Option.bind_some]
  by_cases h : GoodB r c l
  · rw [if_pos h, if_pos (decide_eq_true h), i_numbers r c l h]; rfl
  · rw [if_neg h, if_neg (by simpa using h)]

theorem nums_small (r c : Int) (l : List Int) (h : GoodB r c l) (j : Nat) (hj : j < (numsL r c l).length) : 0 ≤ rd (numsL r c l) (j : Int) ∧ rd (numsL r c l) (j : Int) ≤ 117649 := by
  have hl := goodB_len h
  have h2 := h.2.1
  unfold numsL at hj ⊢
  rw [HZ_len] at hj
  rw [HZ_rd _ _ j hj]
  have := Z_small c.toNat (by omega) l 0 hl j
  omega

theorem wr_shift (a q : Int) : wrap64 (a - 18446744073709551616 * q) = wrap64 a := by unfold wrap64; omega
theorem wr_eq (a : Int) : ∃ q, wrap64 a = a - 18446744073709551616 * q := ⟨(a + 9223372036854775808) / 18446744073709551616, by unfold wrap64; omega⟩
theorem wr_wr (a : Int) : wrap64 (wrap64 a) = wrap64 a := by unfold wrap64; omega
theorem wr_addl (a b : Int) : wrap64 (wrap64 a + b) = wrap64 (a + b) := by unfold wrap64; omega
theorem wr_addr (a b : Int) : wrap64 (a + wrap64 b) = wrap64 (a + b) := by unfold wrap64; omega
theorem wr_mull (a b : Int) : wrap64 (wrap64 a * b) = wrap64 (a * b) := by
  obtain ⟨q, e⟩ := wr_eq a
  rw [e, Int.sub_mul, Int.mul_assoc, wr_shift]
theorem wr_mulr (a b : Int) : wrap64 (a * wrap64 b) = wrap64 (a * b) := by rw [Int.mul_comm, wr_mull, Int.mul_comm]

/-- The product of x - i, x - i - 1, .. -/
def prodI (x : Int) : Nat → Int → Int
  | 0, _ => 1
  | d + 1, i => (x - i) * prodI x d (i + 1)
theorem prodI_snoc (x : Int) : ∀ (d : Nat) (i : Int), prodI x (d + 1) i = prodI x d i * (x - (i + d))
  | 0, i => by simp [prodI]
  | d + 1, i => by
    rw [prodI, prodI_snoc x d (i + 1), prodI, Int.mul_assoc]
    congr 3
    omega
def sumN (f : Nat → Int) : Nat → Int
  | 0 => 0
  | n + 1 => sumN f n + f n
theorem sumN_front (f : Nat → Int) : ∀ n, sumN f (n + 1) = f 0 + sumN (fun k => f (k + 1)) n
  | 0 => by simp [sumN]
  | n + 1 => by
    rw [sumN, sumN_front f n, sumN]
    omega
theorem sumN_congr (f g : Nat → Int) : ∀ n, (∀ k, k < n → f k = g k) → sumN f n = sumN g n
  | 0, _ => rfl
  | n + 1, h => by rw [sumN, sumN, sumN_congr f g n (fun k hk => h k (by omega)), h n (by omega)]
theorem sumN_add (f g : Nat → Int) : ∀ n, sumN (fun k => f k + g k) n = sumN f n + sumN g n
  | 0 => rfl
  | n + 1 => by rw [sumN, sumN, sumN, sumN_add f g n]; omega
theorem sumN_mul (f : Nat → Int) (c : Int) : ∀ n, sumN (fun k => f k * c) n = sumN f n * c
  | 0 => by simp [sumN]
  | n + 1 => by rw [sumN, sumN, sumN_mul f c n, Int.add_mul]
/-- How many placements of k rooks on the first rows. -/
def cK (l : List Int) (C i k : Nat) : Nat := (Z C ((boardL l).take i) 0).count k
structure Lens (l : List Int) (C : Nat) : Prop where
  c6 : C ≤ 6
  mem : ∀ x ∈ l, 0 ≤ x ∧ x.toNat ≤ C
  up : ∀ i j (hi : i < l.length) (hj : j < l.length), i ≤ j → l[i] ≤ l[j]
theorem cK_zero (l : List Int) (C : Nat) (h : Lens l C) (i k : Nat) (hk : i < k) : cK l C i k = 0 := by
  unfold cK
  rw [List.count_eq_zero]
  intro hm
  have := (Z_le C h.c6 _ 0 (by omega) k hm).1
  rw [List.length_take] at this
  omega
theorem cK_big (l : List Int) (C : Nat) (h : Lens l C) (i k : Nat) (hi : i < l.length) (hk : l[i].toNat < k) : cK l C i k = 0 := by
  unfold cK
  rw [List.count_eq_zero]
  intro hm
  have z : (Y C ((boardL l).take i) (0, 0)).map (·.1) = Z C ((boardL l).take i) 0 := by rw [Y_Z]; simp
  rw [← z] at hm
  obtain ⟨p, hp, e⟩ := List.mem_map.1 hm
  have hmem := h.mem l[i] (List.getElem_mem _)
  have ok := Y_ok l C h.c6 h.mem h.up i (by omega) p hp l[i].toNat hmem.2 (fun j hj hji => by have := h.up j i hj hi (by omega); omega)
  have := pcZ_le p.2 l[i].toNat (by have := h.c6; omega) ⟨ok.1, ok.2.1⟩
  rw [ok.2.2] at this
  omega
theorem cK_step (l : List Int) (C : Nat) (h : Lens l C) (i k : Nat) (hi : i < l.length) : cK l C (i + 1) k = cK l C i k + (if k = 0 then 0 else (l[i].toNat - (k - 1)) * cK l C i (k - 1)) := Z_snoc l C h.c6 h.mem h.up i hi k
/-- The polynomial of falling products, of the first rows. -/
def pK (l : List Int) (C : Nat) (x : Int) (i : Nat) : Int := sumN (fun k => ((cK l C i k : Nat) : Int) * prodI x (i - k) 0) (i + 1)
theorem pK_step (l : List Int) (C : Nat) (h : Lens l C) (x : Int) (i : Nat) (hi : i < l.length) : pK l C x (i + 1) = pK l C x i * (x + (l[i] - i)) := by
  unfold pK
  have hm := h.mem l[i] (List.getElem_mem _)
  rw [sumN_congr _ (fun k => ((cK l C i k : Nat) : Int) * prodI x (i + 1 - k) 0 + (if k = 0 then 0 else ((l[i].toNat - (k - 1) : Nat) : Int) * ((cK l C i (k - 1) : Nat) : Int)) * prodI x (i + 1 - k) 0) (i + 1 + 1) (fun k _ => by
    rw [cK_step l C h i k hi, Int.natCast_add, Int.add_mul]
    congr 2
    split <;> simp)]
  rw [sumN_add, sumN, cK_zero l C h i (i + 1) (by omega), sumN_front (fun k => (if k = 0 then 0 else ((l[i].toNat - (k - 1) : Nat) : Int) * ((cK l C i (k - 1) : Nat) : Int)) * prodI x (i + 1 - k) 0)]
  simp only [if_true, Int.zero_mul, Int.zero_add, Int.add_zero, Int.natCast_zero, Nat.add_sub_cancel, Nat.add_eq_zero_iff, Nat.one_ne_zero, and_false, if_false]
  rw [← sumN_add, ← sumN_mul]
  apply sumN_congr
  intro k hk
  rw [show i + 1 - k = (i - k) + 1 by omega, show i + 1 - (k + 1) = i - k by omega, prodI_snoc]
  by_cases hb : l[i].toNat < k
  · rw [cK_big l C h i k hi hb]; simp
  · have e1 : ((l[i].toNat - k : Nat) : Int) = l[i] - k := by omega
    have e2 : (((i - k : Nat)) : Int) = (i : Int) - k := by omega
    rw [e1, e2]
    generalize ((cK l C i k : Nat) : Int) = q
    generalize prodI x (i - k) 0 = f
    generalize (l[i] : Int) = a
    grind
/-- The product of x and numbers. -/
def prodL (x : Int) : List Int → Int
  | [] => 1
  | f :: t => (x + f) * prodL x t
theorem prodL_app (x : Int) : ∀ a b : List Int, prodL x (a ++ b) = prodL x a * prodL x b
  | [], b => by simp [prodL]
  | f :: a, b => by rw [List.cons_append, prodL, prodL_app x a b, prodL, Int.mul_assoc]
theorem prodL_ins (x y : Int) : ∀ l : List Int, prodL x (insI y l) = (x + y) * prodL x l
  | [] => rfl
  | f :: t => by
    rw [insI]
    split
    · rw [prodL, prodL_ins x y t, prodL]; grind
    · rw [prodL, prodL]
theorem prodL_sort (x : Int) (l : List Int) : prodL x (isortI l) = prodL x l := by
  have : ∀ (l acc : List Int), prodL x (l.foldl (fun acc x => insI x acc) acc) = prodL x acc * prodL x l := by
    intro l
    induction l with
    | nil => intro acc; simp [prodL]
    | cons f t ih => intro acc; rw [List.foldl_cons, ih, prodL_ins, prodL]; grind
  unfold isortI
  rw [this, prodL, Int.one_mul]
theorem lessI_app : ∀ (a b : List Int) (i : Int), lessI (a ++ b) i = lessI a i ++ lessI b (i + a.length)
  | [], b, i => by simp [lessI]
  | x :: a, b, i => by
    rw [List.cons_append, lessI, lessI, lessI_app a b (i + 1), List.cons_append, List.length_cons]
    congr 3
    omega
theorem pK_prod (l : List Int) (C : Nat) (h : Lens l C) (x : Int) : ∀ i, i ≤ l.length → pK l C x i = prodL x (lessI (l.take i) 0)
  | 0, _ => by
    unfold pK cK
    simp [sumN, prodI, Z, lessI, prodL]
  | i + 1, hi => by
    rw [pK_step l C h x i (by omega), pK_prod l C h x i (by omega), List.take_succ_eq_append_getElem (by omega), lessI_app, prodL_app]
    congr 1
    rw [List.length_take, lessI, lessI, prodL, prodL, Int.mul_one]
    congr 2
    omega
theorem gjw (l : List Int) (C : Nat) (h : Lens l C) (x : Int) : sumN (fun k => (((Z C (boardL l) 0).count k : Nat) : Int) * prodI x (l.length - k) 0) (l.length + 1) = prodL x (facL l) := by
  have := pK_prod l C h x l.length (Nat.le_refl _)
  rw [List.take_length] at this
  unfold facL
  rw [prodL_sort, ← this]
  unfold pK cK
  rw [List.take_of_length_le (by simp [boardL])]
/-- The number of full placements, as a product. -/
theorem cK_full (l : List Int) (C : Nat) (h : Lens l C) (i : Nat) (hi : i < l.length) : cK l C (i + 1) (i + 1) = (l[i].toNat - i) * cK l C i i := by
  rw [cK_step l C h i (i + 1) hi, cK_zero l C h i (i + 1) (by omega), if_neg (by omega), Nat.zero_add, Nat.add_sub_cancel]
theorem cK_bd (l : List Int) (C : Nat) (h : Lens l C) (i k : Nat) (hi : i ≤ 6) : cK l C i k ≤ 117649 := Z_small C h.c6 _ 0 (by rw [List.length_take]; omega) k
theorem good_lens {l : List Int} (g : Good l) : Lens l l.length := by
  refine ⟨by have := g.1; omega, fun x hx => ?_, up_get l g.2.2⟩
  have := g.2.1 x hx
  omega

theorem rSame_l0 (a b : List Int) (hl : a.length ≤ 2000000) (hab : a.length = b.length) : ∀ (d i k : Nat), i + d = a.length → d < k → laws_rSame.l0 k a b (a.length : Int) (i : Int) = some (decide (a.drop i = b.drop i)) := by
  intro d
  induction d with
  | zero =>
    intro i k hi hk
    obtain ⟨k, rfl⟩ : ∃ m, k = m + 1 := ⟨k - 1, by omega⟩
    rw [laws_rSame.l0, if_neg (by omega), List.drop_of_length_le (by omega), List.drop_of_length_le (by omega)]; simp
  | succ d ih =>
    intro i k hi hk
    obtain ⟨k, rfl⟩ : ∃ m, k = m + 1 := ⟨k - 1, by omega⟩
    have h1 : i < a.length := by omega
    have h2 : i < b.length := by omega
    rw [laws_rSame.l0, if_pos (by omega), if_pos (by omega), if_pos (by omega), if_pos (by omega), w64 (by omega) (by omega), show ((i : Int) + 1) = ((i + 1 : Nat) : Int) from by omega, rd_nat a i h1, rd_nat b i h2, List.drop_eq_getElem_cons h1, List.drop_eq_getElem_cons h2]
    by_cases e : a[i] = b[i]
    · rw [if_pos e, ih (i + 1) k (by omega) (by omega), e]; simp only [List.cons.injEq, true_and]
    · rw [if_neg e]; simp only [List.cons.injEq, e, false_and, decide_false]
theorem rSame_eq (k : Nat) (a b : List Int) (hl : a.length ≤ 1000000) (hk : a.length < k) : laws_rSame.f k a b = some (decide (a = b)) := by
  unfold laws_rSame.f
  by_cases h : a.length = b.length
  · rw [if_pos (by omega)]
    have := rSame_l0 a b (by omega) h a.length 0 k (by omega) hk
    rw [List.drop_zero, List.drop_zero] at this
    exact this
  · rw [if_neg (by omega), decide_eq_false (fun e => h (by rw [e]))]
theorem rSame_self (k : Nat) (a : List Int) (hl : a.length ≤ 1000000) (hk : a.length < k) : laws_rSame.f k a a = some true := by
  rw [rSame_eq k a a hl hk, decide_eq_true rfl]

theorem rSameBoard_eq (k : Nat) (r c : Int) (l : List Int) (r' c' : Int) (l' : List Int) (hl : l.length ≤ 1000000) (hk : l.length < k) : laws_rSameBoard.f k r c l r' c' l' = some (decide (r = r' ∧ c = c' ∧ l = l')) := by
  unfold laws_rSameBoard.f
  rw [rSame_eq k l l' hl hk]
  by_cases h1 : r = r'
  · by_cases h2 : c = c'
    · rw [if_pos h1, if_pos h2]; simp [h1, h2]
    · rw [if_pos h1, if_neg h2]; simp [h2]
  · rw [if_neg h1]; simp [h1]
theorem rSameBoard_self (k : Nat) (r c : Int) (l : List Int) (hl : l.length ≤ 1000000) (hk : l.length < k) : laws_rSameBoard.f k r c l r c l = some true := by
  rw [rSameBoard_eq k r c l r c l hl hk, decide_eq_true ⟨rfl, rfl, rfl⟩]

theorem wu64 (n : Int) : IntKind.u64.wrap n = n % 18446744073709551616 := by simp [IntKind.wrap, IntKind.bits, IntKind.signed]
theorem and255 (x : Int) (h0 : 0 ≤ x) (h1 : x < 18446744073709551616) : Go.bits .and .u64 x 255 = x % 256 := by
  have := Go.bits_mask .u64 64 (by decide) (fun n h0 h1 => by rw [wu64]; exact Int.emod_eq_of_lt h0 (by simpa using h1)) 8 (by decide) x h0 (by simpa using h1)
  simpa using this
theorem and255w (n : Int) : 0 ≤ wrap64 (Go.bits .and .u64 (IntKind.u64.wrap n / 1099511627776) 255) ∧ wrap64 (Go.bits .and .u64 (IntKind.u64.wrap n / 1099511627776) 255) ≤ 255 := by
  rw [and255 _ (by rw [wu64]; omega) (by rw [wu64]; omega), w64 (by omega) (by omega)]
  omega
def CodeOK (code : List Int) : Prop := code.length ≤ 1048576 ∧ ∀ x ∈ code, 0 ≤ x ∧ x ≤ 255
theorem code_ok (code : List Int) (h : code.length ≤ 1048576) (hw : ∀ x ∈ code, (Lit.int .u8 x).wf = true) : CodeOK code := by
  refine ⟨h, fun x hx => ?_⟩
  have := hw x hx
  simp only [Lit.wf, Bool.and_eq_true, decide_eq_true_eq] at this
  have h1 : IntKind.u8.min = 0 := rfl
  have h2 : IntKind.u8.max = 255 := rfl
  rw [h1, h2] at this
  exact this
/-- A place of the bytes that a draw may have come to. -/
def PL (n i : Int) : Prop := 0 ≤ i ∧ i ≤ n
theorem d_next (code : List Int) (hc : CodeOK code) (i u : Int) (hi : 0 ≤ i ∧ i ≤ 1000000000) : ∃ v u', spec_l1Cur_next.f code i u = some (v, i + 1, u') ∧ 0 ≤ v ∧ v ≤ 255 := by
  have hl := hc.1
  unfold spec_l1Cur_next.f
  rw [w64 (x := i + 1) (by omega) (by omega)]
  by_cases h : i < (code.length : Int)
  · rw [if_pos h, if_pos hi.1, if_pos (show i + 1 ≤ (code.length : Int) by omega)]
    refine ⟨_, _, rfl, ?_⟩
    obtain ⟨j, rfl⟩ := Int.eq_ofNat_of_zero_le hi.1
    have hj : j < code.length := by omega
    rw [rd_nat code j hj]
    have := hc.2 _ (List.getElem_mem hj)
    rw [w64 (by omega) (by omega)]
    exact this
  · rw [if_neg h, if_neg (show ¬ i + 1 ≤ (code.length : Int) by omega)]
    exact ⟨_, _, rfl, and255w _⟩
theorem d_pick (code : List Int) (hc : CodeOK code) (i u n : Int) (N : Int) (hi : PL N i) (hN : N ≤ 100000000) : ∃ v i' u', spec_l1Cur_pick.f code i u n = some (v, i', u') ∧ PL (N + 2) i' ∧ 0 ≤ v ∧ (1 ≤ n → v < n) := by
  unfold PL at hi ⊢
  unfold spec_l1Cur_pick.f
  by_cases h : n ≤ 1
  · rw [if_pos h]
    exact ⟨_, _, _, rfl, by omega, by omega, by omega⟩
  · rw [if_neg h]
    obtain ⟨v, u', e, h0, h1⟩ := d_next code hc i u (by omega)
    rw [e, Option.bind_some]
    by_cases h2 : n > 200
    · obtain ⟨v2, u2, e2, h3, h4⟩ := d_next code hc (i + 1) u' (by omega)
      rw [if_pos h2]
      simp only
      rw [e2, Option.bind_some, if_neg (show ¬ n = 0 by omega)]
      refine ⟨_, _, _, rfl, by simp only; omega, ?_⟩
      rw [w64 (x := v * 256) (by omega) (by omega), w64 (by omega) (by omega), Int.tmod_eq_emod_of_nonneg (by omega)]
      exact ⟨Int.emod_nonneg _ (by omega), fun _ => Int.emod_lt_of_pos _ (by omega)⟩
    · rw [if_neg h2, if_neg (show ¬ n = 0 by omega)]
      refine ⟨_, _, _, rfl, by simp only; omega, ?_⟩
      simp only
      rw [Int.tmod_eq_emod_of_nonneg (by omega)]
      exact ⟨Int.emod_nonneg _ (by omega), fun _ => Int.emod_lt_of_pos _ (by omega)⟩

theorem d_one (code : List Int) (hc : CodeOK code) (i u n : Int) (N : Int) (hi : PL N i) (hN : N ≤ 100000000) : ∃ v i' u', spec_l1Cur_one.f code i u n = some (v, i', u') ∧ PL (N + 2) i' := by
  unfold spec_l1Cur_one.f
  obtain ⟨v, i', u', e, h, _⟩ := d_pick code hc i u n N hi hN
  rw [e]
  exact ⟨_, _, _, rfl, h⟩

theorem rd_in (l : List Int) (i : Int) (h0 : 0 ≤ i) (h1 : i < (l.length : Int)) : rd l i ∈ l := by
  obtain ⟨j, rfl⟩ := Int.eq_ofNat_of_zero_le h0
  have hj : j < l.length := by omega
  rw [rd_nat l j hj]
  exact List.getElem_mem hj
theorem d_among (code : List Int) (hc : CodeOK code) (i u : Int) (l : List Int) (N : Int) (hl : l ≠ []) (hi : PL N i) (hN : N ≤ 100000000) : ∃ v i' u', spec_l1Cur_among.f code i u l = some (v, i', u') ∧ PL (N + 2) i' ∧ v ∈ l := by
  unfold spec_l1Cur_among.f
  have hp : 0 < l.length := by cases l with | nil => exact absurd rfl hl | cons a t => simp
  obtain ⟨v, i', u', e, h, h0, h1⟩ := d_pick code hc i u (l.length : Int) N hi hN
  have h2 := h1 (by omega)
  rw [e, Option.bind_some, if_pos h0, if_pos h2]
  exact ⟨_, _, _, rfl, h, rd_in l v h0 h2⟩

theorem d_argument (code : List Int) (hc : CodeOK code) (i u : Int) (N : Int) (hi : PL N i) (hN : N ≤ 10000000) : ∃ v i' u', spec_l1Cur_argument.f code i u = some (v, i', u') ∧ PL (N + 4) i' := by
  unfold spec_l1Cur_argument.f
  obtain ⟨b, i1, u1, e, h⟩ := d_one code hc i u 12 N hi (by omega)
  rw [e, Option.bind_some]
  by_cases hb : b = true
  · rw [if_pos hb]
    obtain ⟨v, i2, u2, e2, h2, _⟩ := d_among code hc i1 u1 [-21, -20, 20, 21, 4611686018427387904] (N + 2) (by simp) h (by omega)
    rw [e2]
    exact ⟨_, _, _, rfl, by rw [show N + 4 = N + 2 + 2 by omega]; exact h2⟩
  · rw [if_neg hb]
    obtain ⟨v, i2, u2, e2, h2, _⟩ := d_pick code hc i1 u1 13 (N + 2) h (by omega)
    rw [e2]
    exact ⟨_, _, _, rfl, by rw [show N + 4 = N + 2 + 2 by omega]; exact h2⟩

theorem d_sides (code : List Int) (hc : CodeOK code) (i u : Int) (N : Int) (hi : PL N i) (hN : N ≤ 10000000) : ∃ v i' u', spec_l1Cur_sides.f code i u = some (v, i', u') ∧ PL (N + 4) i' ∧ 1 ≤ v ∧ v ≤ 6 := by
  unfold spec_l1Cur_sides.f
  obtain ⟨b, i1, u1, e, h⟩ := d_one code hc i u 8 N hi (by omega)
  rw [e, Option.bind_some]
  by_cases hb : b = true
  · rw [if_pos hb]
    exact ⟨_, _, _, rfl, by unfold PL at h ⊢; simp only; omega, by omega, by omega⟩
  · rw [if_neg hb]
    obtain ⟨v, i2, u2, e2, h2, h3, h4⟩ := d_pick code hc i1 u1 5 (N + 2) h (by omega)
    have h5 := h4 (by omega)
    rw [e2]
    refine ⟨_, _, _, rfl, by rw [show N + 4 = N + 2 + 2 by omega]; exact h2, ?_⟩
    simp only
    rw [w64 (by omega) (by omega)]; omega

theorem d_lengths_l0 (code : List Int) (hc : CodeOK code) (n : Nat) (h1 : 1 ≤ n) (h6 : n ≤ 6) : ∀ (d i k : Nat) (acc : List Int) (j u N : Int), i + d = n → acc.length = i → d + 2000 < k → PL N j → N + 2 * d ≤ 100000 → ∃ L i' u', spec_l1Cur_lengths.l0 k (n : Int) acc (i : Int) code j u = some (L, i', u') ∧ 1 ≤ L.length ∧ L.length ≤ 7 ∧ PL (N + 2 * d + 6) i' := by
  intro d
  induction d with
  | zero =>
    intro i k acc j u N hi ha hk hj hN
    obtain ⟨k, rfl⟩ : ∃ m, k = m + 1 := ⟨k - 1, by omega⟩
    have hs := isortI_len acc
    rw [spec_l1Cur_lengths.l0, if_neg (by omega), e_feSorted k acc (by omega) (by omega), Option.bind_some]
    obtain ⟨v, j1, u1, e1, h2, _⟩ := d_pick code hc j u 14 N hj (by omega)
    rw [e1, Option.bind_some]
    simp only
    by_cases c0 : v = 0
    · rw [if_pos c0]
      obtain ⟨v2, j2, u2, e2, h3, h4, h5⟩ := d_pick code hc j1 u1 (n : Int) (N + 2) h2 (by omega)
      rw [e2, Option.bind_some]
      simp only
      obtain ⟨v3, j3, u3, e3, h7, _⟩ := d_pick code hc j2 u2 (wrap64 ((n : Int) + 3)) (N + 2 + 2) h3 (by omega)
      have := h5 (by omega)
      rw [e3, Option.bind_some, if_pos h4, if_pos (by omega)]
      exact ⟨_, _, _, rfl, by simp only [List.length_set]; omega, by simp only [List.length_set]; omega, by unfold PL at h7 ⊢; simp only; omega⟩
    · rw [if_neg c0]
      by_cases c1 : v = 1
      · rw [if_pos c1, if_pos (by omega)]
        exact ⟨_, _, _, rfl, by simp, by simp; omega, by unfold PL at h2 ⊢; omega⟩
      · rw [if_neg c1]
        by_cases c2 : v = 2
        · rw [if_pos c2]
          obtain ⟨v2, j2, u2, e2, h3, h4, h5⟩ := d_pick code hc j1 u1 2 (N + 2) h2 (by omega)
          have := h5 (by omega)
          rw [e2, Option.bind_some]
          simp only
          rw [w64 (x := 6 + v2) (by omega) (by omega), if_pos (by omega), if_pos (by omega)]
          exact ⟨_, _, _, rfl, by simp only [List.length_replicate]; omega, by simp only [List.length_replicate]; omega, by unfold PL at h3 ⊢; omega⟩
        · rw [if_neg c2]
          exact ⟨_, _, _, rfl, by omega, by omega, by unfold PL at h2 ⊢; omega⟩
  | succ d ih =>
    intro i k acc j u N hi ha hk hj hN
    obtain ⟨k, rfl⟩ : ∃ m, k = m + 1 := ⟨k - 1, by omega⟩
    rw [spec_l1Cur_lengths.l0, if_pos (by omega)]
    obtain ⟨v, j1, u1, e1, h2, _⟩ := d_pick code hc j u (wrap64 ((n : Int) + 1)) N hj (by omega)
    rw [e1, Option.bind_some, if_pos (by omega), w64 (x := (i : Int) + 1) (by omega) (by omega), show ((i : Int) + 1) = ((i + 1 : Nat) : Int) from by omega]
    obtain ⟨L, i', u', e, h3, h4, h5⟩ := ih (i + 1) k (acc ++ [v]) j1 u1 (N + 2) (by omega) (by simp; omega) (by omega) h2 (by omega)
    exact ⟨L, i', u', e, h3, h4, by unfold PL at h5 ⊢; omega⟩
theorem d_lengths (k : Nat) (code : List Int) (hc : CodeOK code) (i u N : Int) (hi : PL N i) (hN : N ≤ 10000) (hk : 3000 ≤ k) : ∃ L i' u', spec_l1Cur_lengths.f k code i u = some (L, i', u') ∧ 1 ≤ L.length ∧ L.length ≤ 7 ∧ PL (N + 100) i' := by
  unfold spec_l1Cur_lengths.f
  obtain ⟨v, i1, u1, e1, h1, h2, h3⟩ := d_sides code hc i u N hi (by omega)
  rw [e1, Option.bind_some]
  simp only
  obtain ⟨L, i', u', e, h4, h5, h6⟩ := d_lengths_l0 code hc v.toNat (by omega) (by omega) v.toNat 0 k [] i1 u1 (N + 4) (by omega) rfl (by omega) h1 (by omega)
  rw [show ((v.toNat : Nat) : Int) = v by omega, show ((0 : Nat) : Int) = 0 from rfl] at e
  exact ⟨L, i', u', e, h4, h5, by unfold PL at h6 ⊢; omega⟩

theorem fallF_eq (x : Int) : ∀ (d : Nat) (i a : Int), wrap64 a = a → fallF x d i a = wrap64 (a * prodI x d i)
  | 0, i, a, h => by rw [fallF, prodI, Int.mul_one, h]
  | d + 1, i, a, h => by
    rw [fallF, fallF_eq x d (i + 1) _ (wr_wr _), prodI, wr_mull, ← wr_mull (a * wrap64 (x - i)), wr_mulr, wr_mull, Int.mul_assoc]
theorem sumF_eq (x R : Int) (v : List Int) : ∀ (d i : Nat) (s : Int), wrap64 s = s → sumF x R v d i s = wrap64 (s + sumN (fun j => rd v ((i + j : Nat) : Int) * prodI x (R.toNat - (i + j)) 0) d)
  | 0, i, s, h => by rw [sumF, sumN, Int.add_zero, h]
  | d + 1, i, s, h => by
    rw [sumF, sumF_eq x R v d (i + 1) _ (wr_wr _), sumN_front, wr_addl, fallF_eq x _ 0 1 (by unfold wrap64; omega), Int.one_mul]
    have e : sumN (fun j => rd v ((i + 1 + j : Nat) : Int) * prodI x (R.toNat - (i + 1 + j)) 0) d = sumN (fun k => rd v ((i + (k + 1) : Nat) : Int) * prodI x (R.toNat - (i + (k + 1))) 0) d := sumN_congr _ _ d (fun k _ => by rw [show i + 1 + k = i + (k + 1) by omega])
    rw [e, Nat.add_zero]
    generalize sumN (fun k => rd v ((i + (k + 1) : Nat) : Int) * prodI x (R.toNat - (i + (k + 1))) 0) d = Q
    rw [show s + wrap64 (rd v (i : Int) * wrap64 (prodI x (R.toNat - i) 0)) + Q = (s + Q) + wrap64 (rd v (i : Int) * wrap64 (prodI x (R.toNat - i) 0)) by omega, wr_mulr, wr_addr]
    congr 1
    omega
def prodW (x : Int) : List Int → Int → Int
  | [], a => a
  | f :: t, a => prodW x t (wrap64 (a * wrap64 (x + f)))
theorem prodW_eq (x : Int) : ∀ (l : List Int) (a : Int), wrap64 a = a → prodW x l a = wrap64 (a * prodL x l)
  | [], a, h => by rw [prodW, prodL, Int.mul_one, h]
  | f :: t, a, h => by
    rw [prodW, prodW_eq x t _ (wr_wr _), prodL, wr_mull, ← wr_mull (a * wrap64 (x + f)), wr_mulr, wr_mull, Int.mul_assoc]
theorem i_prod (x : Int) (v : List Int) (hv : v.length ≤ 100) : ∀ (t : List Int) (i k : Nat) (a : Int), v.drop i = t → i + t.length = v.length → t.length < k → impl_ProductAt.l0 k x a v (v.length : Int) (i : Int) = some (prodW x t a, true)
  | [], i, k, a, ht, hi, hk => by
    simp only [List.length_nil] at hi hk
    obtain ⟨k, rfl⟩ : ∃ m, k = m + 1 := ⟨k - 1, by omega⟩
    rw [impl_ProductAt.l0, if_neg (by omega)]; rfl
  | f :: t, i, k, a, ht, hi, hk => by
    simp only [List.length_cons] at hi hk
    obtain ⟨k, rfl⟩ : ∃ m, k = m + 1 := ⟨k - 1, by omega⟩
    have hlt : i < v.length := by omega
    have hd := List.drop_eq_getElem_cons hlt
    rw [ht] at hd
    injection hd with e1 e2
    rw [impl_ProductAt.l0, if_pos (by omega), if_pos (by omega), if_pos (by omega), w64 (x := (i : Int) + 1) (by omega) (by omega), show ((i : Int) + 1) = ((i + 1 : Nat) : Int) from by omega, i_prod x v hv t (i + 1) k _ e2.symm (by omega) (by omega), rd_nat v i hlt, ← e1]; rfl
def prdOut (l : List Int) (a : Int) : Int × Bool := if Good l ∧ (-20 ≤ a ∧ a ≤ 20) then (prodW a (facL l) 1, true) else (0, false)
theorem i_ProductAt (k : Nat) (l : List Int) (a : Int) (hk : 10000 ≤ k) (hl : l.length ≤ 1000) : impl_ProductAt.f k l a = some (prdOut l a) := by
  unfold impl_ProductAt.f prdOut
  rw [i_AreLengths k l (by omega) (by omega), Option.bind_some]
  obtain ⟨k, rfl⟩ : ∃ m, k = m + 1 := ⟨k - 1, by omega⟩
  by_cases h : Good l
  · have hn := facL_len l
    have h6 := (good6 h).1
    rw [if_pos (decide_eq_true h), i_isPoint, Option.bind_some, impl_ProductAt.j0]
    by_cases hp : (-20 ≤ a ∧ a ≤ 20)
    · rw [if_neg (by simpa using hp), if_pos ⟨h, hp⟩, i_factors k l h (by omega), Option.bind_some]
      exact i_prod a (facL l) (by omega) (facL l) 0 k 1 rfl (by omega) (by omega)
    · rw [if_pos (by simp [hp]), if_neg (fun x => hp x.2)]
  · rw [if_neg (by simpa using h), impl_ProductAt.j0, if_pos rfl, if_neg (fun x => h x.1)]
theorem e_ProductAt (k : Nat) (l : List Int) (a : Int) (hk : 2000000 ≤ k) (hl : l.length ≤ 1000) : spec_ProductAt.f k l a = some (prdOut l a) := by
  obtain ⟨o, h1, h2⟩ := both_ProductAt k k l a hk hk (by omega)
  rw [i_ProductAt k l a (by omega) hl] at h2
  rw [h1, h2]
theorem i_full (l : List Int) (g : Good l) : ∀ (d i k : Nat), i + d = l.length → d < k → impl_FullPlacements.l0 k ((cK l l.length i i : Nat) : Int) l (l.length : Int) (i : Int) = some (((cK l l.length l.length l.length : Nat) : Int), true)
  | 0, i, k, hi, hk => by
    obtain ⟨k, rfl⟩ : ∃ m, k = m + 1 := ⟨k - 1, by omega⟩
    rw [impl_FullPlacements.l0, if_neg (by omega), show i = l.length by omega]
  | d + 1, i, k, hi, hk => by
    obtain ⟨k, rfl⟩ : ∃ m, k = m + 1 := ⟨k - 1, by omega⟩
    have hlt : i < l.length := by omega
    have h6 := (good6 g).1
    have hx := (good6 g).2 l[i] (List.getElem_mem _)
    have hs := cK_full l l.length (good_lens g) i hlt
    have hb := cK_bd l l.length (good_lens g) (i + 1) (i + 1) (by omega)
    rw [impl_FullPlacements.l0, if_pos (by omega), if_pos (by omega), if_pos (by omega), w64 (x := (i : Int) + 1) (by omega) (by omega), show ((i : Int) + 1) = ((i + 1 : Nat) : Int) from by omega, rd_nat l i hlt, w64 (x := l[i] - (i : Int)) (by omega) (by omega)]
    have e : ((cK l l.length i i : Nat) : Int) * mx (l[i] - (i : Int)) 0 = ((cK l l.length (i + 1) (i + 1) : Nat) : Int) := by
      have e1 : mx (l[i] - (i : Int)) 0 = ((l[i].toNat - i : Nat) : Int) := by unfold mx; split <;> omega
      rw [e1, hs, Int.natCast_mul, Int.mul_comm]
    rw [e, w64 (by omega) (by omega)]
    exact i_full l g d (i + 1) k (by omega) (by omega)
def fullOut (l : List Int) : Int × Bool := if Good l then (((cK l l.length l.length l.length : Nat) : Int), true) else (0, false)
theorem i_FullPlacements (k : Nat) (l : List Int) (hk : 10000 ≤ k) (hl : l.length ≤ 1000) : impl_FullPlacements.f k l = some (fullOut l) := by
  unfold impl_FullPlacements.f fullOut
  rw [i_AreLengths k l (by omega) (by omega), Option.bind_some]
  by_cases h : Good l
  · rw [if_pos (decide_eq_true h), if_pos h]
    have := i_full l h l.length 0 k (by omega) (by omega)
    rw [show ((cK l l.length 0 0 : Nat) : Int) = 1 from by unfold cK; simp [Z]] at this
    exact this
  · rw [if_neg (by simpa using h), if_neg h]
theorem e_FullPlacements (k : Nat) (l : List Int) (hk : 10000 ≤ k) (hl : l.length ≤ 1000) : spec_FullPlacements.f k l = some (fullOut l) := by
  obtain ⟨r, b, h1, h2⟩ := fp_both k l (by omega) (by omega)
  rw [i_FullPlacements k l hk hl] at h2
  rw [h1, ← h2]
theorem perm_full (l : List Int) (g : Good l) : GoodB (l.length : Int) (l.length : Int) (boardL l) → pmOut (l.length : Int) (l.length : Int) (boardL l) = fullOut l := by
  intro gb
  unfold pmOut fullOut
  rw [if_pos ⟨gb, rfl⟩, if_pos g]
  congr 1
  unfold numsL
  rw [HZ_rd _ _ l.length (by omega)]
  unfold cK
  rw [List.take_of_length_le (by simp [boardL])]
  simp
theorem goodB_boardL (l : List Int) (g : Good l) : GoodB (l.length : Int) (l.length : Int) (boardL l) := by
  refine ⟨g.1, g.1, by simp [boardL], ?_⟩
  intro x hx
  obtain ⟨m, hm, rfl⟩ := List.mem_map.1 hx
  have h1 := g.2.1 m hm
  have h2 := g.1
  have key : ∀ a b : Fin 7, a.val ≤ b.val → (0 : Int) ≤ 2 ^ a.val - 1 ∧ (2 : Int) ^ a.val - 1 ≤ 2 ^ b.val - 1 := by decide +kernel
  exact key ⟨m.toNat, by omega⟩ ⟨l.length, by omega⟩ (by show m.toNat ≤ l.length; omega)
theorem fact_prod (l : List Int) (g : Good l) (x : Int) (hx : -20 ≤ x ∧ x ≤ 20) : faOut (l.length : Int) (l.length : Int) (boardL l) x = prdOut l x := by
  have gb := goodB_boardL l g
  unfold faOut prdOut
  rw [if_pos ⟨⟨gb, rfl⟩, hx⟩, if_pos ⟨g, hx⟩]
  congr 1
  have hn : (numsL (l.length : Int) (l.length : Int) (boardL l)).length = l.length + 1 := by unfold numsL; rw [HZ_len]; omega
  rw [hn, sumF_eq _ _ _ _ _ _ (by unfold wrap64; omega), prodW_eq _ _ _ (by unfold wrap64; omega), Int.zero_add, Int.one_mul, ← gjw l l.length (good_lens g) x]
  congr 1
  apply sumN_congr
  intro k hk
  rw [Nat.zero_add, Int.toNat_natCast]
  unfold numsL
  rw [HZ_rd _ _ k (by omega), Int.toNat_natCast]
theorem law_j3 (k : Nat) (l : List Int) (x : Int) (hl : l.length ≤ 7) (hk : 100000 ≤ k) : laws_FnFactorsTell.j3 k l x (prdOut l x).1 (prdOut l x).2 false = some true := by
  obtain ⟨k, rfl⟩ : ∃ m, k = m + 1 := ⟨k - 1, by omega⟩
  rw [laws_FnFactorsTell.j3, if_neg (by decide)]
  by_cases h : Good l ∧ (-20 ≤ x ∧ x ≤ 20)
  · have e : (prdOut l x).2 = true := by unfold prdOut; rw [if_pos h]
    have eb : bolOut l = ((l.length : Int), (l.length : Int), boardL l, true) := by unfold bolOut; rw [if_pos h.1]
    rw [e, if_pos rfl, i_BoardOfLengths k l (by omega) (by omega) (by omega), Option.bind_some, eb]
    simp only
    rw [i_FactorialAt k _ _ _ _ (by omega), Option.bind_some, fact_prod l h.1 x h.2, if_pos trivial, e, if_pos rfl, beq_self_eq_true]
  · have e : (prdOut l x).2 = false := by unfold prdOut; rw [if_neg h]
    rw [e, if_neg (by decide)]
theorem law_j2 (k : Nat) (x1 : List Int) (hc : CodeOK x1) (l : List Int) (x : Int) (hl : l.length ≤ 7) (hk : 2000010 ≤ k) : laws_FnFactorsTell.j2 k x1 l x (prdOut l x).1 (prdOut l x).2 = some true := by
  obtain ⟨k, rfl⟩ : ∃ m, k = m + 1 := ⟨k - 1, by omega⟩
  rw [laws_FnFactorsTell.j2]
  unfold spec_DrawStaircaseNumbers.f
  obtain ⟨v, i', u', e, _⟩ := d_pick x1 hc 0 0 9 0 (by unfold PL; omega) (by omega)
  rw [e, Option.bind_some, Option.bind_some, i_StaircaseNumbers _ _ (by omega), Option.bind_some, e_StaircaseNumbers _ _ (by omega), Option.bind_some, bne_self_eq_false, if_neg (by decide)]
  have := stOut_len (wrap64 (v - 1))
  simp only
  rw [rSame_self _ _ (by omega) (by omega), Option.bind_some]
  exact law_j3 k l x hl (by omega)
theorem law_j1 (k : Nat) (x1 : List Int) (hc : CodeOK x1) (l : List Int) (x : Int) (hl : l.length ≤ 7) (m : List Int) (hm : m.length ≤ 7) (hk : 2000020 ≤ k) : laws_FnFactorsTell.j1 k x1 l x (prdOut l x).1 (prdOut l x).2 m (nolOut m).1 (nolOut m).2 (focOut m).1 (fullOut m).1 false (bolOut m).1 (bolOut m).2.1 (bolOut m).2.2.1 = some true := by
  obtain ⟨k, rfl⟩ : ∃ m, k = m + 1 := ⟨k - 1, by omega⟩
  rw [laws_FnFactorsTell.j1, if_neg (by decide)]
  by_cases g : Good m
  · have gb := goodB_boardL m g
    have e1 : nolOut m = (numsL (m.length : Int) (m.length : Int) (boardL m), true) := by unfold nolOut; rw [if_pos g]
    have e2 : bolOut m = ((m.length : Int), (m.length : Int), boardL m, true) := by unfold bolOut; rw [if_pos g]
    have e3 : focOut m = (facL m, true) := by unfold focOut; rw [if_pos g]
    have e4 : numsOut (m.length : Int) (m.length : Int) (boardL m) = (numsL (m.length : Int) (m.length : Int) (boardL m), true) := by unfold numsOut; rw [if_pos gb]
    have hf := perm_full m g gb
    have e5 : (fullOut m).2 = true := by unfold fullOut; rw [if_pos g]
    have hn := numsL_len _ _ _ gb
    rw [e1, e2, e3]
    simp only
    rw [if_pos trivial, i_RookNumbers, Option.bind_some, i_PermanentOf, Option.bind_some, e4, if_pos rfl, hf, e5, if_pos rfl]
    simp only
    rw [rSame_self _ _ (by omega) (by omega), Option.bind_some, if_pos rfl, if_pos trivial, facL_len, if_pos rfl]
    exact law_j2 k x1 hc l x hl (by omega)
  · have e1 : nolOut m = ([], false) := by unfold nolOut; rw [if_neg g]
    rw [e1]
    simp only
    rw [if_neg (by decide)]
    exact law_j2 k x1 hc l x hl (by omega)
theorem outs_ok (m : List Int) : (focOut m).2 = (nolOut m).2 ∧ (fullOut m).2 = (nolOut m).2 ∧ (bolOut m).2.2.2 = (nolOut m).2 ∧ (nolOut m).2 = decide (Good m) := by
  unfold focOut nolOut fullOut bolOut
  by_cases g : Good m
  · simp [g]
  · simp [g]
theorem law_j0 (k : Nat) (x1 : List Int) (hc : CodeOK x1) (l : List Int) (x : Int) (hl : l.length ≤ 7) (hk : 2000030 ≤ k) : laws_FnFactorsTell.j0 k x1 l x (prdOut l x).1 (prdOut l x).2 false = some true := by
  obtain ⟨k, rfl⟩ : ∃ m, k = m + 1 := ⟨k - 1, by omega⟩
  rw [laws_FnFactorsTell.j0, if_neg (by decide)]
  unfold spec_DrawNumbersOfLengths.f spec_DrawAreLengths.f
  obtain ⟨m, i', u', e, _, hm, _⟩ := d_lengths k x1 hc 0 0 0 (by unfold PL; omega) (by omega) (by omega)
  rw [e, Option.bind_some, Option.bind_some, Option.bind_some]
  simp only
  rw [i_NumbersOfLengths k m (by omega) (by omega), Option.bind_some, e_NumbersOfLengths k m (by omega) (by omega), Option.bind_some, i_FactorsOf k m (by omega) (by omega), Option.bind_some, e_FactorsOf k m (by omega) (by omega), Option.bind_some, i_FullPlacements k m (by omega) (by omega), Option.bind_some, e_FullPlacements k m (by omega) (by omega), Option.bind_some, i_BoardOfLengths k m (by omega) (by omega) (by omega), Option.bind_some, e_BoardOfLengths k m (by omega) (by omega) (by omega), Option.bind_some]
  have h1 := nolOut_len m
  have h2 := focOut_len m
  have h3 := bolOut_len m
  obtain ⟨o1, o2, o3, o4⟩ := outs_ok m
  rw [bne_self_eq_false, if_neg (by decide), rSame_self _ _ (by omega) (by omega), Option.bind_some, if_pos rfl, bne_self_eq_false, if_neg (by decide), rSame_self _ _ (by omega) (by omega), Option.bind_some, if_pos rfl, bne_self_eq_false, if_neg (by decide), if_pos rfl, bne_self_eq_false, if_neg (by decide), rSameBoard_self _ _ _ _ (by omega) (by omega), Option.bind_some, if_pos rfl, i_AreLengths k m (by omega) (by omega), Option.bind_some, ← o4, bne_self_eq_false, if_neg (by decide), o1, bne_self_eq_false, if_neg (by decide), o2, bne_self_eq_false, if_neg (by decide), o3, bne_self_eq_false]
  exact law_j1 k x1 hc l x hl m hm (by omega)
theorem FnFactorsTell : laws_FnFactorsTell.Pure := by
  intro a b _ ha _ hb
  refine ⟨3000000, ?_⟩
  unfold laws_FnFactorsTell.f laws_big.f
  by_cases h : (a.length : Int) > 1048576
  · rw [if_pos h]; rfl
  · rw [if_neg h, Option.bind_some, w64 (by omega) (by omega)]
    by_cases h2 : (b.length : Int) > 1048576 - a.length
    · rw [decide_eq_true h2, if_pos rfl]
    · have hca := code_ok a (by omega) ha
      have hcb := code_ok b (by omega) hb
      rw [decide_eq_false h2, if_neg (by decide)]
      unfold spec_DrawProductAt.f
      obtain ⟨l, i1, u1, e1, h3, h4, h5⟩ := d_lengths 3000000 a hca 0 0 0 (by unfold PL; omega) (by omega) (by omega)
      rw [e1, Option.bind_some]
      simp only
      obtain ⟨x, i2, u2, e2, _⟩ := d_argument a hca i1 u1 (0 + 100) h5 (by omega)
      rw [e2, Option.bind_some, Option.bind_some]
      simp only
      rw [i_ProductAt _ _ _ (by omega) (by omega), Option.bind_some, e_ProductAt _ _ _ (by omega) (by omega), Option.bind_some, bne_self_eq_false, if_neg (by decide), bne_self_eq_false]
      exact law_j0 3000000 b hcb l x h4 (by omega)

end Go.Proofs.Ytfgfgkpmkfjeiaa.Pure
