/- AlikeLengths: the law's function comes to true. -/
import Derived.Test.YtfgfgkpmkfjeiaaPFnAlikeLengthsx12
namespace Go.Proofs.Ytfgfgkpmkfjeiaa.Pure
open Go.RowKit Go.Proofs.Ytfgfgkpmkfjeiaa.PFnAlikeLengths Go.Proofs.YtfgfgkpmkfjeiaaW.PrintWords Go.Proofs.YtfgfgkpmkfjeiaaW.PrintLast
set_option linter.unusedVariables false
set_option linter.unusedSimpArgs false

theorem w64 {x : Int} (h0 : -9223372036854775808 ≤ x) (h1 : x < 9223372036854775808) : wrap64 x = x := by
  unfold wrap64; omega
theorem rd_nat (l : List Int) (i : Nat) (h : i < l.length) : rd l (i : Int) = l[i] := by
  unfold rd; simp [List.getD, h]

/-- A list does not fall. -/
def up : List Int → Prop
  | [] => True
  | [_] => True
  | a :: b :: r => a ≤ b ∧ up (b :: r)
instance upDec : ∀ l, Decidable (up l)
  | [] => .isTrue trivial
  | [_] => .isTrue trivial
  | a :: b :: r => by unfold up; have := upDec (b :: r); exact inferInstance

def Good (l : List Int) : Prop := (1 ≤ (l.length : Int) ∧ (l.length : Int) ≤ 6) ∧ (∀ x ∈ l, 0 ≤ x ∧ x ≤ (l.length : Int)) ∧ up l
instance (l : List Int) : Decidable (Good l) := by unfold Good; exact inferInstance

theorem e_l1In (a b c : Int) : spec_l1In.f a b c = some (decide (b ≤ a ∧ a ≤ c)) := by
  unfold spec_l1In.f
  by_cases h : b ≤ a
  · rw [if_pos h]; simp [h]
  · rw [if_neg h]; simp [h]

theorem e_l1All_l0 (lo hi : Int) (l : List Int) (hl : l.length ≤ 2000000) : ∀ (d i k : Nat), i + d = l.length → d < k →
    spec_l1All.l0 k lo hi l (l.length : Int) (i : Int) = some (decide (∀ x ∈ l.drop i, lo ≤ x ∧ x ≤ hi)) := by
  intro d
  induction d with
  | zero =>
    intro i k hi' hk
    obtain ⟨k, rfl⟩ : ∃ m, k = m + 1 := ⟨k - 1, by omega⟩
    simp only [spec_l1All.l0]; rw [if_neg (by omega), List.drop_eq_nil_of_le (by omega)]; simp
  | succ d ih =>
    intro i k hi' hk
    obtain ⟨k, rfl⟩ : ∃ m, k = m + 1 := ⟨k - 1, by omega⟩
    have hlt : i < l.length := by omega
    simp only [spec_l1All.l0]
    rw [if_pos (by omega), if_pos (by omega), if_pos (by omega), e_l1In, rd_nat l i hlt, List.drop_eq_getElem_cons hlt, w64 (by omega) (by omega)]
    simp only [Option.bind_some, decide_eq_true_eq, List.forall_mem_cons]
    by_cases h : lo ≤ l[i] ∧ l[i] ≤ hi
    · rw [if_pos h]
      have := ih (i + 1) k (by omega) (by omega)
      rw [show ((i : Int) + 1) = ((i + 1 : Nat) : Int) from by omega, this]; simp [h]
    · rw [if_neg h]; simp [h]
theorem e_l1All (k : Nat) (l : List Int) (lo hi : Int) (hl : l.length ≤ 2000000) (hk : l.length < k) : spec_l1All.f k l lo hi = some (decide (∀ x ∈ l, lo ≤ x ∧ x ≤ hi)) := by
  unfold spec_l1All.f; exact e_l1All_l0 lo hi l hl l.length 0 k (by omega) hk

theorem e_boSide (a : Int) : spec_boSide.f a = some (decide (1 ≤ a ∧ a ≤ 6)) := by
  unfold spec_boSide.f; rw [e_l1In]; rfl

theorem e_feGood_l0 (l : List Int) (hl : l.length ≤ 2000000) : ∀ (d i k : Nat), i + 1 + d = l.length → d < k →
    spec_feGood.l0 k l ((i + 1 : Nat) : Int) = some (decide (up (l.drop i))) := by
  intro d
  induction d with
  | zero =>
    intro i k hi' hk
    obtain ⟨k, rfl⟩ : ∃ m, k = m + 1 := ⟨k - 1, by omega⟩
    simp only [spec_feGood.l0]; rw [if_neg (by omega), List.drop_eq_getElem_cons (by omega), List.drop_eq_nil_of_le (by omega)]; exact congrArg some (decide_eq_true trivial).symm
  | succ d ih =>
    intro i k hi' hk
    obtain ⟨k, rfl⟩ : ∃ m, k = m + 1 := ⟨k - 1, by omega⟩
    have hlt : i < l.length := by omega
    have hlt1 : i + 1 < l.length := by omega
    simp only [spec_feGood.l0]
    rw [w64 (x := ((i + 1 : Nat) : Int) - 1) (by omega) (by omega), if_pos (by omega), if_pos (by omega), if_pos (by omega), if_pos (by omega), rd_nat l (i + 1) hlt1,
      show ((i + 1 : Nat) : Int) - 1 = (i : Int) from by omega, rd_nat l i hlt, w64 (by omega) (by omega), show ((i + 1 : Nat) : Int) + 1 = ((i + 1 + 1 : Nat) : Int) from by omega, ih (i + 1) k (by omega) (by omega),
      List.drop_eq_getElem_cons hlt, List.drop_eq_getElem_cons hlt1]
    by_cases h : l[i + 1] < l[i]
    · rw [if_pos h]; simp only [up]; simp; intro h2; omega
    · rw [if_neg h]; simp only [up]; simp; intro; omega
theorem e_feGood (k : Nat) (l : List Int) (hl : l.length ≤ 2000000) (hk : l.length + 1 < k) : spec_feGood.f k l = some (decide (Good l)) := by
  unfold spec_feGood.f
  rw [e_boSide, e_l1All _ _ _ _ hl (by omega)]
  obtain ⟨k, rfl⟩ : ∃ m, k = m + 1 := ⟨k - 1, by omega⟩
  simp only [Option.bind_some, decide_eq_true_eq, spec_feGood.j0]
  by_cases h : 1 ≤ (l.length : Int) ∧ (l.length : Int) ≤ 6
  · rw [if_pos h]
    by_cases h2 : ∀ x ∈ l, 0 ≤ x ∧ x ≤ (l.length : Int)
    · have := e_feGood_l0 l hl (l.length - 1) 0 k (by omega) (by omega)
      rw [show ((0 + 1 : Nat) : Int) = 1 from rfl] at this
      simp only [decide_eq_true h2, Bool.not_true, Bool.false_eq_true, if_false]
      rw [this]; simp only [Good]; simp [h]; exact fun _ => h2
    · simp only [decide_eq_false h2, Bool.not_false, if_true]; simp only [Good]; simp [h2]
  · rw [if_neg h]; simp only [Good]; simp [h]

theorem e_Less (a b : Int) : cmp_Less_int.f a b = some (decide (a < b)) := by
  unfold cmp_Less_int.f; rw [show cmp_isNaN_int.f a = some false from by unfold cmp_isNaN_int.f; simp]; rfl
theorem up_take_succ (l : List Int) (i : Nat) (h : i + 1 < l.length) : up (l.drop i) ↔ l[i] ≤ l[i + 1] ∧ up (l.drop (i + 1)) := by
  rw [List.drop_eq_getElem_cons (by omega), List.drop_eq_getElem_cons h]; rfl
theorem not_up (l : List Int) (i : Nat) (hi : i + 1 < l.length) (h : l[i + 1] < l[i]) : ∀ (d j : Nat), j + d = i → ¬ up (l.drop j) := by
  intro d
  induction d with
  | zero =>
    intro j hj
    obtain rfl : j = i := hj
    rw [up_take_succ l j hi]; intro hc; omega
  | succ d ih => intro j hj; rw [up_take_succ l j (by omega)]; intro hc; exact ih (j + 1) (by omega) hc.2
theorem e_IsSorted_l0 (l : List Int) (hl : l.length ≤ 2000000) : ∀ (i k : Nat), i < l.length → i < k → up (l.drop i) →
    slices_IsSorted_int_int.l0 k l (i : Int) = some (decide (up l)) := by
  intro i
  induction i with
  | zero =>
    intro k hi' hk hu
    obtain ⟨k, rfl⟩ : ∃ m, k = m + 1 := ⟨k - 1, by omega⟩
    simp only [slices_IsSorted_int_int.l0]; rw [if_neg (by omega)]; rw [List.drop_zero] at hu; simp [hu]
  | succ i ih =>
    intro k hi' hk hu
    obtain ⟨k, rfl⟩ : ∃ m, k = m + 1 := ⟨k - 1, by omega⟩
    have hlt : i < l.length := by omega
    simp only [slices_IsSorted_int_int.l0]
    rw [w64 (x := ((i + 1 : Nat) : Int) - 1) (by omega) (by omega), if_pos (by omega), if_pos (by omega), if_pos (by omega), if_pos (by omega), if_pos (by omega), rd_nat l (i + 1) hi',
      show ((i + 1 : Nat) : Int) - 1 = (i : Int) from by omega, rd_nat l i hlt, e_Less]
    simp only [Option.bind_some, decide_eq_true_eq]
    by_cases h : l[i + 1] < l[i]
    · rw [if_pos h]
      have := not_up l i hi' h i 0 (by omega)
      rw [List.drop_zero] at this; simp [this]
    · rw [if_neg h]; exact ih k hlt (by omega) ((up_take_succ l i hi').2 ⟨by omega, hu⟩)
theorem e_IsSorted (k : Nat) (l : List Int) (hl : l.length ≤ 2000000) (h1 : 1 ≤ l.length) (hk : l.length < k) : slices_IsSorted_int_int.f k l = some (decide (up l)) := by
  unfold slices_IsSorted_int_int.f
  rw [w64 (by omega) (by omega), show (l.length : Int) - 1 = ((l.length - 1 : Nat) : Int) from by omega]
  refine e_IsSorted_l0 l hl (l.length - 1) k (by omega) (by omega) ?_
  rw [List.drop_eq_getElem_cons (by omega), List.drop_eq_nil_of_le (by omega)]; simp [up]

theorem up_ge (l : List Int) (h : up l) : ∀ x ∈ l, ∀ a r, l = a :: r → a ≤ x := by
  induction l with
  | nil => intro x hx; cases hx
  | cons a r ih =>
    intro x hx a' r' he
    injection he with h1 h2
    subst h1; subst h2
    rcases List.mem_cons.1 hx with rfl | hx
    · omega
    · cases r with
      | nil => cases hx
      | cons b r => have := ih h.2 x hx b r rfl; have := h.1; omega
theorem up_le (l : List Int) (h : up l) : ∀ x ∈ l, ∀ y, l.getLast? = some y → x ≤ y := by
  induction l with
  | nil => intro x hx; cases hx
  | cons a r ih =>
    intro x hx y hy
    cases r with
    | nil => simp at hx hy; omega
    | cons b r =>
      have hy2 : (b :: r).getLast? = some y := by simpa using hy
      rcases List.mem_cons.1 hx with rfl | hx
      · have := ih h.2 b (by simp) y hy2; have := h.1; omega
      · exact ih h.2 x hx y hy2

theorem e_within (a b c : Int) : impl_within.f a b c = some (decide (b ≤ a ∧ a ≤ c)) := by
  unfold impl_within.f
  by_cases h : b ≤ a
  · rw [if_pos h]; simp [h]
  · rw [if_neg h]; simp [h]

theorem e_isSide (a : Int) : impl_isSide.f a = some (decide (1 ≤ a ∧ a ≤ 6)) := by
  unfold impl_isSide.f; rw [e_within]; rfl

theorem i_AreLengths (k : Nat) (l : List Int) (hl : l.length ≤ 2000000) (hk : l.length < k) : impl_AreLengths.f k l = some (decide (Good l)) := by
  unfold impl_AreLengths.f
  rw [e_isSide]
  simp only [Option.bind_some, decide_eq_true_eq]
  by_cases h : 1 ≤ (l.length : Int) ∧ (l.length : Int) ≤ 6
  · rw [if_pos h, e_IsSorted k l hl (by omega) hk]
    simp only [Option.bind_some, decide_eq_true_eq]
    by_cases hu : up l
    · rw [if_pos hu, if_pos (by omega), e_within, w64 (by omega) (by omega), if_pos (by omega), if_pos (by omega), e_within]
      simp only [Option.bind_some, decide_eq_true_eq]
      have hne : 0 < l.length := by omega
      have r0 : rd l 0 = l[0] := rd_nat l 0 hne
      rw [r0]
      have r1 : rd l ((l.length : Int) - 1) = l[l.length - 1] := by
        rw [show (l.length : Int) - 1 = ((l.length - 1 : Nat) : Int) from by omega]; exact rd_nat l _ (by omega)
      rw [r1]
      have key : Good l ↔ ((0 : Int) ≤ l[0] ∧ l[0] ≤ (l.length : Int)) ∧ (0 ≤ l[l.length - 1] ∧ l[l.length - 1] ≤ (l.length : Int)) := by
        constructor
        · intro g; exact ⟨g.2.1 _ (List.getElem_mem _), g.2.1 _ (List.getElem_mem _)⟩
        · intro g
          refine ⟨h, fun x hx => ?_, hu⟩
          have a1 := up_ge l hu x hx l[0] (l.drop 1) (by rw [← List.drop_eq_getElem_cons hne]; rfl)
          have a2 := up_le l hu x hx l[l.length - 1] (by rw [List.getLast?_eq_getElem?]; simp)
          omega
      by_cases g0 : (0 : Int) ≤ l[0] ∧ l[0] ≤ (l.length : Int)
      · rw [if_pos g0]; simp only [Option.some.injEq, decide_eq_decide]; rw [key]; simp [g0]
      · rw [if_neg g0]; simp only [Option.some.injEq]; symm; rw [decide_eq_false_iff_not, key]; intro hc; exact g0 hc.1
    · rw [if_neg hu]; simp [Good, hu]
  · rw [if_neg h]; simp [Good, h]

theorem rd_set (l : List Int) (i : Nat) (v : Int) (j : Nat) (h : i < l.length) : rd (l.set i v) (j : Int) = if i = j then v else rd l (j : Int) := by
  unfold rd
  simp only [List.getD, Int.toNat_natCast, List.getElem?_set]
  by_cases hij : i = j
  · subst hij; simp [h]
  · simp [hij]
theorem rd_ext (a b : List Int) (hl : a.length = b.length) (h : ∀ j : Nat, j < a.length → rd a (j : Int) = rd b (j : Int)) : a = b := by
  refine List.ext_getElem hl ?_
  intro i h1 h2
  have := h i h1
  rwa [rd_nat a i h1, rd_nat b i h2] at this

theorem up_get : ∀ (l : List Int), up l → ∀ i j (hi : i < l.length) (hj : j < l.length), i ≤ j → l[i] ≤ l[j]
  | [], _, i, j, hi, _, _ => by simp at hi
  | [a], _, i, j, hi, hj, _ => by
    simp at hi hj; subst hi; subst hj; exact Int.le_refl _
  | a :: b :: r, h, 0, j, hi, hj, _ => up_ge (a :: b :: r) h _ (List.getElem_mem _) a (b :: r) rfl
  | a :: b :: r, h, i + 1, j, hi, hj, hij => by
    obtain ⟨j, rfl⟩ : ∃ m, j = m + 1 := ⟨j - 1, by omega⟩
    simp only [List.getElem_cons_succ]
    exact up_get (b :: r) h.2 i j (by simp at hi ⊢; omega) (by simp at hj ⊢; omega) (by omega)

/-- A number put into a list, behind what is not greater. -/
def insI (x : Int) : List Int → List Int
  | [] => [x]
  | a :: t => if a ≤ x then a :: insI x t else x :: a :: t
theorem insI_len (x : Int) : ∀ l, (insI x l).length = l.length + 1
  | [] => rfl
  | a :: t => by
    simp only [insI]
    split
    · simp [insI_len x t]
    · simp
theorem insI_mem (x : Int) : ∀ l y, y ∈ insI x l ↔ y = x ∨ y ∈ l
  | [], y => by simp [insI]
  | a :: t, y => by
    simp only [insI]
    split
    · simp only [List.mem_cons, insI_mem x t y]
      constructor
      · rintro (h | h | h) <;> simp [h]
      · rintro (h | h | h) <;> simp [h]
    · simp
theorem insI_gt (x p : Int) (h : x < p) : ∀ P : List Int, insI x (P ++ [p]) = insI x P ++ [p]
  | [] => by simp [insI, show ¬ p ≤ x by omega]
  | a :: P => by
    simp only [List.cons_append, insI]
    split
    · rw [insI_gt x p h P]; rfl
    · rfl
theorem insI_le (x : Int) : ∀ P : List Int, (∀ y ∈ P, y ≤ x) → insI x P = P ++ [x]
  | [], _ => rfl
  | a :: P, h => by
    simp only [insI, if_pos (h a (by simp)), List.cons_append]
    rw [insI_le x P (fun y hy => h y (by simp [hy]))]
theorem up_cons (a : Int) (l : List Int) (hl : up l) (h : ∀ y ∈ l, a ≤ y) : up (a :: l) := by
  cases l with
  | nil => trivial
  | cons b r => exact ⟨h b (by simp), hl⟩
theorem up_tail (a : Int) (l : List Int) (h : up (a :: l)) : up l := by
  cases l with
  | nil => trivial
  | cons b r => exact h.2
theorem insI_up (x : Int) : ∀ l, up l → up (insI x l)
  | [], _ => trivial
  | a :: t, h => by
    simp only [insI]
    split
    case isTrue hx =>
      refine up_cons a _ (insI_up x t (up_tail a t h)) ?_
      intro y hy
      rcases (insI_mem x t y).1 hy with rfl | hy
      · exact hx
      · exact up_ge (a :: t) h y (by simp [hy]) a t rfl
    case isFalse hx => exact ⟨by omega, h⟩
def isortI (l : List Int) : List Int := l.foldl (fun acc x => insI x acc) []
theorem isortI_snoc (l : List Int) (x : Int) : isortI (l ++ [x]) = insI x (isortI l) := by simp [isortI]
theorem isortI_len_aux : ∀ (l acc : List Int), (l.foldl (fun acc x => insI x acc) acc).length = acc.length + l.length
  | [], acc => by simp
  | x :: l, acc => by simp only [List.foldl_cons, isortI_len_aux l, insI_len, List.length_cons]; omega
theorem isortI_len (l : List Int) : (isortI l).length = l.length := by unfold isortI; rw [isortI_len_aux]; simp
theorem isortI_up_aux : ∀ (l acc : List Int), up acc → up (l.foldl (fun acc x => insI x acc) acc)
  | [], acc, h => h
  | x :: l, acc, h => by simp only [List.foldl_cons]; exact isortI_up_aux l _ (insI_up x acc h)
theorem isortI_up (l : List Int) : up (isortI l) := isortI_up_aux l [] trivial
theorem rd_mid (P S : List Int) (x : Int) : rd (P ++ x :: S) (P.length : Int) = x := by
  rw [rd_nat _ _ (by simp)]; simp
theorem rd_mid1 (P S : List Int) (p x : Int) : rd (P ++ p :: x :: S) (P.length : Int) = p := rd_mid P (x :: S) p
theorem set_mid (P S : List Int) (p x : Int) : ((P ++ p :: x :: S).set (P.length + 1) p).set P.length x = P ++ x :: p :: S := by
  rw [List.set_append_right _ _ (by omega)]
  simp

theorem less_int (a b : Int) : cmp_Less_int.f a b = some (decide (a < b)) := by
  unfold cmp_Less_int.f cmp_isNaN_int.f
  simp
theorem sort_l1 (n : Int) (i K : Nat) (hi : i ≤ 100) (R : List Int) : ∀ (m : Nat) (P S : List Int) (x : Int) (k : Nat), P.length = m → up P → (P ++ x :: S).length ≤ 100 → K + (m + 1) ≤ k → (∀ k', K ≤ k' → slices_insertionSortOrdered_int.l0 k' (insI x P ++ S) 0 n ((i + 1 : Nat) : Int) = some R) → slices_insertionSortOrdered_int.l1 k (P ++ x :: S) 0 n (i : Int) (P.length : Int) = some R
  | 0, P, S, x, k, hP, _, _, hk, hR => by
    obtain rfl := List.eq_nil_of_length_eq_zero hP
    obtain ⟨k, rfl⟩ : ∃ m, k = m + 1 := ⟨k - 1, by omega⟩
    rw [slices_insertionSortOrdered_int.l1, if_neg (by simp), w64 (by omega) (by omega), show ((i : Int) + 1) = ((i + 1 : Nat) : Int) from by omega]
    exact hR k (by omega)
  | m + 1, P, S, x, k, hP, hup, hlen, hk, hR => by
    obtain ⟨k, rfl⟩ : ∃ m, k = m + 1 := ⟨k - 1, by omega⟩
    have hne : P ≠ [] := by rintro rfl; simp at hP
    obtain ⟨Q, p, rfl⟩ : ∃ Q p, P = Q ++ [p] := ⟨P.dropLast, P.getLast hne, (List.dropLast_concat_getLast hne).symm⟩
    have hQ : Q.length = m := by simpa using hP
    have hl2 : (Q ++ [p]).length = m + 1 := hP
    rw [hl2]
    have hL : (Q ++ [p]) ++ x :: S = Q ++ p :: x :: S := by simp
    rw [hL] at hlen ⊢
    have hlL : (Q ++ p :: x :: S).length = m + 2 + S.length := by simp; omega
    have e1 : wrap64 (((m + 1 : Nat) : Int) - 1) = (m : Int) := by rw [w64 (by omega) (by omega)]; omega
    have c1 : ((m + 1 : Nat) : Int) > 0 := by omega
    have c2 : 0 ≤ ((m + 1 : Nat) : Int) := by omega
    have c3 : ((m + 1 : Nat) : Int) < ((Q ++ p :: x :: S).length : Int) := by omega
    have c4 : 0 ≤ (m : Int) := by omega
    have c5 : (m : Int) < ((Q ++ p :: x :: S).length : Int) := by omega
    have r1 : rd (Q ++ p :: x :: S) ((m + 1 : Nat) : Int) = x := by
      have := rd_mid (Q ++ [p]) S x
      rw [hl2, hL] at this; exact this
    have r0 : rd (Q ++ p :: x :: S) (m : Int) = p := by
      have := rd_mid1 Q S p x
      rwa [hQ] at this
    rw [slices_insertionSortOrdered_int.l1, e1, if_pos c1, if_pos c2, if_pos c3, if_pos c4, if_pos c5, r1, r0, less_int, Option.bind_some]
    by_cases hx : x < p
    · rw [if_pos (decide_eq_true hx), Int.toNat_natCast, Int.toNat_natCast]
      have hs := set_mid Q S p x
      rw [hQ] at hs
      rw [hs]
      have := sort_l1 n i K hi R m Q (p :: S) x k hQ ?_ (by simp at hlen ⊢; omega) (by omega) ?_
      · rwa [hQ] at this
      · have : ∀ (Q : List Int), up (Q ++ [p]) → up Q := by
          intro Q
          induction Q with
          | nil => intro _; trivial
          | cons a Q ih =>
            intro h
            refine up_cons a Q (ih (up_tail a _ h)) ?_
            intro y hy
            exact up_ge (a :: (Q ++ [p])) h y (by simp [hy]) a _ rfl
        exact this Q hup
      · intro k' hk'
        have := hR k' hk'
        rw [insI_gt x p hx Q] at this
        simpa using this
    · rw [if_neg (by simpa using hx), w64 (by omega) (by omega), show ((i : Int) + 1) = ((i + 1 : Nat) : Int) from by omega]
      have := hR k (by omega)
      rw [insI_le x (Q ++ [p]) ?_] at this
      · simpa using this
      · intro y hy
        have : y ≤ p := up_le (Q ++ [p]) hup y hy p (by simp)
        omega
theorem sort_l0 (l : List Int) (hl : l.length ≤ 12) : ∀ (d i k : Nat), i + d = l.length → 20 * d + 1 ≤ k → slices_insertionSortOrdered_int.l0 k (isortI (l.take i) ++ l.drop i) 0 (l.length : Int) (i : Int) = some (isortI l)
  | 0, i, k, hi, hk => by
    obtain ⟨k, rfl⟩ : ∃ m, k = m + 1 := ⟨k - 1, by omega⟩
    rw [slices_insertionSortOrdered_int.l0, if_neg (by omega), List.take_of_length_le (by omega), List.drop_eq_nil_of_le (by omega)]; simp
  | d + 1, i, k, hi, hk => by
    obtain ⟨k, rfl⟩ : ∃ m, k = m + 1 := ⟨k - 1, by omega⟩
    have hlt : i < l.length := by omega
    have hpl : (isortI (l.take i)).length = i := by rw [isortI_len, List.length_take]; omega
    rw [slices_insertionSortOrdered_int.l0, if_pos (by omega), List.drop_eq_getElem_cons hlt]
    have := sort_l1 (l.length : Int) i (20 * d + 1) (by omega) (isortI l) i (isortI (l.take i)) (l.drop (i + 1)) l[i] k hpl (isortI_up _) (by simp [hpl]; omega) (by omega) ?_
    · rwa [hpl] at this
    · intro k' hk'
      rw [← isortI_snoc, ← List.take_succ_eq_append_getElem hlt]
      exact sort_l0 l hl d (i + 1) k' (by omega) hk'
theorem i_Sort (k : Nat) (l : List Int) (hl : l.length ≤ 12) (hk : 1000 ≤ k) : slices_Sort_int_int.f k l = some (isortI l) := by
  unfold slices_Sort_int_int.f bits_Len.f bits_Len64.f slices_pdqsortOrdered_int.f slices_insertionSortOrdered_int.f
  have e : IntKind.u64.wrap (l.length : Int) = (l.length : Int) := by
    have : ∀ n : Fin 13, IntKind.u64.wrap (n.val : Int) = (n.val : Int) := by decide +kernel
    exact this ⟨l.length, by omega⟩
  rw [e, if_pos (by omega), Option.bind_some, Option.bind_some, w64 (x := (l.length : Int) - 0) (by omega) (by omega), if_pos (by omega), show wrap64 (0 + 1) = ((1 : Nat) : Int) from by decide +kernel]
  by_cases h0 : l.length = 0
  · obtain rfl := List.eq_nil_of_length_eq_zero h0
    obtain ⟨k, rfl⟩ : ∃ m, k = m + 1 := ⟨k - 1, by omega⟩
    rw [slices_insertionSortOrdered_int.l0, if_neg (by simp)]; rfl
  · have := sort_l0 l hl (l.length - 1) 1 k (by omega) (by omega)
    have e2 : isortI (l.take 1) ++ l.drop 1 = l := by
      cases l with
      | nil => simp at h0
      | cons a t => simp [isortI, insI]
    rw [e2] at this
    rw [this]; rfl

theorem e_l1OwnF (l : List Int) (hl : l.length ≤ 1000) : spec_l1Own.f l = some l := by
  unfold spec_l1Own.f
  rw [Option.bind_some, if_pos (by simp; omega)]; rfl
theorem feS_l1 (v : List Int) (n : Int) (i K : Nat) (hi : i ≤ 100) (x : Int) (R : List Int) : ∀ (Q P : List Int) (k : Nat), (P ++ Q).length ≤ 100 → (∀ y ∈ P, y ≤ x) → K + (Q.length + 1) ≤ k → (∀ k', K ≤ k' → spec_feSorted.l0 k' (P ++ insI x Q) v n ((i + 1 : Nat) : Int) = some R) → spec_feSorted.l1 k (P ++ Q) x (P.length : Int) v n (i : Int) = some R
  | [], P, k, hl, hP, hk, hR => by
    obtain ⟨k, rfl⟩ : ∃ m, k = m + 1 := ⟨k - 1, by omega⟩
    simp only [List.append_nil] at hl ⊢
    have c1 : ¬ (P.length : Int) < (P.length : Int) := by omega
    have c2 : 0 ≤ (P.length : Int) := by omega
    have c3 : (P.length : Int) ≤ (P.length : Int) := by omega
    rw [spec_feSorted.l1, if_neg c1, if_pos c2, if_pos c3, Int.toNat_natCast, List.take_length, List.drop_length, e_l1OwnF P (by omega), Option.bind_some, if_pos (by omega), Option.bind_some, Option.bind_some, if_pos (by simp; omega), w64 (by omega) (by omega), show ((i : Int) + 1) = ((i + 1 : Nat) : Int) from by omega]
    have := hR k (by simp at hk; omega)
    simpa [insI] using this
  | a :: Q, P, k, hl, hP, hk, hR => by
    obtain ⟨k, rfl⟩ : ∃ m, k = m + 1 := ⟨k - 1, by omega⟩
    simp only [List.length_append, List.length_cons] at hl
    simp only [List.length_cons] at hk
    have hL : (P ++ a :: Q).length = P.length + Q.length + 1 := by simp; omega
    have c1 : (P.length : Int) < ((P ++ a :: Q).length : Int) := by omega
    have c2 : 0 ≤ (P.length : Int) := by omega
    have c3 : (P.length : Int) ≤ ((P ++ a :: Q).length : Int) := by omega
    rw [spec_feSorted.l1, if_pos c1, if_pos c2, rd_mid]
    by_cases h : a ≤ x
    · rw [if_pos h, w64 (by omega) (by omega)]
      have := feS_l1 v n i K hi x R Q (P ++ [a]) k (by simp; omega) (by
        intro y hy
        rcases List.mem_append.1 hy with hy | hy
        · exact hP y hy
        · simp at hy; rw [hy]; exact h) (by omega) (by
        intro k' hk'
        have := hR k' hk'
        simp only [insI, if_pos h] at this
        simpa using this)
      simpa using this
    · rw [if_neg h, if_pos c3, Int.toNat_natCast, List.take_left, List.drop_left, e_l1OwnF P (by omega), Option.bind_some, if_pos (by omega), Option.bind_some, Option.bind_some, if_pos (by simp; omega), w64 (by omega) (by omega), show ((i : Int) + 1) = ((i + 1 : Nat) : Int) from by omega]
      have := hR k (by omega)
      simp only [insI, if_neg h] at this
      simpa using this
theorem feS_l0 (v : List Int) (hv : v.length ≤ 12) : ∀ (d i k : Nat), i + d = v.length → 20 * d + 1 ≤ k → spec_feSorted.l0 k (isortI (v.take i)) v (v.length : Int) (i : Int) = some (isortI v)
  | 0, i, k, hi, hk => by
    obtain ⟨k, rfl⟩ : ∃ m, k = m + 1 := ⟨k - 1, by omega⟩
    rw [spec_feSorted.l0, if_neg (by omega), List.take_of_length_le (by omega)]
  | d + 1, i, k, hi, hk => by
    obtain ⟨k, rfl⟩ : ∃ m, k = m + 1 := ⟨k - 1, by omega⟩
    have hlt : i < v.length := by omega
    have hpl : (isortI (v.take i)).length = i := by rw [isortI_len, List.length_take]; omega
    rw [spec_feSorted.l0, if_pos (by omega), if_pos (by omega), if_pos (by omega), rd_nat v i hlt]
    have := feS_l1 v (v.length : Int) i (20 * d + 1) (by omega) v[i] (isortI v) (isortI (v.take i)) [] k (by simp [hpl]; omega) (by simp) (by omega) (by
      intro k' hk'
      rw [List.nil_append, ← isortI_snoc, ← List.take_succ_eq_append_getElem hlt]
      exact feS_l0 v hv d (i + 1) k' (by omega) hk')
    simpa using this
theorem e_feSorted (k : Nat) (v : List Int) (hv : v.length ≤ 12) (hk : 1000 ≤ k) : spec_feSorted.f k v = some (isortI v) := by
  unfold spec_feSorted.f
  exact feS_l0 v hv v.length 0 k (by omega) (by omega)

/-- Numbers less their places. -/
def lessI : List Int → Int → List Int
  | [], _ => []
  | x :: t, i => (x - i) :: lessI t (i + 1)
theorem lessI_len : ∀ (l : List Int) (i : Int), (lessI l i).length = l.length
  | [], _ => rfl
  | x :: t, i => by simp [lessI, lessI_len t]
theorem feF_l0 (l : List Int) (hl : l.length ≤ 6) (hx : ∀ x ∈ l, 0 ≤ x ∧ x ≤ 6) : ∀ (d i k : Nat) (acc : List Int), i + d = l.length → acc.length = i → 1000 + d + 1 ≤ k → spec_feFactors.l0 k acc l (l.length : Int) (i : Int) = some (isortI (acc ++ lessI (l.drop i) (i : Int)))
  | 0, i, k, acc, hi, ha, hk => by
    obtain ⟨k, rfl⟩ : ∃ m, k = m + 1 := ⟨k - 1, by omega⟩
    rw [spec_feFactors.l0, if_neg (by omega), e_feSorted k acc (by omega) (by omega), List.drop_eq_nil_of_le (by omega)]
    simp [lessI]
  | d + 1, i, k, acc, hi, ha, hk => by
    obtain ⟨k, rfl⟩ : ∃ m, k = m + 1 := ⟨k - 1, by omega⟩
    have hlt : i < l.length := by omega
    have hm := hx l[i] (List.getElem_mem _)
    rw [spec_feFactors.l0, if_pos (by omega), if_pos (by omega), if_pos (by omega), if_pos (by omega), rd_nat l i hlt, w64 (x := l[i] - (i : Int)) (by omega) (by omega), w64 (by omega) (by omega), show ((i : Int) + 1) = ((i + 1 : Nat) : Int) from by omega, feF_l0 l hl hx d (i + 1) k _ (by omega) (by simp [ha]) (by omega), List.drop_eq_getElem_cons hlt]
    simp only [lessI, List.append_assoc, List.singleton_append]
    rfl
theorem iF_l0 (l : List Int) (hl : l.length ≤ 6) (hx : ∀ x ∈ l, 0 ≤ x ∧ x ≤ 6) : ∀ (d i k : Nat) (acc : List Int), i + d = l.length → acc.length = i → 1000 + d + 1 ≤ k → impl_factors.l0 k acc l (l.length : Int) (i : Int) = some (isortI (acc ++ lessI (l.drop i) (i : Int)))
  | 0, i, k, acc, hi, ha, hk => by
    obtain ⟨k, rfl⟩ : ∃ m, k = m + 1 := ⟨k - 1, by omega⟩
    rw [impl_factors.l0, if_neg (by omega), i_Sort k acc (by omega) (by omega), List.drop_eq_nil_of_le (by omega)]
    simp [lessI]
  | d + 1, i, k, acc, hi, ha, hk => by
    obtain ⟨k, rfl⟩ : ∃ m, k = m + 1 := ⟨k - 1, by omega⟩
    have hlt : i < l.length := by omega
    have hm := hx l[i] (List.getElem_mem _)
    rw [impl_factors.l0, if_pos (by omega), if_pos (by omega), if_pos (by omega), if_pos (by omega), rd_nat l i hlt, w64 (x := l[i] - (i : Int)) (by omega) (by omega), w64 (by omega) (by omega), show ((i : Int) + 1) = ((i + 1 : Nat) : Int) from by omega, iF_l0 l hl hx d (i + 1) k _ (by omega) (by simp [ha]) (by omega), List.drop_eq_getElem_cons hlt]
    simp only [lessI, List.append_assoc, List.singleton_append]
    rfl
theorem good6 {l : List Int} (g : Good l) : l.length ≤ 6 ∧ ∀ x ∈ l, 0 ≤ x ∧ x ≤ 6 := by
  have h1 := g.1
  refine ⟨by omega, fun x hx => ?_⟩
  have := g.2.1 x hx
  omega
/-- The factors of lengths, in order. -/
def facL (l : List Int) : List Int := isortI (lessI l 0)
theorem facL_len (l : List Int) : (facL l).length = l.length := by unfold facL; rw [isortI_len, lessI_len]
theorem e_feFactors (k : Nat) (l : List Int) (g : Good l) (hk : 2000 ≤ k) : spec_feFactors.f k l = some (facL l) := by
  have h := good6 g
  unfold spec_feFactors.f
  exact feF_l0 l h.1 h.2 l.length 0 k [] (by omega) rfl (by omega)
theorem i_factors (k : Nat) (l : List Int) (g : Good l) (hk : 2000 ≤ k) : impl_factors.f k l = some (facL l) := by
  have h := good6 g
  unfold impl_factors.f
  exact iF_l0 l h.1 h.2 l.length 0 k [] (by omega) rfl (by omega)

/-- Is there a cell in the column c of a row m? -/
def cell (m c : Int) : Bool := decide (m / 2 ^ c.toNat % 2 = 1)
theorem fin_of (m : Int) (n : Nat) (h0 : 0 ≤ m) (h1 : m < n) : ∃ i : Fin n, m = (i.val : Int) := ⟨⟨m.toNat, by omega⟩, by simp; omega⟩
theorem cell_spec (m c : Int) (hm : 0 ≤ m ∧ m ≤ 63) (hc : 0 ≤ c ∧ c ≤ 6) : (Int.tmod (shr .i64 m c) 2 == 1) = cell m c := by
  have h : ∀ m : Fin 64, ∀ c : Fin 7, (Int.tmod (shr .i64 (m.val : Int) (c.val : Int)) 2 == 1) = cell (m.val : Int) (c.val : Int) := by decide +kernel
  obtain ⟨i, rfl⟩ := fin_of m 64 hm.1 (by omega)
  obtain ⟨j, rfl⟩ := fin_of c 7 hc.1 (by omega)
  exact h i j
theorem cell_impl (m c : Int) (hm : 0 ≤ m ∧ m ≤ 63) (hc : 0 ≤ c ∧ c ≤ 6) : (Go.bits .and .i64 (shr .i64 m c) 1 == 1) = cell m c := by
  have h : ∀ m : Fin 64, ∀ c : Fin 7, (Go.bits .and .i64 (shr .i64 (m.val : Int) (c.val : Int)) 1 == 1) = cell (m.val : Int) (c.val : Int) := by decide +kernel
  obtain ⟨i, rfl⟩ := fin_of m 64 hm.1 (by omega)
  obtain ⟨j, rfl⟩ := fin_of c 7 hc.1 (by omega)
  exact h i j
theorem pow_le (a : Int) (h : 1 ≤ a ∧ a ≤ 6) : 2 ≤ (2 : Int) ^ a.toNat ∧ (2 : Int) ^ a.toNat ≤ 64 := by
  obtain ⟨h0, h1⟩ := h
  obtain h | h | h | h | h | h : a = 1 ∨ a = 2 ∨ a = 3 ∨ a = 4 ∨ a = 5 ∨ a = 6 := by omega
  all_goals (subst h; decide +kernel)
theorem rd_mem (l : List Int) (i : Int) (h0 : 0 ≤ i) (h1 : i < l.length) : rd l i ∈ l := by
  obtain ⟨n, rfl⟩ := Int.eq_ofNat_of_zero_le h0
  rw [rd_nat l n (by omega)]; exact List.getElem_mem _

/-- The columns taken, with one more. -/
def orZ (taken : Int) (j : Nat) : Int := Go.bits .or .i64 taken (shl .i64 1 (j : Int))
/-- Numbers of rooks of all placements, in order: rows that are left, columns taken. -/
def Z (C : Nat) : List Int → Int → List Nat
  | [], _ => [0]
  | m :: t, taken => (List.range (C + 1)).flatMap fun i => if i = 0 then Z C t taken else if cell m ((i - 1 : Nat) : Int) && !cell taken ((i - 1 : Nat) : Int) then (Z C t (orZ taken (i - 1))).map (· + 1) else []
/-- How often each number below M stands. -/
def HZ (M : Nat) (z : List Nat) : List Int := (List.range M).map fun k => ((z.count k : Nat) : Int)
theorem HZ_len (M : Nat) (z : List Nat) : (HZ M z).length = M := by simp [HZ]
theorem HZ_rd (M : Nat) (z : List Nat) (i : Nat) (h : i < M) : rd (HZ M z) (i : Int) = ((z.count i : Nat) : Int) := by
  rw [rd_nat _ i (by rw [HZ_len]; exact h)]; simp [HZ]
/-- How many columns are free. -/
def frZ (C : Nat) (taken : Int) : Nat := ((List.range C).filter fun j : Nat => !cell taken (j : Int)).length
theorem orZ_ok (C : Nat) (taken : Int) (j : Nat) (hC : C ≤ 6) (h : 0 ≤ taken ∧ taken ≤ 63) (hj : j < C) (hf : cell taken (j : Int) = false) : (0 ≤ orZ taken j ∧ orZ taken j ≤ 63) ∧ frZ C (orZ taken j) + 1 ≤ frZ C taken := by
  have key : ∀ C : Fin 7, ∀ j : Fin 6, ∀ t : Fin 64, j.val < C.val → cell (t.val : Int) (j.val : Int) = false → (0 ≤ orZ (t.val : Int) j.val ∧ orZ (t.val : Int) j.val ≤ 63) ∧ frZ C.val (orZ (t.val : Int) j.val) + 1 ≤ frZ C.val (t.val : Int) := by decide +kernel
  obtain ⟨t, rfl⟩ := fin_of taken 64 h.1 (by omega)
  exact key ⟨C, by omega⟩ ⟨j, by omega⟩ t hj hf
theorem frZ_le (C : Nat) (taken : Int) : frZ C taken ≤ C := by
  unfold frZ
  exact Nat.le_trans (List.length_filter_le _ _) (by simp)
theorem Z_le (C : Nat) (hC : C ≤ 6) : ∀ (t : List Int) (taken : Int), 0 ≤ taken ∧ taken ≤ 63 → ∀ z ∈ Z C t taken, z ≤ t.length ∧ z ≤ frZ C taken
  | [], _, _, z, hz => by simp [Z] at hz; omega
  | m :: t, taken, h, z, hz => by
    simp only [Z, List.mem_flatMap, List.mem_range] at hz
    obtain ⟨i, hi, hz⟩ := hz
    by_cases h0 : i = 0
    · rw [if_pos h0] at hz
      have := Z_le C hC t taken h z hz
      exact ⟨by simp; omega, this.2⟩
    · rw [if_neg h0] at hz
      split at hz
      case isFalse => simp at hz
      case isTrue hc =>
        simp only [Bool.and_eq_true, Bool.not_eq_true'] at hc
        obtain ⟨y, hy, rfl⟩ := List.mem_map.1 hz
        have ho := orZ_ok C taken (i - 1) hC h (by omega) hc.2
        have := Z_le C hC t _ ho.1 y hy
        exact ⟨by simp; omega, by omega⟩
theorem flat_len {α β : Type} (f : α → List β) (b : Nat) : ∀ l : List α, (∀ x ∈ l, (f x).length ≤ b) → (l.flatMap f).length ≤ l.length * b
  | [], _ => by simp
  | x :: t, h => by
    have h1 := h x (by simp)
    have h2 := flat_len f b t (fun y hy => h y (by simp [hy]))
    simp only [List.flatMap_cons, List.length_append, List.length_cons, Nat.succ_mul]
    omega
theorem Z_length (C : Nat) (hC : C ≤ 6) : ∀ (t : List Int) (taken : Int), (Z C t taken).length ≤ 7 ^ t.length
  | [], _ => by simp [Z]
  | m :: t, taken => by
    simp only [Z, List.length_cons]
    refine Nat.le_trans (flat_len _ (7 ^ t.length) _ ?_) ?_
    · intro i _
      by_cases h0 : i = 0
      · rw [if_pos h0]; exact Z_length C hC t taken
      · rw [if_neg h0]
        split
        · rw [List.length_map]; exact Z_length C hC t _
        · simp
    · rw [List.length_range, Nat.pow_succ, Nat.mul_comm]
      exact Nat.mul_le_mul_left _ (by omega)
theorem Z_small (C : Nat) (hC : C ≤ 6) (t : List Int) (taken : Int) (ht : t.length ≤ 6) (k : Nat) : (Z C t taken).count k ≤ 117649 := by
  refine Nat.le_trans List.count_le_length (Nat.le_trans (Z_length C hC t taken) ?_)
  exact Nat.le_trans (Nat.pow_le_pow_right (by omega) ht) (by decide)

theorem e_feFactors6 (k : Nat) (l : List Int) (hl : l.length ≤ 6) (hx : ∀ x ∈ l, 0 ≤ x ∧ x ≤ 6) (hk : 2000 ≤ k) : spec_feFactors.f k l = some (facL l) := by
  unfold spec_feFactors.f facL
  have := feF_l0 l hl hx l.length 0 k [] (by omega) rfl (by omega)
  simpa using this
theorem i_factors6 (k : Nat) (l : List Int) (hl : l.length ≤ 6) (hx : ∀ x ∈ l, 0 ≤ x ∧ x ≤ 6) (hk : 2000 ≤ k) : impl_factors.f k l = some (facL l) := by
  unfold impl_factors.f facL
  have := iF_l0 l hl hx l.length 0 k [] (by omega) rfl (by omega)
  simpa using this
theorem same_l0 (a b : List Int) (hl : a.length ≤ 2000000) (hab : a.length = b.length) : ∀ (d i k : Nat), i + d = a.length → d < k → spec_l1Same.l0 k a b (a.length : Int) (i : Int) = some (decide (a.drop i = b.drop i)) ∧ slices_Equal_int_int.l0 k a b (a.length : Int) (i : Int) = some (decide (a.drop i = b.drop i)) := by
  intro d
  induction d with
  | zero =>
    intro i k hi hk
    obtain ⟨k, rfl⟩ : ∃ m, k = m + 1 := ⟨k - 1, by omega⟩
    rw [spec_l1Same.l0, slices_Equal_int_int.l0, if_neg (by omega), if_neg (by omega), List.drop_eq_nil_of_le (by omega), List.drop_eq_nil_of_le (by omega)]
    exact ⟨by simp, by simp⟩
  | succ d ih =>
    intro i k hi hk
    obtain ⟨k, rfl⟩ : ∃ m, k = m + 1 := ⟨k - 1, by omega⟩
    have h1 : i < a.length := by omega
    have h2 : i < b.length := by omega
    have ih := ih (i + 1) k (by omega) (by omega)
    have hcons : (decide (a.drop i = b.drop i)) = (decide (a[i] = b[i]) && decide (a.drop (i + 1) = b.drop (i + 1))) := by
      rw [List.drop_eq_getElem_cons h1, List.drop_eq_getElem_cons h2]
      by_cases h : a[i] = b[i]
      · simp only [List.cons.injEq, h, true_and, decide_true, Bool.true_and]
      · simp only [List.cons.injEq, h, false_and, decide_false, Bool.false_and]
    rw [hcons]
    refine ⟨?_, ?_⟩
    · rw [spec_l1Same.l0, if_pos (by omega), if_pos (by omega), if_pos (by omega), if_pos (by omega), rd_nat a i h1, rd_nat b i h2, w64 (x := (i : Int) + 1) (by omega) (by omega), show ((i : Int) + 1) = ((i + 1 : Nat) : Int) from by omega]
      by_cases h : a[i] = b[i]
      · rw [if_pos h, ih.1]; simp [h]
      · rw [if_neg h]; simp [h]
    · rw [slices_Equal_int_int.l0, if_pos (by omega), if_pos (by omega), if_pos (by omega), if_pos (by omega), rd_nat a i h1, rd_nat b i h2, w64 (x := (i : Int) + 1) (by omega) (by omega), show ((i : Int) + 1) = ((i + 1 : Nat) : Int) from by omega]
      by_cases h : a[i] = b[i]
      · rw [if_pos h, ih.2]; simp [h]
      · rw [if_neg h]; simp [h]
theorem same_eq (k : Nat) (a b : List Int) (ha : a.length ≤ 1000000) (hk : a.length < k) : spec_l1Same.f k a b = some (decide (a = b)) ∧ slices_Equal_int_int.f k a b = some (decide (a = b)) := by
  unfold spec_l1Same.f slices_Equal_int_int.f
  by_cases h : (a.length : Int) = (b.length : Int)
  · rw [if_pos h, if_pos h]
    have := same_l0 a b (by omega) (by omega) a.length 0 k (by omega) hk
    rw [show ((0 : Nat) : Int) = 0 from rfl] at this
    simpa using this
  · rw [if_neg h, if_neg h]
    have : ¬ a = b := fun e => h (by rw [e])
    simp [this]
theorem lastD_bd (n : Nat) (l : List Int) (hx : ∀ x ∈ l, 0 ≤ x ∧ x ≤ n) : 0 ≤ l.getLastD 0 ∧ l.getLastD 0 ≤ n := by
  cases l with
  | nil => simp [List.getLastD]
  | cons a t =>
    have : (a :: t).getLastD 0 ∈ a :: t := by
      rw [List.getLastD_cons]
      rw [← List.getLast_eq_getLastD]
      · exact List.getLast_mem _
      · exact List.cons_ne_nil _ _
    exact hx _ this
theorem allL_mem (n : Nat) : ∀ (d : Nat) (l : List Int), (∀ x ∈ l, 0 ≤ x ∧ x ≤ n) → ∀ q ∈ allL n d l, q.length = l.length + d ∧ ∀ x ∈ q, 0 ≤ x ∧ x ≤ n
  | 0, l, hx, q, hq => by
    simp [allL] at hq; subst hq; exact ⟨rfl, hx⟩
  | d + 1, l, hx, q, hq => by
    simp only [allL, List.mem_flatMap, List.mem_range] at hq
    obtain ⟨i, hi, hq⟩ := hq
    have hb := lastD_bd n l hx
    have := allL_mem n d _ (fun x hx' => by
      rcases List.mem_append.1 hx' with h | h
      · exact hx x h
      · rw [List.mem_singleton] at h; subst h; omega) q hq
    exact ⟨by simp only [List.length_append, List.length_cons, List.length_nil] at this; omega, this.2⟩
theorem allL_len (n : Nat) (hn : n ≤ 6) : ∀ (d : Nat) (l : List Int), (allL n d l).length ≤ 7 ^ d
  | 0, l => by simp [allL]
  | d + 1, l => by
    unfold allL
    refine Nat.le_trans (flat_len _ (7 ^ d) _ (fun i _ => allL_len n hn d _)) ?_
    rw [List.length_range, Nat.pow_succ, Nat.mul_comm]
    exact Nat.mul_le_mul_left _ (by omega)
theorem own6 (l : List Int) (h : l.length ≤ 1000) : spec_l1Own.f l = some l := e_l1OwnF l h
theorem e_feAll (n : Nat) (hn : n ≤ 6) : ∀ (d : Nat) (l : List Int) (k : Nat), l.length + d = n → (∀ x ∈ l, 0 ≤ x ∧ x ≤ n) → 20 * d + 20 ≤ k → spec_feAll.f k l (n : Int) = some (allL n d l) := by
  intro d
  induction d with
  | zero =>
    intro l k hl hx hk
    obtain ⟨k, rfl⟩ : ∃ m, k = m + 1 := ⟨k - 1, by omega⟩
    rw [spec_feAll.f, if_pos (by omega), own6 l (by omega)]; rfl
  | succ d ih =>
    intro l k hl hx hk
    have hb := lastD_bd n l hx
    obtain ⟨k, rfl⟩ : ∃ m, k = m + 1 + 1 := ⟨k - 2, by omega⟩
    obtain ⟨a, ha⟩ := Int.eq_ofNat_of_zero_le hb.1
    have loop : ∀ (e i k : Nat), i + e = n + 1 - a → 20 * d + 20 + e + 1 ≤ k → spec_feAll.l0 k l (n : Int) ((List.range i).flatMap fun i => allL n d (l ++ [((a + i : Nat) : Int)])) ((a : Int) + i) = some ((List.range (n + 1 - a)).flatMap fun i => allL n d (l ++ [((a + i : Nat) : Int)])) := by
      intro e
      induction e with
      | zero =>
        intro i k hi hk
        obtain ⟨k, rfl⟩ : ∃ m, k = m + 1 := ⟨k - 1, by omega⟩
        rw [spec_feAll.l0, if_neg (by omega), show i = n + 1 - a by omega]
      | succ e ihe =>
        intro i k hi hk
        obtain ⟨k, rfl⟩ : ∃ m, k = m + 1 := ⟨k - 1, by omega⟩
        have h1 := flat_len (fun i => allL n d (l ++ [((a + i : Nat) : Int)])) (7 ^ d) (List.range i) (fun i _ => allL_len n hn d _)
        have h2 := allL_len n hn d (l ++ [((a + i : Nat) : Int)])
        have h3 : 7 ^ d ≤ 117649 := Nat.le_trans (Nat.pow_le_pow_right (by omega) (show d ≤ 6 by omega)) (by decide)
        rw [List.length_range] at h1
        have h4 : i * 7 ^ d ≤ 7 * 117649 := Nat.mul_le_mul (by omega) h3
        rw [spec_feAll.l0, if_pos (by omega), own6 l (by omega), Option.bind_some, if_pos (by omega), show ((a : Int) + (i : Int)) = ((a + i : Nat) : Int) by omega]
        rw [ih (l ++ [((a + i : Nat) : Int)]) k (by simp; omega) (fun x hx' => by
          rcases List.mem_append.1 hx' with h | h
          · exact hx x h
          · simp at h; subst h; omega) (by omega), Option.bind_some, if_pos (by omega), w64 (by omega) (by omega), show (((a + i : Nat) : Int) + 1) = (a : Int) + ((i + 1 : Nat) : Int) by omega]
        have := ihe (i + 1) k (by omega) (by omega)
        rw [List.range_succ, List.flatMap_append] at this
        simpa using this
    have hj : spec_feAll.j0 (k + 1) l (n : Int) (a : Int) = some (allL n (d + 1) l) := by
      rw [spec_feAll.j0]
      have := loop (n + 1 - a) 0 k (by omega) (by omega)
      rw [show ((a : Int) + ((0 : Nat) : Int)) = (a : Int) by omega] at this
      unfold allL
      rw [ha, Int.toNat_natCast]
      exact this
    rw [spec_feAll.f, if_neg (by omega)]
    by_cases h0 : l.length = 0
    · have : l = [] := List.eq_nil_of_length_eq_zero h0
      subst this
      rw [if_neg (by simp)]
      have : a = 0 := by simp [List.getLastD] at ha; omega
      subst this
      exact hj
    · have hlr : rd l ((l.length : Int) - 1) = (a : Int) := by
        rw [← ha, show ((l.length : Int) - 1) = ((l.length - 1 : Nat) : Int) by omega, rd_nat l _ (by omega)]
        cases l with
        | nil => simp at h0
        | cons x t =>
          rw [List.getLastD_cons, ← List.getLast_eq_getLastD]
          · rw [List.getLast_eq_getElem]
          · exact List.cons_ne_nil _ _
      rw [if_pos (by omega), w64 (by omega) (by omega), if_pos (by omega), if_pos (by omega), hlr]
      exact hj
/-- All lists of lengths that have some factors. -/
def havL (own : List Int) : List (List Int) := (allL own.length own.length []).filter fun l => decide (facL l = own)
theorem rdLL (l : List (List Int)) (i : Nat) (h : i < l.length) : rd_L2 l (i : Int) = l[i] := by
  unfold rd_L2; simp [List.getD, h]
theorem feClass_l0 (own : List Int) (L : List (List Int)) (hL : L.length ≤ 200000) (hx : ∀ q ∈ L, q.length ≤ 6 ∧ ∀ x ∈ q, 0 ≤ x ∧ x ≤ 6) : ∀ (d i k : Nat) (acc : List (List Int)), i + d = L.length → d + 3000 < k → acc.length ≤ i → spec_feClass.l0 k own acc L (L.length : Int) (i : Int) = some (acc ++ (L.drop i).filter fun l => decide (facL l = own)) := by
  intro d
  induction d with
  | zero =>
    intro i k acc hi hk ha
    obtain ⟨k, rfl⟩ : ∃ m, k = m + 1 := ⟨k - 1, by omega⟩
    rw [spec_feClass.l0, if_neg (by omega), List.drop_eq_nil_of_le (by omega)]; simp
  | succ d ih =>
    intro i k acc hi hk ha
    obtain ⟨k, rfl⟩ : ∃ m, k = m + 1 := ⟨k - 1, by omega⟩
    have hlt : i < L.length := by omega
    have hq := hx L[i] (List.getElem_mem hlt)
    have hfl := facL_len L[i]
    rw [spec_feClass.l0, if_pos (by omega), if_pos (by omega), if_pos (by omega), rdLL L i hlt, e_feFactors6 k _ hq.1 hq.2 (by omega), Option.bind_some, (same_eq k (facL L[i]) own (by omega) (by omega)).1, Option.bind_some, w64 (x := (i : Int) + 1) (by omega) (by omega), show ((i : Int) + 1) = ((i + 1 : Nat) : Int) from by omega, List.drop_eq_getElem_cons hlt]
    by_cases h : facL L[i] = own
    · rw [decide_eq_true h, if_pos rfl, if_pos (by omega), ih (i + 1) k _ (by omega) (by omega) (by simp; omega), List.filter_cons_of_pos (by simpa using h), List.append_assoc]; rfl
    · rw [decide_eq_false h, if_neg (by decide), ih (i + 1) k _ (by omega) (by omega) (by omega), List.filter_cons_of_neg (by simpa using h)]
theorem all6 (n : Nat) (hn : n ≤ 6) : (allL n n []).length ≤ 117649 ∧ ∀ q ∈ allL n n [], q.length ≤ 6 ∧ ∀ x ∈ q, 0 ≤ x ∧ x ≤ 6 := by
  refine ⟨Nat.le_trans (allL_len n hn n []) (Nat.le_trans (Nat.pow_le_pow_right (by omega) hn) (by decide)), fun q hq => ?_⟩
  have := allL_mem n n [] (by simp) q hq
  exact ⟨by simp at this; omega, fun x hx => by have := this.2 x hx; omega⟩
theorem e_feClass (k : Nat) (own : List Int) (ho : own.length ≤ 6) (hk : 1000000 ≤ k) : spec_feClass.f k own = some (havL own) := by
  unfold spec_feClass.f havL
  have h6 := all6 own.length ho
  rw [e_feAll own.length ho own.length [] k (by simp) (by simp) (by omega), Option.bind_some]
  have := feClass_l0 own (allL own.length own.length []) (by omega) h6.2 (allL own.length own.length []).length 0 k [] (by omega) (by omega) (by simp)
  rw [show ((0 : Nat) : Int) = 0 from rfl] at this
  rw [this]; simp
theorem i_having (k : Nat) (own : List Int) (ho : own.length ≤ 6) (hk : 1000000 ≤ k) : impl_having.f k own = some (havL own) := by
  unfold impl_having.f havL
  have h6 := all6 own.length ho
  rw [if_pos ⟨ho, List.all_eq_true.2 fun l hl => by
    have hq := h6.2 l hl
    unfold okH
    rw [i_factors6 k l hq.1 hq.2 (by omega)]
    simp only
    rw [(same_eq k (facL l) own (by rw [facL_len]; omega) (by rw [facL_len]; omega)).2]; simp⟩]
  congr 1
  refine List.filter_congr ?_
  intro l hl
  have hq := h6.2 l hl
  rw [i_factors6 k l hq.1 hq.2 (by omega)]
  rw [Bool.eq_iff_iff]; simp
theorem havL_mem (own : List Int) (ho : own.length ≤ 6) : (havL own).length ≤ 117649 ∧ ∀ q ∈ havL own, q.length ≤ 6 := by
  have h6 := all6 own.length ho
  exact ⟨Nat.le_trans (List.length_filter_le _ _) h6.1, fun q hq => (h6.2 q (List.mem_filter.1 hq).1).1⟩

def clOut (l : List Int) : List (List Int) × Bool := if Good l then (havL (facL l), true) else ([], false)
theorem e_ClassOf (k : Nat) (l : List Int) (hl : l.length ≤ 1048576) (hk : 2000000 ≤ k) : spec_ClassOf.f k l = some (clOut l) := by
  unfold spec_ClassOf.f clOut
  rw [e_feGood k l (by omega) (by omega)]
  simp only [Option.bind_some, decide_eq_true_eq]
  by_cases g : Good l
  · rw [if_pos g, if_pos g, e_feFactors k l g (by omega), Option.bind_some, e_feClass k _ (by rw [facL_len]; exact (good6 g).1) (by omega)]; rfl
  · rw [if_neg g, if_neg g]
theorem i_ClassOf (k : Nat) (l : List Int) (hl : l.length ≤ 1048576) (hk : 2000000 ≤ k) : impl_ClassOf.f k l = some (clOut l) := by
  unfold impl_ClassOf.f clOut
  rw [i_AreLengths k l (by omega) (by omega)]
  simp only [Option.bind_some, decide_eq_true_eq]
  by_cases g : Good l
  · rw [if_pos g, if_pos g, i_factors k l g (by omega), Option.bind_some, i_having k _ (by rw [facL_len]; exact (good6 g).1) (by omega)]; rfl
  · rw [if_neg g, if_neg g]
theorem clOut_bd (l : List Int) : (clOut l).1.length ≤ 117649 ∧ ∀ q ∈ (clOut l).1, q.length ≤ 6 := by
  unfold clOut
  split
  · rename_i g; exact havL_mem _ (by rw [facL_len]; exact (good6 g).1)
  · simp

def ccOut (l : List Int) : Int × Bool := if Good l then (((havL (facL l)).length : Int), true) else (0, false)
theorem i_CountClass (k : Nat) (l : List Int) (hl : l.length ≤ 1048576) (hk : 2000000 ≤ k) : impl_CountClass.f k l = some (ccOut l) := by
  unfold impl_CountClass.f impl_ClassOf.f ccOut
  rw [i_AreLengths k l (by omega) (by omega)]
  simp only [Option.bind_some, decide_eq_true_eq]
  by_cases g : Good l
  · rw [if_pos g, if_pos g, i_factors k l g (by omega), Option.bind_some, i_having k _ (by rw [facL_len]; exact (good6 g).1) (by omega)]; rfl
  · rw [if_neg g, if_neg g]; rfl

theorem up_all (x : Int) (acc t : List Int) (h : up (acc ++ x :: t)) : ∀ y ∈ acc, y ≤ x := by
  intro y hy
  obtain ⟨i, hi, rfl⟩ := List.getElem_of_mem hy
  have := up_get (acc ++ x :: t) h i acc.length (by simp; omega) (by simp) (by omega)
  rw [List.getElem_append_left hi, List.getElem_append_right (Nat.le_refl _)] at this
  simpa using this
theorem lf_up : ∀ (l : List Int), up l → ∀ acc, up (acc ++ l) → l.foldl (fun acc x => insI x acc) acc = acc ++ l
  | [], _, acc, _ => by simp
  | x :: t, h, acc, ha => by
    rw [List.foldl_cons, insI_le x acc (up_all x acc t ha)]
    rw [lf_up t (up_tail x t h) (acc ++ [x]) (by rwa [List.append_assoc]), List.append_assoc]; rfl
theorem lf_sorted (l : List Int) : isortI l = l ↔ up l := by
  constructor
  · intro h; rw [← h]; exact isortI_up l
  · intro h; unfold isortI; have := lf_up l h [] (by simpa using h); simpa using this
def lfOut (l : List Int) : List Int × Bool := if (1 ≤ (l.length : Int) ∧ (l.length : Int) ≤ 6) ∧ up l then (if (havL l).length = 0 then ([], false) else ((havL l).getD 0 [], true)) else ([], false)
theorem lfOut_len (l : List Int) : (lfOut l).1.length ≤ 6 := by
  unfold lfOut
  split
  · rename_i h
    have hm := havL_mem l (by omega)
    split
    · simp
    · rename_i h0
      have : (havL l).getD 0 [] ∈ havL l := by
        cases hh : havL l with
        | nil => rw [hh] at h0; simp at h0
        | cons a t => simp
      exact hm.2 _ this
  · simp
theorem lf_first (L : List (List Int)) : (if (L.length : Int) = 0 then (some (([] : List Int), false)) else (if 0 < (L.length : Int) then (some (rd_L2 L 0, true)) else (none))) = some (if L.length = 0 then ([], false) else (L.getD 0 [], true)) := by
  by_cases h : L.length = 0
  · rw [if_pos (by omega), if_pos h]
  · rw [if_neg (by omega), if_pos (by omega), if_neg h]; rfl
theorem e_LengthsFrom (k : Nat) (l : List Int) (hl : l.length ≤ 1048576) (hk : 2000000 ≤ k) : spec_LengthsFrom.f k l = some (lfOut l) := by
  unfold spec_LengthsFrom.f lfOut
  rw [e_boSide]
  simp only [Option.bind_some, decide_eq_true_eq]
  obtain ⟨k, rfl⟩ : ∃ m, k = m + 1 := ⟨k - 1, by omega⟩
  by_cases h : 1 ≤ (l.length : Int) ∧ (l.length : Int) ≤ 6
  · rw [if_pos h, e_feSorted _ l (by omega) (by omega), Option.bind_some, (same_eq _ (isortI l) l (by rw [isortI_len]; omega) (by rw [isortI_len]; omega)).1, Option.bind_some, spec_LengthsFrom.j0]
    by_cases hu : up l
    · rw [decide_eq_true ((lf_sorted l).2 hu), if_neg (by decide), if_pos ⟨h, hu⟩, e_feClass k l (by omega) (by omega), Option.bind_some]
      exact lf_first _
    · rw [decide_eq_false (fun x => hu ((lf_sorted l).1 x)), if_pos (by decide), if_neg (fun x => hu x.2)]
  · rw [if_neg h, if_neg (fun x => h x.1), spec_LengthsFrom.j0, if_pos rfl]
theorem i_LengthsFrom (k : Nat) (l : List Int) (hl : l.length ≤ 1048576) (hk : 2000000 ≤ k) : impl_LengthsFrom.f k l = some (lfOut l) := by
  unfold impl_LengthsFrom.f lfOut
  rw [e_isSide]
  simp only [Option.bind_some, decide_eq_true_eq]
  obtain ⟨k, rfl⟩ : ∃ m, k = m + 1 := ⟨k - 1, by omega⟩
  by_cases h : 1 ≤ (l.length : Int) ∧ (l.length : Int) ≤ 6
  · rw [if_pos h, e_IsSorted _ l (by omega) (by omega) (by omega), Option.bind_some, impl_LengthsFrom.j0]
    by_cases hu : up l
    · rw [decide_eq_true hu, if_neg (by decide), if_pos ⟨h, hu⟩, i_having k l (by omega) (by omega), Option.bind_some]
      exact lf_first _
    · rw [decide_eq_false hu, if_pos (by decide), if_neg (fun x => hu x.2)]
  · rw [if_neg h, if_neg (fun x => h x.1), impl_LengthsFrom.j0, if_pos rfl]

theorem same_loop (a b : List Int) (hab : a.length = b.length) (ha : a.length ≤ 1000000) : ∀ (d i k k' : Nat), i + d = a.length → d < k → d < k' → ∃ v, spec_l1Same.l0 k a b (a.length : Int) (i : Int) = some v ∧ slices_Equal_int_int.l0 k' a b (a.length : Int) (i : Int) = some v := by
  intro d
  induction d with
  | zero =>
    intro i k k' hi hk hk'
    obtain ⟨k, rfl⟩ : ∃ m, k = m + 1 := ⟨k - 1, by omega⟩
    obtain ⟨k', rfl⟩ : ∃ m, k' = m + 1 := ⟨k' - 1, by omega⟩
    rw [spec_l1Same.l0, slices_Equal_int_int.l0, if_neg (by omega), if_neg (by omega)]
    exact ⟨_, rfl, rfl⟩
  | succ d ih =>
    intro i k k' hi hk hk'
    obtain ⟨k, rfl⟩ : ∃ m, k = m + 1 := ⟨k - 1, by omega⟩
    obtain ⟨k', rfl⟩ : ∃ m, k' = m + 1 := ⟨k' - 1, by omega⟩
    have c1 : (i : Int) < (a.length : Int) := by omega
    have c2 : 0 ≤ (i : Int) := by omega
    have c3 : (i : Int) < (b.length : Int) := by omega
    rw [spec_l1Same.l0, slices_Equal_int_int.l0]
    simp only [if_pos c1, if_pos c2, if_pos c3]
    rw [w64 (x := (i : Int) + 1) (by omega) (by omega), show ((i : Int) + 1) = ((i + 1 : Nat) : Int) from by omega]
    by_cases h : rd a (i : Int) = rd b (i : Int)
    · rw [if_pos h, if_pos h]
      exact ih (i + 1) k k' (by omega) (by omega) (by omega)
    · rw [if_neg h, if_neg h]
      exact ⟨_, rfl, rfl⟩
theorem same_both (a b : List Int) (k k' : Nat) (ha : a.length ≤ 1000000) (hk : 1000010 ≤ k) (hk' : 1000010 ≤ k') : ∃ v, spec_l1Same.f k a b = some v ∧ slices_Equal_int_int.f k' a b = some v := by
  unfold spec_l1Same.f slices_Equal_int_int.f
  by_cases h : (a.length : Int) = (b.length : Int)
  · rw [if_pos h, if_pos h]
    exact same_loop a b (by omega) ha a.length 0 k k' (by omega) (by omega) (by omega)
  · rw [if_neg h, if_neg h]
    exact ⟨_, rfl, rfl⟩

theorem both_AreAlikeLengths (k k' : Nat) (l m : List Int) (hk : 2000000 ≤ k) (hk' : 2000000 ≤ k') (hl : l.length ≤ 1048576) (hm : m.length ≤ 1048576) : ∃ o, spec_AreAlikeLengths.f k l m = some o ∧ impl_AreAlikeLengths.f k' l m = some o := by
  unfold spec_AreAlikeLengths.f impl_AreAlikeLengths.f
  rw [e_feGood k l (by omega) (by omega), i_AreLengths k' l (by omega) (by omega)]
  simp only [Option.bind_some]
  rw [e_feGood k m (by omega) (by omega), i_AreLengths k' m (by omega) (by omega)]
  simp only [Option.bind_some]
  obtain ⟨k, rfl⟩ : ∃ m, k = m + 1 := ⟨k - 1, by omega⟩
  obtain ⟨k', rfl⟩ : ∃ m, k' = m + 1 := ⟨k' - 1, by omega⟩
  rw [spec_AreAlikeLengths.j0, impl_AreAlikeLengths.j0, spec_AreAlikeLengths.j0, impl_AreAlikeLengths.j0]
  by_cases h : Good l
  · rw [decide_eq_true h]
    simp only [if_true]
    by_cases h' : Good m
    · have h6 := (good6 h).1
      have hn := facL_len l
      rw [decide_eq_true h']
      simp only [Bool.not_true, Bool.false_eq_true, if_false]
      rw [e_feFactors k l h (by omega), e_feFactors k m h' (by omega), i_factors k' l h (by omega), i_factors k' m h' (by omega)]
      simp only [Option.bind_some]
      obtain ⟨v, h1, h2⟩ := same_both (facL l) (facL m) k k' (by omega) (by omega) (by omega)
      rw [h1, h2]
      exact ⟨_, rfl, rfl⟩
    · rw [decide_eq_false h']
      simp only [Bool.not_false, if_true]
      exact ⟨_, rfl, rfl⟩
  · rw [decide_eq_false h]
    simp only [Bool.false_eq_true, if_false, if_true]
    exact ⟨_, rfl, rfl⟩

theorem cntR_snoc : ∀ (a : List Int) (v : Int), cntR (a ++ [v]) = cntR a + (if v = -1 then 0 else 1)
  | [], v => by simp [cntR]
  | x :: a, v => by simp only [List.cons_append, cntR, cntR_snoc a v]; omega
theorem okC_cell (m taken : Int) (j : Nat) (hm : 0 ≤ m ∧ m ≤ 63) (ht : 0 ≤ taken ∧ taken ≤ 63) (hj : j ≤ 6) : okC m taken j = (cell m (j : Int) && !cell taken (j : Int)) := by
  unfold okC
  rw [cell_impl m (j : Int) hm (by omega), cell_impl taken (j : Int) ht (by omega)]
theorem flatMap_map_eq {α β : Type} (f : α → List (List Int)) (g : α → List Nat) (u : List Int → β) (v : Nat → β) : ∀ l : List α, (∀ x ∈ l, (f x).map u = (g x).map v) → (l.flatMap f).map u = (l.flatMap g).map v
  | [], _ => rfl
  | x :: l, h => by
    simp only [List.flatMap_cons, List.map_append, h x (by simp), flatMap_map_eq f g u v l (fun y hy => h y (by simp [hy]))]
theorem plc_Z (C : Nat) (hC : C ≤ 6) : ∀ (t : List Int) (taken : Int) (acc : List Int), (∀ x ∈ t, 0 ≤ x ∧ x ≤ 63) → 0 ≤ taken ∧ taken ≤ 63 → (plc C t taken acc).map cntR = (Z C t taken).map fun z : Nat => cntR acc + (z : Int)
  | [], taken, acc, _, _ => by simp [plc, Z]
  | m :: t, taken, acc, hm, ht => by
    simp only [plc, Z]
    refine flatMap_map_eq _ _ _ _ _ ?_
    intro i hi
    have hi := List.mem_range.1 hi
    by_cases h0 : i = 0
    · rw [if_pos h0, if_pos h0, plc_Z C hC t taken _ (fun x hx => hm x (by simp [hx])) ht, cntR_snoc]; simp
    · rw [if_neg h0, if_neg h0, okC_cell m taken (i - 1) (hm m (by simp)) ht (by omega)]
      by_cases hc : (cell m ((i - 1 : Nat) : Int) && !cell taken ((i - 1 : Nat) : Int)) = true
      · rw [if_pos hc, if_pos hc]
        simp only [Bool.and_eq_true, Bool.not_eq_true'] at hc
        have ho := orZ_ok C taken (i - 1) hC ht (by omega) hc.2
        rw [show orC taken (i - 1) = orZ taken (i - 1) from rfl, plc_Z C hC t _ _ (fun x hx => hm x (by simp [hx])) ho.1, cntR_snoc, List.map_map, if_neg (by omega)]
        refine List.map_congr_left ?_
        intro z _
        simp only [Function.comp]; omega
      · rw [if_neg hc, if_neg hc]; rfl

theorem HZ_nil (M : Nat) : HZ M [] = List.replicate M 0 := by
  refine rd_ext _ _ (by simp [HZ_len]) ?_
  intro j hj
  rw [HZ_len] at hj
  rw [HZ_rd _ _ j hj, rd_nat _ j (by simpa using hj)]; simp
/-- A board's bounds. -/
def Nice (r c : Int) (l : List Int) : Prop := (1 ≤ r ∧ r ≤ 6) ∧ (1 ≤ c ∧ c ≤ 6) ∧ (l.length : Int) = r ∧ ∀ x ∈ l, 0 ≤ x ∧ x ≤ 63
/-- The rook numbers. -/
def numsL (r c : Int) (l : List Int) : List Int := HZ (min r c + 1).toNat (Z c.toNat l 0)
theorem Z_ltN (r c : Int) (l : List Int) (h : Nice r c l) : ∀ z ∈ Z c.toNat l 0, z < (min r c + 1).toNat := by
  intro z hz
  have h1 := h.1; have h2 := h.2.1; have h3 := h.2.2.1
  have := Z_le c.toNat (by omega) l 0 (by omega) z hz
  have := frZ_le c.toNat 0
  omega
theorem numsL_lenN (r c : Int) (l : List Int) (h : Nice r c l) : (numsL r c l).length ≤ 7 := by
  have h1 := h.1; have h2 := h.2.1
  unfold numsL; rw [HZ_len]; omega

theorem bump_H (M : Nat) : ∀ (L : List (List Int)) (zs z0 : List Nat), L.map cntR = zs.map (fun z : Nat => (z : Int)) → (∀ z ∈ zs, z < M) → z0.length + zs.length ≤ 1000000 → L.foldl bumpN (HZ M z0) = HZ M (z0 ++ zs)
  | [], zs, z0, h, _, _ => by
    have : zs = [] := by
      have := congrArg List.length h
      simp at this; exact List.eq_nil_of_length_eq_zero this.symm
    subst this; simp
  | q :: L, [], z0, h, _, _ => by simp at h
  | q :: L, z :: zs, z0, h, hz, hl => by
    simp only [List.map_cons, List.cons.injEq] at h
    have hzM := hz z (by simp)
    simp only [List.length_cons] at hl
    have hcl := List.count_le_length (a := z) (l := z0)
    have e : bumpN (HZ M z0) q = HZ M (z0 ++ [z]) := by
      unfold bumpN
      rw [h.1, Int.toNat_natCast, HZ_rd M z0 z hzM, w64 (by omega) (by omega)]
      refine rd_ext _ _ (by simp [HZ_len]) ?_
      intro j hj
      rw [List.length_set, HZ_len] at hj
      rw [rd_set _ z _ j (by rw [HZ_len]; exact hzM), HZ_rd _ _ j hj, HZ_rd _ _ j hj, List.count_append, List.count_singleton]
      by_cases hzj : z = j
      · subst hzj; simp
      · rw [if_neg hzj]; simp [hzj]
    rw [List.foldl_cons, e, bump_H M L zs (z0 ++ [z]) h.2 (fun y hy => hz y (by simp [hy])) (by simp; omega)]
    simp
theorem i_numbersN (r c : Int) (l : List Int) (h : Nice r c l) : impl_Board_numbers.f r c l = some (numsL r c l) := by
  have h1 := h.1; have h2 := h.2.1; have h3 := h.2.2.1
  have hl : l.length ≤ 6 := by omega
  have hp := plc_Z c.toNat (by omega) l 0 [] h.2.2.2 (by omega)
  have hzl := Z_length c.toNat (by omega) l 0
  have h7 : 7 ^ l.length ≤ 117649 := Nat.le_trans (Nat.pow_le_pow_right (by omega) hl) (by decide)
  simp only [cntR, Int.zero_add] at hp
  unfold impl_Board_numbers.f
  rw [if_pos]
  · congr 1
    rw [← HZ_nil, bump_H _ _ (Z c.toNat l 0) [] hp (Z_ltN r c l h) (by simp; omega)]
    rfl
  · refine ⟨by omega, by omega, by omega, by omega, h3, ?_⟩
    rw [List.all_eq_true]
    intro x hx
    have : cntR x ∈ (plc c.toNat l 0 []).map cntR := List.mem_map.2 ⟨x, hx, rfl⟩
    rw [hp] at this
    obtain ⟨z, hz, e⟩ := List.mem_map.1 this
    have := Z_ltN r c l h z hz
    exact decide_eq_true (by omega)

/-- The rows of the board of lengths. -/
def boardL (l : List Int) : List Int := l.map (fun m => 2 ^ m.toNat - 1)
theorem sh0 (m : Int) (h : 0 ≤ m ∧ m ≤ 6) : wrap64 (shl .i64 1 m - 1) = 2 ^ m.toNat - 1 := by
  have key : ∀ i : Fin 7, wrap64 (shl .i64 1 (i.val : Int) - 1) = 2 ^ (i.val : Int).toNat - 1 := by decide +kernel
  obtain ⟨i, rfl⟩ := fin_of m 7 h.1 (by omega)
  exact key i

/-- All placements of rows: number of rooks, columns taken in the end. -/
def Y (C : Nat) : List Int → Nat × Int → List (Nat × Int)
  | [], p => [p]
  | m :: t, p => (List.range (C + 1)).flatMap fun i => if i = 0 then Y C t p else if cell m ((i - 1 : Nat) : Int) && !cell p.2 ((i - 1 : Nat) : Int) then Y C t (p.1 + 1, orZ p.2 (i - 1)) else []
def rowY (C : Nat) (m : Int) (p : Nat × Int) : List (Nat × Int) := (List.range (C + 1)).flatMap fun i => if i = 0 then [p] else if cell m ((i - 1 : Nat) : Int) && !cell p.2 ((i - 1 : Nat) : Int) then [(p.1 + 1, orZ p.2 (i - 1))] else []
theorem Y_snoc (C : Nat) (m : Int) : ∀ (t : List Int) (p : Nat × Int), Y C (t ++ [m]) p = (Y C t p).flatMap (rowY C m)
  | [], p => by simp [Y, rowY]
  | x :: t, p => by
    simp only [List.cons_append, Y, List.flatMap_assoc]
    congr 1
    funext i
    by_cases h0 : i = 0
    · rw [if_pos h0, if_pos h0, Y_snoc C m t p]
    · rw [if_neg h0, if_neg h0]
      split
      · rw [Y_snoc C m t _]
      · rfl
theorem Y_Z (C : Nat) : ∀ (t : List Int) (n : Nat) (taken : Int), (Y C t (n, taken)).map (·.1) = (Z C t taken).map (fun z : Nat => n + z)
  | [], n, taken => by simp [Y, Z]
  | m :: t, n, taken => by
    simp only [Y, Z, List.map_flatMap]
    congr 1
    funext i
    by_cases h0 : i = 0
    · rw [if_pos h0, if_pos h0, Y_Z C t n taken]
    · rw [if_neg h0, if_neg h0]
      split
      · rw [Y_Z C t (n + 1) _, List.map_map]
        congr 1
        funext z
        simp only [Function.comp]; omega
      · rfl
/-- How many columns are taken. -/
def pcZ (taken : Int) : Nat := ((List.range 6).filter fun j : Nat => cell taken (j : Int)).length
/-- Which columns a row can take still. -/
def canZ (C : Nat) (m taken : Int) : List Nat := (List.range C).filter fun j : Nat => cell m (j : Int) && !cell taken (j : Int)
/-- A way that is good up to a length. -/
def OkY (a : Nat) (p : Nat × Int) : Prop := 0 ≤ p.2 ∧ p.2 < 2 ^ a ∧ pcZ p.2 = p.1
theorem pcZ_le (taken : Int) (a : Nat) (ha : a ≤ 6) (h : 0 ≤ taken ∧ taken < 2 ^ a) : pcZ taken ≤ a := by
  have key : ∀ a : Fin 7, ∀ t : Fin 64, (t.val : Int) < 2 ^ a.val → pcZ (t.val : Int) ≤ a.val := by decide +kernel
  have h6 : ∀ a : Fin 7, (2 : Int) ^ a.val ≤ 64 := by decide +kernel
  have := h6 ⟨a, by omega⟩
  obtain ⟨t, rfl⟩ := fin_of taken 64 h.1 (by simp only at this; omega)
  exact key ⟨a, by omega⟩ t h.2
theorem canZ_len (C a : Nat) (taken : Int) (hC : C ≤ 6) (ha : a ≤ C) (h : 0 ≤ taken ∧ taken < 2 ^ a) : (canZ C (2 ^ a - 1) taken).length = a - pcZ taken := by
  have key : ∀ C : Fin 7, ∀ a : Fin 7, a.val ≤ C.val → ∀ t : Fin 64, (t.val : Int) < 2 ^ a.val → (canZ C.val (2 ^ a.val - 1) (t.val : Int)).length = a.val - pcZ (t.val : Int) := by decide +kernel
  have h6 : ∀ a : Fin 7, (2 : Int) ^ a.val ≤ 64 := by decide +kernel
  have := h6 ⟨a, by omega⟩
  obtain ⟨t, rfl⟩ := fin_of taken 64 h.1 (by simp only at this; omega)
  exact key ⟨C, by omega⟩ ⟨a, by omega⟩ ha t h.2
theorem orZ_pc (a j : Nat) (taken : Int) (ha : a ≤ 6) (h : 0 ≤ taken ∧ taken < 2 ^ a) (hj : cell (2 ^ a - 1) (j : Int) = true) (hj6 : j < 6) (hf : cell taken (j : Int) = false) : (0 ≤ orZ taken j ∧ orZ taken j < 2 ^ a) ∧ pcZ (orZ taken j) = pcZ taken + 1 := by
  have key : ∀ a : Fin 7, ∀ j : Fin 6, ∀ t : Fin 64, (t.val : Int) < 2 ^ a.val → cell (2 ^ a.val - 1) (j.val : Int) = true → cell (t.val : Int) (j.val : Int) = false → (0 ≤ orZ (t.val : Int) j.val ∧ orZ (t.val : Int) j.val < 2 ^ a.val) ∧ pcZ (orZ (t.val : Int) j.val) = pcZ (t.val : Int) + 1 := by decide +kernel
  have h6 : ∀ a : Fin 7, (2 : Int) ^ a.val ≤ 64 := by decide +kernel
  have := h6 ⟨a, by omega⟩
  obtain ⟨t, rfl⟩ := fin_of taken 64 h.1 (by simp only at this; omega)
  exact key ⟨a, by omega⟩ ⟨j, hj6⟩ t h.2 hj hf
theorem rowY_ok (C a : Nat) (hC : C ≤ 6) (ha : a ≤ C) (p : Nat × Int) (h : OkY a p) : ∀ q ∈ rowY C (2 ^ a - 1) p, OkY a q := by
  intro q hq
  simp only [rowY, List.mem_flatMap, List.mem_range] at hq
  obtain ⟨i, hi, hq⟩ := hq
  by_cases h0 : i = 0
  · rw [if_pos h0] at hq; simp at hq; rw [hq]; exact h
  · rw [if_neg h0] at hq
    split at hq
    case isFalse => simp at hq
    case isTrue hc =>
      simp only [Bool.and_eq_true, Bool.not_eq_true'] at hc
      simp at hq
      have := orZ_pc a (i - 1) p.2 (by omega) ⟨h.1, h.2.1⟩ hc.1 (by omega) hc.2
      rw [hq]
      exact ⟨this.1.1, this.1.2, by simp only [this.2, h.2.2]⟩
theorem OkY_mono {a b : Nat} (hab : a ≤ b) (hb : b ≤ 6) {p : Nat × Int} (h : OkY a p) : OkY b p := by
  refine ⟨h.1, ?_, h.2.2⟩
  have key : ∀ a b : Fin 7, a.val ≤ b.val → (2 : Int) ^ a.val ≤ 2 ^ b.val := by decide +kernel
  have := key ⟨a, by omega⟩ ⟨b, by omega⟩ hab
  simp only at this
  have := h.2.1
  omega
theorem range_shift {β : Type} (C : Nat) (x : List β) (f : Nat → List β) : ((List.range (C + 1)).flatMap fun i => if i = 0 then x else f (i - 1)) = x ++ (List.range C).flatMap f := by
  rw [List.range_succ_eq_map, List.flatMap_cons, if_pos rfl, List.flatMap_map]
  congr 1
theorem flat_filter {β : Type} (c : Nat → Bool) (g : Nat → β) : ∀ l : List Nat, (l.flatMap fun j => if c j then [g j] else []) = (l.filter c).map g
  | [] => rfl
  | x :: l => by
    rw [List.flatMap_cons, flat_filter c g l, List.filter_cons]
    cases c x <;> simp
theorem rowY_count (C a : Nat) (hC : C ≤ 6) (ha : a ≤ C) (p : Nat × Int) (h : OkY a p) (k : Nat) : ((rowY C (2 ^ a - 1) p).map (·.1)).count k = (if p.1 = k then 1 else 0) + (if p.1 + 1 = k then a - p.1 else 0) := by
  unfold rowY
  rw [range_shift C [p] (fun j => if cell (2 ^ a - 1) (j : Int) && !cell p.2 (j : Int) then [(p.1 + 1, orZ p.2 j)] else []), flat_filter (fun j : Nat => cell (2 ^ a - 1) (j : Int) && !cell p.2 (j : Int)) (fun j => (p.1 + 1, orZ p.2 j))]
  rw [List.map_append, List.count_append, List.map_map]
  have e : ((fun x : Nat × Int => x.1) ∘ fun j => (p.1 + 1, orZ p.2 j)) = fun _ => p.1 + 1 := rfl
  rw [e, List.map_const', List.count_replicate]
  have hl := canZ_len C a p.2 hC ha ⟨h.1, h.2.1⟩
  unfold canZ at hl
  rw [hl, h.2.2]
  simp [List.count_cons]
theorem flat_count (C a : Nat) (hC : C ≤ 6) (ha : a ≤ C) (k : Nat) : ∀ L : List (Nat × Int), (∀ p ∈ L, OkY a p) → ((L.flatMap (rowY C (2 ^ a - 1))).map (·.1)).count k = (L.map (·.1)).count k + (if k = 0 then 0 else (a - (k - 1)) * (L.map (·.1)).count (k - 1))
  | [], _ => by simp
  | p :: L, h => by
    rw [List.flatMap_cons, List.map_append, List.count_append, rowY_count C a hC ha p (h p (by simp)) k, flat_count C a hC ha k L (fun q hq => h q (by simp [hq])), List.map_cons, List.count_cons, List.count_cons]
    by_cases h0 : k = 0
    · subst h0
      by_cases h1 : p.1 = 0
      · simp [h1]; omega
      · simp [h1]
    · simp only [h0, if_false]
      by_cases h1 : p.1 = k
      · have h2 : ¬ p.1 + 1 = k := by omega
        have h3 : ¬ p.1 = k - 1 := by omega
        simp [h1, h2, h3]
        have h4 : ¬ k = k - 1 := by omega
        simp [h4]; omega
      · by_cases h2 : p.1 + 1 = k
        · have h3 : p.1 = k - 1 := by omega
          have h5 : ¬ k - 1 = k := by omega
          simp [h3, h5, Nat.mul_add]
          have h6 : k - 1 + 1 = k := by omega
          simp [h6]; omega
        · have h3 : ¬ p.1 = k - 1 := by omega
          simp [h1, h2, h3]
theorem Y_ok (l : List Int) (C : Nat) (hC : C ≤ 6) (hx : ∀ x ∈ l, 0 ≤ x ∧ x.toNat ≤ C) (hup : ∀ i j (hi : i < l.length) (hj : j < l.length), i ≤ j → l[i] ≤ l[j]) : ∀ (i : Nat), i ≤ l.length → ∀ p ∈ Y C ((boardL l).take i) (0, 0), ∀ b : Nat, b ≤ C → (∀ j (hj : j < l.length), j < i → l[j].toNat ≤ b) → OkY b p
  | 0, _, p, hp, b, hb, _ => by
    simp [Y] at hp
    rw [hp]
    exact ⟨Int.le_refl _, by show (0 : Int) < 2 ^ b; exact Int.pow_pos (by omega), by decide⟩
  | i + 1, hi, p, hp, b, hb, hbx => by
    have hlt : i < l.length := by omega
    have hlb : i < (boardL l).length := by simpa [boardL] using hlt
    rw [List.take_succ_eq_append_getElem hlb, Y_snoc] at hp
    obtain ⟨q, hq, hp⟩ := List.mem_flatMap.1 hp
    have hm := hx l[i] (List.getElem_mem _)
    have e : (boardL l)[i] = 2 ^ l[i].toNat - 1 := by simp [boardL]
    rw [e] at hp
    have hq' := Y_ok l C hC hx hup i (by omega) q hq l[i].toNat hm.2 (fun j hj hji => by have := hup j i hj hlt (by omega); omega)
    exact OkY_mono (hbx i hlt (by omega)) (by omega) (rowY_ok C l[i].toNat hC hm.2 q hq' p hp)
theorem Z_snoc (l : List Int) (C : Nat) (hC : C ≤ 6) (hx : ∀ x ∈ l, 0 ≤ x ∧ x.toNat ≤ C) (hup : ∀ i j (hi : i < l.length) (hj : j < l.length), i ≤ j → l[i] ≤ l[j]) (i : Nat) (hi : i < l.length) (k : Nat) : (Z C ((boardL l).take (i + 1)) 0).count k = (Z C ((boardL l).take i) 0).count k + (if k = 0 then 0 else (l[i].toNat - (k - 1)) * (Z C ((boardL l).take i) 0).count (k - 1)) := by
  have hm := hx l[i] (List.getElem_mem _)
  have hlb : i < (boardL l).length := by simpa [boardL] using hi
  have e : (boardL l)[i] = 2 ^ l[i].toNat - 1 := by simp [boardL]
  have z : ∀ t, (Y C t (0, 0)).map (·.1) = Z C t 0 := fun t => by rw [Y_Z]; simp
  rw [← z, ← z, List.take_succ_eq_append_getElem hlb, Y_snoc, e]
  exact flat_count C l[i].toNat hC hm.2 k _ (fun p hp => Y_ok l C hC hx hup i (by omega) p hp l[i].toNat hm.2 (fun j hj hji => by have := hup j i hj hi (by omega); omega))
theorem nice_boardL (l : List Int) (h1 : 1 ≤ l.length) (hl : l.length ≤ 6) (hx : ∀ x ∈ l, 0 ≤ x ∧ x.toNat ≤ l.length) : Nice (l.length : Int) (l.length : Int) (boardL l) := by
  refine ⟨by omega, by omega, by simp [boardL], ?_⟩
  intro x hx'
  obtain ⟨y, hy, rfl⟩ := List.mem_map.1 hx'
  have key : ∀ a : Fin 7, 0 ≤ (2 : Int) ^ a.val - 1 ∧ (2 : Int) ^ a.val - 1 ≤ 63 := by decide +kernel
  have := hx y hy
  exact key ⟨y.toNat, by omega⟩


theorem i_newBoard (r c : Int) (h : 0 ≤ r ∧ r ≤ 6) : impl_newBoard.f r c = some (r, c, List.replicate r.toNat 0) := by
  unfold impl_newBoard.f; rw [if_pos (by omega), if_pos (by omega)]

theorem iboardOf_l0 (l : List Int) (hl : l.length ≤ 6) (hx : ∀ x ∈ l, 0 ≤ x ∧ x ≤ 6) (R C : Int) : ∀ (d i k : Nat) (out : List Int), out.length = l.length → i + d = l.length → d < k → out.take i = (boardL l).take i →
    impl_boardOf.l0 k l (l.length : Int) (i : Int) R C out = some (R, C, boardL l) := by
  intro d
  induction d with
  | zero =>
    intro i k out ho hi hk ht
    obtain ⟨k, rfl⟩ : ∃ m, k = m + 1 := ⟨k - 1, by omega⟩
    simp only [impl_boardOf.l0]; rw [if_neg (by omega)]
    rw [List.take_of_length_le (by omega), List.take_of_length_le (by simp [boardL]; omega)] at ht; rw [ht]
  | succ d ih =>
    intro i k out ho hi hk ht
    obtain ⟨k, rfl⟩ : ∃ m, k = m + 1 := ⟨k - 1, by omega⟩
    have hlt : i < l.length := by omega
    have hm := hx l[i] (List.getElem_mem _)
    simp only [impl_boardOf.l0]
    rw [if_pos (by omega), if_pos (by omega), if_pos (by omega), rd_nat l i hlt, if_pos (by omega), if_pos (by omega), sh0 _ hm, w64 (by omega) (by omega), show ((i : Int) + 1) = ((i + 1 : Nat) : Int) from by omega]
    refine ih (i + 1) k _ (by simpa using ho) (by omega) (by omega) ?_
    rw [Int.toNat_natCast, List.take_succ_eq_append_getElem (by simpa using (by omega : i < out.length)), List.take_succ_eq_append_getElem (by simpa [boardL] using hlt)]
    simp only [List.getElem_set_self, List.take_set_of_le (Nat.le_refl i), ht]
    simp [boardL]
theorem i_boardOf (k : Nat) (l : List Int) (g : Good l) (hk : 10 ≤ k) : impl_boardOf.f k l = some ((l.length : Int), (l.length : Int), boardL l) := by
  unfold impl_boardOf.f
  have h1 := g.1
  rw [i_newBoard _ _ (by omega)]
  simp only [Option.bind_some]
  exact iboardOf_l0 l (by omega) (fun x hx => by have := g.2.1 x hx; omega) _ _ l.length 0 k _ (by simp) (by omega) (by omega) (by simp)

def nolOut (l : List Int) : List Int × Bool := if Good l then (numsL (l.length : Int) (l.length : Int) (boardL l), true) else ([], false)
theorem good_nat {l : List Int} (g : Good l) : ∀ x ∈ l, 0 ≤ x ∧ x.toNat ≤ l.length := by
  intro x hx
  have := g.2.1 x hx
  omega
theorem nolOut_len (l : List Int) : (nolOut l).1.length ≤ 7 := by
  unfold nolOut
  split
  case isTrue g => exact numsL_lenN _ _ _ (nice_boardL l (by have := g.1; omega) (by have := g.1; omega) (good_nat g))
  case isFalse => simp
theorem i_NumbersOfLengths (k : Nat) (l : List Int) (hl : l.length ≤ 1048576) (hk : 2000000 ≤ k) : impl_NumbersOfLengths.f k l = some (nolOut l) := by
  unfold impl_NumbersOfLengths.f nolOut
  rw [i_AreLengths k l (by omega) (by omega)]
  simp only [Option.bind_some, decide_eq_true_eq]
  by_cases g : Good l
  · have h1 := g.1
    rw [if_pos g, if_pos g, i_boardOf k l g (by omega)]
    simp only [Option.bind_some]
    rw [i_numbersN _ _ _ (nice_boardL l (by omega) (by omega) (good_nat g))]; rfl
  · rw [if_neg g, if_neg g]

def focOut (l : List Int) : List Int × Bool := if Good l then (facL l, true) else ([], false)
theorem focOut_len (l : List Int) : (focOut l).1.length ≤ 6 := by
  unfold focOut
  split
  case isTrue g => rw [facL_len]; exact (good6 g).1
  case isFalse => simp
theorem i_FactorsOf (k : Nat) (l : List Int) (hl : l.length ≤ 1048576) (hk : 2000000 ≤ k) : impl_FactorsOf.f k l = some (focOut l) := by
  unfold impl_FactorsOf.f focOut
  rw [i_AreLengths k l (by omega) (by omega)]
  simp only [Option.bind_some, decide_eq_true_eq]
  by_cases g : Good l
  · rw [if_pos g, if_pos g, i_factors k l g (by omega)]; rfl
  · rw [if_neg g, if_neg g]

theorem e_l1Most (a b : Int) : spec_l1Most.f a b = some (if b < a then a else b) := by
  unfold spec_l1Most.f
  by_cases h : b < a
  · rw [if_pos h, if_pos h]
  · rw [if_neg h, if_neg h]

/-- The values v, v + 1, .. (z of them) are left out once each, on one way through the list. -/
def skL : Int → Nat → List Int → List Int
  | _, 0, L => L
  | _, _ + 1, [] => []
  | v, z + 1, f :: t => if f = v then skL (v + 1) z t else f :: skL v (z + 1) t
/-- The same values are erased one after another. -/
def erL : Int → Nat → List Int → List Int
  | _, 0, L => L
  | v, z + 1, L => erL (v + 1) z (L.erase v)
theorem erL_last : ∀ (z : Nat) (v : Int) (L : List Int), erL v (z + 1) L = erL v z (L.erase (v + z))
  | 0, v, L => by simp [erL]
  | z + 1, v, L => by
    rw [erL, erL_last z (v + 1) (L.erase v), erL, List.erase_comm, show v + 1 + (z : Int) = v + ((z + 1 : Nat) : Int) by omega]
theorem erL_cons : ∀ (z : Nat) (v f : Int) (t : List Int), f < v → erL v z (f :: t) = f :: erL v z t
  | 0, _, _, _, _ => rfl
  | z + 1, v, f, t, h => by
    rw [erL, List.erase_cons, if_neg (by simp; omega), erL_cons z (v + 1) f _ (by omega), erL]
theorem skL_erL : ∀ (L : List Int) (z : Nat) (v : Int), up L → (∀ i : Nat, i < z → v + (i : Int) ∈ L) → skL v z L = erL v z L
  | L, 0, v, _, _ => by cases L <;> rfl
  | [], z + 1, v, _, h => absurd (h 0 (by omega)) (by simp)
  | f :: t, z + 1, v, hu, h => by
    rw [skL]
    by_cases e : f = v
    · subst e
      rw [if_pos rfl, erL, List.erase_cons_head]
      refine skL_erL t z (f + 1) (up_tail f t hu) (fun i hi => ?_)
      have := h (i + 1) (by omega)
      rcases List.mem_cons.1 this with h1 | h1
      · omega
      · rwa [show f + 1 + (i : Int) = f + ((i + 1 : Nat) : Int) by omega]
    · rw [if_neg e]
      have h0 : v ∈ t := by
        have := h 0 (by omega)
        rcases List.mem_cons.1 this with h1 | h1
        · omega
        · simpa using h1
      have hf : f < v := by
        obtain ⟨i, hi, e1⟩ := List.getElem_of_mem h0
        have := up_get (f :: t) hu 0 (i + 1) (by simp) (by simpa using hi) (by omega)
        simp only [List.getElem_cons_zero, List.getElem_cons_succ, e1] at this
        omega
      rw [skL_erL t (z + 1) v (up_tail f t hu) (fun i hi => by
        rcases List.mem_cons.1 (h i hi) with h1 | h1
        · omega
        · exact h1), erL_cons (z + 1) v f t hf]
  termination_by L => L.length
/-- Each number goes behind the list, more by the list's length. -/
def apL (out : List Int) : List Int → List Int
  | [] => out
  | f :: t => apL (out ++ [f + (out.length : Int)]) t
theorem apL_len : ∀ (L out : List Int), (apL out L).length = out.length + L.length
  | [], out => by simp [apL]
  | f :: t, out => by rw [apL, apL_len t]; simp; omega
theorem skL_len : ∀ (L : List Int) (z : Nat) (v : Int), (skL v z L).length ≤ L.length
  | L, 0, v => by cases L <;> simp [skL]
  | [], z + 1, v => by simp [skL]
  | f :: t, z + 1, v => by
    rw [skL]
    split
    · have := skL_len t z (v + 1); simp; omega
    · have := skL_len t (z + 1) v; simp; omega
theorem spec_l0 (own : List Int) (hl : own.length ≤ 6) (hb : ∀ x ∈ own, -6 ≤ x ∧ x ≤ 6) (Z : Nat) (hZ : Z ≤ 7) : ∀ (t : List Int) (i o k : Nat) (out : List Int), own.drop i = t → i + t.length = own.length → o ≤ Z → t.length < k → out.length ≤ Z + i →
    spec_StrictOf.l0 k (Z : Int) out (o : Int) own (own.length : Int) (i : Int) = some (apL out (skL (1 - (Z : Int) + (o : Int)) (Z - o) t), true)
  | [], i, o, k, out, ht, hi, ho, hk, hou => by
    obtain ⟨k, rfl⟩ : ∃ m, k = m + 1 := ⟨k - 1, by omega⟩
    simp only [List.length_nil] at hi
    simp only [spec_StrictOf.l0]; rw [if_neg (by omega)]
    cases h : Z - o <;> simp [skL, apL]
  | f :: t, i, o, k, out, ht, hi, ho, hk, hou => by
    obtain ⟨k, rfl⟩ : ∃ m, k = m + 1 := ⟨k - 1, by omega⟩
    simp only [List.length_cons] at hi hk
    have hlt : i < own.length := by omega
    have hf : own[i] = f := by
      have := List.drop_eq_getElem_cons hlt
      rw [ht] at this
      injection this with h1 h2
      exact h1.symm
    have ht2 : own.drop (i + 1) = t := by
      have := List.drop_eq_getElem_cons hlt
      rw [ht] at this
      injection this with h1 h2
      exact h2.symm
    have hfb := hb own[i] (List.getElem_mem hlt)
    rw [hf] at hfb
    have e1 : wrap64 ((i : Int) + 1) = ((i + 1 : Nat) : Int) := by rw [w64 (by omega) (by omega)]; omega
    have e2 : wrap64 (wrap64 (1 - (Z : Int)) + (o : Int)) = 1 - (Z : Int) + (o : Int) := by rw [w64 (x := 1 - (Z : Int)) (by omega) (by omega), w64 (by omega) (by omega)]
    have e3 : wrap64 (f + (out.length : Int)) = f + (out.length : Int) := w64 (by omega) (by omega)
    simp only [spec_StrictOf.l0]
    rw [if_pos (show (i : Int) < (own.length : Int) by omega), if_pos (show (0 : Int) ≤ (i : Int) by omega), if_pos (show (i : Int) < (own.length : Int) by omega), rd_nat own i hlt, hf, e1, e2, e3]
    have app : spec_StrictOf.l0 k (Z : Int) (out ++ [f + (out.length : Int)]) (o : Int) own (own.length : Int) ((i + 1 : Nat) : Int) = some (apL (out ++ [f + (out.length : Int)]) (skL (1 - (Z : Int) + (o : Int)) (Z - o) t), true) := spec_l0 own hl hb Z hZ t (i + 1) o k _ ht2 (by omega) ho (by omega) (by simp; omega)
    by_cases h1 : (o : Int) < (Z : Int)
    · rw [if_pos h1]
      obtain ⟨z, hz⟩ : ∃ z, Z - o = z + 1 := ⟨Z - o - 1, by omega⟩
      rw [hz] at app ⊢
      rw [skL]
      by_cases h2 : f = 1 - (Z : Int) + (o : Int)
      · rw [if_pos h2, if_pos h2, w64 (by omega) (by omega), show ((o : Int) + 1) = ((o + 1 : Nat) : Int) by omega, spec_l0 own hl hb Z hZ t (i + 1) (o + 1) k out ht2 (by omega) (by omega) (by omega) (by omega), show 1 - (Z : Int) + ((o + 1 : Nat) : Int) = 1 - (Z : Int) + (o : Int) + 1 by omega, show Z - (o + 1) = z by omega]
      · rw [if_neg h2, if_neg h2, if_pos (by omega), app, apL]
    · rw [if_neg h1, if_pos (by omega), app]
      rw [show Z - o = 0 by omega]
      simp [skL, apL]
theorem idx_l0 (L : List Int) (hl : L.length ≤ 1000) (a : Int) : ∀ (t pre : List Int) (k : Nat), L = pre ++ t → a ∈ t → t.length < k → ∃ i, slices_Index_int_int.l0 k L a (L.length : Int) (pre.length : Int) = some ((pre.length + i : Nat) : Int) ∧ i < t.length ∧ t.eraseIdx i = t.erase a
  | [], pre, k, _, h, _ => by simp at h
  | f :: t, pre, k, hL, h, hk => by
    obtain ⟨k, rfl⟩ : ∃ m, k = m + 1 := ⟨k - 1, by omega⟩
    simp only [List.length_cons] at hk
    have hlen : L.length = pre.length + t.length + 1 := by rw [hL]; simp; omega
    have hlt : pre.length < L.length := by omega
    have hf : L[pre.length] = f := by simp [hL]
    simp only [slices_Index_int_int.l0]
    rw [if_pos (show (pre.length : Int) < (L.length : Int) by omega), if_pos (show (0 : Int) ≤ (pre.length : Int) by omega), if_pos (show (pre.length : Int) < (L.length : Int) by omega), rd_nat L pre.length hlt, hf]
    by_cases e : a = f
    · rw [if_pos e]
      subst e
      exact ⟨0, by simp, by simp, by simp⟩
    · rw [if_neg e, w64 (by omega) (by omega)]
      have h1 : a ∈ t := by
        rcases List.mem_cons.1 h with h1 | h1
        · exact absurd h1 e
        · exact h1
      obtain ⟨i, e1, e2, e3⟩ := idx_l0 L hl a t (pre ++ [f]) k (by simpa using hL) h1 (by omega)
      refine ⟨i + 1, ?_, by simpa using e2, ?_⟩
      · rw [List.length_append, List.length_singleton] at e1
        rw [show (pre.length : Int) + 1 = ((pre.length + 1 : Nat) : Int) by omega, e1]
        congr 2; omega
      · rw [List.erase_cons, if_neg (by simpa using fun h => e h.symm), List.eraseIdx_cons_succ, e3]
theorem idx_f (L : List Int) (hl : L.length ≤ 1000) (a : Int) (h : a ∈ L) (k : Nat) (hk : L.length < k) : ∃ i : Nat, slices_Index_int_int.f k L a = some (i : Int) ∧ i < L.length ∧ L.eraseIdx i = L.erase a := by
  obtain ⟨i, e1, e2, e3⟩ := idx_l0 L hl a L [] k rfl h hk
  exact ⟨i, by unfold slices_Index_int_int.f; simpa using e1, e2, e3⟩
theorem impl_l1 : ∀ (t L : List Int) (i k : Nat) (out : List Int), L.length ≤ 6 → (∀ x ∈ L, -6 ≤ x ∧ x ≤ 6) → L.drop i = t → i + t.length = L.length → t.length < k → out.length ≤ 7 + i →
    impl_StrictOf.l1 k out L (L.length : Int) (i : Int) = some (apL out t, true)
  | [], L, i, k, out, hl, hb, ht, hi, hk, hou => by
    obtain ⟨k, rfl⟩ : ∃ m, k = m + 1 := ⟨k - 1, by omega⟩
    simp only [List.length_nil] at hi
    simp only [impl_StrictOf.l1]; rw [if_neg (by omega)]; rfl
  | f :: t, L, i, k, out, hl, hb, ht, hi, hk, hou => by
    obtain ⟨k, rfl⟩ : ∃ m, k = m + 1 := ⟨k - 1, by omega⟩
    simp only [List.length_cons] at hi hk
    have hlt : i < L.length := by omega
    have hd := List.drop_eq_getElem_cons hlt
    rw [ht] at hd
    injection hd with h1 h2
    have hfb := hb L[i] (List.getElem_mem hlt)
    simp only [impl_StrictOf.l1]
    rw [if_pos (show (i : Int) < (L.length : Int) by omega), if_pos (show (0 : Int) ≤ (i : Int) by omega), if_pos (show (i : Int) < (L.length : Int) by omega), if_pos (by omega), rd_nat L i hlt, w64 (x := L[i] + (out.length : Int)) (by omega) (by omega), w64 (x := (i : Int) + 1) (by omega) (by omega), show ((i : Int) + 1) = ((i + 1 : Nat) : Int) by omega]
    rw [impl_l1 t L (i + 1) k _ hl hb h2.symm (by omega) (by omega) (by simp; omega), apL, h1]
theorem impl_l0 (least : Int) (hle : -6 ≤ least) : ∀ (z k : Nat) (L out : List Int), L.length ≤ 6 → (∀ x ∈ L, -6 ≤ x ∧ x ≤ 6) → out.length + z ≤ 7 → least + (z : Int) ≤ 2 → (∀ i : Nat, i < z → least + (i : Int) ∈ L) → z + 20 < k →
    impl_StrictOf.l0 k L out least (least + (z : Int) - 1) = some (apL (out ++ List.replicate z 0) (erL least z L), true)
  | 0, k, L, out, hl, hb, hou, _, hm, hk => by
    obtain ⟨k, rfl⟩ : ∃ m, k = m + 1 := ⟨k - 1, by omega⟩
    simp only [impl_StrictOf.l0]
    rw [if_neg (by omega)]
    have := impl_l1 L L 0 k out hl hb (by simp) (by omega) (by omega) (by omega)
    simpa [erL] using this
  | z + 1, k, L, out, hl, hb, hou, hlz, hm, hk => by
    obtain ⟨k, rfl⟩ : ∃ m, k = m + 1 := ⟨k - 1, by omega⟩
    have hin := hm z (by omega)
    obtain ⟨i, e1, e2, e3⟩ := idx_f L (by omega) _ hin k (by omega)
    have hd : slices_Delete_int_int.f L (i : Int) (wrap64 ((i : Int) + 1)) = some (L.erase (least + (z : Int))) := by
      unfold slices_Delete_int_int.f
      rw [w64 (by omega) (by omega), if_pos ⟨by omega, rfl, by omega⟩, Int.toNat_natCast, e3]
    simp only [impl_StrictOf.l0]
    rw [show least + ((z + 1 : Nat) : Int) - 1 = least + (z : Int) by omega, if_pos (by omega), e1, Option.bind_some, hd, Option.bind_some, if_pos (by omega), w64 (by omega) (by omega)]
    have hlen := List.length_erase_of_mem hin
    rw [impl_l0 least hle z k (L.erase (least + (z : Int))) (out ++ [0]) (by omega) (fun x hx => hb x (List.mem_of_mem_erase hx)) (by simp; omega) (by omega) (fun j hj => (List.mem_erase_of_ne (by omega)).2 (hm j (by omega))) (by omega)]
    rw [erL_last, List.append_assoc, List.replicate_succ]; rfl
theorem isortI_mem_aux : ∀ (l acc : List Int) (y : Int), y ∈ l.foldl (fun acc x => insI x acc) acc ↔ y ∈ acc ∨ y ∈ l
  | [], acc, y => by simp
  | x :: l, acc, y => by
    rw [List.foldl_cons, isortI_mem_aux l, insI_mem, List.mem_cons]
    constructor
    · rintro ((h | h) | h)
      · exact .inr (.inl h)
      · exact .inl h
      · exact .inr (.inr h)
    · rintro (h | h | h)
      · exact .inl (.inr h)
      · exact .inl (.inl h)
      · exact .inr h
theorem isortI_mem (l : List Int) (y : Int) : y ∈ isortI l ↔ y ∈ l := by unfold isortI; rw [isortI_mem_aux]; simp
theorem lessI_get : ∀ (l : List Int) (i : Int) (j : Nat) (h : j < l.length), (lessI l i)[j]'(by rw [lessI_len]; exact h) = l[j] - (i + (j : Int))
  | x :: l, i, 0, h => by simp [lessI]
  | x :: l, i, j + 1, h => by
    simp only [lessI, List.getElem_cons_succ]
    rw [lessI_get l (i + 1) j (by simpa using h)]
    omega
/-- The factors begin at no less than 0 and fall by 1 at most: each number between is met. -/
theorem less_all (l : List Int) (g : Good l) (v : Int) (hv : v ≤ 0) : ∀ (j : Nat) (h : j < l.length), l[j] - (j : Int) ≤ v → v ∈ lessI l 0
  | 0, h, hj => by
    have := g.2.1 l[0] (List.getElem_mem h)
    have e : l[0] = v := by simp at hj; omega
    have h1 : 0 < (lessI l 0).length := by rw [lessI_len]; exact h
    have h2 := lessI_get l 0 0 h
    have h3 := List.getElem_mem h1
    rw [h2] at h3
    simpa [e] using h3
  | j + 1, h, hj => by
    by_cases e : l[j + 1] - ((j + 1 : Nat) : Int) = v
    · have h1 : j + 1 < (lessI l 0).length := by rw [lessI_len]; exact h
      have h2 := lessI_get l 0 (j + 1) h
      have h3 := List.getElem_mem h1
      rw [h2] at h3
      rw [← e]
      simpa using h3
    · have := up_get l g.2.2 j (j + 1) (by omega) h (by omega)
      exact less_all l g v hv j (by omega) (by omega)
theorem facL_bd (l : List Int) (g : Good l) : ∀ x ∈ facL l, -6 ≤ x ∧ x ≤ 6 := by
  intro x hx
  obtain ⟨j, hj, e⟩ := List.getElem_of_mem ((isortI_mem _ _).1 hx)
  rw [lessI_len] at hj
  rw [lessI_get l 0 j hj] at e
  have h6 := good6 g
  have := h6.2 l[j] (List.getElem_mem hj)
  omega
theorem facL_all (l : List Int) (g : Good l) (v : Int) (hv : v ≤ 0) (h0 : (facL l).getD 0 0 ≤ v) : v ∈ facL l := by
  have hp : 0 < (facL l).length := by rw [facL_len]; have := g.1; omega
  have h1 : (facL l)[0] ∈ lessI l 0 := (isortI_mem _ _).1 (List.getElem_mem hp)
  obtain ⟨j, hj, e⟩ := List.getElem_of_mem h1
  rw [lessI_len] at hj
  rw [lessI_get l 0 j hj] at e
  rw [List.getD_eq_getElem?_getD, List.getElem?_eq_getElem hp, Option.getD_some] at h0
  exact (isortI_mem _ _).2 (less_all l g v hv j hj (by omega))
def zerosL (own : List Int) : Nat := (1 - own.getD 0 0).toNat
def stOut (l : List Int) : List Int × Bool := if Good l then (apL (List.replicate (zerosL (facL l)) 0) (skL (1 - (zerosL (facL l) : Int)) (zerosL (facL l)) (facL l)), true) else ([], false)
theorem zerosL_le (l : List Int) (g : Good l) : zerosL (facL l) ≤ 7 ∧ -6 ≤ (facL l).getD 0 0 ∧ (facL l).getD 0 0 ≤ 6 := by
  have hp : 0 < (facL l).length := by rw [facL_len]; have := g.1; omega
  have := facL_bd l g _ (List.getElem_mem hp)
  have e : (facL l).getD 0 0 = (facL l)[0] := by rw [List.getD_eq_getElem?_getD, List.getElem?_eq_getElem hp, Option.getD_some]
  unfold zerosL
  rw [e]
  omega
theorem e_StrictOf (k : Nat) (l : List Int) (hl : l.length ≤ 1048576) (hk : 2000000 ≤ k) : spec_StrictOf.f k l = some (stOut l) := by
  unfold spec_StrictOf.f stOut
  rw [e_feGood k l (by omega) (by omega)]
  simp only [Option.bind_some, decide_eq_true_eq]
  by_cases g : Good l
  · have h6 := good6 g
    have hlen := facL_len l
    have hz := zerosL_le l g
    have h1 := g.1
    have hr : rd (facL l) 0 = (facL l).getD 0 0 := rfl
    rw [if_pos g, if_pos g, e_feFactors k l g (by omega), Option.bind_some]
    simp only [hr]
    rw [if_pos (show (0 : Int) < ((facL l).length : Int) by omega), e_l1Most, Option.bind_some, w64 (by omega) (by omega)]
    have hZ : (if (1 - (facL l).getD 0 0) < 0 then (0 : Int) else 1 - (facL l).getD 0 0) = (zerosL (facL l) : Int) := by unfold zerosL; split <;> omega
    rw [hZ, if_pos (by omega), if_pos (by omega), Int.toNat_natCast]
    have := spec_l0 (facL l) (by omega) (facL_bd l g) (zerosL (facL l)) hz.1 (facL l) 0 0 k (List.replicate (zerosL (facL l)) 0) (by simp) (by simp) (by omega) (by omega) (by simp)
    simpa using this
  · rw [if_neg g, if_neg g]
theorem i_StrictOf (k : Nat) (l : List Int) (hl : l.length ≤ 1048576) (hk : 2000000 ≤ k) : impl_StrictOf.f k l = some (stOut l) := by
  unfold impl_StrictOf.f stOut
  rw [i_AreLengths k l (by omega) (by omega)]
  simp only [Option.bind_some, decide_eq_true_eq]
  by_cases g : Good l
  · have h6 := good6 g
    have hlen := facL_len l
    have hz := zerosL_le l g
    have h1 := g.1
    have hr : rd (facL l) 0 = (facL l).getD 0 0 := rfl
    rw [if_pos g, if_pos g, i_factors k l g (by omega), Option.bind_some]
    simp only [hr]
    rw [if_pos (show (0 : Int) < ((facL l).length : Int) by omega)]
    by_cases h0 : (facL l).getD 0 0 ≤ 1
    · have hZ : (facL l).getD 0 0 = 1 - (zerosL (facL l) : Int) := by unfold zerosL; omega
      have hmem : ∀ i : Nat, i < zerosL (facL l) → 1 - (zerosL (facL l) : Int) + (i : Int) ∈ facL l := fun i hi => facL_all l g _ (by omega) (by omega)
      rw [skL_erL (facL l) (zerosL (facL l)) _ (isortI_up _) hmem]
      have := impl_l0 (1 - (zerosL (facL l) : Int)) (by omega) (zerosL (facL l)) k (facL l) [] (by omega) (facL_bd l g) (by simpa using hz.1) (by omega) hmem (by omega)
      rw [show (1 : Int) - (zerosL (facL l) : Int) + (zerosL (facL l) : Int) - 1 = 0 by omega] at this
      rw [hZ]
      simpa using this
    · have hZ : zerosL (facL l) = 0 := by unfold zerosL; omega
      obtain ⟨k, rfl⟩ : ∃ m, k = m + 1 := ⟨k - 1, by omega⟩
      simp only [impl_StrictOf.l0]
      rw [if_neg (by omega), hZ]
      have := impl_l1 (facL l) (facL l) 0 k [] (by omega) (facL_bd l g) (by simp) (by simp) (by omega) (by simp)
      simpa [skL] using this
  · rw [if_neg g, if_neg g]
theorem stOut_len (l : List Int) : (stOut l).1.length ≤ 20 := by
  unfold stOut
  split
  · rename_i g
    have hz := zerosL_le l g
    have := skL_len (facL l) (zerosL (facL l)) (1 - (zerosL (facL l) : Int))
    have := facL_len l
    have := (good6 g).1
    simp only [apL_len, List.length_replicate]
    omega
  · simp

/-- How many numbers are greater. -/
def cntGt (t : Int) : List Int → Int
  | [] => 0
  | m :: r => (if m > t then 1 else 0) + cntGt t r
theorem cntGt_le (t : Int) : ∀ l : List Int, 0 ≤ cntGt t l ∧ cntGt t l ≤ l.length
  | [] => ⟨Int.le_refl _, Int.le_refl _⟩
  | m :: r => by
    have := cntGt_le t r
    simp only [cntGt, List.length_cons]
    split <;> omega
/-- The lengths from the side, from index i on. -/
def sideF (l : List Int) : Nat → Nat → List Int
  | 0, _ => []
  | d + 1, i => cntGt ((l.length : Int) - 1 - (i : Int)) l :: sideF l d (i + 1)
theorem sideF_len (l : List Int) : ∀ d i, (sideF l d i).length = d
  | 0, _ => rfl
  | d + 1, i => by simp [sideF, sideF_len l d]
theorem sside_l1 (l : List Int) (hl : l.length ≤ 6) (acc : List Int) (i : Nat) (hi : i < l.length) (ha : acc.length ≤ 100) : ∀ (d j k : Nat) (a : Int), j + d = l.length → 0 ≤ a → a ≤ j →
    spec_SideOfLengths.l1 (k + d + 1) l acc (l.length : Int) (i : Int) a l (l.length : Int) (j : Int) = spec_SideOfLengths.l0 k l (acc ++ [a + cntGt ((l.length : Int) - 1 - (i : Int)) (l.drop j)]) (l.length : Int) ((i + 1 : Nat) : Int) := by
  intro d
  induction d with
  | zero =>
    intro j k a hj h0 h1
    simp only [Nat.add_zero, spec_SideOfLengths.l1]
    rw [if_neg (by omega), if_pos (by omega), w64 (by omega) (by omega), List.drop_eq_nil_of_le (by omega)]; simp [cntGt]
  | succ d ih =>
    intro j k a hj h0 h1
    obtain ⟨K, hK⟩ : ∃ K, K = k + d + 1 := ⟨_, rfl⟩
    rw [show k + (d + 1) + 1 = K + 1 from by omega]
    have hlt : j < l.length := by omega
    simp only [spec_SideOfLengths.l1]
    rw [if_pos (by omega), if_pos (by omega), if_pos (by omega), rd_nat l j hlt, w64 (x := (l.length : Int) - 1) (by omega) (by omega), w64 (x := (l.length : Int) - 1 - (i : Int)) (by omega) (by omega), w64 (x := (j : Int) + 1) (by omega) (by omega), w64 (x := a + 1) (by omega) (by omega), show ((j : Int) + 1) = ((j + 1 : Nat) : Int) from by omega, List.drop_eq_getElem_cons hlt]
    simp only [cntGt]
    by_cases h : l[j] > (l.length : Int) - 1 - (i : Int)
    · rw [if_pos h, hK, ih (j + 1) k (a + 1) (by omega) (by omega) (by omega), if_pos h, show a + 1 + cntGt ((l.length : Int) - 1 - (i : Int)) (l.drop (j + 1)) = a + (1 + cntGt ((l.length : Int) - 1 - (i : Int)) (l.drop (j + 1))) from by omega]
    · rw [if_neg h, hK, ih (j + 1) k a (by omega) (by omega) (by omega), if_neg h, show (0 : Int) + cntGt ((l.length : Int) - 1 - (i : Int)) (l.drop (j + 1)) = cntGt ((l.length : Int) - 1 - (i : Int)) (l.drop (j + 1)) from by omega]
theorem sside_l0 (l : List Int) (hl : l.length ≤ 6) : ∀ (d i k : Nat) (acc : List Int), i + d = l.length → acc.length + d ≤ 50 → d * (l.length + 2) < k →
    spec_SideOfLengths.l0 k l acc (l.length : Int) (i : Int) = some (acc ++ sideF l d i, true) := by
  intro d
  induction d with
  | zero =>
    intro i k acc hi ha hk
    obtain ⟨k, rfl⟩ : ∃ m, k = m + 1 := ⟨k - 1, by omega⟩
    simp only [spec_SideOfLengths.l0]
    rw [if_neg (by omega)]; simp [sideF]
  | succ d ih =>
    intro i k acc hi ha hk
    rw [Nat.add_mul] at hk
    obtain ⟨k, rfl⟩ : ∃ m, k = (m + l.length + 1) + 1 := ⟨k - l.length - 2, by omega⟩
    simp only [spec_SideOfLengths.l0]
    have := sside_l1 l hl acc i (by omega) (by omega) l.length 0 k 0 (by omega) (by omega) (by omega)
    rw [show ((0 : Nat) : Int) = 0 from rfl] at this
    rw [if_pos (by omega), this, ih (i + 1) k _ (by omega) (by simp; omega) (by omega)]
    simp only [sideF, List.append_assoc, List.singleton_append, List.drop_zero]
    congr 3; simp
theorem iside_l1 (l : List Int) (hl : l.length ≤ 6) (acc : List Int) (i : Nat) (hi : i < l.length) (ha : acc.length ≤ 100) : ∀ (d j k : Nat) (a : Int), j + d = l.length → 0 ≤ a → a ≤ j →
    impl_SideOfLengths.l1 (k + d + 1) l acc (i : Int) a (l.length : Int) (i : Int) l (l.length : Int) (j : Int) = impl_SideOfLengths.l0 k l (acc ++ [a + cntGt ((l.length : Int) - 1 - (i : Int)) (l.drop j)]) (l.length : Int) ((i + 1 : Nat) : Int) := by
  intro d
  induction d with
  | zero =>
    intro j k a hj h0 h1
    simp only [Nat.add_zero, impl_SideOfLengths.l1]
    rw [if_neg (by omega), if_pos (by omega), w64 (by omega) (by omega), List.drop_eq_nil_of_le (by omega)]; simp [cntGt]
  | succ d ih =>
    intro j k a hj h0 h1
    obtain ⟨K, hK⟩ : ∃ K, K = k + d + 1 := ⟨_, rfl⟩
    rw [show k + (d + 1) + 1 = K + 1 from by omega]
    have hlt : j < l.length := by omega
    simp only [impl_SideOfLengths.l1]
    rw [if_pos (by omega), if_pos (by omega), if_pos (by omega), rd_nat l j hlt, w64 (x := (l.length : Int) - 1) (by omega) (by omega), w64 (x := (l.length : Int) - 1 - (i : Int)) (by omega) (by omega), w64 (x := (j : Int) + 1) (by omega) (by omega), w64 (x := a + 1) (by omega) (by omega), show ((j : Int) + 1) = ((j + 1 : Nat) : Int) from by omega, List.drop_eq_getElem_cons hlt]
    simp only [cntGt]
    by_cases h : l[j] > (l.length : Int) - 1 - (i : Int)
    · rw [if_pos h, hK, ih (j + 1) k (a + 1) (by omega) (by omega) (by omega), if_pos h, show a + 1 + cntGt ((l.length : Int) - 1 - (i : Int)) (l.drop (j + 1)) = a + (1 + cntGt ((l.length : Int) - 1 - (i : Int)) (l.drop (j + 1))) from by omega]
    · rw [if_neg h, hK, ih (j + 1) k a (by omega) (by omega) (by omega), if_neg h, show (0 : Int) + cntGt ((l.length : Int) - 1 - (i : Int)) (l.drop (j + 1)) = cntGt ((l.length : Int) - 1 - (i : Int)) (l.drop (j + 1)) from by omega]
theorem iside_l0 (l : List Int) (hl : l.length ≤ 6) : ∀ (d i k : Nat) (acc : List Int), i + d = l.length → acc.length + d ≤ 50 → d * (l.length + 2) < k →
    impl_SideOfLengths.l0 k l acc (l.length : Int) (i : Int) = some (acc ++ sideF l d i, true) := by
  intro d
  induction d with
  | zero =>
    intro i k acc hi ha hk
    obtain ⟨k, rfl⟩ : ∃ m, k = m + 1 := ⟨k - 1, by omega⟩
    simp only [impl_SideOfLengths.l0]
    rw [if_neg (by omega)]; simp [sideF]
  | succ d ih =>
    intro i k acc hi ha hk
    rw [Nat.add_mul] at hk
    obtain ⟨k, rfl⟩ : ∃ m, k = (m + l.length + 1) + 1 := ⟨k - l.length - 2, by omega⟩
    simp only [impl_SideOfLengths.l0]
    have := iside_l1 l hl acc i (by omega) (by omega) l.length 0 k 0 (by omega) (by omega) (by omega)
    rw [show ((0 : Nat) : Int) = 0 from rfl] at this
    rw [if_pos (by omega), this, ih (i + 1) k _ (by omega) (by simp; omega) (by omega)]
    simp only [sideF, List.append_assoc, List.singleton_append, List.drop_zero]
    congr 3; simp
def sideOut (l : List Int) : List Int × Bool := if Good l then (sideF l l.length 0, true) else ([], false)
theorem sideOut_len (l : List Int) : (sideOut l).1.length ≤ 6 := by
  unfold sideOut
  split
  · rename_i h; have := h.1; simp only [sideF_len]; omega
  · simp
theorem side_fuel (n : Nat) (h : n ≤ 6) : n * (n + 2) ≤ 6 * 8 := Nat.mul_le_mul h (by omega)
theorem e_SideOfLengths (k : Nat) (l : List Int) (hl : l.length ≤ 2000000) (hk : l.length + 1 < k) (hk2 : 100 ≤ k) : spec_SideOfLengths.f k l = some (sideOut l) := by
  unfold spec_SideOfLengths.f sideOut
  rw [e_feGood k l hl hk]
  simp only [Option.bind_some, decide_eq_true_eq]
  by_cases g : Good l
  · have h1 := g.1; have := side_fuel l.length (by omega)
    rw [if_pos g, if_pos g]
    have := sside_l0 l (by omega) l.length 0 k [] (by omega) (by simp; omega) (by omega)
    simpa using this
  · rw [if_neg g, if_neg g]
theorem i_SideOfLengths (k : Nat) (l : List Int) (hl : l.length ≤ 2000000) (hk : l.length < k) (hk2 : 100 ≤ k) : impl_SideOfLengths.f k l = some (sideOut l) := by
  unfold impl_SideOfLengths.f sideOut
  rw [i_AreLengths k l hl hk]
  simp only [Option.bind_some, decide_eq_true_eq]
  by_cases g : Good l
  · have h1 := g.1; have := side_fuel l.length (by omega)
    rw [if_pos g, if_pos g]
    have := iside_l0 l (by omega) l.length 0 k [] (by omega) (by simp; omega) (by omega)
    simpa using this
  · rw [if_neg g, if_neg g]

theorem wr_shift (a q : Int) : wrap64 (a - 18446744073709551616 * q) = wrap64 a := by unfold wrap64; omega
theorem wr_eq (a : Int) : ∃ q, wrap64 a = a - 18446744073709551616 * q := ⟨(a + 9223372036854775808) / 18446744073709551616, by unfold wrap64; omega⟩
theorem wr_wr (a : Int) : wrap64 (wrap64 a) = wrap64 a := by unfold wrap64; omega
theorem wr_addl (a b : Int) : wrap64 (wrap64 a + b) = wrap64 (a + b) := by unfold wrap64; omega
theorem wr_addr (a b : Int) : wrap64 (a + wrap64 b) = wrap64 (a + b) := by unfold wrap64; omega
theorem wr_mull (a b : Int) : wrap64 (wrap64 a * b) = wrap64 (a * b) := by
  obtain ⟨q, e⟩ := wr_eq a
  rw [e, Int.sub_mul, Int.mul_assoc, wr_shift]
theorem wr_mulr (a b : Int) : wrap64 (a * wrap64 b) = wrap64 (a * b) := by rw [Int.mul_comm, wr_mull, Int.mul_comm]

/-- The product of x - i, x - i - 1, .. -/
def prodI (x : Int) : Nat → Int → Int
  | 0, _ => 1
  | d + 1, i => (x - i) * prodI x d (i + 1)
theorem prodI_snoc (x : Int) : ∀ (d : Nat) (i : Int), prodI x (d + 1) i = prodI x d i * (x - (i + d))
  | 0, i => by simp [prodI]
  | d + 1, i => by
    rw [prodI, prodI_snoc x d (i + 1), prodI, Int.mul_assoc]
    congr 3
    omega
def sumN (f : Nat → Int) : Nat → Int
  | 0 => 0
  | n + 1 => sumN f n + f n
theorem sumN_front (f : Nat → Int) : ∀ n, sumN f (n + 1) = f 0 + sumN (fun k => f (k + 1)) n
  | 0 => by simp [sumN]
  | n + 1 => by
    rw [sumN, sumN_front f n, sumN]
    omega
theorem sumN_congr (f g : Nat → Int) : ∀ n, (∀ k, k < n → f k = g k) → sumN f n = sumN g n
  | 0, _ => rfl
  | n + 1, h => by rw [sumN, sumN, sumN_congr f g n (fun k hk => h k (by omega)), h n (by omega)]
theorem sumN_add (f g : Nat → Int) : ∀ n, sumN (fun k => f k + g k) n = sumN f n + sumN g n
  | 0 => rfl
  | n + 1 => by rw [sumN, sumN, sumN, sumN_add f g n]; omega
theorem sumN_mul (f : Nat → Int) (c : Int) : ∀ n, sumN (fun k => f k * c) n = sumN f n * c
  | 0 => by simp [sumN]
  | n + 1 => by rw [sumN, sumN, sumN_mul f c n, Int.add_mul]
/-- How many placements of k rooks on the first rows. -/
def cK (l : List Int) (C i k : Nat) : Nat := (Z C ((boardL l).take i) 0).count k
structure Lens (l : List Int) (C : Nat) : Prop where
  c6 : C ≤ 6
  mem : ∀ x ∈ l, 0 ≤ x ∧ x.toNat ≤ C
  up : ∀ i j (hi : i < l.length) (hj : j < l.length), i ≤ j → l[i] ≤ l[j]
theorem cK_zero (l : List Int) (C : Nat) (h : Lens l C) (i k : Nat) (hk : i < k) : cK l C i k = 0 := by
  unfold cK
  rw [List.count_eq_zero]
  intro hm
  have := (Z_le C h.c6 _ 0 (by omega) k hm).1
  rw [List.length_take] at this
  omega
theorem cK_big (l : List Int) (C : Nat) (h : Lens l C) (i k : Nat) (hi : i < l.length) (hk : l[i].toNat < k) : cK l C i k = 0 := by
  unfold cK
  rw [List.count_eq_zero]
  intro hm
  have z : (Y C ((boardL l).take i) (0, 0)).map (·.1) = Z C ((boardL l).take i) 0 := by rw [Y_Z]; simp
  rw [← z] at hm
  obtain ⟨p, hp, e⟩ := List.mem_map.1 hm
  have hmem := h.mem l[i] (List.getElem_mem _)
  have ok := Y_ok l C h.c6 h.mem h.up i (by omega) p hp l[i].toNat hmem.2 (fun j hj hji => by have := h.up j i hj hi (by omega); omega)
  have := pcZ_le p.2 l[i].toNat (by have := h.c6; omega) ⟨ok.1, ok.2.1⟩
  rw [ok.2.2] at this
  omega
theorem cK_step (l : List Int) (C : Nat) (h : Lens l C) (i k : Nat) (hi : i < l.length) : cK l C (i + 1) k = cK l C i k + (if k = 0 then 0 else (l[i].toNat - (k - 1)) * cK l C i (k - 1)) := Z_snoc l C h.c6 h.mem h.up i hi k
/-- The polynomial of falling products, of the first rows. -/
def pK (l : List Int) (C : Nat) (x : Int) (i : Nat) : Int := sumN (fun k => ((cK l C i k : Nat) : Int) * prodI x (i - k) 0) (i + 1)
theorem pK_step (l : List Int) (C : Nat) (h : Lens l C) (x : Int) (i : Nat) (hi : i < l.length) : pK l C x (i + 1) = pK l C x i * (x + (l[i] - i)) := by
  unfold pK
  have hm := h.mem l[i] (List.getElem_mem _)
  rw [sumN_congr _ (fun k => ((cK l C i k : Nat) : Int) * prodI x (i + 1 - k) 0 + (if k = 0 then 0 else ((l[i].toNat - (k - 1) : Nat) : Int) * ((cK l C i (k - 1) : Nat) : Int)) * prodI x (i + 1 - k) 0) (i + 1 + 1) (fun k _ => by
    rw [cK_step l C h i k hi, Int.natCast_add, Int.add_mul]
    congr 2
    split <;> simp)]
  rw [sumN_add, sumN, cK_zero l C h i (i + 1) (by omega), sumN_front (fun k => (if k = 0 then 0 else ((l[i].toNat - (k - 1) : Nat) : Int) * ((cK l C i (k - 1) : Nat) : Int)) * prodI x (i + 1 - k) 0)]
  simp only [if_true, Int.zero_mul, Int.zero_add, Int.add_zero, Int.natCast_zero, Nat.add_sub_cancel, Nat.add_eq_zero_iff, Nat.one_ne_zero, and_false, if_false]
  rw [← sumN_add, ← sumN_mul]
  apply sumN_congr
  intro k hk
  rw [show i + 1 - k = (i - k) + 1 by omega, show i + 1 - (k + 1) = i - k by omega, prodI_snoc]
  by_cases hb : l[i].toNat < k
  · rw [cK_big l C h i k hi hb]; simp
  · have e1 : ((l[i].toNat - k : Nat) : Int) = l[i] - k := by omega
    have e2 : (((i - k : Nat)) : Int) = (i : Int) - k := by omega
    rw [e1, e2]
    generalize ((cK l C i k : Nat) : Int) = q
    generalize prodI x (i - k) 0 = f
    generalize (l[i] : Int) = a
    grind
/-- The product of x and numbers. -/
def prodL (x : Int) : List Int → Int
  | [] => 1
  | f :: t => (x + f) * prodL x t
theorem prodL_app (x : Int) : ∀ a b : List Int, prodL x (a ++ b) = prodL x a * prodL x b
  | [], b => by simp [prodL]
  | f :: a, b => by rw [List.cons_append, prodL, prodL_app x a b, prodL, Int.mul_assoc]
theorem prodL_ins (x y : Int) : ∀ l : List Int, prodL x (insI y l) = (x + y) * prodL x l
  | [] => rfl
  | f :: t => by
    rw [insI]
    split
    · rw [prodL, prodL_ins x y t, prodL]; grind
    · rw [prodL, prodL]
theorem prodL_sort (x : Int) (l : List Int) : prodL x (isortI l) = prodL x l := by
  have : ∀ (l acc : List Int), prodL x (l.foldl (fun acc x => insI x acc) acc) = prodL x acc * prodL x l := by
    intro l
    induction l with
    | nil => intro acc; simp [prodL]
    | cons f t ih => intro acc; rw [List.foldl_cons, ih, prodL_ins, prodL]; grind
  unfold isortI
  rw [this, prodL, Int.one_mul]
theorem lessI_app : ∀ (a b : List Int) (i : Int), lessI (a ++ b) i = lessI a i ++ lessI b (i + a.length)
  | [], b, i => by simp [lessI]
  | x :: a, b, i => by
    rw [List.cons_append, lessI, lessI, lessI_app a b (i + 1), List.cons_append, List.length_cons]
    congr 3
    omega
theorem pK_prod (l : List Int) (C : Nat) (h : Lens l C) (x : Int) : ∀ i, i ≤ l.length → pK l C x i = prodL x (lessI (l.take i) 0)
  | 0, _ => by
    unfold pK cK
    simp [sumN, prodI, Z, lessI, prodL]
  | i + 1, hi => by
    rw [pK_step l C h x i (by omega), pK_prod l C h x i (by omega), List.take_succ_eq_append_getElem (by omega), lessI_app, prodL_app]
    congr 1
    rw [List.length_take, lessI, lessI, prodL, prodL, Int.mul_one]
    congr 2
    omega
theorem gjw (l : List Int) (C : Nat) (h : Lens l C) (x : Int) : sumN (fun k => (((Z C (boardL l) 0).count k : Nat) : Int) * prodI x (l.length - k) 0) (l.length + 1) = prodL x (facL l) := by
  have := pK_prod l C h x l.length (Nat.le_refl _)
  rw [List.take_length] at this
  unfold facL
  rw [prodL_sort, ← this]
  unfold pK cK
  rw [List.take_of_length_le (by simp [boardL])]
/-- The number of full placements, as a product. -/
theorem cK_full (l : List Int) (C : Nat) (h : Lens l C) (i : Nat) (hi : i < l.length) : cK l C (i + 1) (i + 1) = (l[i].toNat - i) * cK l C i i := by
  rw [cK_step l C h i (i + 1) hi, cK_zero l C h i (i + 1) (by omega), if_neg (by omega), Nat.zero_add, Nat.add_sub_cancel]
theorem cK_bd (l : List Int) (C : Nat) (h : Lens l C) (i k : Nat) (hi : i ≤ 6) : cK l C i k ≤ 117649 := Z_small C h.c6 _ 0 (by rw [List.length_take]; omega) k
theorem good_lens {l : List Int} (g : Good l) : Lens l l.length := by
  refine ⟨by have := g.1; omega, fun x hx => ?_, up_get l g.2.2⟩
  have := g.2.1 x hx
  omega

/-- A polynomial's finite differences vanish. -/
def isP : Nat → (Int → Int) → Prop
  | 0, A => ∀ x, A x = 0
  | d + 1, A => isP d fun x => A (x + 1) - A x
theorem isP_add : ∀ (d : Nat) (A B : Int → Int), isP d A → isP d B → isP d fun x => A x + B x
  | 0, A, B, ha, hb => fun x => by show A x + B x = 0; rw [ha x, hb x]; rfl
  | d + 1, A, B, ha, hb => by
    have := isP_add d _ _ ha hb
    unfold isP
    have e : (fun x => A (x + 1) + B (x + 1) - (A x + B x)) = fun x => (A (x + 1) - A x) + (B (x + 1) - B x) := by funext x; omega
    rw [e]; exact this
theorem isP_shift : ∀ (d : Nat) (A : Int → Int), isP d A → isP d fun x => A (x + 1)
  | 0, A, h => fun x => h (x + 1)
  | d + 1, A, h => isP_shift d _ h
theorem isP_sub (d : Nat) (A B : Int → Int) (ha : isP d A) (hb : isP d B) : isP d fun x => A x - B x := by
  induction d generalizing A B with
  | zero => intro x; show A x - B x = 0; rw [ha x, hb x]; rfl
  | succ d ih =>
    have := ih _ _ ha hb
    unfold isP
    have e : (fun x => A (x + 1) - B (x + 1) - (A x - B x)) = fun x => (A (x + 1) - A x) - (B (x + 1) - B x) := by funext x; omega
    rw [e]; exact this
theorem isP_mul (f : Int) : ∀ (d : Nat) (A : Int → Int), isP d A → isP (d + 1) fun x => (x + f) * A x
  | 0, A, h => fun x => by
    show (x + 1 + f) * A (x + 1) - (x + f) * A x = 0
    rw [h x, h (x + 1)]; omega
  | d + 1, A, h => by
    have h1 := isP_mul f d _ h
    have h2 := isP_shift (d + 1) A h
    have h3 := isP_add (d + 1) _ _ h1 h2
    show isP (d + 1) fun x => (x + 1 + f) * A (x + 1) - (x + f) * A x
    have e : (fun x => (x + 1 + f) * A (x + 1) - (x + f) * A x) = fun x => (x + f) * (A (x + 1) - A x) + A (x + 1) := by funext x; grind
    rw [e]; exact h3
theorem isP_zero : ∀ (d : Nat) (A : Int → Int) (y : Int), isP d A → (∀ x, y < x → A x = 0) → ∀ x, A x = 0
  | 0, A, y, h, _, x => h x
  | d + 1, A, y, h, hz, x => by
    have h1 := isP_zero d _ y h (fun x hx => by show A (x + 1) - A x = 0; rw [hz x hx, hz (x + 1) (by omega)]; rfl)
    have step : ∀ n : Nat, A (y + 1 - n) = 0 := by
      intro n
      induction n with
      | zero => exact hz _ (by omega)
      | succ n ih =>
        have := h1 (y + 1 - ((n + 1 : Nat) : Int))
        rw [show y + 1 - ((n + 1 : Nat) : Int) + 1 = y + 1 - (n : Int) by omega, ih] at this
        omega
    by_cases hx : y < x
    · exact hz x hx
    · have := step (y + 1 - x).toNat
      rwa [show y + 1 - (((y + 1 - x).toNat : Nat) : Int) = x by omega] at this
theorem prodL_isP : ∀ l : List Int, isP (l.length + 1) fun x => prodL x l
  | [] => fun x => by show (1 : Int) - 1 = 0; rfl
  | f :: t => isP_mul f (t.length + 1) _ (prodL_isP t)
theorem prodL_pos (x : Int) : ∀ l : List Int, (∀ g ∈ l, 0 < x + g) → 0 < prodL x l
  | [], _ => by show (0 : Int) < 1; omega
  | g :: t, h => by
    rw [prodL]
    exact Int.mul_pos (h g (by simp)) (prodL_pos x t (fun y hy => h y (by simp [hy])))
theorem roots_eq : ∀ F G : List Int, up F → up G → F.length = G.length → (∀ x, prodL x F = prodL x G) → F = G
  | [], [], _, _, _, _ => rfl
  | [], _ :: _, _, _, h, _ => by simp at h
  | _ :: _, [], _, _, h, _ => by simp at h
  | f :: F, g :: G, hF, hG, hl, h => by
    have lo : ∀ (a b : Int) (A B : List Int), up (b :: B) → (∀ x, prodL x (a :: A) = prodL x (b :: B)) → ¬ a < b := by
      intro a b A B hu he hab
      have h1 := he (-a)
      rw [prodL, show -a + a = 0 by omega, Int.zero_mul] at h1
      have := prodL_pos (-a) (b :: B) (fun y hy => by
        rcases List.mem_cons.1 hy with rfl | hy
        · omega
        · obtain ⟨i, hi, e⟩ := List.getElem_of_mem hy
          have := up_get (b :: B) hu 0 (i + 1) (by simp) (by simpa using hi) (by omega)
          simp only [List.getElem_cons_zero, List.getElem_cons_succ, e] at this
          omega)
      omega
    have e : f = g := by
      have h1 := lo f g F G hG h
      have h2 := lo g f G F hF (fun x => (h x).symm)
      omega
    subst e
    have hl2 : F.length = G.length := by simpa using hl
    congr 1
    apply roots_eq F G (up_tail f F hF) (up_tail f G hG) hl2
    have hp := isP_sub (F.length + 1) _ _ (prodL_isP F) (by rw [hl2]; exact prodL_isP G)
    have hz := isP_zero (F.length + 1) _ (-f) hp (fun x hx => by
      have h1 := h x
      rw [prodL, prodL] at h1
      have h2 : (x + f) * (prodL x F - prodL x G) = 0 := by rw [Int.mul_sub, h1]; omega
      rcases Int.mul_eq_zero.1 h2 with h3 | h3
      · omega
      · exact h3)
    intro x
    have := hz x
    omega
theorem prodI_zero (j : Nat) : ∀ (m : Nat) (i : Nat), i ≤ j → j < i + m → prodI (j : Int) m (i : Int) = 0
  | 0, i, h1, h2 => by omega
  | m + 1, i, h1, h2 => by
    rw [prodI]
    by_cases e : i = j
    · rw [e, Int.sub_self, Int.zero_mul]
    · rw [show (i : Int) + 1 = ((i + 1 : Nat) : Int) by omega, prodI_zero j m (i + 1) (by omega) (by omega), Int.mul_zero]
theorem prodI_fact (j : Nat) : ∀ (m : Nat) (i : Nat), i + m = j → 0 < prodI (j : Int) m (i : Int)
  | 0, i, h => by show (0 : Int) < 1; omega
  | m + 1, i, h => by
    rw [prodI]
    refine Int.mul_pos (by omega) ?_
    rw [show (i : Int) + 1 = ((i + 1 : Nat) : Int) by omega]
    exact prodI_fact j m (i + 1) (by omega)
theorem sumN_zero (f : Nat → Int) : ∀ n, (∀ k, k < n → f k = 0) → sumN f n = 0
  | 0, _ => rfl
  | n + 1, h => by rw [sumN, sumN_zero f n (fun k hk => h k (by omega)), h n (by omega)]; rfl
theorem sumN_one (f : Nat → Int) (j : Nat) : ∀ n, j < n → (∀ k, k < n → k ≠ j → f k = 0) → sumN f n = f j
  | 0, h, _ => by omega
  | n + 1, h, hz => by
    rw [sumN]
    by_cases e : j = n
    · subst e
      rw [sumN_zero f j (fun k hk => hz k (by omega) (by omega)), Int.zero_add]
    · rw [sumN_one f j n (by omega) (fun k hk hkj => hz k (by omega) hkj), hz n (by omega) (fun h => e h.symm), Int.add_zero]
/-- Numbers before falling products are known by the values. -/
theorem fall_eq (n : Nat) (r s : Nat → Int) (h : ∀ x, sumN (fun k => r k * prodI x (n - k) 0) (n + 1) = sumN (fun k => s k * prodI x (n - k) 0) (n + 1)) : ∀ j, j ≤ n → r (n - j) = s (n - j) := by
  intro j
  induction j using Nat.strongRecOn with
  | ind j ih =>
    intro hj
    have h1 := h (j : Int)
    have e : sumN (fun k => (r k - s k) * prodI (j : Int) (n - k) 0) (n + 1) = 0 := by
      have h2 := sumN_add (fun k => (r k - s k) * prodI (j : Int) (n - k) 0) (fun k => s k * prodI (j : Int) (n - k) 0) (n + 1)
      have h3 : sumN (fun k => (r k - s k) * prodI (j : Int) (n - k) 0 + s k * prodI (j : Int) (n - k) 0) (n + 1) = sumN (fun k => r k * prodI (j : Int) (n - k) 0) (n + 1) := sumN_congr _ _ _ (fun k _ => by rw [← Int.add_mul, Int.sub_add_cancel])
      omega
    rw [sumN_one _ (n - j) (n + 1) (by omega) (fun k hk hkj => by
      by_cases hlt : n - k < j
      · have := ih (n - k) hlt (by omega)
        rw [show n - (n - k) = k by omega] at this
        rw [this, Int.sub_self, Int.zero_mul]
      · have := prodI_zero j (n - k) 0 (by omega) (by omega)
        rw [show ((0 : Nat) : Int) = 0 from rfl] at this
        rw [this, Int.mul_zero]), show n - (n - j) = j by omega] at e
    have hp := prodI_fact j j 0 (by omega)
    rw [show ((0 : Nat) : Int) = 0 from rfl] at hp
    rcases Int.mul_eq_zero.1 e with h3 | h3
    · omega
    · omega
theorem alike_iff (a b : List Int) (ga : Good a) (gb : Good b) (hl : a.length = b.length) : facL a = facL b ↔ numsL (a.length : Int) (a.length : Int) (boardL a) = numsL (b.length : Int) (b.length : Int) (boardL b) := by
  have ha := gjw a a.length (good_lens ga)
  have hb := gjw b b.length (good_lens gb)
  constructor
  · intro e
    unfold numsL HZ
    rw [← hl]
    apply List.map_congr_left
    intro k hk
    have hk := List.mem_range.1 hk
    have := fall_eq a.length (fun k => (((Z a.length (boardL a) 0).count k : Nat) : Int)) (fun k => (((Z a.length (boardL b) 0).count k : Nat) : Int)) (fun x => by
      have h1 := ha x
      have h2 := hb x
      rw [← hl] at h2
      rw [h1, h2, e]) (a.length - k) (by omega)
    rw [show a.length - (a.length - k) = k by omega] at this
    simpa using this
  · intro e
    refine roots_eq (facL a) (facL b) (isortI_up _) (isortI_up _) (by rw [facL_len, facL_len, hl]) ?_
    intro x
    rw [← ha x, ← hb x, ← hl]
    apply sumN_congr
    intro k hk
    congr 1
    have h1 : rd (numsL (a.length : Int) (a.length : Int) (boardL a)) (k : Int) = rd (numsL (b.length : Int) (b.length : Int) (boardL b)) (k : Int) := by rw [e]
    unfold numsL at h1
    rw [HZ_rd _ _ k (by omega), HZ_rd _ _ k (by omega), ← hl, Int.toNat_natCast] at h1
    exact h1

/-- A list comes before another one. -/
def ltL (a b : List Int) : Prop := ∃ (p : List Int) (x y : Int) (s t : List Int), a = p ++ x :: s ∧ b = p ++ y :: t ∧ x < y
theorem allL_pre (n : Nat) : ∀ (d : Nat) (l : List Int), ∀ q ∈ allL n d l, ∃ s, q = l ++ s
  | 0, l, q, hq => by simp only [allL, List.mem_singleton] at hq; exact ⟨[], by rw [hq, List.append_nil]⟩
  | d + 1, l, q, hq => by
    simp only [allL, List.mem_flatMap] at hq
    obtain ⟨i, _, hq⟩ := hq
    obtain ⟨s, e⟩ := allL_pre n d _ q hq
    exact ⟨(((l.getLastD 0).toNat + i : Nat) : Int) :: s, by rw [e, List.append_assoc]; rfl⟩
theorem allL_lex (n : Nat) : ∀ (d : Nat) (l : List Int), (allL n d l).Pairwise ltL
  | 0, l => by simp [allL]
  | d + 1, l => by
    simp only [allL]
    rw [List.pairwise_flatMap]
    refine ⟨fun i _ => allL_lex n d _, ?_⟩
    have h0 : (List.range (n + 1 - (l.getLastD 0).toNat)).Pairwise (fun i j => i < j) := List.pairwise_lt_range
    refine h0.imp ?_
    intro i j hij a ha b hb
    obtain ⟨s, rfl⟩ := allL_pre n d _ a ha
    obtain ⟨t, rfl⟩ := allL_pre n d _ b hb
    exact ⟨l, _, _, s, t, by rw [List.append_assoc]; rfl, by rw [List.append_assoc]; rfl, by omega⟩
theorem allL_all (n : Nat) : ∀ (s p : List Int), up (p ++ s) → (∀ x ∈ p ++ s, 0 ≤ x ∧ x ≤ (n : Int)) → p ++ s ∈ allL n s.length p
  | [], p, _, _ => by simp [allL]
  | x :: s, p, hu, hb => by
    have hx := hb x (by simp)
    have hlast : 0 ≤ p.getLastD 0 ∧ p.getLastD 0 ≤ x := by
      cases p with
      | nil => exact ⟨Int.le_refl _, by simpa using hx.1⟩
      | cons a t =>
        have hm : (a :: t).getLastD 0 ∈ a :: t := by
          rw [List.getLastD_cons, ← List.getLast_eq_getLastD]
          · exact List.getLast_mem _
          · exact List.cons_ne_nil _ _
        have h1 := hb _ (List.mem_append_left _ hm)
        obtain ⟨i, hi, e⟩ := List.getElem_of_mem hm
        have := up_get ((a :: t) ++ x :: s) hu i (a :: t).length (by simp at hi ⊢; omega) (by simp) (by simp at hi ⊢; omega)
        rw [List.getElem_append_left hi, List.getElem_append_right (Nat.le_refl _), e] at this
        simp only [Nat.sub_self, List.getElem_cons_zero] at this
        exact ⟨h1.1, this⟩
    rw [List.length_cons]
    simp only [allL, List.mem_flatMap, List.mem_range]
    refine ⟨(x - p.getLastD 0).toNat, by omega, ?_⟩
    have e : (((p.getLastD 0).toNat + (x - p.getLastD 0).toNat : Nat) : Int) = x := by omega
    rw [e]
    have h := allL_all n s (p ++ [x]) (by rw [List.append_assoc]; exact hu) (by rw [List.append_assoc]; exact hb)
    rw [List.append_assoc] at h
    exact h
theorem good_all (l : List Int) (g : Good l) : l ∈ allL l.length l.length [] := allL_all l.length l [] g.2.2 g.2.1
/-- What is asked of the list without equal numbers. -/
def stChk (st fac : List Int) : Bool := (st.all fun x => decide (0 ≤ x ∧ x ≤ 20)) && (List.range st.length).all fun i => (decide (i = 0) || !(decide (rd st (i : Int) < rd st ((i : Int) - 1)) || (decide (rd st (i : Int) = rd st ((i : Int) - 1)) && decide (rd st (i : Int) > 0)))) && decide ((lessI st 0).count (rd st (i : Int) - i) = fac.count (rd st (i : Int) - i))
def stL (l : List Int) : List Int := apL (List.replicate (zerosL (facL l)) 0) (skL (1 - (zerosL (facL l) : Int)) (zerosL (facL l)) (facL l))
def lenChk (n : Nat) (l : List Int) : Bool := decide (Good l) && (decide (facL (sideF l n 0) = facL l) && (decide (sideF (sideF l n 0) n 0 = l) && (decide (Good (sideF l n 0)) && stChk (stL l) (facL l))))

theorem eqI_l0 (a b : List Int) (hl : a.length ≤ 2000000) (hab : a.length = b.length) : ∀ (d i k : Nat), i + d = a.length → d < k → slices_Equal_int_int.l0 k a b (a.length : Int) (i : Int) = some (decide (a.drop i = b.drop i)) := by
  intro d
  induction d with
  | zero =>
    intro i k hi hk
    obtain ⟨k, rfl⟩ : ∃ m, k = m + 1 := ⟨k - 1, by omega⟩
    rw [slices_Equal_int_int.l0, if_neg (by omega), List.drop_of_length_le (by omega), List.drop_of_length_le (by omega)]; simp
  | succ d ih =>
    intro i k hi hk
    obtain ⟨k, rfl⟩ : ∃ m, k = m + 1 := ⟨k - 1, by omega⟩
    have h1 : i < a.length := by omega
    have h2 : i < b.length := by omega
    have c1 : (i : Int) < (a.length : Int) := by omega
    have c2 : 0 ≤ (i : Int) := by omega
    have c3 : (i : Int) < (b.length : Int) := by omega
    rw [slices_Equal_int_int.l0]
    simp only [if_pos c1, if_pos c2, if_pos c3]
    rw [w64 (x := (i : Int) + 1) (by omega) (by omega), show ((i : Int) + 1) = ((i + 1 : Nat) : Int) from by omega, rd_nat a i h1, rd_nat b i h2, List.drop_eq_getElem_cons h1, List.drop_eq_getElem_cons h2]
    by_cases e : a[i] = b[i]
    · rw [if_pos e, ih (i + 1) k (by omega) (by omega), e]; simp only [List.cons.injEq, true_and]
    · rw [if_neg e]; simp only [List.cons.injEq, e, false_and, decide_false]
theorem i_Equal (k : Nat) (a b : List Int) (hl : a.length ≤ 1000000) (hk : a.length < k) : slices_Equal_int_int.f k a b = some (decide (a = b)) := by
  unfold slices_Equal_int_int.f
  by_cases h : a.length = b.length
  · rw [if_pos (by omega)]
    have := eqI_l0 a b (by omega) h a.length 0 k (by omega) hk
    rw [List.drop_zero, List.drop_zero] at this
    exact this
  · rw [if_neg (by omega), decide_eq_false (fun e => h (by rw [e]))]

theorem rSame_l0 (a b : List Int) (hl : a.length ≤ 2000000) (hab : a.length = b.length) : ∀ (d i k : Nat), i + d = a.length → d < k → laws_rSame.l0 k a b (a.length : Int) (i : Int) = some (decide (a.drop i = b.drop i)) := by
  intro d
  induction d with
  | zero =>
    intro i k hi hk
    obtain ⟨k, rfl⟩ : ∃ m, k = m + 1 := ⟨k - 1, by omega⟩
    rw [laws_rSame.l0, if_neg (by omega), List.drop_of_length_le (by omega), List.drop_of_length_le (by omega)]; simp
  | succ d ih =>
    intro i k hi hk
    obtain ⟨k, rfl⟩ : ∃ m, k = m + 1 := ⟨k - 1, by omega⟩
    have h1 : i < a.length := by omega
    have h2 : i < b.length := by omega
    rw [laws_rSame.l0, if_pos (by omega), if_pos (by omega), if_pos (by omega), if_pos (by omega), w64 (by omega) (by omega), show ((i : Int) + 1) = ((i + 1 : Nat) : Int) from by omega, rd_nat a i h1, rd_nat b i h2, List.drop_eq_getElem_cons h1, List.drop_eq_getElem_cons h2]
    by_cases e : a[i] = b[i]
    · rw [if_pos e, ih (i + 1) k (by omega) (by omega), e]; simp only [List.cons.injEq, true_and]
    · rw [if_neg e]; simp only [List.cons.injEq, e, false_and, decide_false]
theorem rSame_eq (k : Nat) (a b : List Int) (hl : a.length ≤ 1000000) (hk : a.length < k) : laws_rSame.f k a b = some (decide (a = b)) := by
  unfold laws_rSame.f
  by_cases h : a.length = b.length
  · rw [if_pos (by omega)]
    have := rSame_l0 a b (by omega) h a.length 0 k (by omega) hk
    rw [List.drop_zero, List.drop_zero] at this
    exact this
  · rw [if_neg (by omega), decide_eq_false (fun e => h (by rw [e]))]
theorem rSame_self (k : Nat) (a : List Int) (hl : a.length ≤ 1000000) (hk : a.length < k) : laws_rSame.f k a a = some true := by
  rw [rSame_eq k a a hl hk, decide_eq_true rfl]

theorem wu64 (n : Int) : IntKind.u64.wrap n = n % 18446744073709551616 := by simp [IntKind.wrap, IntKind.bits, IntKind.signed]
theorem and255 (x : Int) (h0 : 0 ≤ x) (h1 : x < 18446744073709551616) : Go.bits .and .u64 x 255 = x % 256 := by
  have := Go.bits_mask .u64 64 (by decide) (fun n h0 h1 => by rw [wu64]; exact Int.emod_eq_of_lt h0 (by simpa using h1)) 8 (by decide) x h0 (by simpa using h1)
  simpa using this
theorem and255w (n : Int) : 0 ≤ wrap64 (Go.bits .and .u64 (IntKind.u64.wrap n / 1099511627776) 255) ∧ wrap64 (Go.bits .and .u64 (IntKind.u64.wrap n / 1099511627776) 255) ≤ 255 := by
  rw [and255 _ (by rw [wu64]; omega) (by rw [wu64]; omega), w64 (by omega) (by omega)]
  omega
def CodeOK (code : List Int) : Prop := code.length ≤ 1048576 ∧ ∀ x ∈ code, 0 ≤ x ∧ x ≤ 255
theorem code_ok (code : List Int) (h : code.length ≤ 1048576) (hw : ∀ x ∈ code, (Lit.int .u8 x).wf = true) : CodeOK code := by
  refine ⟨h, fun x hx => ?_⟩
  have := hw x hx
  simp only [Lit.wf, Bool.and_eq_true, decide_eq_true_eq] at this
  have h1 : IntKind.u8.min = 0 := rfl
  have h2 : IntKind.u8.max = 255 := rfl
  rw [h1, h2] at this
  exact this
/-- A place of the bytes that a draw may have come to. -/
def PL (n i : Int) : Prop := 0 ≤ i ∧ i ≤ n
theorem d_next (code : List Int) (hc : CodeOK code) (i u : Int) (hi : 0 ≤ i ∧ i ≤ 1000000000) : ∃ v u', spec_l1Cur_next.f code i u = some (v, i + 1, u') ∧ 0 ≤ v ∧ v ≤ 255 := by
  have hl := hc.1
  unfold spec_l1Cur_next.f
  rw [w64 (x := i + 1) (by omega) (by omega)]
  by_cases h : i < (code.length : Int)
  · rw [if_pos h, if_pos hi.1, if_pos (show i + 1 ≤ (code.length : Int) by omega)]
    refine ⟨_, _, rfl, ?_⟩
    obtain ⟨j, rfl⟩ := Int.eq_ofNat_of_zero_le hi.1
    have hj : j < code.length := by omega
    rw [rd_nat code j hj]
    have := hc.2 _ (List.getElem_mem hj)
    rw [w64 (by omega) (by omega)]
    exact this
  · rw [if_neg h, if_neg (show ¬ i + 1 ≤ (code.length : Int) by omega)]
    exact ⟨_, _, rfl, and255w _⟩
theorem d_pick (code : List Int) (hc : CodeOK code) (i u n : Int) (N : Int) (hi : PL N i) (hN : N ≤ 100000000) : ∃ v i' u', spec_l1Cur_pick.f code i u n = some (v, i', u') ∧ PL (N + 2) i' ∧ 0 ≤ v ∧ (1 ≤ n → v < n) := by
  unfold PL at hi ⊢
  unfold spec_l1Cur_pick.f
  by_cases h : n ≤ 1
  · rw [if_pos h]
    exact ⟨_, _, _, rfl, by omega, by omega, by omega⟩
  · rw [if_neg h]
    obtain ⟨v, u', e, h0, h1⟩ := d_next code hc i u (by omega)
    rw [e, Option.bind_some]
    by_cases h2 : n > 200
    · obtain ⟨v2, u2, e2, h3, h4⟩ := d_next code hc (i + 1) u' (by omega)
      rw [if_pos h2]
      simp only
      rw [e2, Option.bind_some, if_neg (show ¬ n = 0 by omega)]
      refine ⟨_, _, _, rfl, by simp only; omega, ?_⟩
      rw [w64 (x := v * 256) (by omega) (by omega), w64 (by omega) (by omega), Int.tmod_eq_emod_of_nonneg (by omega)]
      exact ⟨Int.emod_nonneg _ (by omega), fun _ => Int.emod_lt_of_pos _ (by omega)⟩
    · rw [if_neg h2, if_neg (show ¬ n = 0 by omega)]
      refine ⟨_, _, _, rfl, by simp only; omega, ?_⟩
      simp only
      rw [Int.tmod_eq_emod_of_nonneg (by omega)]
      exact ⟨Int.emod_nonneg _ (by omega), fun _ => Int.emod_lt_of_pos _ (by omega)⟩

theorem d_one (code : List Int) (hc : CodeOK code) (i u n : Int) (N : Int) (hi : PL N i) (hN : N ≤ 100000000) : ∃ v i' u', spec_l1Cur_one.f code i u n = some (v, i', u') ∧ PL (N + 2) i' := by
  unfold spec_l1Cur_one.f
  obtain ⟨v, i', u', e, h, _⟩ := d_pick code hc i u n N hi hN
  rw [e]
  exact ⟨_, _, _, rfl, h⟩

theorem d_sides (code : List Int) (hc : CodeOK code) (i u : Int) (N : Int) (hi : PL N i) (hN : N ≤ 10000000) : ∃ v i' u', spec_l1Cur_sides.f code i u = some (v, i', u') ∧ PL (N + 4) i' ∧ 1 ≤ v ∧ v ≤ 6 := by
  unfold spec_l1Cur_sides.f
  obtain ⟨b, i1, u1, e, h⟩ := d_one code hc i u 8 N hi (by omega)
  rw [e, Option.bind_some]
  by_cases hb : b = true
  · rw [if_pos hb]
    exact ⟨_, _, _, rfl, by unfold PL at h ⊢; simp only; omega, by omega, by omega⟩
  · rw [if_neg hb]
    obtain ⟨v, i2, u2, e2, h2, h3, h4⟩ := d_pick code hc i1 u1 5 (N + 2) h (by omega)
    have h5 := h4 (by omega)
    rw [e2]
    refine ⟨_, _, _, rfl, by rw [show N + 4 = N + 2 + 2 by omega]; exact h2, ?_⟩
    simp only
    rw [w64 (by omega) (by omega)]; omega

theorem d_lengths_l0 (code : List Int) (hc : CodeOK code) (n : Nat) (h1 : 1 ≤ n) (h6 : n ≤ 6) : ∀ (d i k : Nat) (acc : List Int) (j u N : Int), i + d = n → acc.length = i → d + 2000 < k → PL N j → N + 2 * d ≤ 100000 → ∃ L i' u', spec_l1Cur_lengths.l0 k (n : Int) acc (i : Int) code j u = some (L, i', u') ∧ 1 ≤ L.length ∧ L.length ≤ 7 ∧ PL (N + 2 * d + 6) i' := by
  intro d
  induction d with
  | zero =>
    intro i k acc j u N hi ha hk hj hN
    obtain ⟨k, rfl⟩ : ∃ m, k = m + 1 := ⟨k - 1, by omega⟩
    have hs := isortI_len acc
    rw [spec_l1Cur_lengths.l0, if_neg (by omega), e_feSorted k acc (by omega) (by omega), Option.bind_some]
    obtain ⟨v, j1, u1, e1, h2, _⟩ := d_pick code hc j u 14 N hj (by omega)
    rw [e1, Option.bind_some]
    simp only
    by_cases c0 : v = 0
    · rw [if_pos c0]
      obtain ⟨v2, j2, u2, e2, h3, h4, h5⟩ := d_pick code hc j1 u1 (n : Int) (N + 2) h2 (by omega)
      rw [e2, Option.bind_some]
      simp only
      obtain ⟨v3, j3, u3, e3, h7, _⟩ := d_pick code hc j2 u2 (wrap64 ((n : Int) + 3)) (N + 2 + 2) h3 (by omega)
      have := h5 (by omega)
      rw [e3, Option.bind_some, if_pos h4, if_pos (by omega)]
      exact ⟨_, _, _, rfl, by simp only [List.length_set]; omega, by simp only [List.length_set]; omega, by unfold PL at h7 ⊢; simp only; omega⟩
    · rw [if_neg c0]
      by_cases c1 : v = 1
      · rw [if_pos c1, if_pos (by omega)]
        exact ⟨_, _, _, rfl, by simp, by simp; omega, by unfold PL at h2 ⊢; omega⟩
      · rw [if_neg c1]
        by_cases c2 : v = 2
        · rw [if_pos c2]
          obtain ⟨v2, j2, u2, e2, h3, h4, h5⟩ := d_pick code hc j1 u1 2 (N + 2) h2 (by omega)
          have := h5 (by omega)
          rw [e2, Option.bind_some]
          simp only
          rw [w64 (x := 6 + v2) (by omega) (by omega), if_pos (by omega), if_pos (by omega)]
          exact ⟨_, _, _, rfl, by simp only [List.length_replicate]; omega, by simp only [List.length_replicate]; omega, by unfold PL at h3 ⊢; omega⟩
        · rw [if_neg c2]
          exact ⟨_, _, _, rfl, by omega, by omega, by unfold PL at h2 ⊢; omega⟩
  | succ d ih =>
    intro i k acc j u N hi ha hk hj hN
    obtain ⟨k, rfl⟩ : ∃ m, k = m + 1 := ⟨k - 1, by omega⟩
    rw [spec_l1Cur_lengths.l0, if_pos (by omega)]
    obtain ⟨v, j1, u1, e1, h2, _⟩ := d_pick code hc j u (wrap64 ((n : Int) + 1)) N hj (by omega)
    rw [e1, Option.bind_some, if_pos (by omega), w64 (x := (i : Int) + 1) (by omega) (by omega), show ((i : Int) + 1) = ((i + 1 : Nat) : Int) from by omega]
    obtain ⟨L, i', u', e, h3, h4, h5⟩ := ih (i + 1) k (acc ++ [v]) j1 u1 (N + 2) (by omega) (by simp; omega) (by omega) h2 (by omega)
    exact ⟨L, i', u', e, h3, h4, by unfold PL at h5 ⊢; omega⟩
theorem d_lengths (k : Nat) (code : List Int) (hc : CodeOK code) (i u N : Int) (hi : PL N i) (hN : N ≤ 10000) (hk : 3000 ≤ k) : ∃ L i' u', spec_l1Cur_lengths.f k code i u = some (L, i', u') ∧ 1 ≤ L.length ∧ L.length ≤ 7 ∧ PL (N + 100) i' := by
  unfold spec_l1Cur_lengths.f
  obtain ⟨v, i1, u1, e1, h1, h2, h3⟩ := d_sides code hc i u N hi (by omega)
  rw [e1, Option.bind_some]
  simp only
  obtain ⟨L, i', u', e, h4, h5, h6⟩ := d_lengths_l0 code hc v.toNat (by omega) (by omega) v.toNat 0 k [] i1 u1 (N + 4) (by omega) rfl (by omega) h1 (by omega)
  rw [show ((v.toNat : Nat) : Int) = v by omega, show ((0 : Nat) : Int) = 0 from rfl] at e
  exact ⟨L, i', u', e, h4, h5, by unfold PL at h6 ⊢; omega⟩

theorem rd_in (l : List Int) (i : Int) (h0 : 0 ≤ i) (h1 : i < (l.length : Int)) : rd l i ∈ l := by
  obtain ⟨j, rfl⟩ := Int.eq_ofNat_of_zero_le h0
  have hj : j < l.length := by omega
  rw [rd_nat l j hj]
  exact List.getElem_mem hj
theorem d_among (code : List Int) (hc : CodeOK code) (i u : Int) (l : List Int) (N : Int) (hl : l ≠ []) (hi : PL N i) (hN : N ≤ 100000000) : ∃ v i' u', spec_l1Cur_among.f code i u l = some (v, i', u') ∧ PL (N + 2) i' ∧ v ∈ l := by
  unfold spec_l1Cur_among.f
  have hp : 0 < l.length := by cases l with | nil => exact absurd rfl hl | cons a t => simp
  obtain ⟨v, i', u', e, h, h0, h1⟩ := d_pick code hc i u (l.length : Int) N hi hN
  have h2 := h1 (by omega)
  rw [e, Option.bind_some, if_pos h0, if_pos h2]
  exact ⟨_, _, _, rfl, h, rd_in l v h0 h2⟩

theorem lens_chk0 : ∀ n : Fin 5, (allL (n.val + 1) (n.val + 1) []).all (lenChk (n.val + 1)) = true := by decide +kernel
theorem lens_chk1 : ((allL 6 6 []).take 300).all (lenChk 6) = true := by decide +kernel
theorem lens_chk2 : (((allL 6 6 []).drop 300).take 300).all (lenChk 6) = true := by decide +kernel
theorem lens_chk3 : (((allL 6 6 []).drop 300).drop 300).all (lenChk 6) = true := by decide +kernel
theorem lens_chk6 : (allL 6 6 []).all (lenChk 6) = true := by
  have e : allL 6 6 [] = (allL 6 6 []).take 300 ++ (((allL 6 6 []).drop 300).take 300 ++ ((allL 6 6 []).drop 300).drop 300) := by rw [List.take_append_drop, List.take_append_drop]
  rw [e, List.all_append, List.all_append, lens_chk1, lens_chk2, lens_chk3]; rfl
theorem lens_chk : ∀ n : Fin 6, (allL (n.val + 1) (n.val + 1) []).all (lenChk (n.val + 1)) = true := by
  intro n
  by_cases h : n.val < 5
  · exact lens_chk0 ⟨n.val, h⟩
  · rw [show n.val = 5 by omega]; exact lens_chk6
theorem len_facts (n : Nat) (h1 : 1 ≤ n) (h6 : n ≤ 6) (l : List Int) (h : l ∈ allL n n []) : Good l ∧ l.length = n ∧ facL (sideF l n 0) = facL l ∧ sideF (sideF l n 0) n 0 = l ∧ Good (sideF l n 0) ∧ stChk (stL l) (facL l) = true := by
  have hk := lens_chk ⟨n - 1, by omega⟩
  simp only [show n - 1 + 1 = n by omega] at hk
  have := List.all_eq_true.1 hk l h
  unfold lenChk at this
  simp only [Bool.and_eq_true, decide_eq_true_eq] at this
  have hl := (allL_mem n n [] (by simp) l h).1
  rw [List.length_nil, Nat.zero_add] at hl
  exact ⟨this.1, hl, this.2.1, this.2.2.1, this.2.2.2.1, this.2.2.2.2⟩
def aalOut (l m : List Int) : Bool × Bool := if Good l ∧ Good m then (decide (facL l = facL m), true) else (false, false)
theorem i_AreAlikeLengths (k : Nat) (l m : List Int) (hk : 10000 ≤ k) (hl : l.length ≤ 1000) (hm : m.length ≤ 1000) : impl_AreAlikeLengths.f k l m = some (aalOut l m) := by
  unfold impl_AreAlikeLengths.f
  obtain ⟨k, rfl⟩ : ∃ m, k = m + 1 := ⟨k - 1, by omega⟩
  rw [i_AreLengths _ l (by omega) (by omega), Option.bind_some]
  rw [i_AreLengths _ m (by omega) (by omega), Option.bind_some]
  rw [impl_AreAlikeLengths.j0, impl_AreAlikeLengths.j0]
  by_cases h : Good l
  · by_cases h' : Good m
    · have h6 := (good6 h).1
      have hn := facL_len l
      have e : aalOut l m = (decide (facL l = facL m), true) := by unfold aalOut; rw [if_pos ⟨h, h'⟩]
      rw [decide_eq_true h, decide_eq_true h', e]
      simp only [Bool.not_true, Bool.false_eq_true, if_false, if_true]
      rw [i_factors k l h (by omega), i_factors k m h' (by omega)]
      simp only [Option.bind_some]
      rw [i_Equal k _ _ (by omega) (by omega)]; rfl
    · have e : aalOut l m = (false, false) := by unfold aalOut; rw [if_neg (fun x => h' x.2)]
      rw [decide_eq_true h, decide_eq_false h', e]
      simp only [Bool.not_false, if_true]
  · have e : aalOut l m = (false, false) := by unfold aalOut; rw [if_neg (fun x => h x.1)]
    rw [decide_eq_false h, e]
    simp only [Bool.false_eq_true, if_false, if_true]
theorem e_AreAlikeLengths (k : Nat) (l m : List Int) (hk : 2000000 ≤ k) (hl : l.length ≤ 1000) (hm : m.length ≤ 1000) : spec_AreAlikeLengths.f k l m = some (aalOut l m) := by
  obtain ⟨o, h1, h2⟩ := both_AreAlikeLengths k k l m hk hk (by omega) (by omega)
  rw [i_AreAlikeLengths k l m (by omega) hl hm] at h2
  rw [h1, h2]
/-! ### the class -/
theorem hav_facts (m : List Int) (g : Good m) : ∀ q ∈ havL (facL m), Good q ∧ q.length = m.length ∧ facL q = facL m := by
  intro q hq
  unfold havL at hq
  rw [List.mem_filter, facL_len] at hq
  have g1 := g.1
  have f := len_facts m.length (by omega) (by omega) q hq.1
  exact ⟨f.1, f.2.1, of_decide_eq_true hq.2⟩
theorem hav_own (m : List Int) (g : Good m) : m ∈ havL (facL m) := by
  unfold havL
  rw [List.mem_filter, facL_len]
  exact ⟨good_all m g, decide_eq_true rfl⟩
theorem hav_lex (own : List Int) : (havL own).Pairwise ltL := by
  unfold havL
  exact (allL_lex own.length own.length []).filter _
theorem rLess_l0 (p s t : List Int) (x y : Int) (hxy : x < y) (hl : (p ++ x :: s).length ≤ 1000) : ∀ (d i k : Nat), i + d = p.length → d < k → laws_rLess.l0 k (p ++ x :: s) (p ++ y :: t) ((p ++ x :: s).length : Int) (i : Int) = some true
  | 0, i, k, hi, hk => by
    obtain ⟨k, rfl⟩ : ∃ m, k = m + 1 := ⟨k - 1, by omega⟩
    have e : i = p.length := by omega
    subst e
    rw [laws_rLess.l0, if_pos (by simp; omega), if_pos (by omega), if_pos (by simp; omega), if_pos (by simp; omega), rd_mid p s x, rd_mid p t y, if_neg (by omega), decide_eq_true hxy]
  | d + 1, i, k, hi, hk => by
    obtain ⟨k, rfl⟩ : ∃ m, k = m + 1 := ⟨k - 1, by omega⟩
    have h1 : i < (p ++ x :: s).length := by simp; omega
    have h2 : i < (p ++ y :: t).length := by simp; omega
    have h3 : i < p.length := by omega
    rw [laws_rLess.l0, if_pos (by omega), if_pos (by omega), if_pos (by omega), if_pos (by omega), rd_nat _ i h1, rd_nat _ i h2, List.getElem_append_left h3, List.getElem_append_left h3, if_pos rfl, w64 (by omega) (by omega), show ((i : Int) + 1) = ((i + 1 : Nat) : Int) from by omega]
    exact rLess_l0 p s t x y hxy hl d (i + 1) k (by omega) (by omega)
theorem rLess_lt (k : Nat) (a b : List Int) (h : ltL a b) (hl : a.length ≤ 1000) (hk : 2000 < k) : laws_rLess.f k a b = some true := by
  obtain ⟨p, x, y, s, t, rfl, rfl, hxy⟩ := h
  unfold laws_rLess.f
  have := rLess_l0 p s t x y hxy hl p.length 0 k (by omega) (by simp at hl; omega)
  rwa [show ((0 : Nat) : Int) = 0 from rfl] at this
theorem rSameRows_l0 (L : List (List Int)) (hL : L.length ≤ 200000) (hx : ∀ q ∈ L, q.length ≤ 6) : ∀ (d i k : Nat), i + d = L.length → d + 100 < k → laws_rSameRows.l0 k L L (L.length : Int) (i : Int) = some true
  | 0, i, k, hi, hk => by
    obtain ⟨k, rfl⟩ : ∃ m, k = m + 1 := ⟨k - 1, by omega⟩
    rw [laws_rSameRows.l0, if_neg (by omega)]
  | d + 1, i, k, hi, hk => by
    obtain ⟨k, rfl⟩ : ∃ m, k = m + 1 := ⟨k - 1, by omega⟩
    have hlt : i < L.length := by omega
    have := hx _ (List.getElem_mem hlt)
    rw [laws_rSameRows.l0, if_pos (by omega), if_pos (by omega), if_pos (by omega), if_pos (by omega), rdLL L i hlt, rSame_self _ _ (by omega) (by omega), Option.bind_some, if_pos rfl, w64 (by omega) (by omega), show ((i : Int) + 1) = ((i + 1 : Nat) : Int) from by omega]
    exact rSameRows_l0 L hL hx d (i + 1) k (by omega) (by omega)
theorem rSameRows_self (k : Nat) (L : List (List Int)) (hL : L.length ≤ 200000) (hx : ∀ q ∈ L, q.length ≤ 6) (hk : 300000 < k) : laws_rSameRows.f k L L = some true := by
  unfold laws_rSameRows.f
  rw [if_pos rfl]
  have := rSameRows_l0 L hL hx L.length 0 k (by omega) (by omega)
  rwa [show ((0 : Nat) : Int) = 0 from rfl] at this
/-! ### the loops of the law -/
theorem law_l3 (x15 x22 x26 : List Int) (x37 x45 : Bool) (fac : List Int) (hf : fac.length ≤ 1000) (i : Nat) (hi : i ≤ 1000) (m : Int) (hm : 0 ≤ m ∧ m ≤ 20) (x48 : Int) (L : List Int) (n : Int) : ∀ (t : List Int) (j c k : Nat), fac.drop j = t → j + t.length = fac.length → c + t.length ≤ 5000 → t.length < k →
    laws_FnAlikeLengths.l3 (k + t.length + 1) x15 x22 x26 x37 fac x45 (i : Int) m x48 (c : Int) L n (i : Int) fac (fac.length : Int) (j : Int) = (if x48 = ((c + t.count (m - i) : Nat) : Int) then laws_FnAlikeLengths.l1 k x15 x22 x26 x37 fac x45 L n ((i + 1 : Nat) : Int) else some false)
  | [], j, c, k, ht, hj, hc, hk => by
    simp only [List.length_nil, Nat.add_zero] at hj ⊢
    rw [laws_FnAlikeLengths.l3, if_neg (by omega), w64 (x := (i : Int) + 1) (by omega) (by omega)]; rfl
  | f :: t, j, c, k, ht, hj, hc, hk => by
    simp only [List.length_cons] at hj hc hk
    have hlt : j < fac.length := by omega
    have hd := List.drop_eq_getElem_cons hlt
    rw [ht] at hd
    injection hd with e1 e2
    rw [List.length_cons, show k + (t.length + 1) + 1 = (k + t.length + 1) + 1 by omega, laws_FnAlikeLengths.l3, if_pos (by omega), if_pos (by omega), if_pos (by omega), rd_nat fac j hlt, ← e1, w64 (x := m - (i : Int)) (by omega) (by omega), w64 (x := (j : Int) + 1) (by omega) (by omega), w64 (x := (c : Int) + 1) (by omega) (by omega), show ((j : Int) + 1) = ((j + 1 : Nat) : Int) from by omega, show ((c : Int) + 1) = ((c + 1 : Nat) : Int) from by omega]
    rw [law_l3 x15 x22 x26 x37 x45 fac hf i hi m hm x48 L n t (j + 1) (c + 1) k e2.symm (by omega) (by omega) (by omega), law_l3 x15 x22 x26 x37 x45 fac hf i hi m hm x48 L n t (j + 1) c k e2.symm (by omega) (by omega) (by omega)]
    by_cases h : f = m - (i : Int)
    · have e : (f :: t).count (m - i) = t.count (m - i) + 1 := by rw [List.count_cons, if_pos (by rw [h]; simp)]
      rw [if_pos h, e, show c + 1 + t.count (m - i) = c + (t.count (m - i) + 1) by omega]
    · have e : (f :: t).count (m - i) = t.count (m - i) := by rw [List.count_cons, if_neg (by simpa using h), Nat.add_zero]
      rw [if_neg h, e]
theorem law_l2 (x15 st x26 : List Int) (x37 x45 : Bool) (fac : List Int) (hf : fac.length ≤ 1000) (hs : st.length ≤ 1000) (hx : ∀ x ∈ st, 0 ≤ x ∧ x ≤ 20) (i : Nat) (hi : i ≤ 1000) (m : Int) (hm : 0 ≤ m ∧ m ≤ 20) (n : Int) : ∀ (t : List Int) (j c k : Nat), st.drop j = t → j + t.length = st.length → c + t.length ≤ 5000 → fac.length < k →
    laws_FnAlikeLengths.l2 (k + fac.length + 1 + t.length + 1) x15 st x26 x37 fac x45 (i : Int) m (c : Int) 0 st n (i : Int) st (st.length : Int) (j : Int) = (if c + (lessI t (j : Int)).count (m - i) = fac.count (m - i) then laws_FnAlikeLengths.l1 k x15 st x26 x37 fac x45 st n ((i + 1 : Nat) : Int) else some false)
  | [], j, c, k, ht, hj, hc, hk => by
    simp only [List.length_nil, Nat.add_zero] at hj ⊢
    have := law_l3 x15 st x26 x37 x45 fac hf i hi m hm (c : Int) st n fac 0 0 k (by simp) (by omega) (by omega) (by omega)
    rw [show ((0 : Nat) : Int) = 0 from rfl] at this
    rw [laws_FnAlikeLengths.l2, if_neg (by omega), this, lessI, List.count_nil, Nat.add_zero, Nat.zero_add]
    by_cases h : c = fac.count (m - i)
    · rw [if_pos (by omega), if_pos (show c + 0 = _ from h)]
    · rw [if_neg (by omega), if_neg (show ¬ c + 0 = _ from h)]
  | f :: t, j, c, k, ht, hj, hc, hk => by
    simp only [List.length_cons] at hj hc
    have hlt : j < st.length := by omega
    have hd := List.drop_eq_getElem_cons hlt
    rw [ht] at hd
    injection hd with e1 e2
    have hb := hx st[j] (List.getElem_mem hlt)
    rw [List.length_cons, show k + fac.length + 1 + (t.length + 1) + 1 = (k + fac.length + 1 + t.length + 1) + 1 by omega, laws_FnAlikeLengths.l2, if_pos (by omega), if_pos (by omega), if_pos (by omega), rd_nat st j hlt, w64 (x := st[j] - (j : Int)) (by omega) (by omega), w64 (x := m - (i : Int)) (by omega) (by omega), w64 (x := (j : Int) + 1) (by omega) (by omega), w64 (x := (c : Int) + 1) (by omega) (by omega), show ((j : Int) + 1) = ((j + 1 : Nat) : Int) from by omega, show ((c : Int) + 1) = ((c + 1 : Nat) : Int) from by omega, ← e1]
    rw [law_l2 x15 st x26 x37 x45 fac hf hs hx i hi m hm n t (j + 1) (c + 1) k e2.symm (by omega) (by omega) hk, law_l2 x15 st x26 x37 x45 fac hf hs hx i hi m hm n t (j + 1) c k e2.symm (by omega) (by omega) hk, lessI, show ((j : Int) + 1) = ((j + 1 : Nat) : Int) from by omega]
    by_cases h : f - (j : Int) = m - (i : Int)
    · have e : ((f - (j : Int)) :: lessI t ((j + 1 : Nat) : Int)).count (m - i) = (lessI t ((j + 1 : Nat) : Int)).count (m - i) + 1 := by rw [List.count_cons, if_pos (by rw [h]; simp)]
      rw [if_pos h, e, show c + 1 + (lessI t ((j + 1 : Nat) : Int)).count (m - i) = c + ((lessI t ((j + 1 : Nat) : Int)).count (m - i) + 1) by omega]
    · have e : ((f - (j : Int)) :: lessI t ((j + 1 : Nat) : Int)).count (m - i) = (lessI t ((j + 1 : Nat) : Int)).count (m - i) := by rw [List.count_cons, if_neg (by simpa using h), Nat.add_zero]
      rw [if_neg h, e]
theorem law_l1 (m : List Int) (g : Good m) (hst : (stL m).length ≤ 100) (hc : stChk (stL m) (facL m) = true) : ∀ (d i k : Nat), i + d = (stL m).length → d * 200 + 100000 < k →
    laws_FnAlikeLengths.l1 k m (stL m) (sideF m m.length 0) true (facL m) true (stL m) ((stL m).length : Int) (i : Int) = some true
  | 0, i, k, hi, hk => by
    obtain ⟨k, rfl⟩ : ∃ m, k = m + 1 := ⟨k - 1, by omega⟩
    have g1 := g.1
    have f := len_facts m.length (by omega) (by omega) m (good_all m g)
    have hsl := sideF_len m m.length 0
    have e1 : aalOut (sideF m m.length 0) m = (true, true) := by unfold aalOut; rw [if_pos ⟨f.2.2.2.2.1, g⟩, f.2.2.1, decide_eq_true rfl]
    have e2 : sideOut (sideF m m.length 0) = (m, true) := by unfold sideOut; rw [if_pos f.2.2.2.2.1, hsl, f.2.2.2.1]
    rw [laws_FnAlikeLengths.l1, if_neg (by omega), i_AreAlikeLengths k _ _ (by omega) (by omega) (by omega), Option.bind_some, i_SideOfLengths k _ (by omega) (by omega) (by omega), Option.bind_some, if_pos rfl, if_pos rfl, e1, e2, if_pos rfl, if_pos rfl, if_pos rfl]
    simp only
    rw [rSame_self _ _ (by omega) (by omega)]; rfl
  | d + 1, i, k, hi, hk => by
    have hlt : i < (stL m).length := by omega
    have hfl := facL_len m
    have h6 := (good6 g).1
    have hc0 := hc
    unfold stChk at hc
    rw [Bool.and_eq_true] at hc
    have hx : ∀ x ∈ stL m, 0 ≤ x ∧ x ≤ 20 := fun x hx => of_decide_eq_true (List.all_eq_true.1 hc.1 x hx)
    have hi2 := List.all_eq_true.1 hc.2 i (List.mem_range.2 hlt)
    rw [Bool.and_eq_true] at hi2
    have hcount := of_decide_eq_true hi2.2
    have hb := hx (stL m)[i] (List.getElem_mem hlt)
    rw [rd_nat (stL m) i hlt] at hcount
    obtain ⟨k, rfl⟩ : ∃ q, k = (q + (facL m).length + 1 + (stL m).length + 1) + 1 + 1 := ⟨k - (facL m).length - (stL m).length - 4, by omega⟩
    have hl2 := law_l2 m (stL m) (sideF m m.length 0) true true (facL m) (by omega) (by omega) hx i (by omega) (stL m)[i] hb ((stL m).length : Int) (stL m) 0 0 k (by simp) (by omega) (by omega) (by omega)
    rw [show ((0 : Nat) : Int) = 0 from rfl, Nat.zero_add, if_pos hcount, law_l1 m g hst hc0 d (i + 1) k (by omega) (by omega)] at hl2
    have hj8 : laws_FnAlikeLengths.j8 (k + (facL m).length + 1 + (stL m).length + 1 + 1) m (stL m) (sideF m m.length 0) true (facL m) true (i : Int) (stL m)[i] (stL m) ((stL m).length : Int) (i : Int) false = some true := by
      rw [laws_FnAlikeLengths.j8, if_neg (by decide)]; exact hl2
    rw [laws_FnAlikeLengths.l1, if_pos (by omega), if_pos (by omega), if_pos (by omega), rd_nat (stL m) i hlt]
    by_cases h0 : i = 0
    · rw [if_neg (by omega)]; exact hj8
    · have h2 := hi2.1
      rw [decide_eq_false h0, Bool.false_or, Bool.not_eq_true', Bool.or_eq_false_iff, rd_nat (stL m) i hlt] at h2
      have h3 := of_decide_eq_false h2.1
      rw [if_pos (by omega), w64 (x := (i : Int) - 1) (by omega) (by omega), if_pos (by omega), if_pos (by omega), if_neg h3]
      by_cases h4 : (stL m)[i] = rd (stL m) ((i : Int) - 1)
      · have h5 := h2.2
        rw [decide_eq_true h4, Bool.true_and] at h5
        rw [if_pos h4, h5]; exact hj8
      · rw [if_neg h4]; exact hj8
theorem stOut_eq (l m : List Int) (gl : Good l) (gm : Good m) (e : facL l = facL m) : stOut l = (stL m, true) := by unfold stOut stL; rw [if_pos gl, e]
theorem law_l0 (m : List Int) (g : Good m) (hst : (stL m).length ≤ 100) (hc : stChk (stL m) (facL m) = true) (C : List (List Int)) (hC : C.length ≤ 200000) (hm : ∀ q ∈ C, Good q ∧ q.length = m.length ∧ facL q = facL m) (hp : C.Pairwise ltL) : ∀ (d i k : Nat) (fl : Bool), i + d = C.length → d + 3000000 < k → (fl = true ∨ m ∈ C.drop i) →
    laws_FnAlikeLengths.l0 k m C (stL m) (sideF m m.length 0) fl C (C.length : Int) (i : Int) = some true
  | 0, i, k, fl, hi, hk, hf => by
    obtain ⟨k, rfl⟩ : ∃ m, k = m + 1 := ⟨k - 1, by omega⟩
    have e : fl = true := by
      rcases hf with h | h
      · exact h
      · rw [List.drop_of_length_le (by omega)] at h; cases h
    have h6 := (good6 g).1
    have e2 : focOut m = (facL m, true) := by unfold focOut; rw [if_pos g]
    rw [laws_FnAlikeLengths.l0, if_neg (by omega), i_FactorsOf k m (by omega) (by omega), Option.bind_some, e2, e]
    have := law_l1 m g hst hc (stL m).length 0 k (by omega) (by omega)
    rwa [show ((0 : Nat) : Int) = 0 from rfl] at this
  | d + 1, i, k, fl, hi, hk, hf => by
    obtain ⟨k, rfl⟩ : ∃ m, k = m + 1 := ⟨k - 1, by omega⟩
    have hlt : i < C.length := by omega
    have hq := hm C[i] (List.getElem_mem hlt)
    have h6 := (good6 g).1
    have e1 : aalOut C[i] m = (true, true) := by unfold aalOut; rw [if_pos ⟨hq.1, g⟩, decide_eq_true hq.2.2]
    have e2 := stOut_eq C[i] m hq.1 g hq.2.2
    have next : ∀ fl', (fl' = (if fl = true then true else decide (C[i] = m))) → laws_FnAlikeLengths.l0 k m C (stL m) (sideF m m.length 0) fl' C (C.length : Int) ((i + 1 : Nat) : Int) = some true := by
      intro fl' e
      refine law_l0 m g hst hc C hC hm hp d (i + 1) k fl' (by omega) (by omega) ?_
      rcases hf with h | h
      · left; rw [e, if_pos h]
      · rw [List.drop_eq_getElem_cons hlt] at h
        rcases List.mem_cons.1 h with h | h
        · left; rw [e]; split
          · rfl
          · exact decide_eq_true h.symm
        · right; exact h
    have hfl : ∀ {A : Bool → Option Bool}, (∀ fl', (fl' = (if fl = true then true else decide (C[i] = m))) → A fl' = some true) → (if fl = true then A true else ((laws_rSame.f k C[i] m).bind fun t => A t)) = some true := by
      intro A h
      by_cases e : fl = true
      · rw [if_pos e]; exact h true (by rw [if_pos e])
      · rw [if_neg e, rSame_eq k _ _ (by omega) (by omega), Option.bind_some]; exact h _ (by rw [if_neg e])
    rw [laws_FnAlikeLengths.l0, if_pos (by omega), if_pos (by omega), if_pos (by omega), rdLL C i hlt, i_AreAlikeLengths k _ _ (by omega) (by omega) (by omega), Option.bind_some, i_StrictOf k _ (by omega) (by omega), Option.bind_some, e1, e2, if_pos rfl, if_pos rfl, if_pos rfl]
    simp only
    rw [rSame_self _ _ (by omega) (by omega), Option.bind_some, if_pos rfl, w64 (x := (i : Int) + 1) (by omega) (by omega), show ((i : Int) + 1) = ((i + 1 : Nat) : Int) from by omega]
    by_cases h0 : i = 0
    · rw [if_neg (by omega)]; exact hfl next
    · have hlt1 : i - 1 < C.length := by omega
      have hless : ltL C[i - 1] C[i] := List.pairwise_iff_getElem.1 hp (i - 1) i hlt1 hlt (by omega)
      have hq1 := hm C[i - 1] (List.getElem_mem hlt1)
      rw [if_pos (by omega), w64 (x := (i : Int) - 1) (by omega) (by omega), if_pos (by omega), if_pos (by omega), show ((i : Int) - 1) = ((i - 1 : Nat) : Int) from by omega, rdLL C (i - 1) hlt1, rLess_lt k _ _ hless (by omega) (by omega), Option.bind_some, if_pos rfl]
      exact hfl next
theorem law_j5 (m : List Int) (hm : m.length ≤ 7) (k : Nat) (hk : 4000000 ≤ k) : laws_FnAlikeLengths.j5 k m (clOut m).1 (clOut m).2 (ccOut m).1 (stOut m).1 (sideOut m).1 = some true := by
  obtain ⟨k, rfl⟩ : ∃ m, k = m + 1 := ⟨k - 1, by omega⟩
  rw [laws_FnAlikeLengths.j5]
  by_cases g : Good m
  · have e1 : clOut m = (havL (facL m), true) := by unfold clOut; rw [if_pos g]
    have e2 : ccOut m = (((havL (facL m)).length : Int), true) := by unfold ccOut; rw [if_pos g]
    have e3 := stOut_eq m m g g rfl
    have e4 : sideOut m = (sideF m m.length 0, true) := by unfold sideOut; rw [if_pos g]
    have g1 := g.1
    have f := len_facts m.length (by omega) (by omega) m (good_all m g)
    have hb := havL_mem (facL m) (by rw [facL_len]; exact (good6 g).1)
    have hst := stOut_len m
    rw [e3] at hst
    simp only at hst
    rw [e1, e2, e3, e4]
    simp only
    rw [if_pos trivial, if_pos trivial]
    have := law_l0 m g (by omega) f.2.2.2.2.2 (havL (facL m)) (by omega) (hav_facts m g) (hav_lex _) (havL (facL m)).length 0 k false (by omega) (by omega) (Or.inr (by rw [List.drop_zero]; exact hav_own m g))
    rwa [show ((0 : Nat) : Int) = 0 from rfl] at this
  · have e1 : clOut m = ([], false) := by unfold clOut; rw [if_neg g]
    rw [e1]
    simp only
    rw [if_neg (by decide)]
theorem outs_ok (m : List Int) : (clOut m).2 = decide (Good m) ∧ (ccOut m).2 = decide (Good m) ∧ (stOut m).2 = decide (Good m) ∧ (sideOut m).2 = decide (Good m) := by
  unfold clOut ccOut stOut sideOut
  by_cases g : Good m
  · simp [g]
  · simp [g]
theorem law_j4 (m : List Int) (hm : m.length ≤ 7) (q : List Int) (k : Nat) (hk : 4000010 ≤ k) : laws_FnAlikeLengths.j4 k m (clOut m).1 (clOut m).2 (ccOut m).1 (stOut m).1 (sideOut m).1 q (lfOut q).1 (lfOut q).2 false = some true := by
  obtain ⟨k, rfl⟩ : ∃ m, k = m + 1 := ⟨k - 1, by omega⟩
  rw [laws_FnAlikeLengths.j4, if_neg (by decide)]
  by_cases h : (lfOut q).2 = true
  · have hq : ((1 ≤ (q.length : Int) ∧ (q.length : Int) ≤ 6) ∧ up q) ∧ (havL q).length ≠ 0 := by
      unfold lfOut at h
      by_cases h1 : (1 ≤ (q.length : Int) ∧ (q.length : Int) ≤ 6) ∧ up q
      · rw [if_pos h1] at h
        by_cases h2 : (havL q).length = 0
        · rw [if_pos h2] at h; cases h
        · exact ⟨h1, h2⟩
      · rw [if_neg h1] at h; cases h
    have e : lfOut q = ((havL q).getD 0 [], true) := by unfold lfOut; rw [if_pos hq.1, if_neg hq.2]
    have hmem : (havL q).getD 0 [] ∈ havL q := by
      cases hh : havL q with
      | nil => rw [hh] at hq; exact absurd rfl hq.2
      | cons a t => simp
    rw [e]
    generalize (havL q).getD 0 [] = f at hmem
    unfold havL at hmem
    rw [List.mem_filter] at hmem
    have hf := len_facts q.length (by omega) (by omega) f hmem.1
    have e2 : focOut f = (facL f, true) := by unfold focOut; rw [if_pos hf.1]
    have e3 := of_decide_eq_true hmem.2
    simp only
    rw [if_pos trivial, i_FactorsOf k f (by omega) (by omega), Option.bind_some, e2, if_pos rfl]
    simp only
    rw [e3, rSame_self _ _ (by omega) (by omega), Option.bind_some, if_pos rfl]
    exact law_j5 m hm k (by omega)
  · rw [if_neg h]
    exact law_j5 m hm k (by omega)
theorem d_LengthsFrom (k : Nat) (code : List Int) (hc : CodeOK code) (hk : 10000 ≤ k) : ∃ q, spec_DrawLengthsFrom.f k code = some q ∧ q.length ≤ 7 := by
  unfold spec_DrawLengthsFrom.f
  obtain ⟨L, i1, u1, e1, h1, h2, h3⟩ := d_lengths k code hc 0 0 0 (by unfold PL; omega) (by omega) (by omega)
  rw [e1, Option.bind_some]
  simp only
  rw [e_feGood _ L (by omega) (by omega), Option.bind_some]
  by_cases g : Good L
  · have hl := facL_len L
    have g1 := g.1
    rw [if_pos (decide_eq_true g), e_feFactors k L g (by omega), Option.bind_some]
    obtain ⟨v, i2, u2, e2, h4, _⟩ := d_pick code hc i1 u1 5 (0 + 100) h3 (by omega)
    rw [e2, Option.bind_some]
    simp only
    by_cases c0 : v = 0
    · rw [if_pos c0]
      obtain ⟨v3, i3, u3, e3, h5, h6, h7⟩ := d_pick code hc i2 u2 ((facL L).length : Int) (0 + 100 + 2) h4 (by omega)
      have := h7 (by omega)
      rw [e3, Option.bind_some, if_pos h6, if_pos this]
      simp only
      obtain ⟨v4, i4, u4, e4, _⟩ := d_pick code hc i3 u3 3 (0 + 100 + 2 + 2) h5 (by omega)
      rw [e4, Option.bind_some]
      exact ⟨_, rfl, by simp; omega⟩
    · rw [if_neg c0]
      by_cases c1 : v = 1
      · rw [if_pos c1]
        obtain ⟨v3, i3, u3, e3, _⟩ := d_among code hc i2 u2 [-9, 9, 4611686018427387904] (0 + 100 + 2) (by simp) h4 (by omega)
        rw [e3, Option.bind_some, if_pos (by omega)]
        exact ⟨_, rfl, by simp; omega⟩
      · rw [if_neg c1]
        exact ⟨_, rfl, by omega⟩
  · rw [if_neg (by simpa using g)]
    exact ⟨_, rfl, h2⟩
theorem law_j3 (x1 : List Int) (hx : CodeOK x1) (m : List Int) (hm : m.length ≤ 7) (k : Nat) (hk : 4000020 ≤ k) : laws_FnAlikeLengths.j3 k x1 m (clOut m).1 (clOut m).2 (ccOut m).1 (stOut m).1 (sideOut m).1 false = some true := by
  obtain ⟨k, rfl⟩ : ∃ m, k = m + 1 := ⟨k - 1, by omega⟩
  rw [laws_FnAlikeLengths.j3, if_neg (by decide)]
  obtain ⟨q, e, hq⟩ := d_LengthsFrom k x1 hx (by omega)
  have hl := lfOut_len q
  rw [e, Option.bind_some, i_LengthsFrom k q (by omega) (by omega), Option.bind_some, e_LengthsFrom k q (by omega) (by omega), Option.bind_some, bne_self_eq_false, if_neg (by decide), rSame_self _ _ (by omega) (by omega), Option.bind_some]
  exact law_j4 m hm q k (by omega)
theorem law_j2 (x1 : List Int) (hx : CodeOK x1) (k : Nat) (hk : 4000030 ≤ k) : laws_FnAlikeLengths.j2 k x1 = some true := by
  obtain ⟨k, rfl⟩ : ∃ m, k = m + 1 := ⟨k - 1, by omega⟩
  rw [laws_FnAlikeLengths.j2]
  unfold spec_DrawClassOf.f spec_DrawAreLengths.f
  obtain ⟨m, i', u', e, _, hm, _⟩ := d_lengths k x1 hx 0 0 0 (by unfold PL; omega) (by omega) (by omega)
  rw [e, Option.bind_some, Option.bind_some, Option.bind_some]
  simp only
  have hb := clOut_bd m
  have h1 := stOut_len m
  have h2 := sideOut_len m
  obtain ⟨o1, o2, o3, o4⟩ := outs_ok m
  rw [i_ClassOf k m (by omega) (by omega), Option.bind_some, e_ClassOf k m (by omega) (by omega), Option.bind_some, i_CountClass k m (by omega) (by omega), Option.bind_some, i_StrictOf k m (by omega) (by omega), Option.bind_some, e_StrictOf k m (by omega) (by omega), Option.bind_some, i_SideOfLengths k m (by omega) (by omega) (by omega), Option.bind_some, e_SideOfLengths k m (by omega) (by omega) (by omega), Option.bind_some, bne_self_eq_false, if_neg (by decide), rSameRows_self k _ (by omega) hb.2 (by omega), Option.bind_some, if_pos rfl, o2, o1, bne_self_eq_false, if_neg (by decide), bne_self_eq_false, if_neg (by decide), rSame_self _ _ (by omega) (by omega), Option.bind_some, if_pos rfl, bne_self_eq_false, if_neg (by decide), rSame_self _ _ (by omega) (by omega), Option.bind_some, if_pos rfl, o3, bne_self_eq_false, if_neg (by decide), o4, bne_self_eq_false, ← o1]
  exact law_j3 x1 hx m hm k (by omega)
theorem law_j1 (x1 : List Int) (hx : CodeOK x1) (a b : List Int) (ha : a.length ≤ 7) (hb : b.length ≤ 7) (k : Nat) (hk : 4000040 ≤ k) (x : Bool) (hxx : x = true → (Good a ∧ Good b) ∧ a.length = b.length) : laws_FnAlikeLengths.j1 k x1 a b (aalOut a b).1 x = some true := by
  obtain ⟨k, rfl⟩ : ∃ m, k = m + 1 := ⟨k - 1, by omega⟩
  rw [laws_FnAlikeLengths.j1]
  by_cases h : x = true
  · obtain ⟨⟨ga, gb⟩, hl⟩ := hxx h
    have e1 : nolOut a = (numsL (a.length : Int) (a.length : Int) (boardL a), true) := by unfold nolOut; rw [if_pos ga]
    have e2 : nolOut b = (numsL (b.length : Int) (b.length : Int) (boardL b), true) := by unfold nolOut; rw [if_pos gb]
    have h1 := nolOut_len a
    have e3 : (aalOut a b).1 = decide (numsL (a.length : Int) (a.length : Int) (boardL a) = numsL (b.length : Int) (b.length : Int) (boardL b)) := by
      unfold aalOut
      rw [if_pos ⟨ga, gb⟩]
      exact decide_eq_decide.2 (alike_iff a b ga gb hl)
    rw [if_pos h, i_NumbersOfLengths k a (by omega) (by omega), Option.bind_some, i_NumbersOfLengths k b (by omega) (by omega), Option.bind_some]
    rw [e1] at h1 ⊢
    rw [e2, if_pos rfl, if_pos rfl]
    simp only at h1 ⊢
    rw [rSame_eq k _ _ (by omega) (by omega), Option.bind_some, e3, bne_self_eq_false, if_neg (by decide)]
    exact law_j2 x1 hx k (by omega)
  · rw [if_neg h]
    exact law_j2 x1 hx k (by omega)
theorem d_alike (k : Nat) (code : List Int) (hc : CodeOK code) (hk : 3000000 ≤ k) : ∃ a b i u, spec_l1Cur_alikeLengths.f k code 0 0 = some (a, b, i, u) ∧ a.length ≤ 7 ∧ b.length ≤ 7 := by
  unfold spec_l1Cur_alikeLengths.f
  obtain ⟨L, i1, u1, e1, h1, h2, h3⟩ := d_lengths k code hc 0 0 0 (by unfold PL; omega) (by omega) (by omega)
  obtain ⟨k, rfl⟩ : ∃ m, k = m + 1 := ⟨k - 1, by omega⟩
  rw [e1, Option.bind_some]
  simp only
  rw [e_feGood _ L (by omega) (by omega), Option.bind_some]
  have two : ∀ i u, PL (0 + 200) i → ∃ a b i' u', spec_l1Cur_alikeLengths.j0 (k + 1) L true code i u = some (a, b, i', u') ∧ a.length ≤ 7 ∧ b.length ≤ 7 := by
    intro i u hi
    obtain ⟨M, i2, u2, e2, _, h5, _⟩ := d_lengths k code hc i u (0 + 200) hi (by omega) (by omega)
    rw [spec_l1Cur_alikeLengths.j0, if_pos rfl, e2]
    exact ⟨_, _, _, _, rfl, h2, h5⟩
  by_cases g : Good L
  · rw [if_pos (decide_eq_true g)]
    obtain ⟨b, i2, u2, e2, h4⟩ := d_one code hc i1 u1 3 (0 + 100) h3 (by omega)
    rw [e2, Option.bind_some]
    simp only
    by_cases hb : b = true
    · rw [hb]
      exact two i2 u2 (by unfold PL at h4 ⊢; omega)
    · have hl := facL_len L
      have h6 := (good6 g).1
      have hm := havL_mem (facL L) (by omega)
      have hne : 0 < (havL (facL L)).length := List.length_pos_of_mem (hav_own L g)
      rw [spec_l1Cur_alikeLengths.j0, if_neg hb, e_feFactors k L g (by omega), Option.bind_some, e_feClass k _ (by omega) (by omega), Option.bind_some]
      obtain ⟨v, i3, u3, e3, _, h7, h8⟩ := d_pick code hc i2 u2 ((havL (facL L)).length : Int) (0 + 100 + 2) h4 (by omega)
      have h9 := h8 (by omega)
      rw [e3, Option.bind_some, if_pos h7, if_pos h9]
      obtain ⟨j, rfl⟩ := Int.eq_ofNat_of_zero_le h7
      have hj : j < (havL (facL L)).length := by omega
      refine ⟨_, _, _, _, rfl, h2, ?_⟩
      rw [rdLL _ j hj]
      have := hm.2 _ (List.getElem_mem hj)
      omega
  · rw [if_neg (by simpa using g)]
    exact two i1 u1 (by unfold PL at h3 ⊢; omega)
theorem FnAlikeLengths : laws_FnAlikeLengths.Pure := by
  intro a b _ ha _ hb
  refine ⟨5000000, ?_⟩
  unfold laws_FnAlikeLengths.f laws_big.f
  by_cases h : (a.length : Int) > 1048576
  · rw [if_pos h]; rfl
  · rw [if_neg h, Option.bind_some, w64 (by omega) (by omega)]
    by_cases h2 : (b.length : Int) > 1048576 - a.length
    · rw [decide_eq_true h2, if_pos rfl]
    · have hca := code_ok a (by omega) ha
      have hcb := code_ok b (by omega) hb
      rw [decide_eq_false h2, if_neg (by decide)]
      unfold spec_DrawAreAlikeLengths.f
      obtain ⟨l, m, i, u, e, h3, h4⟩ := d_alike 5000000 a hca (by omega)
      rw [e, Option.bind_some, Option.bind_some]
      simp only
      rw [i_AreAlikeLengths _ l m (by omega) (by omega) (by omega), Option.bind_some, e_AreAlikeLengths _ l m (by omega) (by omega) (by omega), Option.bind_some, bne_self_eq_false, if_neg (by decide), bne_self_eq_false]
      obtain ⟨k, hk⟩ : ∃ k, 5000000 = k + 1 := ⟨4999999, rfl⟩
      rw [hk, laws_FnAlikeLengths.j0, if_neg (by decide)]
      by_cases h5 : Good l ∧ Good m
      · have e2 : (aalOut l m).2 = true := by unfold aalOut; rw [if_pos h5]
        rw [e2, if_pos rfl]
        exact law_j1 b hcb l m h3 h4 k (by omega) _ (fun hx => ⟨h5, by have := eq_of_beq hx; omega⟩)
      · have e2 : (aalOut l m).2 = false := by unfold aalOut; rw [if_neg h5]
        rw [e2, if_neg (by decide)]
        exact law_j1 b hcb l m h3 h4 k (by omega) false (fun hx => by cases hx)

end Go.Proofs.Ytfgfgkpmkfjeiaa.Pure
