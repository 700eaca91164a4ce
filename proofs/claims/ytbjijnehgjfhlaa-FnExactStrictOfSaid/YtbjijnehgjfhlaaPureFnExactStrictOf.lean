/- StrictOf: the law's function comes to true at every list. -/
import Derived.Test.YtbjijnehgjfhlaaPFnExactStrictOfx6
namespace Go.Proofs.Ytbjijnehgjfhlaa.Pure
open Go.RowKit Go.Proofs.Ytbjijnehgjfhlaa.PFnExactStrictOf Go.Proofs.YtbjijnehgjfhlaaW.PrintWords Go.Proofs.YtbjijnehgjfhlaaW.PrintLast
set_option linter.unusedVariables false
set_option linter.unusedSimpArgs false

theorem w64 {x : Int} (h0 : -9223372036854775808 ≤ x) (h1 : x < 9223372036854775808) : wrap64 x = x := by
  unfold wrap64; omega
theorem rd_nat (l : List Int) (i : Nat) (h : i < l.length) : rd l (i : Int) = l[i] := by
  unfold rd; simp [List.getD, h]

theorem e_toIntS_l0 (l : List Int) (hl : l.length ≤ 2000000) : ∀ (d i k : Nat) (m : List Int), i + d = l.length → d < k → m.length = l.length → m.take i = l.take i →
    laws_toIntS.l0 k l m (i : Int) = some l := by
  intro d
  induction d with
  | zero =>
    intro i k m hi' hk hm ht
    obtain ⟨k, rfl⟩ : ∃ m, k = m + 1 := ⟨k - 1, by omega⟩
    simp only [laws_toIntS.l0]; rw [if_neg (by omega)]
    rw [List.take_of_length_le (by omega), List.take_of_length_le (by omega)] at ht; rw [ht]
  | succ d ih =>
    intro i k m hi' hk hm ht
    obtain ⟨k, rfl⟩ : ∃ m, k = m + 1 := ⟨k - 1, by omega⟩
    have hlt : i < l.length := by omega
    simp only [laws_toIntS.l0]
    rw [if_pos (by omega), if_pos (by omega), if_pos (by omega), rd_nat l i hlt, w64 (by omega) (by omega), show ((i : Int) + 1) = ((i + 1 : Nat) : Int) from by omega]
    refine ih (i + 1) k _ (by omega) (by omega) (by simpa using hm) ?_
    rw [Int.toNat_natCast, List.take_succ_eq_append_getElem (by simpa using (by omega : i < m.length)), List.take_succ_eq_append_getElem hlt]
    simp [List.take_set_of_le, ht]
theorem e_toIntS (k : Nat) (l : List Int) (hl : l.length ≤ 2000000) (hk : l.length < k) : laws_toIntS.f k l = some l := by
  unfold laws_toIntS.f
  rw [if_pos (by omega), if_pos (by omega)]
  exact e_toIntS_l0 l hl l.length 0 k _ (by omega) hk (by simp) (by simp)

theorem e_eqIntS_l0 (a b : List Int) (hl : a.length ≤ 2000000) (hab : a.length = b.length) : ∀ (d i k : Nat), i + d = a.length → d < k →
    laws_eqIntS.l0 k a b (i : Int) = some (decide (a.drop i = b.drop i)) := by
  intro d
  induction d with
  | zero =>
    intro i k hi' hk
    obtain ⟨k, rfl⟩ : ∃ m, k = m + 1 := ⟨k - 1, by omega⟩
    simp only [laws_eqIntS.l0]; rw [if_neg (by omega), List.drop_eq_nil_of_le (by omega), List.drop_eq_nil_of_le (by omega)]; simp
  | succ d ih =>
    intro i k hi' hk
    obtain ⟨k, rfl⟩ : ∃ m, k = m + 1 := ⟨k - 1, by omega⟩
    have hlt : i < a.length := by omega
    have hlt2 : i < b.length := by omega
    simp only [laws_eqIntS.l0]
    rw [if_pos (by omega), if_pos (by omega), if_pos (by omega), rd_nat a i hlt, rd_nat b i hlt2, List.drop_eq_getElem_cons hlt, List.drop_eq_getElem_cons hlt2, w64 (by omega) (by omega), show ((i : Int) + 1) = ((i + 1 : Nat) : Int) from by omega, ih (i + 1) k (by omega) (by omega)]
    by_cases h : a[i] = b[i]
    · rw [if_pos h]; simp only [List.cons.injEq, h, true_and]
    · rw [if_neg h]; simp only [List.cons.injEq, h, false_and, decide_false]
theorem e_eqIntS (k : Nat) (a b : List Int) (hl : a.length ≤ 2000000) (hk : a.length < k) : laws_eqIntS.f k a b = some (decide (a = b)) := by
  unfold laws_eqIntS.f
  by_cases h : (a.length : Int) = (b.length : Int)
  · rw [if_pos h]; exact e_eqIntS_l0 a b hl (by omega) a.length 0 k (by omega) hk
  · rw [if_neg h]; simp; intro hc; rw [hc] at h; exact h rfl
theorem e_eqIntS_self (k : Nat) (a : List Int) (hl : a.length ≤ 2000000) (hk : a.length < k) : laws_eqIntS.f k a a = some true := by
  rw [e_eqIntS k a a hl hk]; simp

/-- The numbers from a on, n of them. -/
def marks : Int → Nat → List Int
  | _, 0 => []
  | a, n + 1 => a :: marks (a + 1) n
theorem marks_length : ∀ (n : Nat) (a : Int), (marks a n).length = n
  | 0, _ => rfl
  | n + 1, a => by simp [marks, marks_length n]
theorem marks_get : ∀ (n : Nat) (a : Int) (i : Nat) (h : i < (marks a n).length), (marks a n)[i] = a + i
  | 0, _, i, h => by simp [marks] at h
  | n + 1, a, 0, h => by simp [marks]
  | n + 1, a, i + 1, h => by
    simp only [marks, List.getElem_cons_succ]
    rw [marks_get n (a + 1) i]; omega

theorem e_markIntS_l0 (n : Nat) (hn : n ≤ 2000000) : ∀ (d i k : Nat) (l : List Int) (a : Int), l.length = n → i + d = n → d < k → 0 ≤ a → a + d ≤ 1000000000 →
    laws_markIntS.l0 k l a (i : Int) = some (a + d, l.take i ++ marks a d) := by
  intro d
  induction d with
  | zero =>
    intro i k l a hl hi hk h0 h1
    obtain ⟨k, rfl⟩ : ∃ m, k = m + 1 := ⟨k - 1, by omega⟩
    simp only [laws_markIntS.l0]; rw [if_neg (by omega), List.take_of_length_le (by omega)]; simp [marks]
  | succ d ih =>
    intro i k l a hl hi hk h0 h1
    obtain ⟨k, rfl⟩ : ∃ m, k = m + 1 := ⟨k - 1, by omega⟩
    have hlt : i < l.length := by omega
    simp only [laws_markIntS.l0]
    rw [if_pos (by omega), if_pos (by omega), w64 (by omega) (by omega), w64 (by omega) (by omega), show ((i : Int) + 1) = ((i + 1 : Nat) : Int) from by omega]
    rw [ih (i + 1) k _ (a + 1) (by simpa using hl) (by omega) (by omega) (by omega) (by omega)]
    rw [Int.toNat_natCast, List.take_succ_eq_append_getElem (by simpa using hlt)]
    simp only [List.getElem_set_self, List.take_set_of_le (Nat.le_refl i), List.append_assoc, List.singleton_append, marks]
    congr 2; omega
theorem e_markIntS (k : Nat) (l : List Int) (a : Int) (hl : l.length ≤ 2000000) (hk : l.length < k) (h0 : 0 ≤ a) (h1 : a + l.length ≤ 1000000000) : laws_markIntS.f k l a = some (a + l.length, marks a l.length) := by
  unfold laws_markIntS.f
  have := e_markIntS_l0 l.length hl l.length 0 k l a rfl (by omega) hk h0 h1
  simpa using this

theorem e_heldIntS_l0 (b : Int) (n : Nat) (hn : n ≤ 2000000) (hb : 0 ≤ b) (hbn : b + n ≤ 1000000000) : ∀ (d i k : Nat), i + d = n → d < k →
    laws_heldIntS.l0 k (marks b n) (b + i) (i : Int) = some (b + n) := by
  intro d
  induction d with
  | zero =>
    intro i k hi hk
    obtain ⟨k, rfl⟩ : ∃ m, k = m + 1 := ⟨k - 1, by omega⟩
    simp only [laws_heldIntS.l0, marks_length]; rw [if_neg (by omega)]; congr 1; omega
  | succ d ih =>
    intro i k hi hk
    obtain ⟨k, rfl⟩ : ∃ m, k = m + 1 := ⟨k - 1, by omega⟩
    have hlt : i < (marks b n).length := by rw [marks_length]; omega
    simp only [laws_heldIntS.l0]
    rw [rd_nat _ i hlt, marks_get n b i hlt]
    simp only [marks_length]
    rw [if_pos (by omega), if_pos (by omega), if_pos trivial, w64 (by omega) (by omega), w64 (by omega) (by omega), show ((i : Int) + 1) = ((i + 1 : Nat) : Int) from by omega, show b + (i : Int) + 1 = b + ((i + 1 : Nat) : Int) from by omega]
    exact ih (i + 1) k (by omega) (by omega)
theorem e_heldIntS (k : Nat) (n : Nat) (b : Int) (hn : n ≤ 2000000) (hk : n < k) (hb : 0 ≤ b) (hbn : b + n ≤ 1000000000) : laws_heldIntS.f k (marks b n) b = some (b + n) := by
  unfold laws_heldIntS.f
  have := e_heldIntS_l0 b n hn hb hbn n 0 k (by omega) hk
  simpa using this

theorem rd_set (l : List Int) (i : Nat) (v : Int) (j : Nat) (h : i < l.length) : rd (l.set i v) (j : Int) = if i = j then v else rd l (j : Int) := by
  unfold rd
  simp only [List.getD, Int.toNat_natCast, List.getElem?_set]
  by_cases hij : i = j
  · subst hij; simp [h]
  · simp [hij]
theorem rd_ext (a b : List Int) (hl : a.length = b.length) (h : ∀ j : Nat, j < a.length → rd a (j : Int) = rd b (j : Int)) : a = b := by
  refine List.ext_getElem hl ?_
  intro i h1 h2
  have := h i h1
  rwa [rd_nat a i h1, rd_nat b i h2] at this

/-- A list does not fall. -/
def up : List Int → Prop
  | [] => True
  | [_] => True
  | a :: b :: r => a ≤ b ∧ up (b :: r)
instance upDec : ∀ l, Decidable (up l)
  | [] => .isTrue trivial
  | [_] => .isTrue trivial
  | a :: b :: r => by unfold up; have := upDec (b :: r); exact inferInstance

theorem up_ge (l : List Int) (h : up l) : ∀ x ∈ l, ∀ a r, l = a :: r → a ≤ x := by
  induction l with
  | nil => intro x hx; cases hx
  | cons a r ih =>
    intro x hx a' r' he
    injection he with h1 h2
    subst h1; subst h2
    rcases List.mem_cons.1 hx with rfl | hx
    · omega
    · cases r with
      | nil => cases hx
      | cons b r => have := ih h.2 x hx b r rfl; have := h.1; omega
theorem up_le (l : List Int) (h : up l) : ∀ x ∈ l, ∀ y, l.getLast? = some y → x ≤ y := by
  induction l with
  | nil => intro x hx; cases hx
  | cons a r ih =>
    intro x hx y hy
    cases r with
    | nil => simp at hx hy; omega
    | cons b r =>
      have hy2 : (b :: r).getLast? = some y := by simpa using hy
      rcases List.mem_cons.1 hx with rfl | hx
      · have := ih h.2 b (by simp) y hy2; have := h.1; omega
      · exact ih h.2 x hx y hy2

theorem up_get : ∀ (l : List Int), up l → ∀ i j (hi : i < l.length) (hj : j < l.length), i ≤ j → l[i] ≤ l[j]
  | [], _, i, j, hi, _, _ => by simp at hi
  | [a], _, i, j, hi, hj, _ => by
    simp at hi hj; subst hi; subst hj; exact Int.le_refl _
  | a :: b :: r, h, 0, j, hi, hj, _ => up_ge (a :: b :: r) h _ (List.getElem_mem _) a (b :: r) rfl
  | a :: b :: r, h, i + 1, j, hi, hj, hij => by
    obtain ⟨j, rfl⟩ : ∃ m, j = m + 1 := ⟨j - 1, by omega⟩
    simp only [List.getElem_cons_succ]
    exact up_get (b :: r) h.2 i j (by simp at hi ⊢; omega) (by simp at hj ⊢; omega) (by omega)

/-- A number put into a list, behind what is not greater. -/
def insI (x : Int) : List Int → List Int
  | [] => [x]
  | a :: t => if a ≤ x then a :: insI x t else x :: a :: t
theorem insI_len (x : Int) : ∀ l, (insI x l).length = l.length + 1
  | [] => rfl
  | a :: t => by
    simp only [insI]
    split
    · simp [insI_len x t]
    · simp
theorem insI_mem (x : Int) : ∀ l y, y ∈ insI x l ↔ y = x ∨ y ∈ l
  | [], y => by simp [insI]
  | a :: t, y => by
    simp only [insI]
    split
    · simp only [List.mem_cons, insI_mem x t y]
      constructor
      · rintro (h | h | h) <;> simp [h]
      · rintro (h | h | h) <;> simp [h]
    · simp
theorem insI_gt (x p : Int) (h : x < p) : ∀ P : List Int, insI x (P ++ [p]) = insI x P ++ [p]
  | [] => by simp [insI, show ¬ p ≤ x by omega]
  | a :: P => by
    simp only [List.cons_append, insI]
    split
    · rw [insI_gt x p h P]; rfl
    · rfl
theorem insI_le (x : Int) : ∀ P : List Int, (∀ y ∈ P, y ≤ x) → insI x P = P ++ [x]
  | [], _ => rfl
  | a :: P, h => by
    simp only [insI, if_pos (h a (by simp)), List.cons_append]
    rw [insI_le x P (fun y hy => h y (by simp [hy]))]
theorem up_cons (a : Int) (l : List Int) (hl : up l) (h : ∀ y ∈ l, a ≤ y) : up (a :: l) := by
  cases l with
  | nil => trivial
  | cons b r => exact ⟨h b (by simp), hl⟩
theorem up_tail (a : Int) (l : List Int) (h : up (a :: l)) : up l := by
  cases l with
  | nil => trivial
  | cons b r => exact h.2
theorem insI_up (x : Int) : ∀ l, up l → up (insI x l)
  | [], _ => trivial
  | a :: t, h => by
    simp only [insI]
    split
    case isTrue hx =>
      refine up_cons a _ (insI_up x t (up_tail a t h)) ?_
      intro y hy
      rcases (insI_mem x t y).1 hy with rfl | hy
      · exact hx
      · exact up_ge (a :: t) h y (by simp [hy]) a t rfl
    case isFalse hx => exact ⟨by omega, h⟩
def isortI (l : List Int) : List Int := l.foldl (fun acc x => insI x acc) []
theorem isortI_snoc (l : List Int) (x : Int) : isortI (l ++ [x]) = insI x (isortI l) := by simp [isortI]
theorem isortI_len_aux : ∀ (l acc : List Int), (l.foldl (fun acc x => insI x acc) acc).length = acc.length + l.length
  | [], acc => by simp
  | x :: l, acc => by simp only [List.foldl_cons, isortI_len_aux l, insI_len, List.length_cons]; omega
theorem isortI_len (l : List Int) : (isortI l).length = l.length := by unfold isortI; rw [isortI_len_aux]; simp
theorem isortI_up_aux : ∀ (l acc : List Int), up acc → up (l.foldl (fun acc x => insI x acc) acc)
  | [], acc, h => h
  | x :: l, acc, h => by simp only [List.foldl_cons]; exact isortI_up_aux l _ (insI_up x acc h)
theorem isortI_up (l : List Int) : up (isortI l) := isortI_up_aux l [] trivial
theorem less_int (a b : Int) : cmp_Less_int.f a b = some (decide (a < b)) := by
  unfold cmp_Less_int.f cmp_isNaN_int.f
  simp
theorem rd_mid (P S : List Int) (x : Int) : rd (P ++ x :: S) (P.length : Int) = x := by
  rw [rd_nat _ _ (by simp)]; simp
theorem rd_mid1 (P S : List Int) (p x : Int) : rd (P ++ p :: x :: S) (P.length : Int) = p := rd_mid P (x :: S) p
theorem set_mid (P S : List Int) (p x : Int) : ((P ++ p :: x :: S).set (P.length + 1) p).set P.length x = P ++ x :: p :: S := by
  rw [List.set_append_right _ _ (by omega)]
  simp
theorem sort_l1 (n : Int) (i K : Nat) (hi : i ≤ 100) (R : List Int) : ∀ (m : Nat) (P S : List Int) (x : Int) (k : Nat), P.length = m → up P → (P ++ x :: S).length ≤ 100 → K + (m + 1) ≤ k → (∀ k', K ≤ k' → slices_insertionSortOrdered_int.l0 k' (insI x P ++ S) 0 n ((i + 1 : Nat) : Int) = some R) → slices_insertionSortOrdered_int.l1 k (P ++ x :: S) 0 n (i : Int) (P.length : Int) = some R
  | 0, P, S, x, k, hP, _, _, hk, hR => by
    obtain rfl := List.eq_nil_of_length_eq_zero hP
    obtain ⟨k, rfl⟩ : ∃ m, k = m + 1 := ⟨k - 1, by omega⟩
    rw [slices_insertionSortOrdered_int.l1, if_neg (by simp), w64 (by omega) (by omega), show ((i : Int) + 1) = ((i + 1 : Nat) : Int) from by omega]
    exact hR k (by omega)
  | m + 1, P, S, x, k, hP, hup, hlen, hk, hR => by
    obtain ⟨k, rfl⟩ : ∃ m, k = m + 1 := ⟨k - 1, by omega⟩
    have hne : P ≠ [] := by rintro rfl; simp at hP
    obtain ⟨Q, p, rfl⟩ : ∃ Q p, P = Q ++ [p] := ⟨P.dropLast, P.getLast hne, (List.dropLast_concat_getLast hne).symm⟩
    have hQ : Q.length = m := by simpa using hP
    have hl2 : (Q ++ [p]).length = m + 1 := hP
    rw [hl2]
    have hL : (Q ++ [p]) ++ x :: S = Q ++ p :: x :: S := by simp
    rw [hL] at hlen ⊢
    have hlL : (Q ++ p :: x :: S).length = m + 2 + S.length := by simp; omega
    have e1 : wrap64 (((m + 1 : Nat) : Int) - 1) = (m : Int) := by rw [w64 (by omega) (by omega)]; omega
    have c1 : ((m + 1 : Nat) : Int) > 0 := by omega
    have c2 : 0 ≤ ((m + 1 : Nat) : Int) := by omega
    have c3 : ((m + 1 : Nat) : Int) < ((Q ++ p :: x :: S).length : Int) := by omega
    have c4 : 0 ≤ (m : Int) := by omega
    have c5 : (m : Int) < ((Q ++ p :: x :: S).length : Int) := by omega
    have r1 : rd (Q ++ p :: x :: S) ((m + 1 : Nat) : Int) = x := by
      have := rd_mid (Q ++ [p]) S x
      rw [hl2, hL] at this; exact this
    have r0 : rd (Q ++ p :: x :: S) (m : Int) = p := by
      have := rd_mid1 Q S p x
      rwa [hQ] at this
    rw [slices_insertionSortOrdered_int.l1, e1, if_pos c1, if_pos c2, if_pos c3, if_pos c4, if_pos c5, r1, r0, less_int, Option.bind_some]
    by_cases hx : x < p
    · rw [if_pos (decide_eq_true hx), Int.toNat_natCast, Int.toNat_natCast]
      have hs := set_mid Q S p x
      rw [hQ] at hs
      rw [hs]
      have := sort_l1 n i K hi R m Q (p :: S) x k hQ ?_ (by simp at hlen ⊢; omega) (by omega) ?_
      · rwa [hQ] at this
      · have : ∀ (Q : List Int), up (Q ++ [p]) → up Q := by
          intro Q
          induction Q with
          | nil => intro _; trivial
          | cons a Q ih =>
            intro h
            refine up_cons a Q (ih (up_tail a _ h)) ?_
            intro y hy
            exact up_ge (a :: (Q ++ [p])) h y (by simp [hy]) a _ rfl
        exact this Q hup
      · intro k' hk'
        have := hR k' hk'
        rw [insI_gt x p hx Q] at this
        simpa using this
    · rw [if_neg (by simpa using hx), w64 (by omega) (by omega), show ((i : Int) + 1) = ((i + 1 : Nat) : Int) from by omega]
      have := hR k (by omega)
      rw [insI_le x (Q ++ [p]) ?_] at this
      · simpa using this
      · intro y hy
        have : y ≤ p := up_le (Q ++ [p]) hup y hy p (by simp)
        omega
theorem sort_l0 (l : List Int) (hl : l.length ≤ 12) : ∀ (d i k : Nat), i + d = l.length → 20 * d + 1 ≤ k → slices_insertionSortOrdered_int.l0 k (isortI (l.take i) ++ l.drop i) 0 (l.length : Int) (i : Int) = some (isortI l)
  | 0, i, k, hi, hk => by
    obtain ⟨k, rfl⟩ : ∃ m, k = m + 1 := ⟨k - 1, by omega⟩
    rw [slices_insertionSortOrdered_int.l0, if_neg (by omega), List.take_of_length_le (by omega), List.drop_eq_nil_of_le (by omega)]; simp
  | d + 1, i, k, hi, hk => by
    obtain ⟨k, rfl⟩ : ∃ m, k = m + 1 := ⟨k - 1, by omega⟩
    have hlt : i < l.length := by omega
    have hpl : (isortI (l.take i)).length = i := by rw [isortI_len, List.length_take]; omega
    rw [slices_insertionSortOrdered_int.l0, if_pos (by omega), List.drop_eq_getElem_cons hlt]
    have := sort_l1 (l.length : Int) i (20 * d + 1) (by omega) (isortI l) i (isortI (l.take i)) (l.drop (i + 1)) l[i] k hpl (isortI_up _) (by simp [hpl]; omega) (by omega) ?_
    · rwa [hpl] at this
    · intro k' hk'
      rw [← isortI_snoc, ← List.take_succ_eq_append_getElem hlt]
      exact sort_l0 l hl d (i + 1) k' (by omega) hk'
theorem i_Sort (k : Nat) (l : List Int) (hl : l.length ≤ 12) (hk : 1000 ≤ k) : slices_Sort_int_int.f k l = some (isortI l) := by
  unfold slices_Sort_int_int.f bits_Len.f bits_Len64.f slices_pdqsortOrdered_int.f slices_insertionSortOrdered_int.f
  have e : IntKind.u64.wrap (l.length : Int) = (l.length : Int) := by
    have : ∀ n : Fin 13, IntKind.u64.wrap (n.val : Int) = (n.val : Int) := by decide +kernel
    exact this ⟨l.length, by omega⟩
  rw [e, if_pos (by omega), Option.bind_some, Option.bind_some, w64 (x := (l.length : Int) - 0) (by omega) (by omega), if_pos (by omega), show wrap64 (0 + 1) = ((1 : Nat) : Int) from by decide +kernel]
  by_cases h0 : l.length = 0
  · obtain rfl := List.eq_nil_of_length_eq_zero h0
    obtain ⟨k, rfl⟩ : ∃ m, k = m + 1 := ⟨k - 1, by omega⟩
    rw [slices_insertionSortOrdered_int.l0, if_neg (by simp)]; rfl
  · have := sort_l0 l hl (l.length - 1) 1 k (by omega) (by omega)
    have e2 : isortI (l.take 1) ++ l.drop 1 = l := by
      cases l with
      | nil => simp at h0
      | cons a t => simp [isortI, insI]
    rw [e2] at this
    rw [this]; rfl

def Good (l : List Int) : Prop := (1 ≤ (l.length : Int) ∧ (l.length : Int) ≤ 6) ∧ (∀ x ∈ l, 0 ≤ x ∧ x ≤ (l.length : Int)) ∧ up l
instance (l : List Int) : Decidable (Good l) := by unfold Good; exact inferInstance

theorem e_l1OwnF (l : List Int) (hl : l.length ≤ 1000) : spec_l1Own.f l = some l := by
  unfold spec_l1Own.f
  rw [Option.bind_some, if_pos (by simp; omega)]; rfl
theorem feS_l1 (v : List Int) (n : Int) (i K : Nat) (hi : i ≤ 100) (x : Int) (R : List Int) : ∀ (Q P : List Int) (k : Nat), (P ++ Q).length ≤ 100 → (∀ y ∈ P, y ≤ x) → K + (Q.length + 1) ≤ k → (∀ k', K ≤ k' → spec_feSorted.l0 k' (P ++ insI x Q) v n ((i + 1 : Nat) : Int) = some R) → spec_feSorted.l1 k (P ++ Q) x (P.length : Int) v n (i : Int) = some R
  | [], P, k, hl, hP, hk, hR => by
    obtain ⟨k, rfl⟩ : ∃ m, k = m + 1 := ⟨k - 1, by omega⟩
    simp only [List.append_nil] at hl ⊢
    have c1 : ¬ (P.length : Int) < (P.length : Int) := by omega
    have c2 : 0 ≤ (P.length : Int) := by omega
    have c3 : (P.length : Int) ≤ (P.length : Int) := by omega
    rw [spec_feSorted.l1, if_neg c1, if_pos c2, if_pos c3, Int.toNat_natCast, List.take_length, List.drop_length, e_l1OwnF P (by omega), Option.bind_some, if_pos (by omega), Option.bind_some, Option.bind_some, if_pos (by simp; omega), w64 (by omega) (by omega), show ((i : Int) + 1) = ((i + 1 : Nat) : Int) from by omega]
    have := hR k (by simp at hk; omega)
    simpa [insI] using this
  | a :: Q, P, k, hl, hP, hk, hR => by
    obtain ⟨k, rfl⟩ : ∃ m, k = m + 1 := ⟨k - 1, by omega⟩
    simp only [List.length_append, List.length_cons] at hl
    simp only [List.length_cons] at hk
    have hL : (P ++ a :: Q).length = P.length + Q.length + 1 := by simp; omega
    have c1 : (P.length : Int) < ((P ++ a :: Q).length : Int) := by omega
    have c2 : 0 ≤ (P.length : Int) := by omega
    have c3 : (P.length : Int) ≤ ((P ++ a :: Q).length : Int) := by omega
    rw [spec_feSorted.l1, if_pos c1, if_pos c2, rd_mid]
    by_cases h : a ≤ x
    · rw [if_pos h, w64 (by omega) (by omega)]
      have := feS_l1 v n i K hi x R Q (P ++ [a]) k (by simp; omega) (by
        intro y hy
        rcases List.mem_append.1 hy with hy | hy
        · exact hP y hy
        · simp at hy; rw [hy]; exact h) (by omega) (by
        intro k' hk'
        have := hR k' hk'
        simp only [insI, if_pos h] at this
        simpa using this)
      simpa using this
    · rw [if_neg h, if_pos c3, Int.toNat_natCast, List.take_left, List.drop_left, e_l1OwnF P (by omega), Option.bind_some, if_pos (by omega), Option.bind_some, Option.bind_some, if_pos (by simp; omega), w64 (by omega) (by omega), show ((i : Int) + 1) = ((i + 1 : Nat) : Int) from by omega]
      have := hR k (by omega)
      simp only [insI, if_neg h] at this
      simpa using this
theorem feS_l0 (v : List Int) (hv : v.length ≤ 12) : ∀ (d i k : Nat), i + d = v.length → 20 * d + 1 ≤ k → spec_feSorted.l0 k (isortI (v.take i)) v (v.length : Int) (i : Int) = some (isortI v)
  | 0, i, k, hi, hk => by
    obtain ⟨k, rfl⟩ : ∃ m, k = m + 1 := ⟨k - 1, by omega⟩
    rw [spec_feSorted.l0, if_neg (by omega), List.take_of_length_le (by omega)]
  | d + 1, i, k, hi, hk => by
    obtain ⟨k, rfl⟩ : ∃ m, k = m + 1 := ⟨k - 1, by omega⟩
    have hlt : i < v.length := by omega
    have hpl : (isortI (v.take i)).length = i := by rw [isortI_len, List.length_take]; omega
    rw [spec_feSorted.l0, if_pos (by omega), if_pos (by omega), if_pos (by omega), rd_nat v i hlt]
    have := feS_l1 v (v.length : Int) i (20 * d + 1) (by omega) v[i] (isortI v) (isortI (v.take i)) [] k (by simp [hpl]; omega) (by simp) (by omega) (by
      intro k' hk'
      rw [List.nil_append, ← isortI_snoc, ← List.take_succ_eq_append_getElem hlt]
      exact feS_l0 v hv d (i + 1) k' (by omega) hk')
    simpa using this
theorem e_feSorted (k : Nat) (v : List Int) (hv : v.length ≤ 12) (hk : 1000 ≤ k) : spec_feSorted.f k v = some (isortI v) := by
  unfold spec_feSorted.f
  exact feS_l0 v hv v.length 0 k (by omega) (by omega)
/-- Numbers less their places. -/
def lessI : List Int → Int → List Int
  | [], _ => []
  | x :: t, i => (x - i) :: lessI t (i + 1)
theorem lessI_len : ∀ (l : List Int) (i : Int), (lessI l i).length = l.length
  | [], _ => rfl
  | x :: t, i => by simp [lessI, lessI_len t]
theorem feF_l0 (l : List Int) (hl : l.length ≤ 6) (hx : ∀ x ∈ l, 0 ≤ x ∧ x ≤ 6) : ∀ (d i k : Nat) (acc : List Int), i + d = l.length → acc.length = i → 1000 + d + 1 ≤ k → spec_feFactors.l0 k acc l (l.length : Int) (i : Int) = some (isortI (acc ++ lessI (l.drop i) (i : Int)))
  | 0, i, k, acc, hi, ha, hk => by
    obtain ⟨k, rfl⟩ : ∃ m, k = m + 1 := ⟨k - 1, by omega⟩
    rw [spec_feFactors.l0, if_neg (by omega), e_feSorted k acc (by omega) (by omega), List.drop_eq_nil_of_le (by omega)]
    simp [lessI]
  | d + 1, i, k, acc, hi, ha, hk => by
    obtain ⟨k, rfl⟩ : ∃ m, k = m + 1 := ⟨k - 1, by omega⟩
    have hlt : i < l.length := by omega
    have hm := hx l[i] (List.getElem_mem _)
    rw [spec_feFactors.l0, if_pos (by omega), if_pos (by omega), if_pos (by omega), if_pos (by omega), rd_nat l i hlt, w64 (x := l[i] - (i : Int)) (by omega) (by omega), w64 (by omega) (by omega), show ((i : Int) + 1) = ((i + 1 : Nat) : Int) from by omega, feF_l0 l hl hx d (i + 1) k _ (by omega) (by simp [ha]) (by omega), List.drop_eq_getElem_cons hlt]
    simp only [lessI, List.append_assoc, List.singleton_append]
    rfl
theorem iF_l0 (l : List Int) (hl : l.length ≤ 6) (hx : ∀ x ∈ l, 0 ≤ x ∧ x ≤ 6) : ∀ (d i k : Nat) (acc : List Int), i + d = l.length → acc.length = i → 1000 + d + 1 ≤ k → impl_factors.l0 k acc l (l.length : Int) (i : Int) = some (isortI (acc ++ lessI (l.drop i) (i : Int)))
  | 0, i, k, acc, hi, ha, hk => by
    obtain ⟨k, rfl⟩ : ∃ m, k = m + 1 := ⟨k - 1, by omega⟩
    rw [impl_factors.l0, if_neg (by omega), i_Sort k acc (by omega) (by omega), List.drop_eq_nil_of_le (by omega)]
    simp [lessI]
  | d + 1, i, k, acc, hi, ha, hk => by
    obtain ⟨k, rfl⟩ : ∃ m, k = m + 1 := ⟨k - 1, by omega⟩
    have hlt : i < l.length := by omega
    have hm := hx l[i] (List.getElem_mem _)
    rw [impl_factors.l0, if_pos (by omega), if_pos (by omega), if_pos (by omega), if_pos (by omega), rd_nat l i hlt, w64 (x := l[i] - (i : Int)) (by omega) (by omega), w64 (by omega) (by omega), show ((i : Int) + 1) = ((i + 1 : Nat) : Int) from by omega, iF_l0 l hl hx d (i + 1) k _ (by omega) (by simp [ha]) (by omega), List.drop_eq_getElem_cons hlt]
    simp only [lessI, List.append_assoc, List.singleton_append]
    rfl
theorem good6 {l : List Int} (g : Good l) : l.length ≤ 6 ∧ ∀ x ∈ l, 0 ≤ x ∧ x ≤ 6 := by
  have h1 := g.1
  refine ⟨by omega, fun x hx => ?_⟩
  have := g.2.1 x hx
  omega
/-- The factors of lengths, in order. -/
def facL (l : List Int) : List Int := isortI (lessI l 0)
theorem facL_len (l : List Int) : (facL l).length = l.length := by unfold facL; rw [isortI_len, lessI_len]
theorem e_feFactors (k : Nat) (l : List Int) (g : Good l) (hk : 2000 ≤ k) : spec_feFactors.f k l = some (facL l) := by
  have h := good6 g
  unfold spec_feFactors.f
  exact feF_l0 l h.1 h.2 l.length 0 k [] (by omega) rfl (by omega)
theorem i_factors (k : Nat) (l : List Int) (g : Good l) (hk : 2000 ≤ k) : impl_factors.f k l = some (facL l) := by
  have h := good6 g
  unfold impl_factors.f
  exact iF_l0 l h.1 h.2 l.length 0 k [] (by omega) rfl (by omega)

theorem e_l1Most (a b : Int) : spec_l1Most.f a b = some (if b < a then a else b) := by
  unfold spec_l1Most.f
  by_cases h : b < a
  · rw [if_pos h, if_pos h]
  · rw [if_neg h, if_neg h]

theorem e_l1In (a b c : Int) : spec_l1In.f a b c = some (decide (b ≤ a ∧ a ≤ c)) := by
  unfold spec_l1In.f
  by_cases h : b ≤ a
  · rw [if_pos h]; simp [h]
  · rw [if_neg h]; simp [h]

theorem e_l1All_l0 (lo hi : Int) (l : List Int) (hl : l.length ≤ 2000000) : ∀ (d i k : Nat), i + d = l.length → d < k →
    spec_l1All.l0 k lo hi l (l.length : Int) (i : Int) = some (decide (∀ x ∈ l.drop i, lo ≤ x ∧ x ≤ hi)) := by
  intro d
  induction d with
  | zero =>
    intro i k hi' hk
    obtain ⟨k, rfl⟩ : ∃ m, k = m + 1 := ⟨k - 1, by omega⟩
    simp only [spec_l1All.l0]; rw [if_neg (by omega), List.drop_eq_nil_of_le (by omega)]; simp
  | succ d ih =>
    intro i k hi' hk
    obtain ⟨k, rfl⟩ : ∃ m, k = m + 1 := ⟨k - 1, by omega⟩
    have hlt : i < l.length := by omega
    simp only [spec_l1All.l0]
    rw [if_pos (by omega), if_pos (by omega), if_pos (by omega), e_l1In, rd_nat l i hlt, List.drop_eq_getElem_cons hlt, w64 (by omega) (by omega)]
    simp only [Option.bind_some, decide_eq_true_eq, List.forall_mem_cons]
    by_cases h : lo ≤ l[i] ∧ l[i] ≤ hi
    · rw [if_pos h]
      have := ih (i + 1) k (by omega) (by omega)
      rw [show ((i : Int) + 1) = ((i + 1 : Nat) : Int) from by omega, this]; simp [h]
    · rw [if_neg h]; simp [h]
theorem e_l1All (k : Nat) (l : List Int) (lo hi : Int) (hl : l.length ≤ 2000000) (hk : l.length < k) : spec_l1All.f k l lo hi = some (decide (∀ x ∈ l, lo ≤ x ∧ x ≤ hi)) := by
  unfold spec_l1All.f; exact e_l1All_l0 lo hi l hl l.length 0 k (by omega) hk

theorem e_boSide (a : Int) : spec_boSide.f a = some (decide (1 ≤ a ∧ a ≤ 6)) := by
  unfold spec_boSide.f; rw [e_l1In]; rfl

theorem e_feGood_l0 (l : List Int) (hl : l.length ≤ 2000000) : ∀ (d i k : Nat), i + 1 + d = l.length → d < k →
    spec_feGood.l0 k l ((i + 1 : Nat) : Int) = some (decide (up (l.drop i))) := by
  intro d
  induction d with
  | zero =>
    intro i k hi' hk
    obtain ⟨k, rfl⟩ : ∃ m, k = m + 1 := ⟨k - 1, by omega⟩
    simp only [spec_feGood.l0]; rw [if_neg (by omega), List.drop_eq_getElem_cons (by omega), List.drop_eq_nil_of_le (by omega)]; exact congrArg some (decide_eq_true trivial).symm
  | succ d ih =>
    intro i k hi' hk
    obtain ⟨k, rfl⟩ : ∃ m, k = m + 1 := ⟨k - 1, by omega⟩
    have hlt : i < l.length := by omega
    have hlt1 : i + 1 < l.length := by omega
    simp only [spec_feGood.l0]
    rw [w64 (x := ((i + 1 : Nat) : Int) - 1) (by omega) (by omega), if_pos (by omega), if_pos (by omega), if_pos (by omega), if_pos (by omega), rd_nat l (i + 1) hlt1,
      show ((i + 1 : Nat) : Int) - 1 = (i : Int) from by omega, rd_nat l i hlt, w64 (by omega) (by omega), show ((i + 1 : Nat) : Int) + 1 = ((i + 1 + 1 : Nat) : Int) from by omega, ih (i + 1) k (by omega) (by omega),
      List.drop_eq_getElem_cons hlt, List.drop_eq_getElem_cons hlt1]
    by_cases h : l[i + 1] < l[i]
    · rw [if_pos h]; simp only [up]; simp; intro h2; omega
    · rw [if_neg h]; simp only [up]; simp; intro; omega
theorem e_feGood (k : Nat) (l : List Int) (hl : l.length ≤ 2000000) (hk : l.length + 1 < k) : spec_feGood.f k l = some (decide (Good l)) := by
  unfold spec_feGood.f
  rw [e_boSide, e_l1All _ _ _ _ hl (by omega)]
  obtain ⟨k, rfl⟩ : ∃ m, k = m + 1 := ⟨k - 1, by omega⟩
  simp only [Option.bind_some, decide_eq_true_eq, spec_feGood.j0]
  by_cases h : 1 ≤ (l.length : Int) ∧ (l.length : Int) ≤ 6
  · rw [if_pos h]
    by_cases h2 : ∀ x ∈ l, 0 ≤ x ∧ x ≤ (l.length : Int)
    · have := e_feGood_l0 l hl (l.length - 1) 0 k (by omega) (by omega)
      rw [show ((0 + 1 : Nat) : Int) = 1 from rfl] at this
      simp only [decide_eq_true h2, Bool.not_true, Bool.false_eq_true, if_false]
      rw [this]; simp only [Good]; simp [h]; exact fun _ => h2
    · simp only [decide_eq_false h2, Bool.not_false, if_true]; simp only [Good]; simp [h2]
  · rw [if_neg h]; simp only [Good]; simp [h]

theorem e_Less (a b : Int) : cmp_Less_int.f a b = some (decide (a < b)) := by
  unfold cmp_Less_int.f; rw [show cmp_isNaN_int.f a = some false from by unfold cmp_isNaN_int.f; simp]; rfl
theorem up_take_succ (l : List Int) (i : Nat) (h : i + 1 < l.length) : up (l.drop i) ↔ l[i] ≤ l[i + 1] ∧ up (l.drop (i + 1)) := by
  rw [List.drop_eq_getElem_cons (by omega), List.drop_eq_getElem_cons h]; rfl
theorem not_up (l : List Int) (i : Nat) (hi : i + 1 < l.length) (h : l[i + 1] < l[i]) : ∀ (d j : Nat), j + d = i → ¬ up (l.drop j) := by
  intro d
  induction d with
  | zero =>
    intro j hj
    obtain rfl : j = i := hj
    rw [up_take_succ l j hi]; intro hc; omega
  | succ d ih => intro j hj; rw [up_take_succ l j (by omega)]; intro hc; exact ih (j + 1) (by omega) hc.2
theorem e_IsSorted_l0 (l : List Int) (hl : l.length ≤ 2000000) : ∀ (i k : Nat), i < l.length → i < k → up (l.drop i) →
    slices_IsSorted_int_int.l0 k l (i : Int) = some (decide (up l)) := by
  intro i
  induction i with
  | zero =>
    intro k hi' hk hu
    obtain ⟨k, rfl⟩ : ∃ m, k = m + 1 := ⟨k - 1, by omega⟩
    simp only [slices_IsSorted_int_int.l0]; rw [if_neg (by omega)]; rw [List.drop_zero] at hu; simp [hu]
  | succ i ih =>
    intro k hi' hk hu
    obtain ⟨k, rfl⟩ : ∃ m, k = m + 1 := ⟨k - 1, by omega⟩
    have hlt : i < l.length := by omega
    simp only [slices_IsSorted_int_int.l0]
    rw [w64 (x := ((i + 1 : Nat) : Int) - 1) (by omega) (by omega), if_pos (by omega), if_pos (by omega), if_pos (by omega), if_pos (by omega), if_pos (by omega), rd_nat l (i + 1) hi',
      show ((i + 1 : Nat) : Int) - 1 = (i : Int) from by omega, rd_nat l i hlt, e_Less]
    simp only [Option.bind_some, decide_eq_true_eq]
    by_cases h : l[i + 1] < l[i]
    · rw [if_pos h]
      have := not_up l i hi' h i 0 (by omega)
      rw [List.drop_zero] at this; simp [this]
    · rw [if_neg h]; exact ih k hlt (by omega) ((up_take_succ l i hi').2 ⟨by omega, hu⟩)
theorem e_IsSorted (k : Nat) (l : List Int) (hl : l.length ≤ 2000000) (h1 : 1 ≤ l.length) (hk : l.length < k) : slices_IsSorted_int_int.f k l = some (decide (up l)) := by
  unfold slices_IsSorted_int_int.f
  rw [w64 (by omega) (by omega), show (l.length : Int) - 1 = ((l.length - 1 : Nat) : Int) from by omega]
  refine e_IsSorted_l0 l hl (l.length - 1) k (by omega) (by omega) ?_
  rw [List.drop_eq_getElem_cons (by omega), List.drop_eq_nil_of_le (by omega)]; simp [up]

theorem e_within (a b c : Int) : impl_within.f a b c = some (decide (b ≤ a ∧ a ≤ c)) := by
  unfold impl_within.f
  by_cases h : b ≤ a
  · rw [if_pos h]; simp [h]
  · rw [if_neg h]; simp [h]

theorem e_isSide (a : Int) : impl_isSide.f a = some (decide (1 ≤ a ∧ a ≤ 6)) := by
  unfold impl_isSide.f; rw [e_within]; rfl

theorem i_AreLengths (k : Nat) (l : List Int) (hl : l.length ≤ 2000000) (hk : l.length < k) : impl_AreLengths.f k l = some (decide (Good l)) := by
  unfold impl_AreLengths.f
  rw [e_isSide]
  simp only [Option.bind_some, decide_eq_true_eq]
  by_cases h : 1 ≤ (l.length : Int) ∧ (l.length : Int) ≤ 6
  · rw [if_pos h, e_IsSorted k l hl (by omega) hk]
    simp only [Option.bind_some, decide_eq_true_eq]
    by_cases hu : up l
    · rw [if_pos hu, if_pos (by omega), e_within, w64 (by omega) (by omega), if_pos (by omega), if_pos (by omega), e_within]
      simp only [Option.bind_some, decide_eq_true_eq]
      have hne : 0 < l.length := by omega
      have r0 : rd l 0 = l[0] := rd_nat l 0 hne
      rw [r0]
      have r1 : rd l ((l.length : Int) - 1) = l[l.length - 1] := by
        rw [show (l.length : Int) - 1 = ((l.length - 1 : Nat) : Int) from by omega]; exact rd_nat l _ (by omega)
      rw [r1]
      have key : Good l ↔ ((0 : Int) ≤ l[0] ∧ l[0] ≤ (l.length : Int)) ∧ (0 ≤ l[l.length - 1] ∧ l[l.length - 1] ≤ (l.length : Int)) := by
        constructor
        · intro g; exact ⟨g.2.1 _ (List.getElem_mem _), g.2.1 _ (List.getElem_mem _)⟩
        · intro g
          refine ⟨h, fun x hx => ?_, hu⟩
          have a1 := up_ge l hu x hx l[0] (l.drop 1) (by rw [← List.drop_eq_getElem_cons hne]; rfl)
          have a2 := up_le l hu x hx l[l.length - 1] (by rw [List.getLast?_eq_getElem?]; simp)
          omega
      by_cases g0 : (0 : Int) ≤ l[0] ∧ l[0] ≤ (l.length : Int)
      · rw [if_pos g0]; simp only [Option.some.injEq, decide_eq_decide]; rw [key]; simp [g0]
      · rw [if_neg g0]; simp only [Option.some.injEq]; symm; rw [decide_eq_false_iff_not, key]; intro hc; exact g0 hc.1
    · rw [if_neg hu]; simp [Good, hu]
  · rw [if_neg h]; simp [Good, h]

/-- The values v, v + 1, .. (z of them) are left out once each, on one way through the list. -/
def skL : Int → Nat → List Int → List Int
  | _, 0, L => L
  | _, _ + 1, [] => []
  | v, z + 1, f :: t => if f = v then skL (v + 1) z t else f :: skL v (z + 1) t
/-- The same values are erased one after another. -/
def erL : Int → Nat → List Int → List Int
  | _, 0, L => L
  | v, z + 1, L => erL (v + 1) z (L.erase v)
theorem erL_last : ∀ (z : Nat) (v : Int) (L : List Int), erL v (z + 1) L = erL v z (L.erase (v + z))
  | 0, v, L => by simp [erL]
  | z + 1, v, L => by
    rw [erL, erL_last z (v + 1) (L.erase v), erL, List.erase_comm, show v + 1 + (z : Int) = v + ((z + 1 : Nat) : Int) by omega]
theorem erL_cons : ∀ (z : Nat) (v f : Int) (t : List Int), f < v → erL v z (f :: t) = f :: erL v z t
  | 0, _, _, _, _ => rfl
  | z + 1, v, f, t, h => by
    rw [erL, List.erase_cons, if_neg (by simp; omega), erL_cons z (v + 1) f _ (by omega), erL]
theorem skL_erL : ∀ (L : List Int) (z : Nat) (v : Int), up L → (∀ i : Nat, i < z → v + (i : Int) ∈ L) → skL v z L = erL v z L
  | L, 0, v, _, _ => by cases L <;> rfl
  | [], z + 1, v, _, h => absurd (h 0 (by omega)) (by simp)
  | f :: t, z + 1, v, hu, h => by
    rw [skL]
    by_cases e : f = v
    · subst e
      rw [if_pos rfl, erL, List.erase_cons_head]
      refine skL_erL t z (f + 1) (up_tail f t hu) (fun i hi => ?_)
      have := h (i + 1) (by omega)
      rcases List.mem_cons.1 this with h1 | h1
      · omega
      · rwa [show f + 1 + (i : Int) = f + ((i + 1 : Nat) : Int) by omega]
    · rw [if_neg e]
      have h0 : v ∈ t := by
        have := h 0 (by omega)
        rcases List.mem_cons.1 this with h1 | h1
        · omega
        · simpa using h1
      have hf : f < v := by
        obtain ⟨i, hi, e1⟩ := List.getElem_of_mem h0
        have := up_get (f :: t) hu 0 (i + 1) (by simp) (by simpa using hi) (by omega)
        simp only [List.getElem_cons_zero, List.getElem_cons_succ, e1] at this
        omega
      rw [skL_erL t (z + 1) v (up_tail f t hu) (fun i hi => by
        rcases List.mem_cons.1 (h i hi) with h1 | h1
        · omega
        · exact h1), erL_cons (z + 1) v f t hf]
  termination_by L => L.length
/-- Each number goes behind the list, more by the list's length. -/
def apL (out : List Int) : List Int → List Int
  | [] => out
  | f :: t => apL (out ++ [f + (out.length : Int)]) t
theorem apL_len : ∀ (L out : List Int), (apL out L).length = out.length + L.length
  | [], out => by simp [apL]
  | f :: t, out => by rw [apL, apL_len t]; simp; omega
theorem skL_len : ∀ (L : List Int) (z : Nat) (v : Int), (skL v z L).length ≤ L.length
  | L, 0, v => by cases L <;> simp [skL]
  | [], z + 1, v => by simp [skL]
  | f :: t, z + 1, v => by
    rw [skL]
    split
    · have := skL_len t z (v + 1); simp; omega
    · have := skL_len t (z + 1) v; simp; omega
theorem spec_l0 (own : List Int) (hl : own.length ≤ 6) (hb : ∀ x ∈ own, -6 ≤ x ∧ x ≤ 6) (Z : Nat) (hZ : Z ≤ 7) : ∀ (t : List Int) (i o k : Nat) (out : List Int), own.drop i = t → i + t.length = own.length → o ≤ Z → t.length < k → out.length ≤ Z + i →
    spec_StrictOf.l0 k (Z : Int) out (o : Int) own (own.length : Int) (i : Int) = some (apL out (skL (1 - (Z : Int) + (o : Int)) (Z - o) t), true)
  | [], i, o, k, out, ht, hi, ho, hk, hou => by
    obtain ⟨k, rfl⟩ : ∃ m, k = m + 1 := ⟨k - 1, by omega⟩
    simp only [List.length_nil] at hi
    simp only [spec_StrictOf.l0]; rw [if_neg (by omega)]
    cases h : Z - o <;> simp [skL, apL]
  | f :: t, i, o, k, out, ht, hi, ho, hk, hou => by
    obtain ⟨k, rfl⟩ : ∃ m, k = m + 1 := ⟨k - 1, by omega⟩
    simp only [List.length_cons] at hi hk
    have hlt : i < own.length := by omega
    have hf : own[i] = f := by
      have := List.drop_eq_getElem_cons hlt
      rw [ht] at this
      injection this with h1 h2
      exact h1.symm
    have ht2 : own.drop (i + 1) = t := by
      have := List.drop_eq_getElem_cons hlt
      rw [ht] at this
      injection this with h1 h2
      exact h2.symm
    have hfb := hb own[i] (List.getElem_mem hlt)
    rw [hf] at hfb
    have e1 : wrap64 ((i : Int) + 1) = ((i + 1 : Nat) : Int) := by rw [w64 (by omega) (by omega)]; omega
    have e2 : wrap64 (wrap64 (1 - (Z : Int)) + (o : Int)) = 1 - (Z : Int) + (o : Int) := by rw [w64 (x := 1 - (Z : Int)) (by omega) (by omega), w64 (by omega) (by omega)]
    have e3 : wrap64 (f + (out.length : Int)) = f + (out.length : Int) := w64 (by omega) (by omega)
    simp only [spec_StrictOf.l0]
    rw [if_pos (show (i : Int) < (own.length : Int) by omega), if_pos (show (0 : Int) ≤ (i : Int) by omega), if_pos (show (i : Int) < (own.length : Int) by omega), rd_nat own i hlt, hf, e1, e2, e3]
    have app : spec_StrictOf.l0 k (Z : Int) (out ++ [f + (out.length : Int)]) (o : Int) own (own.length : Int) ((i + 1 : Nat) : Int) = some (apL (out ++ [f + (out.length : Int)]) (skL (1 - (Z : Int) + (o : Int)) (Z - o) t), true) := spec_l0 own hl hb Z hZ t (i + 1) o k _ ht2 (by omega) ho (by omega) (by simp; omega)
    by_cases h1 : (o : Int) < (Z : Int)
    · rw [if_pos h1]
      obtain ⟨z, hz⟩ : ∃ z, Z - o = z + 1 := ⟨Z - o - 1, by omega⟩
      rw [hz] at app ⊢
      rw [skL]
      by_cases h2 : f = 1 - (Z : Int) + (o : Int)
      · rw [if_pos h2, if_pos h2, w64 (by omega) (by omega), show ((o : Int) + 1) = ((o + 1 : Nat) : Int) by omega, spec_l0 own hl hb Z hZ t (i + 1) (o + 1) k out ht2 (by omega) (by omega) (by omega) (by omega), show 1 - (Z : Int) + ((o + 1 : Nat) : Int) = 1 - (Z : Int) + (o : Int) + 1 by omega, show Z - (o + 1) = z by omega]
      · rw [if_neg h2, if_neg h2, if_pos (by omega), app, apL]
    · rw [if_neg h1, if_pos (by omega), app]
      rw [show Z - o = 0 by omega]
      simp [skL, apL]
theorem idx_l0 (L : List Int) (hl : L.length ≤ 1000) (a : Int) : ∀ (t pre : List Int) (k : Nat), L = pre ++ t → a ∈ t → t.length < k → ∃ i, slices_Index_int_int.l0 k L a (L.length : Int) (pre.length : Int) = some ((pre.length + i : Nat) : Int) ∧ i < t.length ∧ t.eraseIdx i = t.erase a
  | [], pre, k, _, h, _ => by simp at h
  | f :: t, pre, k, hL, h, hk => by
    obtain ⟨k, rfl⟩ : ∃ m, k = m + 1 := ⟨k - 1, by omega⟩
    simp only [List.length_cons] at hk
    have hlen : L.length = pre.length + t.length + 1 := by rw [hL]; simp; omega
    have hlt : pre.length < L.length := by omega
    have hf : L[pre.length] = f := by simp [hL]
    simp only [slices_Index_int_int.l0]
    rw [if_pos (show (pre.length : Int) < (L.length : Int) by omega), if_pos (show (0 : Int) ≤ (pre.length : Int) by omega), if_pos (show (pre.length : Int) < (L.length : Int) by omega), rd_nat L pre.length hlt, hf]
    by_cases e : a = f
    · rw [if_pos e]
      subst e
      exact ⟨0, by simp, by simp, by simp⟩
    · rw [if_neg e, w64 (by omega) (by omega)]
      have h1 : a ∈ t := by
        rcases List.mem_cons.1 h with h1 | h1
        · exact absurd h1 e
        · exact h1
      obtain ⟨i, e1, e2, e3⟩ := idx_l0 L hl a t (pre ++ [f]) k (by simpa using hL) h1 (by omega)
      refine ⟨i + 1, ?_, by simpa using e2, ?_⟩
      · rw [List.length_append, List.length_singleton] at e1
        rw [show (pre.length : Int) + 1 = ((pre.length + 1 : Nat) : Int) by omega, e1]
        congr 2; omega
      · rw [List.erase_cons, if_neg (by simpa using fun h => e h.symm), List.eraseIdx_cons_succ, e3]
theorem idx_f (L : List Int) (hl : L.length ≤ 1000) (a : Int) (h : a ∈ L) (k : Nat) (hk : L.length < k) : ∃ i : Nat, slices_Index_int_int.f k L a = some (i : Int) ∧ i < L.length ∧ L.eraseIdx i = L.erase a := by
  obtain ⟨i, e1, e2, e3⟩ := idx_l0 L hl a L [] k rfl h hk
  exact ⟨i, by unfold slices_Index_int_int.f; simpa using e1, e2, e3⟩
theorem impl_l1 : ∀ (t L : List Int) (i k : Nat) (out : List Int), L.length ≤ 6 → (∀ x ∈ L, -6 ≤ x ∧ x ≤ 6) → L.drop i = t → i + t.length = L.length → t.length < k → out.length ≤ 7 + i →
    impl_StrictOf.l1 k out L (L.length : Int) (i : Int) = some (apL out t, true)
  | [], L, i, k, out, hl, hb, ht, hi, hk, hou => by
    obtain ⟨k, rfl⟩ : ∃ m, k = m + 1 := ⟨k - 1, by omega⟩
    simp only [List.length_nil] at hi
    simp only [impl_StrictOf.l1]; rw [if_neg (by omega)]; rfl
  | f :: t, L, i, k, out, hl, hb, ht, hi, hk, hou => by
    obtain ⟨k, rfl⟩ : ∃ m, k = m + 1 := ⟨k - 1, by omega⟩
    simp only [List.length_cons] at hi hk
    have hlt : i < L.length := by omega
    have hd := List.drop_eq_getElem_cons hlt
    rw [ht] at hd
    injection hd with h1 h2
    have hfb := hb L[i] (List.getElem_mem hlt)
    simp only [impl_StrictOf.l1]
    rw [if_pos (show (i : Int) < (L.length : Int) by omega), if_pos (show (0 : Int) ≤ (i : Int) by omega), if_pos (show (i : Int) < (L.length : Int) by omega), if_pos (by omega), rd_nat L i hlt, w64 (x := L[i] + (out.length : Int)) (by omega) (by omega), w64 (x := (i : Int) + 1) (by omega) (by omega), show ((i : Int) + 1) = ((i + 1 : Nat) : Int) by omega]
    rw [impl_l1 t L (i + 1) k _ hl hb h2.symm (by omega) (by omega) (by simp; omega), apL, h1]
theorem impl_l0 (least : Int) (hle : -6 ≤ least) : ∀ (z k : Nat) (L out : List Int), L.length ≤ 6 → (∀ x ∈ L, -6 ≤ x ∧ x ≤ 6) → out.length + z ≤ 7 → least + (z : Int) ≤ 2 → (∀ i : Nat, i < z → least + (i : Int) ∈ L) → z + 20 < k →
    impl_StrictOf.l0 k L out least (least + (z : Int) - 1) = some (apL (out ++ List.replicate z 0) (erL least z L), true)
  | 0, k, L, out, hl, hb, hou, _, hm, hk => by
    obtain ⟨k, rfl⟩ : ∃ m, k = m + 1 := ⟨k - 1, by omega⟩
    simp only [impl_StrictOf.l0]
    rw [if_neg (by omega)]
    have := impl_l1 L L 0 k out hl hb (by simp) (by omega) (by omega) (by omega)
    simpa [erL] using this
  | z + 1, k, L, out, hl, hb, hou, hlz, hm, hk => by
    obtain ⟨k, rfl⟩ : ∃ m, k = m + 1 := ⟨k - 1, by omega⟩
    have hin := hm z (by omega)
    obtain ⟨i, e1, e2, e3⟩ := idx_f L (by omega) _ hin k (by omega)
    have hd : slices_Delete_int_int.f L (i : Int) (wrap64 ((i : Int) + 1)) = some (L.erase (least + (z : Int))) := by
      unfold slices_Delete_int_int.f
      rw [w64 (by omega) (by omega), if_pos ⟨by omega, rfl, by omega⟩, Int.toNat_natCast, e3]
    simp only [impl_StrictOf.l0]
    rw [show least + ((z + 1 : Nat) : Int) - 1 = least + (z : Int) by omega, if_pos (by omega), e1, Option.bind_some, hd, Option.bind_some, if_pos (by omega), w64 (by omega) (by omega)]
    have hlen := List.length_erase_of_mem hin
    rw [impl_l0 least hle z k (L.erase (least + (z : Int))) (out ++ [0]) (by omega) (fun x hx => hb x (List.mem_of_mem_erase hx)) (by simp; omega) (by omega) (fun j hj => (List.mem_erase_of_ne (by omega)).2 (hm j (by omega))) (by omega)]
    rw [erL_last, List.append_assoc, List.replicate_succ]; rfl
theorem isortI_mem_aux : ∀ (l acc : List Int) (y : Int), y ∈ l.foldl (fun acc x => insI x acc) acc ↔ y ∈ acc ∨ y ∈ l
  | [], acc, y => by simp
  | x :: l, acc, y => by
    rw [List.foldl_cons, isortI_mem_aux l, insI_mem, List.mem_cons]
    constructor
    · rintro ((h | h) | h)
      · exact .inr (.inl h)
      · exact .inl h
      · exact .inr (.inr h)
    · rintro (h | h | h)
      · exact .inl (.inr h)
      · exact .inl (.inl h)
      · exact .inr h
theorem isortI_mem (l : List Int) (y : Int) : y ∈ isortI l ↔ y ∈ l := by unfold isortI; rw [isortI_mem_aux]; simp
theorem lessI_get : ∀ (l : List Int) (i : Int) (j : Nat) (h : j < l.length), (lessI l i)[j]'(by rw [lessI_len]; exact h) = l[j] - (i + (j : Int))
  | x :: l, i, 0, h => by simp [lessI]
  | x :: l, i, j + 1, h => by
    simp only [lessI, List.getElem_cons_succ]
    rw [lessI_get l (i + 1) j (by simpa using h)]
    omega
/-- The factors begin at no less than 0 and fall by 1 at most: each number between is met. -/
theorem less_all (l : List Int) (g : Good l) (v : Int) (hv : v ≤ 0) : ∀ (j : Nat) (h : j < l.length), l[j] - (j : Int) ≤ v → v ∈ lessI l 0
  | 0, h, hj => by
    have := g.2.1 l[0] (List.getElem_mem h)
    have e : l[0] = v := by simp at hj; omega
    have h1 : 0 < (lessI l 0).length := by rw [lessI_len]; exact h
    have h2 := lessI_get l 0 0 h
    have h3 := List.getElem_mem h1
    rw [h2] at h3
    simpa [e] using h3
  | j + 1, h, hj => by
    by_cases e : l[j + 1] - ((j + 1 : Nat) : Int) = v
    · have h1 : j + 1 < (lessI l 0).length := by rw [lessI_len]; exact h
      have h2 := lessI_get l 0 (j + 1) h
      have h3 := List.getElem_mem h1
      rw [h2] at h3
      rw [← e]
      simpa using h3
    · have := up_get l g.2.2 j (j + 1) (by omega) h (by omega)
      exact less_all l g v hv j (by omega) (by omega)
theorem facL_bd (l : List Int) (g : Good l) : ∀ x ∈ facL l, -6 ≤ x ∧ x ≤ 6 := by
  intro x hx
  obtain ⟨j, hj, e⟩ := List.getElem_of_mem ((isortI_mem _ _).1 hx)
  rw [lessI_len] at hj
  rw [lessI_get l 0 j hj] at e
  have h6 := good6 g
  have := h6.2 l[j] (List.getElem_mem hj)
  omega
theorem facL_all (l : List Int) (g : Good l) (v : Int) (hv : v ≤ 0) (h0 : (facL l).getD 0 0 ≤ v) : v ∈ facL l := by
  have hp : 0 < (facL l).length := by rw [facL_len]; have := g.1; omega
  have h1 : (facL l)[0] ∈ lessI l 0 := (isortI_mem _ _).1 (List.getElem_mem hp)
  obtain ⟨j, hj, e⟩ := List.getElem_of_mem h1
  rw [lessI_len] at hj
  rw [lessI_get l 0 j hj] at e
  rw [List.getD_eq_getElem?_getD, List.getElem?_eq_getElem hp, Option.getD_some] at h0
  exact (isortI_mem _ _).2 (less_all l g v hv j hj (by omega))
def zerosL (own : List Int) : Nat := (1 - own.getD 0 0).toNat
def stOut (l : List Int) : List Int × Bool := if Good l then (apL (List.replicate (zerosL (facL l)) 0) (skL (1 - (zerosL (facL l) : Int)) (zerosL (facL l)) (facL l)), true) else ([], false)
theorem zerosL_le (l : List Int) (g : Good l) : zerosL (facL l) ≤ 7 ∧ -6 ≤ (facL l).getD 0 0 ∧ (facL l).getD 0 0 ≤ 6 := by
  have hp : 0 < (facL l).length := by rw [facL_len]; have := g.1; omega
  have := facL_bd l g _ (List.getElem_mem hp)
  have e : (facL l).getD 0 0 = (facL l)[0] := by rw [List.getD_eq_getElem?_getD, List.getElem?_eq_getElem hp, Option.getD_some]
  unfold zerosL
  rw [e]
  omega
theorem e_StrictOf (k : Nat) (l : List Int) (hl : l.length ≤ 1048576) (hk : 2000000 ≤ k) : spec_StrictOf.f k l = some (stOut l) := by
  unfold spec_StrictOf.f stOut
  rw [e_feGood k l (by omega) (by omega)]
  simp only [Option.bind_some, decide_eq_true_eq]
  by_cases g : Good l
  · have h6 := good6 g
    have hlen := facL_len l
    have hz := zerosL_le l g
    have h1 := g.1
    have hr : rd (facL l) 0 = (facL l).getD 0 0 := rfl
    rw [if_pos g, if_pos g, e_feFactors k l g (by omega), Option.bind_some]
    simp only [hr]
    rw [if_pos (show (0 : Int) < ((facL l).length : Int) by omega), e_l1Most, Option.bind_some, w64 (by omega) (by omega)]
    have hZ : (if (1 - (facL l).getD 0 0) < 0 then (0 : Int) else 1 - (facL l).getD 0 0) = (zerosL (facL l) : Int) := by unfold zerosL; split <;> omega
    rw [hZ, if_pos (by omega), if_pos (by omega), Int.toNat_natCast]
    have := spec_l0 (facL l) (by omega) (facL_bd l g) (zerosL (facL l)) hz.1 (facL l) 0 0 k (List.replicate (zerosL (facL l)) 0) (by simp) (by simp) (by omega) (by omega) (by simp)
    simpa using this
  · rw [if_neg g, if_neg g]
theorem i_StrictOf (k : Nat) (l : List Int) (hl : l.length ≤ 1048576) (hk : 2000000 ≤ k) : impl_StrictOf.f k l = some (stOut l) := by
  unfold impl_StrictOf.f stOut
  rw [i_AreLengths k l (by omega) (by omega)]
  simp only [Option.bind_some, decide_eq_true_eq]
  by_cases g : Good l
  · have h6 := good6 g
    have hlen := facL_len l
    have hz := zerosL_le l g
    have h1 := g.1
    have hr : rd (facL l) 0 = (facL l).getD 0 0 := rfl
    rw [if_pos g, if_pos g, i_factors k l g (by omega), Option.bind_some]
    simp only [hr]
    rw [if_pos (show (0 : Int) < ((facL l).length : Int) by omega)]
    by_cases h0 : (facL l).getD 0 0 ≤ 1
    · have hZ : (facL l).getD 0 0 = 1 - (zerosL (facL l) : Int) := by unfold zerosL; omega
      have hmem : ∀ i : Nat, i < zerosL (facL l) → 1 - (zerosL (facL l) : Int) + (i : Int) ∈ facL l := fun i hi => facL_all l g _ (by omega) (by omega)
      rw [skL_erL (facL l) (zerosL (facL l)) _ (isortI_up _) hmem]
      have := impl_l0 (1 - (zerosL (facL l) : Int)) (by omega) (zerosL (facL l)) k (facL l) [] (by omega) (facL_bd l g) (by simpa using hz.1) (by omega) hmem (by omega)
      rw [show (1 : Int) - (zerosL (facL l) : Int) + (zerosL (facL l) : Int) - 1 = 0 by omega] at this
      rw [hZ]
      simpa using this
    · have hZ : zerosL (facL l) = 0 := by unfold zerosL; omega
      obtain ⟨k, rfl⟩ : ∃ m, k = m + 1 := ⟨k - 1, by omega⟩
      simp only [impl_StrictOf.l0]
      rw [if_neg (by omega), hZ]
      have := impl_l1 (facL l) (facL l) 0 k [] (by omega) (facL_bd l g) (by simp) (by simp) (by omega) (by simp)
      simpa [skL] using this
  · rw [if_neg g, if_neg g]
theorem stOut_len (l : List Int) : (stOut l).1.length ≤ 20 := by
  unfold stOut
  split
  · rename_i g
    have hz := zerosL_le l g
    have := skL_len (facL l) (zerosL (facL l)) (1 - (zerosL (facL l) : Int))
    have := facL_len l
    have := (good6 g).1
    simp only [apL_len, List.length_replicate]
    omega
  · simp

theorem FnExactStrictOf : laws_FnExactStrictOf.Pure := by
  intro l _ _
  refine ⟨2000010, ?_⟩
  unfold laws_FnExactStrictOf.f
  by_cases h : (l.length : Int) > 1048576
  · rw [if_pos h]
  · rw [if_neg h, e_toIntS _ l (by omega) (by omega)]
    simp only [Option.bind_some]
    rw [e_StrictOf _ l (by omega) (by omega), i_StrictOf _ l (by omega) (by omega)]
    have hI : ∀ k, 2000000 ≤ k → impl_StrictOf.f k l = some (stOut l) := fun k hk => i_StrictOf k l (by omega) (by omega)
    have hlen := stOut_len l
    generalize stOut l = o at hI hlen
    obtain ⟨o1, o2⟩ := o
    simp only at hlen
    repeat (first
      | (simp only [Option.bind_some, bne_self_eq_false, Bool.false_eq_true, if_false, if_true, Bool.not_true, Bool.not_false])
      | (rw [e_toIntS _ _ (by omega) (by omega)])
      | (rw [e_eqIntS_self _ _ (by omega) (by omega)])
      | (rw [e_markIntS _ _ _ (by omega) (by omega) (by omega) (by omega)])
      | (rw [e_heldIntS _ _ _ (by omega) (by omega) (by omega) (by omega)])
      | (rw [hI _ (by omega)])
      | (rw [laws_FnExactStrictOf.j0])
      | (rw [laws_FnExactStrictOf.j1])
      | (rw [laws_FnExactStrictOf.j2])
      | (rw [if_neg (show ¬ (_ : Int) < 0 by omega)])
      | (rw [if_pos (show (_ : Int) = _ from rfl)])
      | (rfl))

end Go.Proofs.Ytbjijnehgjfhlaa.Pure
