/- MeetOf: the law's function comes to true at every two boards. -/
import Derived.Test.YtlbffjkckpdclaaPFnExactMeetOfx6
namespace Go.Proofs.Ytlbffjkckpdclaa.Pure
open Go.RowKit Go.Proofs.Ytlbffjkckpdclaa.PFnExactMeetOf Go.Proofs.YtlbffjkckpdclaaW.PrintWords Go.Proofs.YtlbffjkckpdclaaW.PrintLast
set_option linter.unusedVariables false
set_option linter.unusedSimpArgs false

theorem w64 {x : Int} (h0 : -9223372036854775808 ≤ x) (h1 : x < 9223372036854775808) : wrap64 x = x := by
  unfold wrap64; omega
theorem rd_nat (l : List Int) (i : Nat) (h : i < l.length) : rd l (i : Int) = l[i] := by
  unfold rd; simp [List.getD, h]

theorem e_szIntS (l : List Int) (a : Int) (hl : l.length ≤ maxLen) (h0 : 0 ≤ a) (h1 : a ≤ 1048576) : laws_szIntS.f l a = some (if a - l.length < 0 then -1 else a - l.length) := by
  unfold laws_szIntS.f
  have : l.length ≤ 9223372036854775807 := hl
  rw [w64 (by omega) (by omega)]
  by_cases h : a - (l.length : Int) < 0
  · rw [if_pos h, if_pos h]
  · rw [if_neg h, if_neg h]

theorem e_szBoard (r c : Int) (l : List Int) (a : Int) (hl : l.length ≤ maxLen) (h0 : 0 ≤ a) (h1 : a ≤ 1048576) : laws_szBoard.f r c l a = some (if a - l.length < 0 then -1 else a - l.length) := by
  unfold laws_szBoard.f
  rw [e_szIntS l a hl h0 h1]
  simp only [Option.bind_some]
  by_cases h : a - (l.length : Int) < 0
  · rw [if_pos h]; rfl
  · rw [if_neg h, if_neg h]

theorem e_toIntS_l0 (l : List Int) (hl : l.length ≤ 2000000) : ∀ (d i k : Nat) (m : List Int), i + d = l.length → d < k → m.length = l.length → m.take i = l.take i →
    laws_toIntS.l0 k l m (i : Int) = some l := by
  intro d
  induction d with
  | zero =>
    intro i k m hi' hk hm ht
    obtain ⟨k, rfl⟩ : ∃ m, k = m + 1 := ⟨k - 1, by omega⟩
    simp only [laws_toIntS.l0]; rw [if_neg (by omega)]
    rw [List.take_of_length_le (by omega), List.take_of_length_le (by omega)] at ht; rw [ht]
  | succ d ih =>
    intro i k m hi' hk hm ht
    obtain ⟨k, rfl⟩ : ∃ m, k = m + 1 := ⟨k - 1, by omega⟩
    have hlt : i < l.length := by omega
    simp only [laws_toIntS.l0]
    rw [if_pos (by omega), if_pos (by omega), if_pos (by omega), rd_nat l i hlt, w64 (by omega) (by omega), show ((i : Int) + 1) = ((i + 1 : Nat) : Int) from by omega]
    refine ih (i + 1) k _ (by omega) (by omega) (by simpa using hm) ?_
    rw [Int.toNat_natCast, List.take_succ_eq_append_getElem (by simpa using (by omega : i < m.length)), List.take_succ_eq_append_getElem hlt]
    simp [List.take_set_of_le, ht]
theorem e_toIntS (k : Nat) (l : List Int) (hl : l.length ≤ 2000000) (hk : l.length < k) : laws_toIntS.f k l = some l := by
  unfold laws_toIntS.f
  rw [if_pos (by omega), if_pos (by omega)]
  exact e_toIntS_l0 l hl l.length 0 k _ (by omega) hk (by simp) (by simp)

theorem e_toBoard (k : Nat) (r c : Int) (l : List Int) (hl : l.length ≤ 2000000) (hk : l.length < k) : laws_toBoard.f k r c l = some (r, c, l) := by
  unfold laws_toBoard.f; rw [e_toIntS k l hl hk]; rfl

theorem e_eqIntS_l0 (a b : List Int) (hl : a.length ≤ 2000000) (hab : a.length = b.length) : ∀ (d i k : Nat), i + d = a.length → d < k →
    laws_eqIntS.l0 k a b (i : Int) = some (decide (a.drop i = b.drop i)) := by
  intro d
  induction d with
  | zero =>
    intro i k hi' hk
    obtain ⟨k, rfl⟩ : ∃ m, k = m + 1 := ⟨k - 1, by omega⟩
    simp only [laws_eqIntS.l0]; rw [if_neg (by omega), List.drop_eq_nil_of_le (by omega), List.drop_eq_nil_of_le (by omega)]; simp
  | succ d ih =>
    intro i k hi' hk
    obtain ⟨k, rfl⟩ : ∃ m, k = m + 1 := ⟨k - 1, by omega⟩
    have hlt : i < a.length := by omega
    have hlt2 : i < b.length := by omega
    simp only [laws_eqIntS.l0]
    rw [if_pos (by omega), if_pos (by omega), if_pos (by omega), rd_nat a i hlt, rd_nat b i hlt2, List.drop_eq_getElem_cons hlt, List.drop_eq_getElem_cons hlt2, w64 (by omega) (by omega), show ((i : Int) + 1) = ((i + 1 : Nat) : Int) from by omega, ih (i + 1) k (by omega) (by omega)]
    by_cases h : a[i] = b[i]
    · rw [if_pos h]; simp only [List.cons.injEq, h, true_and]
    · rw [if_neg h]; simp only [List.cons.injEq, h, false_and, decide_false]
theorem e_eqIntS (k : Nat) (a b : List Int) (hl : a.length ≤ 2000000) (hk : a.length < k) : laws_eqIntS.f k a b = some (decide (a = b)) := by
  unfold laws_eqIntS.f
  by_cases h : (a.length : Int) = (b.length : Int)
  · rw [if_pos h]; exact e_eqIntS_l0 a b hl (by omega) a.length 0 k (by omega) hk
  · rw [if_neg h]; simp; intro hc; rw [hc] at h; exact h rfl
theorem e_eqIntS_self (k : Nat) (a : List Int) (hl : a.length ≤ 2000000) (hk : a.length < k) : laws_eqIntS.f k a a = some true := by
  rw [e_eqIntS k a a hl hk]; simp

theorem e_eqBoard (k : Nat) (r c : Int) (l : List Int) (r' c' : Int) (l' : List Int) (hl : l.length ≤ 2000000) (hk : l.length < k) : laws_eqBoard.f k r c l r' c' l' = some (decide (r = r' ∧ c = c' ∧ l = l')) := by
  unfold laws_eqBoard.f
  by_cases h1 : r = r'
  · by_cases h2 : c = c'
    · rw [if_pos h1, if_pos h2, e_eqIntS k l l' hl hk]
      by_cases h3 : l = l' <;> simp [h1, h2, h3]
    · rw [if_pos h1, if_neg h2]; simp [h2]
  · rw [if_neg h1]; simp [h1]
theorem e_eqBoard_self (k : Nat) (r c : Int) (l : List Int) (hl : l.length ≤ 2000000) (hk : l.length < k) : laws_eqBoard.f k r c l r c l = some true := by
  rw [e_eqBoard k r c l r c l hl hk]; simp

/-- The numbers from a on, n of them. -/
def marks : Int → Nat → List Int
  | _, 0 => []
  | a, n + 1 => a :: marks (a + 1) n
theorem marks_length : ∀ (n : Nat) (a : Int), (marks a n).length = n
  | 0, _ => rfl
  | n + 1, a => by simp [marks, marks_length n]
theorem marks_get : ∀ (n : Nat) (a : Int) (i : Nat) (h : i < (marks a n).length), (marks a n)[i] = a + i
  | 0, _, i, h => by simp [marks] at h
  | n + 1, a, 0, h => by simp [marks]
  | n + 1, a, i + 1, h => by
    simp only [marks, List.getElem_cons_succ]
    rw [marks_get n (a + 1) i]; omega

theorem e_markIntS_l0 (n : Nat) (hn : n ≤ 2000000) : ∀ (d i k : Nat) (l : List Int) (a : Int), l.length = n → i + d = n → d < k → 0 ≤ a → a + d ≤ 1000000000 →
    laws_markIntS.l0 k l a (i : Int) = some (a + d, l.take i ++ marks a d) := by
  intro d
  induction d with
  | zero =>
    intro i k l a hl hi hk h0 h1
    obtain ⟨k, rfl⟩ : ∃ m, k = m + 1 := ⟨k - 1, by omega⟩
    simp only [laws_markIntS.l0]; rw [if_neg (by omega), List.take_of_length_le (by omega)]; simp [marks]
  | succ d ih =>
    intro i k l a hl hi hk h0 h1
    obtain ⟨k, rfl⟩ : ∃ m, k = m + 1 := ⟨k - 1, by omega⟩
    have hlt : i < l.length := by omega
    simp only [laws_markIntS.l0]
    rw [if_pos (by omega), if_pos (by omega), w64 (by omega) (by omega), w64 (by omega) (by omega), show ((i : Int) + 1) = ((i + 1 : Nat) : Int) from by omega]
    rw [ih (i + 1) k _ (a + 1) (by simpa using hl) (by omega) (by omega) (by omega) (by omega)]
    rw [Int.toNat_natCast, List.take_succ_eq_append_getElem (by simpa using hlt)]
    simp only [List.getElem_set_self, List.take_set_of_le (Nat.le_refl i), List.append_assoc, List.singleton_append, marks]
    congr 2; omega
theorem e_markIntS (k : Nat) (l : List Int) (a : Int) (hl : l.length ≤ 2000000) (hk : l.length < k) (h0 : 0 ≤ a) (h1 : a + l.length ≤ 1000000000) : laws_markIntS.f k l a = some (a + l.length, marks a l.length) := by
  unfold laws_markIntS.f
  have := e_markIntS_l0 l.length hl l.length 0 k l a rfl (by omega) hk h0 h1
  simpa using this

theorem e_markBoard (k : Nat) (r c : Int) (l : List Int) (a : Int) (hl : l.length ≤ 2000000) (hk : l.length < k) (h0 : 0 ≤ a) (h1 : a + l.length ≤ 1000000000) : laws_markBoard.f k r c l a = some (a + l.length, marks a l.length) := by
  unfold laws_markBoard.f; rw [e_markIntS k l a hl hk h0 h1]; rfl

theorem e_heldIntS_l0 (b : Int) (n : Nat) (hn : n ≤ 2000000) (hb : 0 ≤ b) (hbn : b + n ≤ 1000000000) : ∀ (d i k : Nat), i + d = n → d < k →
    laws_heldIntS.l0 k (marks b n) (b + i) (i : Int) = some (b + n) := by
  intro d
  induction d with
  | zero =>
    intro i k hi hk
    obtain ⟨k, rfl⟩ : ∃ m, k = m + 1 := ⟨k - 1, by omega⟩
    simp only [laws_heldIntS.l0, marks_length]; rw [if_neg (by omega)]; congr 1; omega
  | succ d ih =>
    intro i k hi hk
    obtain ⟨k, rfl⟩ : ∃ m, k = m + 1 := ⟨k - 1, by omega⟩
    have hlt : i < (marks b n).length := by rw [marks_length]; omega
    simp only [laws_heldIntS.l0]
    rw [rd_nat _ i hlt, marks_get n b i hlt]
    simp only [marks_length]
    rw [if_pos (by omega), if_pos (by omega), if_pos trivial, w64 (by omega) (by omega), w64 (by omega) (by omega), show ((i : Int) + 1) = ((i + 1 : Nat) : Int) from by omega, show b + (i : Int) + 1 = b + ((i + 1 : Nat) : Int) from by omega]
    exact ih (i + 1) k (by omega) (by omega)
theorem e_heldIntS (k : Nat) (n : Nat) (b : Int) (hn : n ≤ 2000000) (hk : n < k) (hb : 0 ≤ b) (hbn : b + n ≤ 1000000000) : laws_heldIntS.f k (marks b n) b = some (b + n) := by
  unfold laws_heldIntS.f
  have := e_heldIntS_l0 b n hn hb hbn n 0 k (by omega) hk
  simpa using this

theorem e_heldBoard (k : Nat) (r c : Int) (n : Nat) (b : Int) (hn : n ≤ 2000000) (hk : n < k) (hb : 0 ≤ b) (hbn : b + n ≤ 1000000000) : laws_heldBoard.f k r c (marks b n) b = some (b + n) := by
  unfold laws_heldBoard.f; rw [e_heldIntS k n b hn hk hb hbn]; simp only [Option.bind_some]; rw [if_neg (by omega)]

theorem e_l1In (a b c : Int) : spec_l1In.f a b c = some (decide (b ≤ a ∧ a ≤ c)) := by
  unfold spec_l1In.f
  by_cases h : b ≤ a
  · rw [if_pos h]; simp [h]
  · rw [if_neg h]; simp [h]

theorem e_l1All_l0 (lo hi : Int) (l : List Int) (hl : l.length ≤ 2000000) : ∀ (d i k : Nat), i + d = l.length → d < k →
    spec_l1All.l0 k lo hi l (l.length : Int) (i : Int) = some (decide (∀ x ∈ l.drop i, lo ≤ x ∧ x ≤ hi)) := by
  intro d
  induction d with
  | zero =>
    intro i k hi' hk
    obtain ⟨k, rfl⟩ : ∃ m, k = m + 1 := ⟨k - 1, by omega⟩
    simp only [spec_l1All.l0]; rw [if_neg (by omega), List.drop_eq_nil_of_le (by omega)]; simp
  | succ d ih =>
    intro i k hi' hk
    obtain ⟨k, rfl⟩ : ∃ m, k = m + 1 := ⟨k - 1, by omega⟩
    have hlt : i < l.length := by omega
    simp only [spec_l1All.l0]
    rw [if_pos (by omega), if_pos (by omega), if_pos (by omega), e_l1In, rd_nat l i hlt, List.drop_eq_getElem_cons hlt, w64 (by omega) (by omega)]
    simp only [Option.bind_some, decide_eq_true_eq, List.forall_mem_cons]
    by_cases h : lo ≤ l[i] ∧ l[i] ≤ hi
    · rw [if_pos h]
      have := ih (i + 1) k (by omega) (by omega)
      rw [show ((i : Int) + 1) = ((i + 1 : Nat) : Int) from by omega, this]; simp [h]
    · rw [if_neg h]; simp [h]
theorem e_l1All (k : Nat) (l : List Int) (lo hi : Int) (hl : l.length ≤ 2000000) (hk : l.length < k) : spec_l1All.f k l lo hi = some (decide (∀ x ∈ l, lo ≤ x ∧ x ≤ hi)) := by
  unfold spec_l1All.f; exact e_l1All_l0 lo hi l hl l.length 0 k (by omega) hk

theorem e_boSide (a : Int) : spec_boSide.f a = some (decide (1 ≤ a ∧ a ≤ 6)) := by
  unfold spec_boSide.f; rw [e_l1In]; rfl

/-- Is there a cell in the column c of a row m? -/
def cell (m c : Int) : Bool := decide (m / 2 ^ c.toNat % 2 = 1)
theorem fin_of (m : Int) (n : Nat) (h0 : 0 ≤ m) (h1 : m < n) : ∃ i : Fin n, m = (i.val : Int) := ⟨⟨m.toNat, by omega⟩, by simp; omega⟩
theorem cell_spec (m c : Int) (hm : 0 ≤ m ∧ m ≤ 63) (hc : 0 ≤ c ∧ c ≤ 6) : (Int.tmod (shr .i64 m c) 2 == 1) = cell m c := by
  have h : ∀ m : Fin 64, ∀ c : Fin 7, (Int.tmod (shr .i64 (m.val : Int) (c.val : Int)) 2 == 1) = cell (m.val : Int) (c.val : Int) := by decide +kernel
  obtain ⟨i, rfl⟩ := fin_of m 64 hm.1 (by omega)
  obtain ⟨j, rfl⟩ := fin_of c 7 hc.1 (by omega)
  exact h i j
theorem cell_impl (m c : Int) (hm : 0 ≤ m ∧ m ≤ 63) (hc : 0 ≤ c ∧ c ≤ 6) : (Go.bits .and .i64 (shr .i64 m c) 1 == 1) = cell m c := by
  have h : ∀ m : Fin 64, ∀ c : Fin 7, (Go.bits .and .i64 (shr .i64 (m.val : Int) (c.val : Int)) 1 == 1) = cell (m.val : Int) (c.val : Int) := by decide +kernel
  obtain ⟨i, rfl⟩ := fin_of m 64 hm.1 (by omega)
  obtain ⟨j, rfl⟩ := fin_of c 7 hc.1 (by omega)
  exact h i j
theorem pow_le (a : Int) (h : 1 ≤ a ∧ a ≤ 6) : 2 ≤ (2 : Int) ^ a.toNat ∧ (2 : Int) ^ a.toNat ≤ 64 := by
  obtain ⟨h0, h1⟩ := h
  obtain h | h | h | h | h | h : a = 1 ∨ a = 2 ∨ a = 3 ∨ a = 4 ∨ a = 5 ∨ a = 6 := by omega
  all_goals (subst h; decide +kernel)
theorem rd_mem (l : List Int) (i : Int) (h0 : 0 ≤ i) (h1 : i < l.length) : rd l i ∈ l := by
  obtain ⟨n, rfl⟩ := Int.eq_ofNat_of_zero_le h0
  rw [rd_nat l n (by omega)]; exact List.getElem_mem _

theorem goodB_le {r c : Int} {l : List Int} (h : GoodB r c l) : ∀ x ∈ l, 0 ≤ x ∧ x ≤ 63 := by
  intro x hx
  have := h.2.2.2 x hx
  have := pow_le c h.2.1
  omega
theorem goodB_len {r c : Int} {l : List Int} (h : GoodB r c l) : l.length ≤ 6 := by
  have := h.1; have := h.2.2.1; omega
/-- Is it a place of a board? -/
def Place (r c i j : Int) : Prop := (0 ≤ i ∧ i ≤ r - 1) ∧ (0 ≤ j ∧ j ≤ c - 1)
instance (r c i j : Int) : Decidable (Place r c i j) := by unfold Place; exact inferInstance
theorem i_IsBoard (r c : Int) (l : List Int) : impl_IsBoard.f r c l = some (decide (GoodB r c l)) := rfl

theorem sh1 (a : Int) (h : 1 ≤ a ∧ a ≤ 6) : wrap64 (shl .i64 1 a - 1) = 2 ^ a.toNat - 1 := by
  obtain ⟨h0, h1⟩ := h
  obtain h | h | h | h | h | h : a = 1 ∨ a = 2 ∨ a = 3 ∨ a = 4 ∨ a = 5 ∨ a = 6 := by omega
  all_goals (subst h; decide +kernel)
theorem e_boGood (k : Nat) (r c : Int) (l : List Int) (hl : l.length ≤ 2000000) (hk : l.length < k) : spec_boGood.f k r c l = some (decide (GoodB r c l)) := by
  unfold spec_boGood.f
  rw [e_boSide, e_boSide]
  simp only [Option.bind_some, decide_eq_true_eq]
  by_cases h0 : 1 ≤ r ∧ r ≤ 6
  · by_cases h1 : 1 ≤ c ∧ c ≤ 6
    · by_cases h2 : (l.length : Int) = r
      · rw [if_pos h0, if_pos h1, if_pos h2, if_pos (by omega), sh1 c h1, e_l1All k l _ _ hl hk]
        simp [GoodB, h0, h1, h2]
      · rw [if_pos h0, if_pos h1, if_neg h2]; simp [GoodB, h2]
    · rw [if_pos h0, if_neg h1]; simp [GoodB, h1]
  · rw [if_neg h0]; simp [GoodB, h0]

theorem e_boFit (k : Nat) (r c : Int) (l : List Int) (r' c' : Int) (l' : List Int) (hl : l.length ≤ 2000000) (hk : l.length < k) (hl' : l'.length ≤ 2000000) (hk' : l'.length < k) :
    spec_boFit.f k r c l r' c' l' = some (decide ((GoodB r c l ∧ GoodB r' c' l') ∧ r = r' ∧ c = c')) := by
  unfold spec_boFit.f
  rw [e_boGood k r c l hl hk, e_boGood k r' c' l' hl' hk']
  simp only [Option.bind_some, Bool.decide_and]
  generalize decide (GoodB r c l) = p
  generalize decide (GoodB r' c' l') = q
  by_cases h : r = r' <;> by_cases h2 : c = c' <;> cases p <;> cases q <;> simp [h, h2]

theorem own_id (l : List Int) (h : l.length ≤ 1000000) (r c : Int) : spec_boOwn.f r c l = some (r, c, l) := by
  unfold spec_boOwn.f spec_l1Own.f
  rw [Option.bind_some, if_pos (by simp; omega), List.nil_append]; rfl
theorem join_l0 (r c : Int) (l p : List Int) (hl : l.length ≤ 6) (hlp : p.length = l.length) (R C : Int) : ∀ (d i k : Nat) (y : List Int), i + d = l.length → d < k → y = (List.range i).map (fun j => Go.bits .and .i64 (l.getD j 0) (p.getD j 0)) ++ l.drop i → spec_MeetOf.l0 k (l.length : Int) (i : Int) r c p R C y = some (R, C, (List.range l.length).map (fun j => Go.bits .and .i64 (l.getD j 0) (p.getD j 0)), true) := by
  intro d
  induction d with
  | zero =>
    intro i k y hi hk hy
    obtain ⟨k, rfl⟩ : ∃ m, k = m + 1 := ⟨k - 1, by omega⟩
    rw [spec_MeetOf.l0, if_neg (by omega), hy, List.drop_eq_nil_of_le (by omega), List.append_nil, show i = l.length by omega]
  | succ d ih =>
    intro i k y hi hk hy
    obtain ⟨k, rfl⟩ : ∃ m, k = m + 1 := ⟨k - 1, by omega⟩
    have hlt : i < l.length := by omega
    have hyl : y.length = l.length := by rw [hy]; simp; omega
    have hyi : rd y (i : Int) = l.getD i 0 := by
      rw [hy, List.drop_eq_getElem_cons hlt, rd_nat _ _ (by simp; omega), List.getElem_append_right (by simp)]
      simp [List.getD, hlt]
    rw [spec_MeetOf.l0, if_pos (by omega), if_pos (by omega), if_pos (by omega), if_pos (by omega), w64 (x := (i : Int) + 1) (by omega) (by omega), show ((i : Int) + 1) = ((i + 1 : Nat) : Int) from by omega, Int.toNat_natCast, hyi, show rd p (i : Int) = p.getD i 0 from rfl]
    refine ih (i + 1) k _ (by omega) (by omega) ?_
    rw [hy, List.set_append_right _ _ (by simp), List.length_map, List.length_range, Nat.sub_self, List.drop_eq_getElem_cons hlt, List.set_cons_zero, List.range_succ, List.map_append, List.append_assoc]
    rfl
def joinOut (r c : Int) (l : List Int) (r' c' : Int) (l' : List Int) : Int × Int × List Int × Bool := if GoodB r c l ∧ GoodB r' c' l' ∧ r = r' ∧ c = c' then (r, c, (List.range l.length).map (fun j => Go.bits .and .i64 (l.getD j 0) (l'.getD j 0)), true) else (0, 0, [], false)
theorem joinOut_len (r c : Int) (l : List Int) (r' c' : Int) (l' : List Int) : (joinOut r c l r' c' l').2.2.1.length ≤ 6 := by
  unfold joinOut
  split
  · rename_i h; have := goodB_len h.1; simp only [List.length_map, List.length_range]; omega
  · simp
theorem e_MeetOf (k : Nat) (r c : Int) (l : List Int) (r' c' : Int) (l' : List Int) (hl : l.length ≤ 2000000) (hk : l.length < k) (hl' : l'.length ≤ 2000000) (hk' : l'.length < k) (hk2 : 100 ≤ k) : spec_MeetOf.f k r c l r' c' l' = some (joinOut r c l r' c' l') := by
  unfold spec_MeetOf.f joinOut
  rw [e_boFit k r c l r' c' l' hl hk hl' hk']
  simp only [Option.bind_some, decide_eq_true_eq]
  by_cases g : (GoodB r c l ∧ GoodB r' c' l') ∧ r = r' ∧ c = c'
  · have h3 := g.1.1.2.2.1
    have h4 := g.1.2.2.2.1
    have hl6 := goodB_len g.1.1
    rw [if_pos g, if_pos ⟨g.1.1, g.1.2, g.2.1, g.2.2⟩, own_id l (by omega), Option.bind_some]
    simp only
    have := join_l0 r' c' l l' hl6 (by omega) r c l.length 0 k l (by omega) (by omega) (by simp)
    rw [show ((0 : Nat) : Int) = 0 from rfl] at this
    exact this
  · rw [if_neg g, if_neg (fun x => g ⟨⟨x.1, x.2.1⟩, x.2.2⟩)]
theorem FnExactMeetOf : laws_FnExactMeetOf.Pure := by
  intro r c l r' c' l' _ _ hm _ _ _ hm' _
  refine ⟨2000010, ?_⟩
  unfold laws_FnExactMeetOf.f
  rw [e_szBoard r c l 1048576 hm (by omega) (by omega)]
  simp only [Option.bind_some]
  by_cases h : (1048576 : Int) - l.length < 0
  · rw [if_pos h]; rfl
  · rw [if_neg h, if_neg h, e_szBoard r' c' l' _ hm' (by omega) (by omega)]
    simp only [Option.bind_some]
    by_cases h' : (1048576 : Int) - l.length - l'.length < 0
    · rw [if_pos h']; rfl
    · rw [if_neg h', if_neg h', e_toBoard _ r c l (by omega) (by omega), e_toBoard _ r' c' l' (by omega) (by omega)]
      simp only [Option.bind_some]
      rw [e_MeetOf _ r c l r' c' l' (by omega) (by omega) (by omega) (by omega) (by omega)]
      have hI : impl_MeetOf.f r c l r' c' l' = some (joinOut r c l r' c' l') := by
        unfold impl_MeetOf.f joinOut
        split <;> rfl
      rw [hI]
      have hlen := joinOut_len r c l r' c' l'
      generalize joinOut r c l r' c' l' = o at hI hlen
      obtain ⟨o1, o2, o3, o4⟩ := o
      simp only at hlen
      repeat (first
      | (simp only [Option.bind_some, bne_self_eq_false, Bool.false_eq_true, if_false, if_true, Bool.not_true, Bool.not_false])
      | (rw [e_toBoard _ _ _ _ (by omega) (by omega)])
      | (rw [e_eqBoard_self _ _ _ _ (by omega) (by omega)])
      | (rw [e_toIntS _ _ (by omega) (by omega)])
      | (rw [e_eqIntS_self _ _ (by omega) (by omega)])
      | (rw [e_markBoard _ _ _ _ _ (by omega) (by omega) (by omega) (by omega)])
      | (rw [e_heldBoard _ _ _ _ _ (by omega) (by omega) (by omega) (by omega)])
      | (rw [e_markIntS _ _ _ (by omega) (by omega) (by omega) (by omega)])
      | (rw [e_heldIntS _ _ _ (by omega) (by omega) (by omega) (by omega)])
      | (rw [hI])
      | (rw [laws_FnExactMeetOf.j0])
      | (rw [laws_FnExactMeetOf.j1])
      | (rw [laws_FnExactMeetOf.j2])
      | (rw [if_neg (show ¬ (_ : Int) < 0 by omega)])
      | (rw [if_pos (show (_ : Int) = _ from rfl)])
      | (rfl))

end Go.Proofs.Ytlbffjkckpdclaa.Pure
