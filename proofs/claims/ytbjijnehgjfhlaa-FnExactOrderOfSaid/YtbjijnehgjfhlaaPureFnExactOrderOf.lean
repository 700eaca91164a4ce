/- OrderOf: the law's function comes to true at every board. -/
import Derived.Test.YtbjijnehgjfhlaaPFnExactOrderOfx4
namespace Go.Proofs.Ytbjijnehgjfhlaa.Pure
open Go.RowKit Go.Proofs.Ytbjijnehgjfhlaa.PFnExactOrderOf Go.Proofs.YtbjijnehgjfhlaaW.PrintWords Go.Proofs.YtbjijnehgjfhlaaW.PrintLast
set_option linter.unusedVariables false
set_option linter.unusedSimpArgs false

theorem w64 {x : Int} (h0 : -9223372036854775808 ≤ x) (h1 : x < 9223372036854775808) : wrap64 x = x := by
  unfold wrap64; omega
theorem rd_nat (l : List Int) (i : Nat) (h : i < l.length) : rd l (i : Int) = l[i] := by
  unfold rd; simp [List.getD, h]

theorem e_szIntS (l : List Int) (a : Int) (hl : l.length ≤ maxLen) (h0 : 0 ≤ a) (h1 : a ≤ 1048576) : laws_szIntS.f l a = some (if a - l.length < 0 then -1 else a - l.length) := by
  unfold laws_szIntS.f
  have : l.length ≤ 9223372036854775807 := hl
  rw [w64 (by omega) (by omega)]
  by_cases h : a - (l.length : Int) < 0
  · rw [if_pos h, if_pos h]
  · rw [if_neg h, if_neg h]

theorem e_szBoard (r c : Int) (l : List Int) (a : Int) (hl : l.length ≤ maxLen) (h0 : 0 ≤ a) (h1 : a ≤ 1048576) : laws_szBoard.f r c l a = some (if a - l.length < 0 then -1 else a - l.length) := by
  unfold laws_szBoard.f
  rw [e_szIntS l a hl h0 h1]
  simp only [Option.bind_some]
  by_cases h : a - (l.length : Int) < 0
  · rw [if_pos h]; rfl
  · rw [if_neg h, if_neg h]

theorem e_toIntS_l0 (l : List Int) (hl : l.length ≤ 2000000) : ∀ (d i k : Nat) (m : List Int), i + d = l.length → d < k → m.length = l.length → m.take i = l.take i →
    laws_toIntS.l0 k l m (i : Int) = some l := by
  intro d
  induction d with
  | zero =>
    intro i k m hi' hk hm ht
    obtain ⟨k, rfl⟩ : ∃ m, k = m + 1 := ⟨k - 1, by omega⟩
    simp only [laws_toIntS.l0]; rw [if_neg (by omega)]
    rw [List.take_of_length_le (by omega), List.take_of_length_le (by omega)] at ht; rw [ht]
  | succ d ih =>
    intro i k m hi' hk hm ht
    obtain ⟨k, rfl⟩ : ∃ m, k = m + 1 := ⟨k - 1, by omega⟩
    have hlt : i < l.length := by omega
    simp only [laws_toIntS.l0]
    rw [if_pos (by omega), if_pos (by omega), if_pos (by omega), rd_nat l i hlt, w64 (by omega) (by omega), show ((i : Int) + 1) = ((i + 1 : Nat) : Int) from by omega]
    refine ih (i + 1) k _ (by omega) (by omega) (by simpa using hm) ?_
    rw [Int.toNat_natCast, List.take_succ_eq_append_getElem (by simpa using (by omega : i < m.length)), List.take_succ_eq_append_getElem hlt]
    simp [List.take_set_of_le, ht]
theorem e_toIntS (k : Nat) (l : List Int) (hl : l.length ≤ 2000000) (hk : l.length < k) : laws_toIntS.f k l = some l := by
  unfold laws_toIntS.f
  rw [if_pos (by omega), if_pos (by omega)]
  exact e_toIntS_l0 l hl l.length 0 k _ (by omega) hk (by simp) (by simp)

theorem e_toBoard (k : Nat) (r c : Int) (l : List Int) (hl : l.length ≤ 2000000) (hk : l.length < k) : laws_toBoard.f k r c l = some (r, c, l) := by
  unfold laws_toBoard.f; rw [e_toIntS k l hl hk]; rfl

theorem e_eqIntS_l0 (a b : List Int) (hl : a.length ≤ 2000000) (hab : a.length = b.length) : ∀ (d i k : Nat), i + d = a.length → d < k →
    laws_eqIntS.l0 k a b (i : Int) = some (decide (a.drop i = b.drop i)) := by
  intro d
  induction d with
  | zero =>
    intro i k hi' hk
    obtain ⟨k, rfl⟩ : ∃ m, k = m + 1 := ⟨k - 1, by omega⟩
    simp only [laws_eqIntS.l0]; rw [if_neg (by omega), List.drop_eq_nil_of_le (by omega), List.drop_eq_nil_of_le (by omega)]; simp
  | succ d ih =>
    intro i k hi' hk
    obtain ⟨k, rfl⟩ : ∃ m, k = m + 1 := ⟨k - 1, by omega⟩
    have hlt : i < a.length := by omega
    have hlt2 : i < b.length := by omega
    simp only [laws_eqIntS.l0]
    rw [if_pos (by omega), if_pos (by omega), if_pos (by omega), rd_nat a i hlt, rd_nat b i hlt2, List.drop_eq_getElem_cons hlt, List.drop_eq_getElem_cons hlt2, w64 (by omega) (by omega), show ((i : Int) + 1) = ((i + 1 : Nat) : Int) from by omega, ih (i + 1) k (by omega) (by omega)]
    by_cases h : a[i] = b[i]
    · rw [if_pos h]; simp only [List.cons.injEq, h, true_and]
    · rw [if_neg h]; simp only [List.cons.injEq, h, false_and, decide_false]
theorem e_eqIntS (k : Nat) (a b : List Int) (hl : a.length ≤ 2000000) (hk : a.length < k) : laws_eqIntS.f k a b = some (decide (a = b)) := by
  unfold laws_eqIntS.f
  by_cases h : (a.length : Int) = (b.length : Int)
  · rw [if_pos h]; exact e_eqIntS_l0 a b hl (by omega) a.length 0 k (by omega) hk
  · rw [if_neg h]; simp; intro hc; rw [hc] at h; exact h rfl
theorem e_eqIntS_self (k : Nat) (a : List Int) (hl : a.length ≤ 2000000) (hk : a.length < k) : laws_eqIntS.f k a a = some true := by
  rw [e_eqIntS k a a hl hk]; simp

theorem e_eqBoard (k : Nat) (r c : Int) (l : List Int) (r' c' : Int) (l' : List Int) (hl : l.length ≤ 2000000) (hk : l.length < k) : laws_eqBoard.f k r c l r' c' l' = some (decide (r = r' ∧ c = c' ∧ l = l')) := by
  unfold laws_eqBoard.f
  by_cases h1 : r = r'
  · by_cases h2 : c = c'
    · rw [if_pos h1, if_pos h2, e_eqIntS k l l' hl hk]
      by_cases h3 : l = l' <;> simp [h1, h2, h3]
    · rw [if_pos h1, if_neg h2]; simp [h2]
  · rw [if_neg h1]; simp [h1]
theorem e_eqBoard_self (k : Nat) (r c : Int) (l : List Int) (hl : l.length ≤ 2000000) (hk : l.length < k) : laws_eqBoard.f k r c l r c l = some true := by
  rw [e_eqBoard k r c l r c l hl hk]; simp

/-- The numbers from a on, n of them. -/
def marks : Int → Nat → List Int
  | _, 0 => []
  | a, n + 1 => a :: marks (a + 1) n
theorem marks_length : ∀ (n : Nat) (a : Int), (marks a n).length = n
  | 0, _ => rfl
  | n + 1, a => by simp [marks, marks_length n]
theorem marks_get : ∀ (n : Nat) (a : Int) (i : Nat) (h : i < (marks a n).length), (marks a n)[i] = a + i
  | 0, _, i, h => by simp [marks] at h
  | n + 1, a, 0, h => by simp [marks]
  | n + 1, a, i + 1, h => by
    simp only [marks, List.getElem_cons_succ]
    rw [marks_get n (a + 1) i]; omega

theorem e_markIntS_l0 (n : Nat) (hn : n ≤ 2000000) : ∀ (d i k : Nat) (l : List Int) (a : Int), l.length = n → i + d = n → d < k → 0 ≤ a → a + d ≤ 1000000000 →
    laws_markIntS.l0 k l a (i : Int) = some (a + d, l.take i ++ marks a d) := by
  intro d
  induction d with
  | zero =>
    intro i k l a hl hi hk h0 h1
    obtain ⟨k, rfl⟩ : ∃ m, k = m + 1 := ⟨k - 1, by omega⟩
    simp only [laws_markIntS.l0]; rw [if_neg (by omega), List.take_of_length_le (by omega)]; simp [marks]
  | succ d ih =>
    intro i k l a hl hi hk h0 h1
    obtain ⟨k, rfl⟩ : ∃ m, k = m + 1 := ⟨k - 1, by omega⟩
    have hlt : i < l.length := by omega
    simp only [laws_markIntS.l0]
    rw [if_pos (by omega), if_pos (by omega), w64 (by omega) (by omega), w64 (by omega) (by omega), show ((i : Int) + 1) = ((i + 1 : Nat) : Int) from by omega]
    rw [ih (i + 1) k _ (a + 1) (by simpa using hl) (by omega) (by omega) (by omega) (by omega)]
    rw [Int.toNat_natCast, List.take_succ_eq_append_getElem (by simpa using hlt)]
    simp only [List.getElem_set_self, List.take_set_of_le (Nat.le_refl i), List.append_assoc, List.singleton_append, marks]
    congr 2; omega
theorem e_markIntS (k : Nat) (l : List Int) (a : Int) (hl : l.length ≤ 2000000) (hk : l.length < k) (h0 : 0 ≤ a) (h1 : a + l.length ≤ 1000000000) : laws_markIntS.f k l a = some (a + l.length, marks a l.length) := by
  unfold laws_markIntS.f
  have := e_markIntS_l0 l.length hl l.length 0 k l a rfl (by omega) hk h0 h1
  simpa using this

theorem e_markBoard (k : Nat) (r c : Int) (l : List Int) (a : Int) (hl : l.length ≤ 2000000) (hk : l.length < k) (h0 : 0 ≤ a) (h1 : a + l.length ≤ 1000000000) : laws_markBoard.f k r c l a = some (a + l.length, marks a l.length) := by
  unfold laws_markBoard.f; rw [e_markIntS k l a hl hk h0 h1]; rfl

theorem e_heldIntS_l0 (b : Int) (n : Nat) (hn : n ≤ 2000000) (hb : 0 ≤ b) (hbn : b + n ≤ 1000000000) : ∀ (d i k : Nat), i + d = n → d < k →
    laws_heldIntS.l0 k (marks b n) (b + i) (i : Int) = some (b + n) := by
  intro d
  induction d with
  | zero =>
    intro i k hi hk
    obtain ⟨k, rfl⟩ : ∃ m, k = m + 1 := ⟨k - 1, by omega⟩
    simp only [laws_heldIntS.l0, marks_length]; rw [if_neg (by omega)]; congr 1; omega
  | succ d ih =>
    intro i k hi hk
    obtain ⟨k, rfl⟩ : ∃ m, k = m + 1 := ⟨k - 1, by omega⟩
    have hlt : i < (marks b n).length := by rw [marks_length]; omega
    simp only [laws_heldIntS.l0]
    rw [rd_nat _ i hlt, marks_get n b i hlt]
    simp only [marks_length]
    rw [if_pos (by omega), if_pos (by omega), if_pos trivial, w64 (by omega) (by omega), w64 (by omega) (by omega), show ((i : Int) + 1) = ((i + 1 : Nat) : Int) from by omega, show b + (i : Int) + 1 = b + ((i + 1 : Nat) : Int) from by omega]
    exact ih (i + 1) k (by omega) (by omega)
theorem e_heldIntS (k : Nat) (n : Nat) (b : Int) (hn : n ≤ 2000000) (hk : n < k) (hb : 0 ≤ b) (hbn : b + n ≤ 1000000000) : laws_heldIntS.f k (marks b n) b = some (b + n) := by
  unfold laws_heldIntS.f
  have := e_heldIntS_l0 b n hn hb hbn n 0 k (by omega) hk
  simpa using this

/-- Is there a cell in the column c of a row m? -/
def cell (m c : Int) : Bool := decide (m / 2 ^ c.toNat % 2 = 1)
theorem fin_of (m : Int) (n : Nat) (h0 : 0 ≤ m) (h1 : m < n) : ∃ i : Fin n, m = (i.val : Int) := ⟨⟨m.toNat, by omega⟩, by simp; omega⟩
theorem cell_spec (m c : Int) (hm : 0 ≤ m ∧ m ≤ 63) (hc : 0 ≤ c ∧ c ≤ 6) : (Int.tmod (shr .i64 m c) 2 == 1) = cell m c := by
  have h : ∀ m : Fin 64, ∀ c : Fin 7, (Int.tmod (shr .i64 (m.val : Int) (c.val : Int)) 2 == 1) = cell (m.val : Int) (c.val : Int) := by decide +kernel
  obtain ⟨i, rfl⟩ := fin_of m 64 hm.1 (by omega)
  obtain ⟨j, rfl⟩ := fin_of c 7 hc.1 (by omega)
  exact h i j
theorem cell_impl (m c : Int) (hm : 0 ≤ m ∧ m ≤ 63) (hc : 0 ≤ c ∧ c ≤ 6) : (Go.bits .and .i64 (shr .i64 m c) 1 == 1) = cell m c := by
  have h : ∀ m : Fin 64, ∀ c : Fin 7, (Go.bits .and .i64 (shr .i64 (m.val : Int) (c.val : Int)) 1 == 1) = cell (m.val : Int) (c.val : Int) := by decide +kernel
  obtain ⟨i, rfl⟩ := fin_of m 64 hm.1 (by omega)
  obtain ⟨j, rfl⟩ := fin_of c 7 hc.1 (by omega)
  exact h i j
theorem pow_le (a : Int) (h : 1 ≤ a ∧ a ≤ 6) : 2 ≤ (2 : Int) ^ a.toNat ∧ (2 : Int) ^ a.toNat ≤ 64 := by
  obtain ⟨h0, h1⟩ := h
  obtain h | h | h | h | h | h : a = 1 ∨ a = 2 ∨ a = 3 ∨ a = 4 ∨ a = 5 ∨ a = 6 := by omega
  all_goals (subst h; decide +kernel)
theorem rd_mem (l : List Int) (i : Int) (h0 : 0 ≤ i) (h1 : i < l.length) : rd l i ∈ l := by
  obtain ⟨n, rfl⟩ := Int.eq_ofNat_of_zero_le h0
  rw [rd_nat l n (by omega)]; exact List.getElem_mem _

theorem i_IsBoard (r c : Int) (l : List Int) : impl_IsBoard.f r c l = some (decide (GoodB r c l)) := rfl

theorem goodB_le {r c : Int} {l : List Int} (h : GoodB r c l) : ∀ x ∈ l, 0 ≤ x ∧ x ≤ 63 := by
  intro x hx
  have := h.2.2.2 x hx
  have := pow_le c h.2.1
  omega
theorem goodB_len {r c : Int} {l : List Int} (h : GoodB r c l) : l.length ≤ 6 := by
  have := h.1; have := h.2.2.1; omega
/-- Is it a place of a board? -/
def Place (r c i j : Int) : Prop := (0 ≤ i ∧ i ≤ r - 1) ∧ (0 ≤ j ∧ j ≤ c - 1)
instance (r c i j : Int) : Decidable (Place r c i j) := by unfold Place; exact inferInstance

/-- How many cells a row has at its left. -/
def lead (m : Int) : Nat := ((List.range 7).find? (fun (j : Nat) => !cell m (j : Int))).getD 0
theorem lead_eq (m : Int) (hm : 0 ≤ m ∧ m ≤ 63) : lead m ≤ 6 ∧ cell m (lead m : Int) = false ∧ ∀ j, j < lead m → cell m (j : Int) = true := by
  have key : ∀ m : Fin 64, lead (m.val : Int) ≤ 6 ∧ cell (m.val : Int) (lead (m.val : Int) : Int) = false ∧ ∀ j : Fin 7, j.val < lead (m.val : Int) → cell (m.val : Int) (j.val : Int) = true := by decide +kernel
  obtain ⟨i, rfl⟩ := fin_of m 64 hm.1 (by omega)
  obtain ⟨h1, h2, h3⟩ := key i
  exact ⟨h1, h2, fun j hj => h3 ⟨j, by omega⟩ hj⟩
theorem lead_le (m c : Int) (h : 0 ≤ m ∧ m ≤ 2 ^ c.toNat - 1) (hc : 1 ≤ c ∧ c ≤ 6) : (lead m : Int) ≤ c := by
  have key : ∀ c : Fin 7, ∀ m : Fin 64, (m.val : Int) ≤ 2 ^ c.val - 1 → (lead (m.val : Int) : Int) ≤ (c.val : Int) := by decide +kernel
  have hp := pow_le c hc
  obtain ⟨i, rfl⟩ := fin_of m 64 h.1 (by omega)
  obtain ⟨j, rfl⟩ := fin_of c 7 (by omega) (by omega)
  rw [Int.toNat_natCast] at h
  exact key j i h.2
/-- The length of each row, if all begin at the left. -/
def lensG : List Int → List Int → List Int × Bool
  | [], acc => (acc, true)
  | m :: t, acc => if m = 2 ^ lead m - 1 then lensG t (acc ++ [(lead m : Int)]) else ([], false)
theorem lensG_len : ∀ (l acc : List Int), (lensG l acc).2 = true → (lensG l acc).1.length = acc.length + l.length
  | [], acc, _ => by simp [lensG]
  | m :: t, acc, h => by
    simp only [lensG] at h ⊢
    by_cases e : m = 2 ^ lead m - 1
    · rw [if_pos e] at h ⊢; rw [lensG_len t _ h]; simp; omega
    · rw [if_neg e] at h; cases h
theorem lensG_mem (c : Int) (hc : 1 ≤ c ∧ c ≤ 6) : ∀ (l acc : List Int), (∀ x ∈ l, 0 ≤ x ∧ x ≤ 2 ^ c.toNat - 1) → (∀ x ∈ acc, 0 ≤ x ∧ x ≤ c) → ∀ x ∈ (lensG l acc).1, 0 ≤ x ∧ x ≤ c
  | [], acc, _, ha => by simpa [lensG] using ha
  | m :: t, acc, hx, ha => by
    simp only [lensG]
    by_cases e : m = 2 ^ lead m - 1
    · rw [if_pos e]
      refine lensG_mem c hc t _ (fun x h => hx x (List.mem_cons_of_mem _ h)) ?_
      intro x h
      rcases List.mem_append.1 h with h | h
      · exact ha x h
      · simp at h; have := lead_le m c (hx m (by simp)) hc; omega
    · rw [if_neg e]; intro x h; cases h
theorem shl_pow (n : Nat) (h : n ≤ 6) : wrap64 (shl .i64 1 (n : Int) - 1) = 2 ^ n - 1 := by
  have key : ∀ i : Fin 7, wrap64 (shl .i64 1 (i.val : Int) - 1) = 2 ^ i.val - 1 := by decide +kernel
  exact key ⟨n, by omega⟩

theorem cell_spec' (m c : Int) (hm : 0 ≤ m ∧ m ≤ 63) (hc : 0 ≤ c ∧ c ≤ 6) : (Int.tmod (shr .i64 m c) 2 = 1) ↔ cell m c = true := by
  rw [← cell_spec m c hm hc]; simp
theorem feLen_l1 (l : List Int) (acc : List Int) (i : Int) (m : Int) (hm : 0 ≤ m ∧ m ≤ 63) (ha : acc.length ≤ 100) : ∀ (d j k : Nat), j + d = lead m →
    spec_feLengths.l1 (k + d + 1) acc m (j : Int) l (l.length : Int) i = if m = 2 ^ lead m - 1 then spec_feLengths.l0 k (acc ++ [(lead m : Int)]) l (l.length : Int) (wrap64 (i + 1)) else some ([], false) := by
  obtain ⟨h1, h2, h3⟩ := lead_eq m hm
  intro d
  induction d with
  | zero =>
    intro j k hj
    obtain rfl : j = lead m := hj
    simp only [Nat.add_zero, spec_feLengths.l1]
    have hno : ¬ (Int.tmod (shr .i64 m (lead m : Int)) 2 = 1) := fun hc => by
      have := (cell_spec' m (lead m : Int) hm (by omega)).1 hc; rw [h2] at this; cases this
    rw [if_pos (by omega), if_neg hno, shl_pow _ h1, if_pos (show acc.length < 17592186044416 by omega)]
  | succ d ih =>
    intro j k hj
    obtain ⟨K, hK⟩ : ∃ K, K = k + d + 1 := ⟨_, rfl⟩
    rw [show k + (d + 1) + 1 = K + 1 from by omega]
    have hyes := (cell_spec' m (j : Int) hm (by omega)).2 (h3 j (by omega))
    simp only [spec_feLengths.l1]
    rw [if_pos (by omega), if_pos hyes, w64 (x := (j : Int) + 1) (by omega) (by omega), show ((j : Int) + 1) = ((j + 1 : Nat) : Int) from by omega, hK, ih (j + 1) k (by omega)]
theorem feLen_l0 (l : List Int) (hl : l.length ≤ 6) (hx : ∀ x ∈ l, 0 ≤ x ∧ x ≤ 63) : ∀ (d i k : Nat) (acc : List Int), i + d = l.length → acc.length + d ≤ 50 → d * 8 < k →
    spec_feLengths.l0 k acc l (l.length : Int) (i : Int) = some (lensG (l.drop i) acc) := by
  intro d
  induction d with
  | zero =>
    intro i k acc hi ha hk
    obtain ⟨k, rfl⟩ : ∃ m, k = m + 1 := ⟨k - 1, by omega⟩
    simp only [spec_feLengths.l0]
    rw [if_neg (by omega), List.drop_eq_nil_of_le (by omega)]; rfl
  | succ d ih =>
    intro i k acc hi ha hk
    have hlt : i < l.length := by omega
    have hm := hx l[i] (List.getElem_mem _)
    have hle := (lead_eq l[i] hm).1
    obtain ⟨k, rfl⟩ : ∃ m, k = (m + lead l[i] + 1) + 1 := ⟨k - lead l[i] - 2, by omega⟩
    simp only [spec_feLengths.l0]
    have := feLen_l1 l acc (i : Int) l[i] hm (by omega) (lead l[i]) 0 k (by omega)
    rw [show ((0 : Nat) : Int) = 0 from rfl] at this
    rw [if_pos (by omega), if_pos (by omega), if_pos (by omega), rd_nat l i hlt, this, List.drop_eq_getElem_cons hlt]
    simp only [lensG]
    by_cases e : l[i] = 2 ^ lead l[i] - 1
    · rw [if_pos e, if_pos e, w64 (x := (i : Int) + 1) (by omega) (by omega), show ((i : Int) + 1) = ((i + 1 : Nat) : Int) from by omega, ih (i + 1) k _ (by omega) (by simp; omega) (by omega)]
    · rw [if_neg e, if_neg e]
theorem e_feLengths (k : Nat) (r c : Int) (l : List Int) (g : GoodB r c l) (hk : 100 ≤ k) : spec_feLengths.f k r c l = some (lensG l []) := by
  unfold spec_feLengths.f
  have := goodB_len g
  have := feLen_l0 l (by omega) (goodB_le g) l.length 0 k [] (by omega) (by simp; omega) (by omega)
  simpa using this

theorem cell_impl' (m c : Int) (hm : 0 ≤ m ∧ m ≤ 63) (hc : 0 ≤ c ∧ c ≤ 6) : (Go.bits .and .i64 (shr .i64 m c) 1 = 1) ↔ cell m c = true := by
  rw [← cell_impl m c hm hc]; simp
theorem iLen_l1 (l : List Int) (acc : List Int) (i : Int) (m : Int) (hm : 0 ≤ m ∧ m ≤ 63) (ha : acc.length ≤ 100) : ∀ (d j k : Nat), j + d = lead m →
    impl_Board_lengths.l1 (k + d + 1) acc m (j : Int) l (l.length : Int) i = if m = 2 ^ lead m - 1 then impl_Board_lengths.l0 k (acc ++ [(lead m : Int)]) l (l.length : Int) (wrap64 (i + 1)) else some ([], false) := by
  obtain ⟨h1, h2, h3⟩ := lead_eq m hm
  intro d
  induction d with
  | zero =>
    intro j k hj
    obtain rfl : j = lead m := hj
    simp only [Nat.add_zero, impl_Board_lengths.l1]
    have hno : ¬ (Go.bits .and .i64 (shr .i64 m (lead m : Int)) 1 = 1) := fun hc => by
      have := (cell_impl' m (lead m : Int) hm (by omega)).1 hc; rw [h2] at this; cases this
    rw [if_pos (by omega), if_neg hno, shl_pow _ h1, if_pos (show acc.length < 17592186044416 by omega)]
  | succ d ih =>
    intro j k hj
    obtain ⟨K, hK⟩ : ∃ K, K = k + d + 1 := ⟨_, rfl⟩
    rw [show k + (d + 1) + 1 = K + 1 from by omega]
    have hyes := (cell_impl' m (j : Int) hm (by omega)).2 (h3 j (by omega))
    simp only [impl_Board_lengths.l1]
    rw [if_pos (by omega), if_pos hyes, w64 (x := (j : Int) + 1) (by omega) (by omega), show ((j : Int) + 1) = ((j + 1 : Nat) : Int) from by omega, hK, ih (j + 1) k (by omega)]
theorem iLen_l0 (l : List Int) (hl : l.length ≤ 6) (hx : ∀ x ∈ l, 0 ≤ x ∧ x ≤ 63) : ∀ (d i k : Nat) (acc : List Int), i + d = l.length → acc.length + d ≤ 50 → d * 8 < k →
    impl_Board_lengths.l0 k acc l (l.length : Int) (i : Int) = some (lensG (l.drop i) acc) := by
  intro d
  induction d with
  | zero =>
    intro i k acc hi ha hk
    obtain ⟨k, rfl⟩ : ∃ m, k = m + 1 := ⟨k - 1, by omega⟩
    simp only [impl_Board_lengths.l0]
    rw [if_neg (by omega), List.drop_eq_nil_of_le (by omega)]; rfl
  | succ d ih =>
    intro i k acc hi ha hk
    have hlt : i < l.length := by omega
    have hm := hx l[i] (List.getElem_mem _)
    have hle := (lead_eq l[i] hm).1
    obtain ⟨k, rfl⟩ : ∃ m, k = (m + lead l[i] + 1) + 1 := ⟨k - lead l[i] - 2, by omega⟩
    simp only [impl_Board_lengths.l0]
    have := iLen_l1 l acc (i : Int) l[i] hm (by omega) (lead l[i]) 0 k (by omega)
    rw [show ((0 : Nat) : Int) = 0 from rfl] at this
    rw [if_pos (by omega), if_pos (by omega), if_pos (by omega), rd_nat l i hlt, this, List.drop_eq_getElem_cons hlt]
    simp only [lensG]
    by_cases e : l[i] = 2 ^ lead l[i] - 1
    · rw [if_pos e, if_pos e, w64 (x := (i : Int) + 1) (by omega) (by omega), show ((i : Int) + 1) = ((i + 1 : Nat) : Int) from by omega, ih (i + 1) k _ (by omega) (by simp; omega) (by omega)]
    · rw [if_neg e, if_neg e]
theorem i_lengths (k : Nat) (r c : Int) (l : List Int) (g : GoodB r c l) (hk : 100 ≤ k) : impl_Board_lengths.f k r c l = some (lensG l []) := by
  unfold impl_Board_lengths.f
  have := goodB_len g
  have := iLen_l0 l (by omega) (goodB_le g) l.length 0 k [] (by omega) (by simp; omega) (by omega)
  simpa using this

theorem e_l1In (a b c : Int) : spec_l1In.f a b c = some (decide (b ≤ a ∧ a ≤ c)) := by
  unfold spec_l1In.f
  by_cases h : b ≤ a
  · rw [if_pos h]; simp [h]
  · rw [if_neg h]; simp [h]

theorem e_l1All_l0 (lo hi : Int) (l : List Int) (hl : l.length ≤ 2000000) : ∀ (d i k : Nat), i + d = l.length → d < k →
    spec_l1All.l0 k lo hi l (l.length : Int) (i : Int) = some (decide (∀ x ∈ l.drop i, lo ≤ x ∧ x ≤ hi)) := by
  intro d
  induction d with
  | zero =>
    intro i k hi' hk
    obtain ⟨k, rfl⟩ : ∃ m, k = m + 1 := ⟨k - 1, by omega⟩
    simp only [spec_l1All.l0]; rw [if_neg (by omega), List.drop_eq_nil_of_le (by omega)]; simp
  | succ d ih =>
    intro i k hi' hk
    obtain ⟨k, rfl⟩ : ∃ m, k = m + 1 := ⟨k - 1, by omega⟩
    have hlt : i < l.length := by omega
    simp only [spec_l1All.l0]
    rw [if_pos (by omega), if_pos (by omega), if_pos (by omega), e_l1In, rd_nat l i hlt, List.drop_eq_getElem_cons hlt, w64 (by omega) (by omega)]
    simp only [Option.bind_some, decide_eq_true_eq, List.forall_mem_cons]
    by_cases h : lo ≤ l[i] ∧ l[i] ≤ hi
    · rw [if_pos h]
      have := ih (i + 1) k (by omega) (by omega)
      rw [show ((i : Int) + 1) = ((i + 1 : Nat) : Int) from by omega, this]; simp [h]
    · rw [if_neg h]; simp [h]
theorem e_l1All (k : Nat) (l : List Int) (lo hi : Int) (hl : l.length ≤ 2000000) (hk : l.length < k) : spec_l1All.f k l lo hi = some (decide (∀ x ∈ l, lo ≤ x ∧ x ≤ hi)) := by
  unfold spec_l1All.f; exact e_l1All_l0 lo hi l hl l.length 0 k (by omega) hk

theorem e_boSide (a : Int) : spec_boSide.f a = some (decide (1 ≤ a ∧ a ≤ 6)) := by
  unfold spec_boSide.f; rw [e_l1In]; rfl

theorem sh1 (a : Int) (h : 1 ≤ a ∧ a ≤ 6) : wrap64 (shl .i64 1 a - 1) = 2 ^ a.toNat - 1 := by
  obtain ⟨h0, h1⟩ := h
  obtain h | h | h | h | h | h : a = 1 ∨ a = 2 ∨ a = 3 ∨ a = 4 ∨ a = 5 ∨ a = 6 := by omega
  all_goals (subst h; decide +kernel)
theorem e_boGood (k : Nat) (r c : Int) (l : List Int) (hl : l.length ≤ 2000000) (hk : l.length < k) : spec_boGood.f k r c l = some (decide (GoodB r c l)) := by
  unfold spec_boGood.f
  rw [e_boSide, e_boSide]
  simp only [Option.bind_some, decide_eq_true_eq]
  by_cases h0 : 1 ≤ r ∧ r ≤ 6
  · by_cases h1 : 1 ≤ c ∧ c ≤ 6
    · by_cases h2 : (l.length : Int) = r
      · rw [if_pos h0, if_pos h1, if_pos h2, if_pos (by omega), sh1 c h1, e_l1All k l _ _ hl hk]
        simp [GoodB, h0, h1, h2]
      · rw [if_pos h0, if_pos h1, if_neg h2]; simp [GoodB, h2]
    · rw [if_pos h0, if_neg h1]; simp [GoodB, h1]
  · rw [if_neg h0]; simp [GoodB, h0]

theorem e_roSquare (k : Nat) (r c : Int) (l : List Int) (hl : l.length ≤ 2000000) (hk : l.length < k) : spec_roSquare.f k r c l = some (decide (GoodB r c l ∧ r = c)) := by
  unfold spec_roSquare.f
  rw [e_boGood k r c l hl hk]
  simp only [Option.bind_some, Bool.decide_and]
  generalize decide (GoodB r c l) = p
  cases p <;> simp
  exact (Bool.beq_eq_decide_eq r c)

theorem i_isSquare (r c : Int) (l : List Int) : impl_isSquare.f r c l = some (decide (GoodB r c l ∧ r = c)) := by
  unfold impl_isSquare.f
  rw [i_IsBoard]
  simp only [Option.bind_some, Bool.decide_and]
  generalize decide (GoodB r c l) = p
  cases p <;> simp
  exact (Bool.beq_eq_decide_eq r c)

def segF (L : List Int) (m i d : Nat) : List Int := ((List.range' i d).filter fun j : Nat => decide ((L.getD j 0).toNat = m)).map fun j : Nat => (j : Int)
def preK (L : List Int) : Nat → List Int
  | 0 => []
  | m + 1 => preK L m ++ segF L m 0 L.length
theorem preK_ordK (L : List Int) : ∀ m, preK L (m + 1) = ordK L m
  | 0 => by rw [preK, preK, ordK, segF, List.range_eq_range']; simp
  | m + 1 => by rw [preK, preK_ordK L m, ordK, segF, List.range_eq_range']
theorem segF_len (L : List Int) (m i d : Nat) : (segF L m i d).length ≤ d := by
  unfold segF
  rw [List.length_map]
  exact Nat.le_trans (List.length_filter_le _ _) (by simp)
theorem preK_len (L : List Int) : ∀ m, (preK L m).length ≤ m * L.length
  | 0 => by simp [preK]
  | m + 1 => by
    have := preK_len L m; have := segF_len L m 0 L.length
    rw [preK, List.length_append, Nat.succ_mul]; omega
theorem ord_l1 (L : List Int) (hL : ∀ x ∈ L, 0 ≤ x ∧ x ≤ 6) (hn : L.length ≤ 6) (m : Nat) (hm : m ≤ 6) (r c : Int) (l : List Int) : ∀ (d i k : Nat) (acc : List Int), i + d = L.length → acc.length + d ≤ 1000 →
    spec_OrderOf.l1 (k + d + 1) L acc (m : Int) L (L.length : Int) (i : Int) r c l = spec_OrderOf.l0 k L (acc ++ segF L m i d) ((m + 1 : Nat) : Int) r c l := by
  intro d
  induction d with
  | zero =>
    intro i k acc hi ha
    simp only [Nat.add_zero, spec_OrderOf.l1]
    rw [if_neg (by omega), w64 (by omega) (by omega)]; simp [segF]
  | succ d ih =>
    intro i k acc hi ha
    have hlt : i < L.length := by omega
    have hx := hL L[i] (List.getElem_mem hlt)
    obtain ⟨K, hK⟩ : ∃ K, K = k + d + 1 := ⟨_, rfl⟩
    rw [show k + (d + 1) + 1 = K + 1 from by omega]
    simp only [spec_OrderOf.l1]
    rw [if_pos (show (i : Int) < (L.length : Int) by omega), if_pos (show (0 : Int) ≤ (i : Int) by omega), if_pos (show (i : Int) < (L.length : Int) by omega), rd_nat L i hlt, w64 (by omega) (by omega), show ((i : Int) + 1) = ((i + 1 : Nat) : Int) from by omega, hK]
    have e : (L.getD i 0) = L[i] := by simp [List.getD, hlt]
    have hs : segF L m i (d + 1) = (if (m : Int) = L[i] then [(i : Int)] else []) ++ segF L m (i + 1) d := by
      unfold segF
      rw [List.range'_succ, List.filter_cons, e]
      by_cases h : (m : Int) = L[i]
      · rw [if_pos h, if_pos (by rw [← h]; simp)]; rfl
      · rw [if_neg h, if_neg (by simp; omega)]; rfl
    rw [hs]
    by_cases h : (m : Int) = L[i]
    · rw [if_pos h, if_pos h, if_pos (by omega), ih (i + 1) k _ (by omega) (by simp; omega), List.append_assoc]
    · rw [if_neg h, if_neg h, ih (i + 1) k _ (by omega) (by omega), List.nil_append]
theorem ord_l0 (L : List Int) (hL : ∀ x ∈ L, 0 ≤ x ∧ x ≤ 6) (hn : L.length ≤ 6) (C : Nat) (hC : C ≤ 6) (r : Int) (l : List Int) : ∀ (d m k : Nat), m + d = C + 1 → d * (L.length + 2) < k →
    spec_OrderOf.l0 k L (preK L m) (m : Int) r (C : Int) l = some (preK L (C + 1), true) := by
  intro d
  induction d with
  | zero =>
    intro m k hm hk
    obtain ⟨k, rfl⟩ : ∃ m, k = m + 1 := ⟨k - 1, by omega⟩
    simp only [spec_OrderOf.l0]
    rw [if_neg (by omega), show m = C + 1 by omega]
  | succ d ih =>
    intro m k hm hk
    rw [Nat.succ_mul] at hk
    obtain ⟨k, rfl⟩ : ∃ j, k = (j + L.length + 1) + 1 := ⟨k - (L.length + 2), by omega⟩
    have hp := preK_len L m
    have h42 : m * L.length ≤ 6 * 6 := Nat.mul_le_mul (by omega) (by omega)
    simp only [spec_OrderOf.l0]
    rw [if_pos (by omega), show (0 : Int) = ((0 : Nat) : Int) from rfl, ord_l1 L hL hn m (by omega) r (C : Int) l L.length 0 k (preK L m) (by omega) (by omega)]
    exact ih (m + 1) k (by omega) (by omega)
theorem ordK_top (L : List Int) (C : Nat) (hL : ∀ x ∈ L, 0 ≤ x ∧ x ≤ (C : Int)) : ∀ d, ordK L (C + d) = ordK L C
  | 0 => rfl
  | d + 1 => by
    rw [show C + (d + 1) = (C + d) + 1 by omega, ordK, ordK_top L C hL d]
    have : ((List.range L.length).filter fun i : Nat => decide ((L.getD i 0).toNat = C + d + 1)) = [] := by
      apply List.filter_eq_nil_iff.2
      intro i hi
      have hi2 := List.mem_range.1 hi
      have hx := hL L[i] (List.getElem_mem hi2)
      have e : (L.getD i 0) = L[i] := by simp [List.getD, hi2]
      rw [e]
      simp; omega
    rw [this]; simp
def orOut (r c : Int) (l : List Int) : List Int × Bool := if GoodB r c l ∧ r = c then (if (lensG l []).2 = true then (ordK (lensG l []).1 6, true) else ([], false)) else ([], false)
theorem e_OrderOf (k : Nat) (r c : Int) (l : List Int) (hl : l.length ≤ 2000000) (hk : l.length < k) (hk2 : 100 ≤ k) : spec_OrderOf.f k r c l = some (orOut r c l) := by
  unfold spec_OrderOf.f orOut
  rw [e_roSquare k r c l hl hk]
  simp only [Option.bind_some, decide_eq_true_eq]
  by_cases g : GoodB r c l ∧ r = c
  · rw [if_pos g, if_pos g, e_feLengths k r c l g.1 hk2]
    simp only [Option.bind_some]
    by_cases h : (lensG l []).2 = true
    · have hn := lensG_len l [] h
      have hg := goodB_len g.1
      have h2 := g.1.2.1
      simp only [List.length_nil, Nat.zero_add] at hn
      have hm := lensG_mem c h2 l [] g.1.2.2.2 (fun x hx => by cases hx)
      obtain ⟨C, rfl⟩ := Int.eq_ofNat_of_zero_le (show 0 ≤ c by omega)
      rw [if_pos h, if_pos h]
      have hmul : (C + 1) * ((lensG l []).1.length + 2) ≤ 7 * 8 := Nat.mul_le_mul (by omega) (by omega)
      have := ord_l0 (lensG l []).1 (fun x hx => by have := hm x hx; omega) (by omega) C (by omega) r l (C + 1) 0 k (by omega) (by omega)
      rw [preK_ordK] at this
      have ht := ordK_top (lensG l []).1 C hm (6 - C)
      rw [show C + (6 - C) = 6 by omega] at ht
      rw [ht]
      simpa [preK] using this
    · rw [if_neg h, if_neg h]
  · rw [if_neg g, if_neg g]
theorem i_OrderOf (k : Nat) (r c : Int) (l : List Int) (hk2 : 100 ≤ k) : impl_OrderOf.f k r c l = some (orOut r c l) := by
  unfold impl_OrderOf.f orOut
  rw [i_isSquare]
  simp only [Option.bind_some, decide_eq_true_eq]
  by_cases g : GoodB r c l ∧ r = c
  · rw [if_pos g, if_pos g, i_lengths k r c l g.1 hk2]
    simp only [Option.bind_some]
    by_cases h : (lensG l []).2 = true
    · have hn := lensG_len l [] h
      have hg := goodB_len g.1
      have h1 := g.1.1
      have h2 := g.1.2.1
      have h3 := g.1.2.2.1
      simp only [List.length_nil, Nat.zero_add] at hn
      have hm := lensG_mem c h2 l [] g.1.2.2.2 (fun x hx => by cases hx)
      rw [if_pos h, if_pos h, if_pos]
      exact ⟨by omega, by omega, by omega, List.all_eq_true.2 (fun x hx => decide_eq_true (by have := hm x hx; omega))⟩
    · rw [if_neg h, if_neg h]
  · rw [if_neg g, if_neg g]
theorem orOut_len (r c : Int) (l : List Int) : (orOut r c l).1.length ≤ 100 := by
  unfold orOut
  split
  · rename_i g
    split
    · rename_i h
      have := lensG_len l [] h
      have := goodB_len g.1
      have h7 := preK_len (lensG l []).1 7
      rw [preK_ordK] at h7
      simp only [List.length_nil, Nat.zero_add] at *
      omega
    · simp
  · simp

theorem FnExactOrderOf : laws_FnExactOrderOf.Pure := by
  intro r c l _ _ hm _
  refine ⟨2000010, ?_⟩
  unfold laws_FnExactOrderOf.f
  rw [e_szBoard r c l 1048576 hm (by omega) (by omega)]
  simp only [Option.bind_some]
  by_cases h : (1048576 : Int) - l.length < 0
  · rw [if_pos h]; rfl
  · rw [if_neg h, if_neg h, e_toBoard _ r c l (by omega) (by omega)]
    simp only [Option.bind_some]
    rw [e_OrderOf _ r c l (by omega) (by omega) (by omega), i_OrderOf _ r c l (by omega)]
    have hI : ∀ k, 100 ≤ k → impl_OrderOf.f k r c l = some (orOut r c l) := fun k hk => i_OrderOf k r c l hk
    have hlen := orOut_len r c l
    generalize orOut r c l = o at hI hlen
    obtain ⟨o1, o2⟩ := o
    simp only at hlen
    repeat (first
      | (simp only [Option.bind_some, bne_self_eq_false, Bool.false_eq_true, if_false, if_true, Bool.not_true, Bool.not_false])
      | (rw [e_toBoard _ _ _ _ (by omega) (by omega)])
      | (rw [e_eqBoard_self _ _ _ _ (by omega) (by omega)])
      | (rw [e_toIntS _ _ (by omega) (by omega)])
      | (rw [e_eqIntS_self _ _ (by omega) (by omega)])
      | (rw [e_markBoard _ _ _ _ _ (by omega) (by omega) (by omega) (by omega)])
      | (rw [e_markIntS _ _ _ (by omega) (by omega) (by omega) (by omega)])
      | (rw [e_heldIntS _ _ _ (by omega) (by omega) (by omega) (by omega)])
      | (rw [hI _ (by omega)])
      | (rw [laws_FnExactOrderOf.j0])
      | (rw [laws_FnExactOrderOf.j1])
      | (rw [laws_FnExactOrderOf.j2])
      | (rw [if_neg (show ¬ (_ : Int) < 0 by omega)])
      | (rw [if_pos (show (_ : Int) = _ from rfl)])
      | (rfl))

end Go.Proofs.Ytbjijnehgjfhlaa.Pure
