/- IsOrdered: the law's function comes to true at every board. -/
import Derived.Test.YtiidbapgbomfjaaPFnExactIsOrderedx4
namespace Go.Proofs.Ytiidbapgbomfjaa.Pure
open Go.RowKit Go.Proofs.Ytiidbapgbomfjaa.PFnExactIsOrdered Go.Proofs.YtiidbapgbomfjaaW.PrintWords Go.Proofs.YtiidbapgbomfjaaW.PrintLast
set_option linter.unusedVariables false
set_option linter.unusedSimpArgs false

theorem w64 {x : Int} (h0 : -9223372036854775808 ≤ x) (h1 : x < 9223372036854775808) : wrap64 x = x := by
  unfold wrap64; omega
theorem rd_nat (l : List Int) (i : Nat) (h : i < l.length) : rd l (i : Int) = l[i] := by
  unfold rd; simp [List.getD, h]

theorem e_szIntS (l : List Int) (a : Int) (hl : l.length ≤ maxLen) (h0 : 0 ≤ a) (h1 : a ≤ 1048576) : laws_szIntS.f l a = some (if a - l.length < 0 then -1 else a - l.length) := by
  unfold laws_szIntS.f
  have : l.length ≤ 9223372036854775807 := hl
  rw [w64 (by omega) (by omega)]
  by_cases h : a - (l.length : Int) < 0
  · rw [if_pos h, if_pos h]
  · rw [if_neg h, if_neg h]

theorem e_szBoard (r c : Int) (l : List Int) (a : Int) (hl : l.length ≤ maxLen) (h0 : 0 ≤ a) (h1 : a ≤ 1048576) : laws_szBoard.f r c l a = some (if a - l.length < 0 then -1 else a - l.length) := by
  unfold laws_szBoard.f
  rw [e_szIntS l a hl h0 h1]
  simp only [Option.bind_some]
  by_cases h : a - (l.length : Int) < 0
  · rw [if_pos h]; rfl
  · rw [if_neg h, if_neg h]

theorem e_toIntS_l0 (l : List Int) (hl : l.length ≤ 2000000) : ∀ (d i k : Nat) (m : List Int), i + d = l.length → d < k → m.length = l.length → m.take i = l.take i →
    laws_toIntS.l0 k l m (i : Int) = some l := by
  intro d
  induction d with
  | zero =>
    intro i k m hi' hk hm ht
    obtain ⟨k, rfl⟩ : ∃ m, k = m + 1 := ⟨k - 1, by omega⟩
    simp only [laws_toIntS.l0]; rw [if_neg (by omega)]
    rw [List.take_of_length_le (by omega), List.take_of_length_le (by omega)] at ht; rw [ht]
  | succ d ih =>
    intro i k m hi' hk hm ht
    obtain ⟨k, rfl⟩ : ∃ m, k = m + 1 := ⟨k - 1, by omega⟩
    have hlt : i < l.length := by omega
    simp only [laws_toIntS.l0]
    rw [if_pos (by omega), if_pos (by omega), if_pos (by omega), rd_nat l i hlt, w64 (by omega) (by omega), show ((i : Int) + 1) = ((i + 1 : Nat) : Int) from by omega]
    refine ih (i + 1) k _ (by omega) (by omega) (by simpa using hm) ?_
    rw [Int.toNat_natCast, List.take_succ_eq_append_getElem (by simpa using (by omega : i < m.length)), List.take_succ_eq_append_getElem hlt]
    simp [List.take_set_of_le, ht]
theorem e_toIntS (k : Nat) (l : List Int) (hl : l.length ≤ 2000000) (hk : l.length < k) : laws_toIntS.f k l = some l := by
  unfold laws_toIntS.f
  rw [if_pos (by omega), if_pos (by omega)]
  exact e_toIntS_l0 l hl l.length 0 k _ (by omega) hk (by simp) (by simp)

theorem e_toBoard (k : Nat) (r c : Int) (l : List Int) (hl : l.length ≤ 2000000) (hk : l.length < k) : laws_toBoard.f k r c l = some (r, c, l) := by
  unfold laws_toBoard.f; rw [e_toIntS k l hl hk]; rfl

theorem e_eqIntS_l0 (a b : List Int) (hl : a.length ≤ 2000000) (hab : a.length = b.length) : ∀ (d i k : Nat), i + d = a.length → d < k →
    laws_eqIntS.l0 k a b (i : Int) = some (decide (a.drop i = b.drop i)) := by
  intro d
  induction d with
  | zero =>
    intro i k hi' hk
    obtain ⟨k, rfl⟩ : ∃ m, k = m + 1 := ⟨k - 1, by omega⟩
    simp only [laws_eqIntS.l0]; rw [if_neg (by omega), List.drop_eq_nil_of_le (by omega), List.drop_eq_nil_of_le (by omega)]; simp
  | succ d ih =>
    intro i k hi' hk
    obtain ⟨k, rfl⟩ : ∃ m, k = m + 1 := ⟨k - 1, by omega⟩
    have hlt : i < a.length := by omega
    have hlt2 : i < b.length := by omega
    simp only [laws_eqIntS.l0]
    rw [if_pos (by omega), if_pos (by omega), if_pos (by omega), rd_nat a i hlt, rd_nat b i hlt2, List.drop_eq_getElem_cons hlt, List.drop_eq_getElem_cons hlt2, w64 (by omega) (by omega), show ((i : Int) + 1) = ((i + 1 : Nat) : Int) from by omega, ih (i + 1) k (by omega) (by omega)]
    by_cases h : a[i] = b[i]
    · rw [if_pos h]; simp only [List.cons.injEq, h, true_and]
    · rw [if_neg h]; simp only [List.cons.injEq, h, false_and, decide_false]
theorem e_eqIntS (k : Nat) (a b : List Int) (hl : a.length ≤ 2000000) (hk : a.length < k) : laws_eqIntS.f k a b = some (decide (a = b)) := by
  unfold laws_eqIntS.f
  by_cases h : (a.length : Int) = (b.length : Int)
  · rw [if_pos h]; exact e_eqIntS_l0 a b hl (by omega) a.length 0 k (by omega) hk
  · rw [if_neg h]; simp; intro hc; rw [hc] at h; exact h rfl
theorem e_eqIntS_self (k : Nat) (a : List Int) (hl : a.length ≤ 2000000) (hk : a.length < k) : laws_eqIntS.f k a a = some true := by
  rw [e_eqIntS k a a hl hk]; simp

theorem e_eqBoard (k : Nat) (r c : Int) (l : List Int) (r' c' : Int) (l' : List Int) (hl : l.length ≤ 2000000) (hk : l.length < k) : laws_eqBoard.f k r c l r' c' l' = some (decide (r = r' ∧ c = c' ∧ l = l')) := by
  unfold laws_eqBoard.f
  by_cases h1 : r = r'
  · by_cases h2 : c = c'
    · rw [if_pos h1, if_pos h2, e_eqIntS k l l' hl hk]
      by_cases h3 : l = l' <;> simp [h1, h2, h3]
    · rw [if_pos h1, if_neg h2]; simp [h2]
  · rw [if_neg h1]; simp [h1]
theorem e_eqBoard_self (k : Nat) (r c : Int) (l : List Int) (hl : l.length ≤ 2000000) (hk : l.length < k) : laws_eqBoard.f k r c l r c l = some true := by
  rw [e_eqBoard k r c l r c l hl hk]; simp

theorem e_l1In (a b c : Int) : spec_l1In.f a b c = some (decide (b ≤ a ∧ a ≤ c)) := by
  unfold spec_l1In.f
  by_cases h : b ≤ a
  · rw [if_pos h]; simp [h]
  · rw [if_neg h]; simp [h]

theorem e_l1All_l0 (lo hi : Int) (l : List Int) (hl : l.length ≤ 2000000) : ∀ (d i k : Nat), i + d = l.length → d < k →
    spec_l1All.l0 k lo hi l (l.length : Int) (i : Int) = some (decide (∀ x ∈ l.drop i, lo ≤ x ∧ x ≤ hi)) := by
  intro d
  induction d with
  | zero =>
    intro i k hi' hk
    obtain ⟨k, rfl⟩ : ∃ m, k = m + 1 := ⟨k - 1, by omega⟩
    simp only [spec_l1All.l0]; rw [if_neg (by omega), List.drop_eq_nil_of_le (by omega)]; simp
  | succ d ih =>
    intro i k hi' hk
    obtain ⟨k, rfl⟩ : ∃ m, k = m + 1 := ⟨k - 1, by omega⟩
    have hlt : i < l.length := by omega
    simp only [spec_l1All.l0]
    rw [if_pos (by omega), if_pos (by omega), if_pos (by omega), e_l1In, rd_nat l i hlt, List.drop_eq_getElem_cons hlt, w64 (by omega) (by omega)]
    simp only [Option.bind_some, decide_eq_true_eq, List.forall_mem_cons]
    by_cases h : lo ≤ l[i] ∧ l[i] ≤ hi
    · rw [if_pos h]
      have := ih (i + 1) k (by omega) (by omega)
      rw [show ((i : Int) + 1) = ((i + 1 : Nat) : Int) from by omega, this]; simp [h]
    · rw [if_neg h]; simp [h]
theorem e_l1All (k : Nat) (l : List Int) (lo hi : Int) (hl : l.length ≤ 2000000) (hk : l.length < k) : spec_l1All.f k l lo hi = some (decide (∀ x ∈ l, lo ≤ x ∧ x ≤ hi)) := by
  unfold spec_l1All.f; exact e_l1All_l0 lo hi l hl l.length 0 k (by omega) hk

theorem e_boSide (a : Int) : spec_boSide.f a = some (decide (1 ≤ a ∧ a ≤ 6)) := by
  unfold spec_boSide.f; rw [e_l1In]; rfl

/-- Is there a cell in the column c of a row m? -/
def cell (m c : Int) : Bool := decide (m / 2 ^ c.toNat % 2 = 1)
theorem fin_of (m : Int) (n : Nat) (h0 : 0 ≤ m) (h1 : m < n) : ∃ i : Fin n, m = (i.val : Int) := ⟨⟨m.toNat, by omega⟩, by simp; omega⟩
theorem cell_spec (m c : Int) (hm : 0 ≤ m ∧ m ≤ 63) (hc : 0 ≤ c ∧ c ≤ 6) : (Int.tmod (shr .i64 m c) 2 == 1) = cell m c := by
  have h : ∀ m : Fin 64, ∀ c : Fin 7, (Int.tmod (shr .i64 (m.val : Int) (c.val : Int)) 2 == 1) = cell (m.val : Int) (c.val : Int) := by decide +kernel
  obtain ⟨i, rfl⟩ := fin_of m 64 hm.1 (by omega)
  obtain ⟨j, rfl⟩ := fin_of c 7 hc.1 (by omega)
  exact h i j
theorem cell_impl (m c : Int) (hm : 0 ≤ m ∧ m ≤ 63) (hc : 0 ≤ c ∧ c ≤ 6) : (Go.bits .and .i64 (shr .i64 m c) 1 == 1) = cell m c := by
  have h : ∀ m : Fin 64, ∀ c : Fin 7, (Go.bits .and .i64 (shr .i64 (m.val : Int) (c.val : Int)) 1 == 1) = cell (m.val : Int) (c.val : Int) := by decide +kernel
  obtain ⟨i, rfl⟩ := fin_of m 64 hm.1 (by omega)
  obtain ⟨j, rfl⟩ := fin_of c 7 hc.1 (by omega)
  exact h i j
theorem pow_le (a : Int) (h : 1 ≤ a ∧ a ≤ 6) : 2 ≤ (2 : Int) ^ a.toNat ∧ (2 : Int) ^ a.toNat ≤ 64 := by
  obtain ⟨h0, h1⟩ := h
  obtain h | h | h | h | h | h : a = 1 ∨ a = 2 ∨ a = 3 ∨ a = 4 ∨ a = 5 ∨ a = 6 := by omega
  all_goals (subst h; decide +kernel)
theorem rd_mem (l : List Int) (i : Int) (h0 : 0 ≤ i) (h1 : i < l.length) : rd l i ∈ l := by
  obtain ⟨n, rfl⟩ := Int.eq_ofNat_of_zero_le h0
  rw [rd_nat l n (by omega)]; exact List.getElem_mem _

theorem goodB_le {r c : Int} {l : List Int} (h : GoodB r c l) : ∀ x ∈ l, 0 ≤ x ∧ x ≤ 63 := by
  intro x hx
  have := h.2.2.2 x hx
  have := pow_le c h.2.1
  omega
theorem goodB_len {r c : Int} {l : List Int} (h : GoodB r c l) : l.length ≤ 6 := by
  have := h.1; have := h.2.2.1; omega
/-- Is it a place of a board? -/
def Place (r c i j : Int) : Prop := (0 ≤ i ∧ i ≤ r - 1) ∧ (0 ≤ j ∧ j ≤ c - 1)
instance (r c i j : Int) : Decidable (Place r c i j) := by unfold Place; exact inferInstance
theorem i_IsBoard (r c : Int) (l : List Int) : impl_IsBoard.f r c l = some (decide (GoodB r c l)) := rfl

theorem sh1 (a : Int) (h : 1 ≤ a ∧ a ≤ 6) : wrap64 (shl .i64 1 a - 1) = 2 ^ a.toNat - 1 := by
  obtain ⟨h0, h1⟩ := h
  obtain h | h | h | h | h | h : a = 1 ∨ a = 2 ∨ a = 3 ∨ a = 4 ∨ a = 5 ∨ a = 6 := by omega
  all_goals (subst h; decide +kernel)
theorem e_boGood (k : Nat) (r c : Int) (l : List Int) (hl : l.length ≤ 2000000) (hk : l.length < k) : spec_boGood.f k r c l = some (decide (GoodB r c l)) := by
  unfold spec_boGood.f
  rw [e_boSide, e_boSide]
  simp only [Option.bind_some, decide_eq_true_eq]
  by_cases h0 : 1 ≤ r ∧ r ≤ 6
  · by_cases h1 : 1 ≤ c ∧ c ≤ 6
    · by_cases h2 : (l.length : Int) = r
      · rw [if_pos h0, if_pos h1, if_pos h2, if_pos (by omega), sh1 c h1, e_l1All k l _ _ hl hk]
        simp [GoodB, h0, h1, h2]
      · rw [if_pos h0, if_pos h1, if_neg h2]; simp [GoodB, h2]
    · rw [if_pos h0, if_neg h1]; simp [GoodB, h1]
  · rw [if_neg h0]; simp [GoodB, h0]

/-- How many cells a row has at its left. -/
def lead (m : Int) : Nat := ((List.range 7).find? (fun (j : Nat) => !cell m (j : Int))).getD 0
theorem lead_eq (m : Int) (hm : 0 ≤ m ∧ m ≤ 63) : lead m ≤ 6 ∧ cell m (lead m : Int) = false ∧ ∀ j, j < lead m → cell m (j : Int) = true := by
  have key : ∀ m : Fin 64, lead (m.val : Int) ≤ 6 ∧ cell (m.val : Int) (lead (m.val : Int) : Int) = false ∧ ∀ j : Fin 7, j.val < lead (m.val : Int) → cell (m.val : Int) (j.val : Int) = true := by decide +kernel
  obtain ⟨i, rfl⟩ := fin_of m 64 hm.1 (by omega)
  obtain ⟨h1, h2, h3⟩ := key i
  exact ⟨h1, h2, fun j hj => h3 ⟨j, by omega⟩ hj⟩
theorem lead_le (m c : Int) (h : 0 ≤ m ∧ m ≤ 2 ^ c.toNat - 1) (hc : 1 ≤ c ∧ c ≤ 6) : (lead m : Int) ≤ c := by
  have key : ∀ c : Fin 7, ∀ m : Fin 64, (m.val : Int) ≤ 2 ^ c.val - 1 → (lead (m.val : Int) : Int) ≤ (c.val : Int) := by decide +kernel
  have hp := pow_le c hc
  obtain ⟨i, rfl⟩ := fin_of m 64 h.1 (by omega)
  obtain ⟨j, rfl⟩ := fin_of c 7 (by omega) (by omega)
  rw [Int.toNat_natCast] at h
  exact key j i h.2
/-- The length of each row, if all begin at the left. -/
def lensG : List Int → List Int → List Int × Bool
  | [], acc => (acc, true)
  | m :: t, acc => if m = 2 ^ lead m - 1 then lensG t (acc ++ [(lead m : Int)]) else ([], false)
theorem lensG_len : ∀ (l acc : List Int), (lensG l acc).2 = true → (lensG l acc).1.length = acc.length + l.length
  | [], acc, _ => by simp [lensG]
  | m :: t, acc, h => by
    simp only [lensG] at h ⊢
    by_cases e : m = 2 ^ lead m - 1
    · rw [if_pos e] at h ⊢; rw [lensG_len t _ h]; simp; omega
    · rw [if_neg e] at h; cases h
theorem lensG_mem (c : Int) (hc : 1 ≤ c ∧ c ≤ 6) : ∀ (l acc : List Int), (∀ x ∈ l, 0 ≤ x ∧ x ≤ 2 ^ c.toNat - 1) → (∀ x ∈ acc, 0 ≤ x ∧ x ≤ c) → ∀ x ∈ (lensG l acc).1, 0 ≤ x ∧ x ≤ c
  | [], acc, _, ha => by simpa [lensG] using ha
  | m :: t, acc, hx, ha => by
    simp only [lensG]
    by_cases e : m = 2 ^ lead m - 1
    · rw [if_pos e]
      refine lensG_mem c hc t _ (fun x h => hx x (List.mem_cons_of_mem _ h)) ?_
      intro x h
      rcases List.mem_append.1 h with h | h
      · exact ha x h
      · simp at h; have := lead_le m c (hx m (by simp)) hc; omega
    · rw [if_neg e]; intro x h; cases h
theorem shl_pow (n : Nat) (h : n ≤ 6) : wrap64 (shl .i64 1 (n : Int) - 1) = 2 ^ n - 1 := by
  have key : ∀ i : Fin 7, wrap64 (shl .i64 1 (i.val : Int) - 1) = 2 ^ i.val - 1 := by decide +kernel
  exact key ⟨n, by omega⟩

theorem cell_spec' (m c : Int) (hm : 0 ≤ m ∧ m ≤ 63) (hc : 0 ≤ c ∧ c ≤ 6) : (Int.tmod (shr .i64 m c) 2 = 1) ↔ cell m c = true := by
  rw [← cell_spec m c hm hc]; simp
theorem feLen_l1 (l : List Int) (acc : List Int) (i : Int) (m : Int) (hm : 0 ≤ m ∧ m ≤ 63) (ha : acc.length ≤ 100) : ∀ (d j k : Nat), j + d = lead m →
    spec_feLengths.l1 (k + d + 1) acc m (j : Int) l (l.length : Int) i = if m = 2 ^ lead m - 1 then spec_feLengths.l0 k (acc ++ [(lead m : Int)]) l (l.length : Int) (wrap64 (i + 1)) else some ([], false) := by
  obtain ⟨h1, h2, h3⟩ := lead_eq m hm
  intro d
  induction d with
  | zero =>
    intro j k hj
    obtain rfl : j = lead m := hj
    simp only [Nat.add_zero, spec_feLengths.l1]
    have hno : ¬ (Int.tmod (shr .i64 m (lead m : Int)) 2 = 1) := fun hc => by
      have := (cell_spec' m (lead m : Int) hm (by omega)).1 hc; rw [h2] at this; cases this
    rw [if_pos (by omega), if_neg hno, shl_pow _ h1, if_pos (show acc.length < 17592186044416 by omega)]
  | succ d ih =>
    intro j k hj
    obtain ⟨K, hK⟩ : ∃ K, K = k + d + 1 := ⟨_, rfl⟩
    rw [show k + (d + 1) + 1 = K + 1 from by omega]
    have hyes := (cell_spec' m (j : Int) hm (by omega)).2 (h3 j (by omega))
    simp only [spec_feLengths.l1]
    rw [if_pos (by omega), if_pos hyes, w64 (x := (j : Int) + 1) (by omega) (by omega), show ((j : Int) + 1) = ((j + 1 : Nat) : Int) from by omega, hK, ih (j + 1) k (by omega)]
theorem feLen_l0 (l : List Int) (hl : l.length ≤ 6) (hx : ∀ x ∈ l, 0 ≤ x ∧ x ≤ 63) : ∀ (d i k : Nat) (acc : List Int), i + d = l.length → acc.length + d ≤ 50 → d * 8 < k →
    spec_feLengths.l0 k acc l (l.length : Int) (i : Int) = some (lensG (l.drop i) acc) := by
  intro d
  induction d with
  | zero =>
    intro i k acc hi ha hk
    obtain ⟨k, rfl⟩ : ∃ m, k = m + 1 := ⟨k - 1, by omega⟩
    simp only [spec_feLengths.l0]
    rw [if_neg (by omega), List.drop_eq_nil_of_le (by omega)]; rfl
  | succ d ih =>
    intro i k acc hi ha hk
    have hlt : i < l.length := by omega
    have hm := hx l[i] (List.getElem_mem _)
    have hle := (lead_eq l[i] hm).1
    obtain ⟨k, rfl⟩ : ∃ m, k = (m + lead l[i] + 1) + 1 := ⟨k - lead l[i] - 2, by omega⟩
    simp only [spec_feLengths.l0]
    have := feLen_l1 l acc (i : Int) l[i] hm (by omega) (lead l[i]) 0 k (by omega)
    rw [show ((0 : Nat) : Int) = 0 from rfl] at this
    rw [if_pos (by omega), if_pos (by omega), if_pos (by omega), rd_nat l i hlt, this, List.drop_eq_getElem_cons hlt]
    simp only [lensG]
    by_cases e : l[i] = 2 ^ lead l[i] - 1
    · rw [if_pos e, if_pos e, w64 (x := (i : Int) + 1) (by omega) (by omega), show ((i : Int) + 1) = ((i + 1 : Nat) : Int) from by omega, ih (i + 1) k _ (by omega) (by simp; omega) (by omega)]
    · rw [if_neg e, if_neg e]
theorem e_feLengths (k : Nat) (r c : Int) (l : List Int) (g : GoodB r c l) (hk : 100 ≤ k) : spec_feLengths.f k r c l = some (lensG l []) := by
  unfold spec_feLengths.f
  have := goodB_len g
  have := feLen_l0 l (by omega) (goodB_le g) l.length 0 k [] (by omega) (by simp; omega) (by omega)
  simpa using this

theorem cell_impl' (m c : Int) (hm : 0 ≤ m ∧ m ≤ 63) (hc : 0 ≤ c ∧ c ≤ 6) : (Go.bits .and .i64 (shr .i64 m c) 1 = 1) ↔ cell m c = true := by
  rw [← cell_impl m c hm hc]; simp
theorem iLen_l1 (l : List Int) (acc : List Int) (i : Int) (m : Int) (hm : 0 ≤ m ∧ m ≤ 63) (ha : acc.length ≤ 100) : ∀ (d j k : Nat), j + d = lead m →
    impl_Board_lengths.l1 (k + d + 1) acc m (j : Int) l (l.length : Int) i = if m = 2 ^ lead m - 1 then impl_Board_lengths.l0 k (acc ++ [(lead m : Int)]) l (l.length : Int) (wrap64 (i + 1)) else some ([], false) := by
  obtain ⟨h1, h2, h3⟩ := lead_eq m hm
  intro d
  induction d with
  | zero =>
    intro j k hj
    obtain rfl : j = lead m := hj
    simp only [Nat.add_zero, impl_Board_lengths.l1]
    have hno : ¬ (Go.bits .and .i64 (shr .i64 m (lead m : Int)) 1 = 1) := fun hc => by
      have := (cell_impl' m (lead m : Int) hm (by omega)).1 hc; rw [h2] at this; cases this
    rw [if_pos (by omega), if_neg hno, shl_pow _ h1, if_pos (show acc.length < 17592186044416 by omega)]
  | succ d ih =>
    intro j k hj
    obtain ⟨K, hK⟩ : ∃ K, K = k + d + 1 := ⟨_, rfl⟩
    rw [show k + (d + 1) + 1 = K + 1 from by omega]
    have hyes := (cell_impl' m (j : Int) hm (by omega)).2 (h3 j (by omega))
    simp only [impl_Board_lengths.l1]
    rw [if_pos (by omega), if_pos hyes, w64 (x := (j : Int) + 1) (by omega) (by omega), show ((j : Int) + 1) = ((j + 1 : Nat) : Int) from by omega, hK, ih (j + 1) k (by omega)]
theorem iLen_l0 (l : List Int) (hl : l.length ≤ 6) (hx : ∀ x ∈ l, 0 ≤ x ∧ x ≤ 63) : ∀ (d i k : Nat) (acc : List Int), i + d = l.length → acc.length + d ≤ 50 → d * 8 < k →
    impl_Board_lengths.l0 k acc l (l.length : Int) (i : Int) = some (lensG (l.drop i) acc) := by
  intro d
  induction d with
  | zero =>
    intro i k acc hi ha hk
    obtain ⟨k, rfl⟩ : ∃ m, k = m + 1 := ⟨k - 1, by omega⟩
    simp only [impl_Board_lengths.l0]
    rw [if_neg (by omega), List.drop_eq_nil_of_le (by omega)]; rfl
  | succ d ih =>
    intro i k acc hi ha hk
    have hlt : i < l.length := by omega
    have hm := hx l[i] (List.getElem_mem _)
    have hle := (lead_eq l[i] hm).1
    obtain ⟨k, rfl⟩ : ∃ m, k = (m + lead l[i] + 1) + 1 := ⟨k - lead l[i] - 2, by omega⟩
    simp only [impl_Board_lengths.l0]
    have := iLen_l1 l acc (i : Int) l[i] hm (by omega) (lead l[i]) 0 k (by omega)
    rw [show ((0 : Nat) : Int) = 0 from rfl] at this
    rw [if_pos (by omega), if_pos (by omega), if_pos (by omega), rd_nat l i hlt, this, List.drop_eq_getElem_cons hlt]
    simp only [lensG]
    by_cases e : l[i] = 2 ^ lead l[i] - 1
    · rw [if_pos e, if_pos e, w64 (x := (i : Int) + 1) (by omega) (by omega), show ((i : Int) + 1) = ((i + 1 : Nat) : Int) from by omega, ih (i + 1) k _ (by omega) (by simp; omega) (by omega)]
    · rw [if_neg e, if_neg e]
theorem i_lengths (k : Nat) (r c : Int) (l : List Int) (g : GoodB r c l) (hk : 100 ≤ k) : impl_Board_lengths.f k r c l = some (lensG l []) := by
  unfold impl_Board_lengths.f
  have := goodB_len g
  have := iLen_l0 l (by omega) (goodB_le g) l.length 0 k [] (by omega) (by simp; omega) (by omega)
  simpa using this

/-- A list does not fall. -/
def up : List Int → Prop
  | [] => True
  | [_] => True
  | a :: b :: r => a ≤ b ∧ up (b :: r)
instance upDec : ∀ l, Decidable (up l)
  | [] => .isTrue trivial
  | [_] => .isTrue trivial
  | a :: b :: r => by unfold up; have := upDec (b :: r); exact inferInstance

def Good (l : List Int) : Prop := (1 ≤ (l.length : Int) ∧ (l.length : Int) ≤ 6) ∧ (∀ x ∈ l, 0 ≤ x ∧ x ≤ (l.length : Int)) ∧ up l
instance (l : List Int) : Decidable (Good l) := by unfold Good; exact inferInstance

theorem e_feGood_l0 (l : List Int) (hl : l.length ≤ 2000000) : ∀ (d i k : Nat), i + 1 + d = l.length → d < k →
    spec_feGood.l0 k l ((i + 1 : Nat) : Int) = some (decide (up (l.drop i))) := by
  intro d
  induction d with
  | zero =>
    intro i k hi' hk
    obtain ⟨k, rfl⟩ : ∃ m, k = m + 1 := ⟨k - 1, by omega⟩
    simp only [spec_feGood.l0]; rw [if_neg (by omega), List.drop_eq_getElem_cons (by omega), List.drop_eq_nil_of_le (by omega)]; exact congrArg some (decide_eq_true trivial).symm
  | succ d ih =>
    intro i k hi' hk
    obtain ⟨k, rfl⟩ : ∃ m, k = m + 1 := ⟨k - 1, by omega⟩
    have hlt : i < l.length := by omega
    have hlt1 : i + 1 < l.length := by omega
    simp only [spec_feGood.l0]
    rw [w64 (x := ((i + 1 : Nat) : Int) - 1) (by omega) (by omega), if_pos (by omega), if_pos (by omega), if_pos (by omega), if_pos (by omega), rd_nat l (i + 1) hlt1,
      show ((i + 1 : Nat) : Int) - 1 = (i : Int) from by omega, rd_nat l i hlt, w64 (by omega) (by omega), show ((i + 1 : Nat) : Int) + 1 = ((i + 1 + 1 : Nat) : Int) from by omega, ih (i + 1) k (by omega) (by omega),
      List.drop_eq_getElem_cons hlt, List.drop_eq_getElem_cons hlt1]
    by_cases h : l[i + 1] < l[i]
    · rw [if_pos h]; simp only [up]; simp; intro h2; omega
    · rw [if_neg h]; simp only [up]; simp; intro; omega
theorem e_feGood (k : Nat) (l : List Int) (hl : l.length ≤ 2000000) (hk : l.length + 1 < k) : spec_feGood.f k l = some (decide (Good l)) := by
  unfold spec_feGood.f
  rw [e_boSide, e_l1All _ _ _ _ hl (by omega)]
  obtain ⟨k, rfl⟩ : ∃ m, k = m + 1 := ⟨k - 1, by omega⟩
  simp only [Option.bind_some, decide_eq_true_eq, spec_feGood.j0]
  by_cases h : 1 ≤ (l.length : Int) ∧ (l.length : Int) ≤ 6
  · rw [if_pos h]
    by_cases h2 : ∀ x ∈ l, 0 ≤ x ∧ x ≤ (l.length : Int)
    · have := e_feGood_l0 l hl (l.length - 1) 0 k (by omega) (by omega)
      rw [show ((0 + 1 : Nat) : Int) = 1 from rfl] at this
      simp only [decide_eq_true h2, Bool.not_true, Bool.false_eq_true, if_false]
      rw [this]; simp only [Good]; simp [h]; exact fun _ => h2
    · simp only [decide_eq_false h2, Bool.not_false, if_true]; simp only [Good]; simp [h2]
  · rw [if_neg h]; simp only [Good]; simp [h]

theorem e_Less (a b : Int) : cmp_Less_int.f a b = some (decide (a < b)) := by
  unfold cmp_Less_int.f; rw [show cmp_isNaN_int.f a = some false from by unfold cmp_isNaN_int.f; simp]; rfl
theorem up_take_succ (l : List Int) (i : Nat) (h : i + 1 < l.length) : up (l.drop i) ↔ l[i] ≤ l[i + 1] ∧ up (l.drop (i + 1)) := by
  rw [List.drop_eq_getElem_cons (by omega), List.drop_eq_getElem_cons h]; rfl
theorem not_up (l : List Int) (i : Nat) (hi : i + 1 < l.length) (h : l[i + 1] < l[i]) : ∀ (d j : Nat), j + d = i → ¬ up (l.drop j) := by
  intro d
  induction d with
  | zero =>
    intro j hj
    obtain rfl : j = i := hj
    rw [up_take_succ l j hi]; intro hc; omega
  | succ d ih => intro j hj; rw [up_take_succ l j (by omega)]; intro hc; exact ih (j + 1) (by omega) hc.2
theorem e_IsSorted_l0 (l : List Int) (hl : l.length ≤ 2000000) : ∀ (i k : Nat), i < l.length → i < k → up (l.drop i) →
    slices_IsSorted_int_int.l0 k l (i : Int) = some (decide (up l)) := by
  intro i
  induction i with
  | zero =>
    intro k hi' hk hu
    obtain ⟨k, rfl⟩ : ∃ m, k = m + 1 := ⟨k - 1, by omega⟩
    simp only [slices_IsSorted_int_int.l0]; rw [if_neg (by omega)]; rw [List.drop_zero] at hu; simp [hu]
  | succ i ih =>
    intro k hi' hk hu
    obtain ⟨k, rfl⟩ : ∃ m, k = m + 1 := ⟨k - 1, by omega⟩
    have hlt : i < l.length := by omega
    simp only [slices_IsSorted_int_int.l0]
    rw [w64 (x := ((i + 1 : Nat) : Int) - 1) (by omega) (by omega), if_pos (by omega), if_pos (by omega), if_pos (by omega), if_pos (by omega), if_pos (by omega), rd_nat l (i + 1) hi',
      show ((i + 1 : Nat) : Int) - 1 = (i : Int) from by omega, rd_nat l i hlt, e_Less]
    simp only [Option.bind_some, decide_eq_true_eq]
    by_cases h : l[i + 1] < l[i]
    · rw [if_pos h]
      have := not_up l i hi' h i 0 (by omega)
      rw [List.drop_zero] at this; simp [this]
    · rw [if_neg h]; exact ih k hlt (by omega) ((up_take_succ l i hi').2 ⟨by omega, hu⟩)
theorem e_IsSorted (k : Nat) (l : List Int) (hl : l.length ≤ 2000000) (h1 : 1 ≤ l.length) (hk : l.length < k) : slices_IsSorted_int_int.f k l = some (decide (up l)) := by
  unfold slices_IsSorted_int_int.f
  rw [w64 (by omega) (by omega), show (l.length : Int) - 1 = ((l.length - 1 : Nat) : Int) from by omega]
  refine e_IsSorted_l0 l hl (l.length - 1) k (by omega) (by omega) ?_
  rw [List.drop_eq_getElem_cons (by omega), List.drop_eq_nil_of_le (by omega)]; simp [up]

theorem e_roSquare (k : Nat) (r c : Int) (l : List Int) (hl : l.length ≤ 2000000) (hk : l.length < k) : spec_roSquare.f k r c l = some (decide (GoodB r c l ∧ r = c)) := by
  unfold spec_roSquare.f
  rw [e_boGood k r c l hl hk]
  simp only [Option.bind_some, Bool.decide_and]
  generalize decide (GoodB r c l) = p
  cases p <;> simp
  exact (Bool.beq_eq_decide_eq r c)

theorem i_isSquare (r c : Int) (l : List Int) : impl_isSquare.f r c l = some (decide (GoodB r c l ∧ r = c)) := by
  unfold impl_isSquare.f
  rw [i_IsBoard]
  simp only [Option.bind_some, Bool.decide_and]
  generalize decide (GoodB r c l) = p
  cases p <;> simp
  exact (Bool.beq_eq_decide_eq r c)

def lensOut (r c : Int) (l : List Int) : List Int × Bool := if GoodB r c l ∧ r = c ∧ (lensG l []).2 = true ∧ up (lensG l []).1 then ((lensG l []).1, true) else ([], false)
theorem lens_good (r c : Int) (l : List Int) (g : GoodB r c l) (e : r = c) (h : (lensG l []).2 = true) : Good (lensG l []).1 ↔ up (lensG l []).1 := by
  have h1 := g.1; have h2 := g.2.2.1
  have hl := lensG_len l [] h
  simp only [List.length_nil, Nat.zero_add] at hl
  have hm := lensG_mem c g.2.1 l [] g.2.2.2 (fun x hx => by cases hx)
  constructor
  · exact fun x => x.2.2
  · intro hu
    refine ⟨by omega, fun x hx => ?_, hu⟩
    have := hm x hx; omega
theorem e_LengthsOf (k : Nat) (r c : Int) (l : List Int) (hl : l.length ≤ 2000000) (hk : l.length < k) (hk2 : 100 ≤ k) : spec_LengthsOf.f k r c l = some (lensOut r c l) := by
  unfold spec_LengthsOf.f lensOut
  rw [e_roSquare k r c l hl hk]
  simp only [Option.bind_some, decide_eq_true_eq]
  by_cases g : GoodB r c l ∧ r = c
  · rw [if_pos g, e_feLengths k r c l g.1 hk2]
    simp only [Option.bind_some]
    by_cases h : (lensG l []).2 = true
    · have hn := lensG_len l [] h; have := goodB_len g.1
      rw [if_pos h, e_feGood k _ (by simp at hn; omega) (by simp at hn; omega)]
      simp only [Option.bind_some, decide_eq_true_eq]
      by_cases u : up (lensG l []).1
      · rw [if_pos ((lens_good r c l g.1 g.2 h).2 u), if_pos ⟨g.1, g.2, h, u⟩]
      · rw [if_neg (fun x => u ((lens_good r c l g.1 g.2 h).1 x)), if_neg (fun x => u x.2.2.2)]
    · rw [if_neg h, if_neg (fun x => h x.2.2.1)]
  · rw [if_neg g, if_neg (fun x => g ⟨x.1, x.2.1⟩)]
theorem i_LengthsOf (k : Nat) (r c : Int) (l : List Int) (hk2 : 100 ≤ k) : impl_LengthsOf.f k r c l = some (lensOut r c l) := by
  unfold impl_LengthsOf.f lensOut
  rw [i_isSquare]
  simp only [Option.bind_some, decide_eq_true_eq]
  by_cases g : GoodB r c l ∧ r = c
  · rw [if_pos g, i_lengths k r c l g.1 hk2]
    simp only [Option.bind_some]
    by_cases h : (lensG l []).2 = true
    · have hn := lensG_len l [] h; have := goodB_len g.1; have := g.1.1; have := g.1.2.2.1
      rw [if_pos h, e_IsSorted k _ (by simp at hn; omega) (by simp at hn; omega) (by simp at hn; omega)]
      simp only [Option.bind_some, decide_eq_true_eq]
      by_cases u : up (lensG l []).1
      · rw [if_pos u, if_pos ⟨g.1, g.2, h, u⟩]
      · rw [if_neg u, if_neg (fun x => u x.2.2.2)]
    · rw [if_neg h, if_neg (fun x => h x.2.2.1)]
  · rw [if_neg g, if_neg (fun x => g ⟨x.1, x.2.1⟩)]
theorem lensOut_len (r c : Int) (l : List Int) : (lensOut r c l).1.length ≤ 6 := by
  unfold lensOut
  split
  · rename_i h; have := lensG_len l [] h.2.2.1; have := goodB_len h.1; simp at *; omega
  · simp

def ordOut (r c : Int) (l : List Int) : Bool × Bool := if GoodB r c l then ((lensOut r c l).2, true) else (false, false)
theorem io_spec (k : Nat) (r c : Int) (l : List Int) (hl : l.length ≤ 2000000) (hk : l.length < k) (hk2 : 100 ≤ k) : spec_IsOrdered.f k r c l = some (ordOut r c l) := by
  unfold spec_IsOrdered.f ordOut
  rw [e_boGood k r c l hl hk]
  simp only [Option.bind_some, decide_eq_true_eq]
  by_cases g : GoodB r c l
  · rw [if_pos g, if_pos g, e_LengthsOf k r c l hl hk hk2]; rfl
  · rw [if_neg g, if_neg g]
theorem io_impl (k : Nat) (r c : Int) (l : List Int) (hk2 : 100 ≤ k) : impl_IsOrdered.f k r c l = some (ordOut r c l) := by
  unfold impl_IsOrdered.f ordOut
  rw [i_IsBoard]
  simp only [Option.bind_some, decide_eq_true_eq]
  by_cases g : GoodB r c l
  · rw [if_pos g, if_pos g, i_LengthsOf k r c l hk2]; rfl
  · rw [if_neg g, if_neg g]
theorem FnExactIsOrdered : laws_FnExactIsOrdered.Pure := by
  intro r c l _ _ hm _
  refine ⟨2000010, ?_⟩
  unfold laws_FnExactIsOrdered.f
  rw [e_szBoard r c l 1048576 hm (by omega) (by omega)]
  simp only [Option.bind_some]
  by_cases h : (1048576 : Int) - l.length < 0
  · rw [if_pos h]; rfl
  · rw [if_neg h, if_neg h, e_toBoard _ r c l (by omega) (by omega)]
    simp only [Option.bind_some]
    rw [io_spec _ r c l (by omega) (by omega) (by omega), io_impl _ r c l (by omega)]
    generalize ordOut r c l = o
    obtain ⟨o1, o2⟩ := o
    repeat (first
      | (simp only [Option.bind_some, bne_self_eq_false, Bool.false_eq_true, if_false, if_true, Bool.not_true, Bool.not_false])
      | (rw [e_toBoard _ _ _ _ (by omega) (by omega)])
      | (rw [e_eqBoard_self _ _ _ _ (by omega) (by omega)])
      | (rw [e_toIntS _ _ (by omega) (by omega)])
      | (rw [e_eqIntS_self _ _ (by omega) (by omega)])
      | (rw [laws_FnExactIsOrdered.j0])
      | (rw [if_neg (show ¬ (_ : Int) < 0 by omega)])
      | (rw [if_pos (show (_ : Int) = _ from rfl)])
      | (rfl))

end Go.Proofs.Ytiidbapgbomfjaa.Pure
