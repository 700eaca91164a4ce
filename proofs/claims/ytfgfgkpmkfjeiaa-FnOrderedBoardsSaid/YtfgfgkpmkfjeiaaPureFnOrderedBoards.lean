/- OrderedBoards: the law's function comes to true. -/
import Derived.Test.YtfgfgkpmkfjeiaaPFnOrderedBoardsx13
namespace Go.Proofs.Ytfgfgkpmkfjeiaa.Pure
open Go.RowKit Go.Proofs.Ytfgfgkpmkfjeiaa.PFnOrderedBoards Go.Proofs.YtfgfgkpmkfjeiaaW.PrintWords Go.Proofs.YtfgfgkpmkfjeiaaW.PrintLast
set_option linter.unusedVariables false
set_option linter.unusedSimpArgs false

theorem w64 {x : Int} (h0 : -9223372036854775808 ≤ x) (h1 : x < 9223372036854775808) : wrap64 x = x := by
  unfold wrap64; omega
theorem rd_nat (l : List Int) (i : Nat) (h : i < l.length) : rd l (i : Int) = l[i] := by
  unfold rd; simp [List.getD, h]

theorem e_l1In (a b c : Int) : spec_l1In.f a b c = some (decide (b ≤ a ∧ a ≤ c)) := by
  unfold spec_l1In.f
  by_cases h : b ≤ a
  · rw [if_pos h]; simp [h]
  · rw [if_neg h]; simp [h]

theorem e_l1All_l0 (lo hi : Int) (l : List Int) (hl : l.length ≤ 2000000) : ∀ (d i k : Nat), i + d = l.length → d < k →
    spec_l1All.l0 k lo hi l (l.length : Int) (i : Int) = some (decide (∀ x ∈ l.drop i, lo ≤ x ∧ x ≤ hi)) := by
  intro d
  induction d with
  | zero =>
    intro i k hi' hk
    obtain ⟨k, rfl⟩ : ∃ m, k = m + 1 := ⟨k - 1, by omega⟩
    simp only [spec_l1All.l0]; rw [if_neg (by omega), List.drop_eq_nil_of_le (by omega)]; simp
  | succ d ih =>
    intro i k hi' hk
    obtain ⟨k, rfl⟩ : ∃ m, k = m + 1 := ⟨k - 1, by omega⟩
    have hlt : i < l.length := by omega
    simp only [spec_l1All.l0]
    rw [if_pos (by omega), if_pos (by omega), if_pos (by omega), e_l1In, rd_nat l i hlt, List.drop_eq_getElem_cons hlt, w64 (by omega) (by omega)]
    simp only [Option.bind_some, decide_eq_true_eq, List.forall_mem_cons]
    by_cases h : lo ≤ l[i] ∧ l[i] ≤ hi
    · rw [if_pos h]
      have := ih (i + 1) k (by omega) (by omega)
      rw [show ((i : Int) + 1) = ((i + 1 : Nat) : Int) from by omega, this]; simp [h]
    · rw [if_neg h]; simp [h]
theorem e_l1All (k : Nat) (l : List Int) (lo hi : Int) (hl : l.length ≤ 2000000) (hk : l.length < k) : spec_l1All.f k l lo hi = some (decide (∀ x ∈ l, lo ≤ x ∧ x ≤ hi)) := by
  unfold spec_l1All.f; exact e_l1All_l0 lo hi l hl l.length 0 k (by omega) hk

theorem e_boSide (a : Int) : spec_boSide.f a = some (decide (1 ≤ a ∧ a ≤ 6)) := by
  unfold spec_boSide.f; rw [e_l1In]; rfl

/-- Is there a cell in the column c of a row m? -/
def cell (m c : Int) : Bool := decide (m / 2 ^ c.toNat % 2 = 1)
theorem fin_of (m : Int) (n : Nat) (h0 : 0 ≤ m) (h1 : m < n) : ∃ i : Fin n, m = (i.val : Int) := ⟨⟨m.toNat, by omega⟩, by simp; omega⟩
theorem cell_spec (m c : Int) (hm : 0 ≤ m ∧ m ≤ 63) (hc : 0 ≤ c ∧ c ≤ 6) : (Int.tmod (shr .i64 m c) 2 == 1) = cell m c := by
  have h : ∀ m : Fin 64, ∀ c : Fin 7, (Int.tmod (shr .i64 (m.val : Int) (c.val : Int)) 2 == 1) = cell (m.val : Int) (c.val : Int) := by decide +kernel
  obtain ⟨i, rfl⟩ := fin_of m 64 hm.1 (by omega)
  obtain ⟨j, rfl⟩ := fin_of c 7 hc.1 (by omega)
  exact h i j
theorem cell_impl (m c : Int) (hm : 0 ≤ m ∧ m ≤ 63) (hc : 0 ≤ c ∧ c ≤ 6) : (Go.bits .and .i64 (shr .i64 m c) 1 == 1) = cell m c := by
  have h : ∀ m : Fin 64, ∀ c : Fin 7, (Go.bits .and .i64 (shr .i64 (m.val : Int) (c.val : Int)) 1 == 1) = cell (m.val : Int) (c.val : Int) := by decide +kernel
  obtain ⟨i, rfl⟩ := fin_of m 64 hm.1 (by omega)
  obtain ⟨j, rfl⟩ := fin_of c 7 hc.1 (by omega)
  exact h i j
theorem pow_le (a : Int) (h : 1 ≤ a ∧ a ≤ 6) : 2 ≤ (2 : Int) ^ a.toNat ∧ (2 : Int) ^ a.toNat ≤ 64 := by
  obtain ⟨h0, h1⟩ := h
  obtain h | h | h | h | h | h : a = 1 ∨ a = 2 ∨ a = 3 ∨ a = 4 ∨ a = 5 ∨ a = 6 := by omega
  all_goals (subst h; decide +kernel)
theorem rd_mem (l : List Int) (i : Int) (h0 : 0 ≤ i) (h1 : i < l.length) : rd l i ∈ l := by
  obtain ⟨n, rfl⟩ := Int.eq_ofNat_of_zero_le h0
  rw [rd_nat l n (by omega)]; exact List.getElem_mem _

theorem i_IsBoard (r c : Int) (l : List Int) : impl_IsBoard.f r c l = some (decide (GoodB r c l)) := rfl

theorem goodB_le {r c : Int} {l : List Int} (h : GoodB r c l) : ∀ x ∈ l, 0 ≤ x ∧ x ≤ 63 := by
  intro x hx
  have := h.2.2.2 x hx
  have := pow_le c h.2.1
  omega
theorem goodB_len {r c : Int} {l : List Int} (h : GoodB r c l) : l.length ≤ 6 := by
  have := h.1; have := h.2.2.1; omega
/-- Is it a place of a board? -/
def Place (r c i j : Int) : Prop := (0 ≤ i ∧ i ≤ r - 1) ∧ (0 ≤ j ∧ j ≤ c - 1)
instance (r c i j : Int) : Decidable (Place r c i j) := by unfold Place; exact inferInstance

theorem sh1 (a : Int) (h : 1 ≤ a ∧ a ≤ 6) : wrap64 (shl .i64 1 a - 1) = 2 ^ a.toNat - 1 := by
  obtain ⟨h0, h1⟩ := h
  obtain h | h | h | h | h | h : a = 1 ∨ a = 2 ∨ a = 3 ∨ a = 4 ∨ a = 5 ∨ a = 6 := by omega
  all_goals (subst h; decide +kernel)
theorem e_boGood (k : Nat) (r c : Int) (l : List Int) (hl : l.length ≤ 2000000) (hk : l.length < k) : spec_boGood.f k r c l = some (decide (GoodB r c l)) := by
  unfold spec_boGood.f
  rw [e_boSide, e_boSide]
  simp only [Option.bind_some, decide_eq_true_eq]
  by_cases h0 : 1 ≤ r ∧ r ≤ 6
  · by_cases h1 : 1 ≤ c ∧ c ≤ 6
    · by_cases h2 : (l.length : Int) = r
      · rw [if_pos h0, if_pos h1, if_pos h2, if_pos (by omega), sh1 c h1, e_l1All k l _ _ hl hk]
        simp [GoodB, h0, h1, h2]
      · rw [if_pos h0, if_pos h1, if_neg h2]; simp [GoodB, h2]
    · rw [if_pos h0, if_neg h1]; simp [GoodB, h1]
  · rw [if_neg h0]; simp [GoodB, h0]

/-- How many cells a row has at its left. -/
def lead (m : Int) : Nat := ((List.range 7).find? (fun (j : Nat) => !cell m (j : Int))).getD 0
theorem lead_eq (m : Int) (hm : 0 ≤ m ∧ m ≤ 63) : lead m ≤ 6 ∧ cell m (lead m : Int) = false ∧ ∀ j, j < lead m → cell m (j : Int) = true := by
  have key : ∀ m : Fin 64, lead (m.val : Int) ≤ 6 ∧ cell (m.val : Int) (lead (m.val : Int) : Int) = false ∧ ∀ j : Fin 7, j.val < lead (m.val : Int) → cell (m.val : Int) (j.val : Int) = true := by decide +kernel
  obtain ⟨i, rfl⟩ := fin_of m 64 hm.1 (by omega)
  obtain ⟨h1, h2, h3⟩ := key i
  exact ⟨h1, h2, fun j hj => h3 ⟨j, by omega⟩ hj⟩
theorem lead_le (m c : Int) (h : 0 ≤ m ∧ m ≤ 2 ^ c.toNat - 1) (hc : 1 ≤ c ∧ c ≤ 6) : (lead m : Int) ≤ c := by
  have key : ∀ c : Fin 7, ∀ m : Fin 64, (m.val : Int) ≤ 2 ^ c.val - 1 → (lead (m.val : Int) : Int) ≤ (c.val : Int) := by decide +kernel
  have hp := pow_le c hc
  obtain ⟨i, rfl⟩ := fin_of m 64 h.1 (by omega)
  obtain ⟨j, rfl⟩ := fin_of c 7 (by omega) (by omega)
  rw [Int.toNat_natCast] at h
  exact key j i h.2
/-- The length of each row, if all begin at the left. -/
def lensG : List Int → List Int → List Int × Bool
  | [], acc => (acc, true)
  | m :: t, acc => if m = 2 ^ lead m - 1 then lensG t (acc ++ [(lead m : Int)]) else ([], false)
theorem lensG_len : ∀ (l acc : List Int), (lensG l acc).2 = true → (lensG l acc).1.length = acc.length + l.length
  | [], acc, _ => by simp [lensG]
  | m :: t, acc, h => by
    simp only [lensG] at h ⊢
    by_cases e : m = 2 ^ lead m - 1
    · rw [if_pos e] at h ⊢; rw [lensG_len t _ h]; simp; omega
    · rw [if_neg e] at h; cases h
theorem lensG_mem (c : Int) (hc : 1 ≤ c ∧ c ≤ 6) : ∀ (l acc : List Int), (∀ x ∈ l, 0 ≤ x ∧ x ≤ 2 ^ c.toNat - 1) → (∀ x ∈ acc, 0 ≤ x ∧ x ≤ c) → ∀ x ∈ (lensG l acc).1, 0 ≤ x ∧ x ≤ c
  | [], acc, _, ha => by simpa [lensG] using ha
  | m :: t, acc, hx, ha => by
    simp only [lensG]
    by_cases e : m = 2 ^ lead m - 1
    · rw [if_pos e]
      refine lensG_mem c hc t _ (fun x h => hx x (List.mem_cons_of_mem _ h)) ?_
      intro x h
      rcases List.mem_append.1 h with h | h
      · exact ha x h
      · simp at h; have := lead_le m c (hx m (by simp)) hc; omega
    · rw [if_neg e]; intro x h; cases h
theorem shl_pow (n : Nat) (h : n ≤ 6) : wrap64 (shl .i64 1 (n : Int) - 1) = 2 ^ n - 1 := by
  have key : ∀ i : Fin 7, wrap64 (shl .i64 1 (i.val : Int) - 1) = 2 ^ i.val - 1 := by decide +kernel
  exact key ⟨n, by omega⟩

theorem cell_spec' (m c : Int) (hm : 0 ≤ m ∧ m ≤ 63) (hc : 0 ≤ c ∧ c ≤ 6) : (Int.tmod (shr .i64 m c) 2 = 1) ↔ cell m c = true := by
  rw [← cell_spec m c hm hc]; simp
theorem feLen_l1 (l : List Int) (acc : List Int) (i : Int) (m : Int) (hm : 0 ≤ m ∧ m ≤ 63) (ha : acc.length ≤ 100) : ∀ (d j k : Nat), j + d = lead m →
    spec_feLengths.l1 (k + d + 1) acc m (j : Int) l (l.length : Int) i = if m = 2 ^ lead m - 1 then spec_feLengths.l0 k (acc ++ [(lead m : Int)]) l (l.length : Int) (wrap64 (i + 1)) else some ([], false) := by
  obtain ⟨h1, h2, h3⟩ := lead_eq m hm
  intro d
  induction d with
  | zero =>
    intro j k hj
    obtain rfl : j = lead m := hj
    simp only [Nat.add_zero, spec_feLengths.l1]
    have hno : ¬ (Int.tmod (shr .i64 m (lead m : Int)) 2 = 1) := fun hc => by
      have := (cell_spec' m (lead m : Int) hm (by omega)).1 hc; rw [h2] at this; cases this
    rw [if_pos (by omega), if_neg hno, shl_pow _ h1, if_pos (show acc.length < 17592186044416 by omega)]
  | succ d ih =>
    intro j k hj
    obtain ⟨K, hK⟩ : ∃ K, K = k + d + 1 := ⟨_, rfl⟩
    rw [show k + (d + 1) + 1 = K + 1 from by omega]
    have hyes := (cell_spec' m (j : Int) hm (by omega)).2 (h3 j (by omega))
    simp only [spec_feLengths.l1]
    rw [if_pos (by omega), if_pos hyes, w64 (x := (j : Int) + 1) (by omega) (by omega), show ((j : Int) + 1) = ((j + 1 : Nat) : Int) from by omega, hK, ih (j + 1) k (by omega)]
theorem feLen_l0 (l : List Int) (hl : l.length ≤ 6) (hx : ∀ x ∈ l, 0 ≤ x ∧ x ≤ 63) : ∀ (d i k : Nat) (acc : List Int), i + d = l.length → acc.length + d ≤ 50 → d * 8 < k →
    spec_feLengths.l0 k acc l (l.length : Int) (i : Int) = some (lensG (l.drop i) acc) := by
  intro d
  induction d with
  | zero =>
    intro i k acc hi ha hk
    obtain ⟨k, rfl⟩ : ∃ m, k = m + 1 := ⟨k - 1, by omega⟩
    simp only [spec_feLengths.l0]
    rw [if_neg (by omega), List.drop_eq_nil_of_le (by omega)]; rfl
  | succ d ih =>
    intro i k acc hi ha hk
    have hlt : i < l.length := by omega
    have hm := hx l[i] (List.getElem_mem _)
    have hle := (lead_eq l[i] hm).1
    obtain ⟨k, rfl⟩ : ∃ m, k = (m + lead l[i] + 1) + 1 := ⟨k - lead l[i] - 2, by omega⟩
    simp only [spec_feLengths.l0]
    have := feLen_l1 l acc (i : Int) l[i] hm (by omega) (lead l[i]) 0 k (by omega)
    rw [show ((0 : Nat) : Int) = 0 from rfl] at this
    rw [if_pos (by omega), if_pos (by omega), if_pos (by omega), rd_nat l i hlt, this, List.drop_eq_getElem_cons hlt]
    simp only [lensG]
    by_cases e : l[i] = 2 ^ lead l[i] - 1
    · rw [if_pos e, if_pos e, w64 (x := (i : Int) + 1) (by omega) (by omega), show ((i : Int) + 1) = ((i + 1 : Nat) : Int) from by omega, ih (i + 1) k _ (by omega) (by simp; omega) (by omega)]
    · rw [if_neg e, if_neg e]
theorem e_feLengths (k : Nat) (r c : Int) (l : List Int) (g : GoodB r c l) (hk : 100 ≤ k) : spec_feLengths.f k r c l = some (lensG l []) := by
  unfold spec_feLengths.f
  have := goodB_len g
  have := feLen_l0 l (by omega) (goodB_le g) l.length 0 k [] (by omega) (by simp; omega) (by omega)
  simpa using this

theorem cell_impl' (m c : Int) (hm : 0 ≤ m ∧ m ≤ 63) (hc : 0 ≤ c ∧ c ≤ 6) : (Go.bits .and .i64 (shr .i64 m c) 1 = 1) ↔ cell m c = true := by
  rw [← cell_impl m c hm hc]; simp
theorem iLen_l1 (l : List Int) (acc : List Int) (i : Int) (m : Int) (hm : 0 ≤ m ∧ m ≤ 63) (ha : acc.length ≤ 100) : ∀ (d j k : Nat), j + d = lead m →
    impl_Board_lengths.l1 (k + d + 1) acc m (j : Int) l (l.length : Int) i = if m = 2 ^ lead m - 1 then impl_Board_lengths.l0 k (acc ++ [(lead m : Int)]) l (l.length : Int) (wrap64 (i + 1)) else some ([], false) := by
  obtain ⟨h1, h2, h3⟩ := lead_eq m hm
  intro d
  induction d with
  | zero =>
    intro j k hj
    obtain rfl : j = lead m := hj
    simp only [Nat.add_zero, impl_Board_lengths.l1]
    have hno : ¬ (Go.bits .and .i64 (shr .i64 m (lead m : Int)) 1 = 1) := fun hc => by
      have := (cell_impl' m (lead m : Int) hm (by omega)).1 hc; rw [h2] at this; cases this
    rw [if_pos (by omega), if_neg hno, shl_pow _ h1, if_pos (show acc.length < 17592186044416 by omega)]
  | succ d ih =>
    intro j k hj
    obtain ⟨K, hK⟩ : ∃ K, K = k + d + 1 := ⟨_, rfl⟩
    rw [show k + (d + 1) + 1 = K + 1 from by omega]
    have hyes := (cell_impl' m (j : Int) hm (by omega)).2 (h3 j (by omega))
    simp only [impl_Board_lengths.l1]
    rw [if_pos (by omega), if_pos hyes, w64 (x := (j : Int) + 1) (by omega) (by omega), show ((j : Int) + 1) = ((j + 1 : Nat) : Int) from by omega, hK, ih (j + 1) k (by omega)]
theorem iLen_l0 (l : List Int) (hl : l.length ≤ 6) (hx : ∀ x ∈ l, 0 ≤ x ∧ x ≤ 63) : ∀ (d i k : Nat) (acc : List Int), i + d = l.length → acc.length + d ≤ 50 → d * 8 < k →
    impl_Board_lengths.l0 k acc l (l.length : Int) (i : Int) = some (lensG (l.drop i) acc) := by
  intro d
  induction d with
  | zero =>
    intro i k acc hi ha hk
    obtain ⟨k, rfl⟩ : ∃ m, k = m + 1 := ⟨k - 1, by omega⟩
    simp only [impl_Board_lengths.l0]
    rw [if_neg (by omega), List.drop_eq_nil_of_le (by omega)]; rfl
  | succ d ih =>
    intro i k acc hi ha hk
    have hlt : i < l.length := by omega
    have hm := hx l[i] (List.getElem_mem _)
    have hle := (lead_eq l[i] hm).1
    obtain ⟨k, rfl⟩ : ∃ m, k = (m + lead l[i] + 1) + 1 := ⟨k - lead l[i] - 2, by omega⟩
    simp only [impl_Board_lengths.l0]
    have := iLen_l1 l acc (i : Int) l[i] hm (by omega) (lead l[i]) 0 k (by omega)
    rw [show ((0 : Nat) : Int) = 0 from rfl] at this
    rw [if_pos (by omega), if_pos (by omega), if_pos (by omega), rd_nat l i hlt, this, List.drop_eq_getElem_cons hlt]
    simp only [lensG]
    by_cases e : l[i] = 2 ^ lead l[i] - 1
    · rw [if_pos e, if_pos e, w64 (x := (i : Int) + 1) (by omega) (by omega), show ((i : Int) + 1) = ((i + 1 : Nat) : Int) from by omega, ih (i + 1) k _ (by omega) (by simp; omega) (by omega)]
    · rw [if_neg e, if_neg e]
theorem i_lengths (k : Nat) (r c : Int) (l : List Int) (g : GoodB r c l) (hk : 100 ≤ k) : impl_Board_lengths.f k r c l = some (lensG l []) := by
  unfold impl_Board_lengths.f
  have := goodB_len g
  have := iLen_l0 l (by omega) (goodB_le g) l.length 0 k [] (by omega) (by simp; omega) (by omega)
  simpa using this

/-- A list does not fall. -/
def up : List Int → Prop
  | [] => True
  | [_] => True
  | a :: b :: r => a ≤ b ∧ up (b :: r)
instance upDec : ∀ l, Decidable (up l)
  | [] => .isTrue trivial
  | [_] => .isTrue trivial
  | a :: b :: r => by unfold up; have := upDec (b :: r); exact inferInstance

def Good (l : List Int) : Prop := (1 ≤ (l.length : Int) ∧ (l.length : Int) ≤ 6) ∧ (∀ x ∈ l, 0 ≤ x ∧ x ≤ (l.length : Int)) ∧ up l
instance (l : List Int) : Decidable (Good l) := by unfold Good; exact inferInstance

theorem e_feGood_l0 (l : List Int) (hl : l.length ≤ 2000000) : ∀ (d i k : Nat), i + 1 + d = l.length → d < k →
    spec_feGood.l0 k l ((i + 1 : Nat) : Int) = some (decide (up (l.drop i))) := by
  intro d
  induction d with
  | zero =>
    intro i k hi' hk
    obtain ⟨k, rfl⟩ : ∃ m, k = m + 1 := ⟨k - 1, by omega⟩
    simp only [spec_feGood.l0]; rw [if_neg (by omega), List.drop_eq_getElem_cons (by omega), List.drop_eq_nil_of_le (by omega)]; exact congrArg some (decide_eq_true trivial).symm
  | succ d ih =>
    intro i k hi' hk
    obtain ⟨k, rfl⟩ : ∃ m, k = m + 1 := ⟨k - 1, by omega⟩
    have hlt : i < l.length := by omega
    have hlt1 : i + 1 < l.length := by omega
    simp only [spec_feGood.l0]
    rw [w64 (x := ((i + 1 : Nat) : Int) - 1) (by omega) (by omega), if_pos (by omega), if_pos (by omega), if_pos (by omega), if_pos (by omega), rd_nat l (i + 1) hlt1,
      show ((i + 1 : Nat) : Int) - 1 = (i : Int) from by omega, rd_nat l i hlt, w64 (by omega) (by omega), show ((i + 1 : Nat) : Int) + 1 = ((i + 1 + 1 : Nat) : Int) from by omega, ih (i + 1) k (by omega) (by omega),
      List.drop_eq_getElem_cons hlt, List.drop_eq_getElem_cons hlt1]
    by_cases h : l[i + 1] < l[i]
    · rw [if_pos h]; simp only [up]; simp; intro h2; omega
    · rw [if_neg h]; simp only [up]; simp; intro; omega
theorem e_feGood (k : Nat) (l : List Int) (hl : l.length ≤ 2000000) (hk : l.length + 1 < k) : spec_feGood.f k l = some (decide (Good l)) := by
  unfold spec_feGood.f
  rw [e_boSide, e_l1All _ _ _ _ hl (by omega)]
  obtain ⟨k, rfl⟩ : ∃ m, k = m + 1 := ⟨k - 1, by omega⟩
  simp only [Option.bind_some, decide_eq_true_eq, spec_feGood.j0]
  by_cases h : 1 ≤ (l.length : Int) ∧ (l.length : Int) ≤ 6
  · rw [if_pos h]
    by_cases h2 : ∀ x ∈ l, 0 ≤ x ∧ x ≤ (l.length : Int)
    · have := e_feGood_l0 l hl (l.length - 1) 0 k (by omega) (by omega)
      rw [show ((0 + 1 : Nat) : Int) = 1 from rfl] at this
      simp only [decide_eq_true h2, Bool.not_true, Bool.false_eq_true, if_false]
      rw [this]; simp only [Good]; simp [h]; exact fun _ => h2
    · simp only [decide_eq_false h2, Bool.not_false, if_true]; simp only [Good]; simp [h2]
  · rw [if_neg h]; simp only [Good]; simp [h]

theorem e_Less (a b : Int) : cmp_Less_int.f a b = some (decide (a < b)) := by
  unfold cmp_Less_int.f; rw [show cmp_isNaN_int.f a = some false from by unfold cmp_isNaN_int.f; simp]; rfl
theorem up_take_succ (l : List Int) (i : Nat) (h : i + 1 < l.length) : up (l.drop i) ↔ l[i] ≤ l[i + 1] ∧ up (l.drop (i + 1)) := by
  rw [List.drop_eq_getElem_cons (by omega), List.drop_eq_getElem_cons h]; rfl
theorem not_up (l : List Int) (i : Nat) (hi : i + 1 < l.length) (h : l[i + 1] < l[i]) : ∀ (d j : Nat), j + d = i → ¬ up (l.drop j) := by
  intro d
  induction d with
  | zero =>
    intro j hj
    obtain rfl : j = i := hj
    rw [up_take_succ l j hi]; intro hc; omega
  | succ d ih => intro j hj; rw [up_take_succ l j (by omega)]; intro hc; exact ih (j + 1) (by omega) hc.2
theorem e_IsSorted_l0 (l : List Int) (hl : l.length ≤ 2000000) : ∀ (i k : Nat), i < l.length → i < k → up (l.drop i) →
    slices_IsSorted_int_int.l0 k l (i : Int) = some (decide (up l)) := by
  intro i
  induction i with
  | zero =>
    intro k hi' hk hu
    obtain ⟨k, rfl⟩ : ∃ m, k = m + 1 := ⟨k - 1, by omega⟩
    simp only [slices_IsSorted_int_int.l0]; rw [if_neg (by omega)]; rw [List.drop_zero] at hu; simp [hu]
  | succ i ih =>
    intro k hi' hk hu
    obtain ⟨k, rfl⟩ : ∃ m, k = m + 1 := ⟨k - 1, by omega⟩
    have hlt : i < l.length := by omega
    simp only [slices_IsSorted_int_int.l0]
    rw [w64 (x := ((i + 1 : Nat) : Int) - 1) (by omega) (by omega), if_pos (by omega), if_pos (by omega), if_pos (by omega), if_pos (by omega), if_pos (by omega), rd_nat l (i + 1) hi',
      show ((i + 1 : Nat) : Int) - 1 = (i : Int) from by omega, rd_nat l i hlt, e_Less]
    simp only [Option.bind_some, decide_eq_true_eq]
    by_cases h : l[i + 1] < l[i]
    · rw [if_pos h]
      have := not_up l i hi' h i 0 (by omega)
      rw [List.drop_zero] at this; simp [this]
    · rw [if_neg h]; exact ih k hlt (by omega) ((up_take_succ l i hi').2 ⟨by omega, hu⟩)
theorem e_IsSorted (k : Nat) (l : List Int) (hl : l.length ≤ 2000000) (h1 : 1 ≤ l.length) (hk : l.length < k) : slices_IsSorted_int_int.f k l = some (decide (up l)) := by
  unfold slices_IsSorted_int_int.f
  rw [w64 (by omega) (by omega), show (l.length : Int) - 1 = ((l.length - 1 : Nat) : Int) from by omega]
  refine e_IsSorted_l0 l hl (l.length - 1) k (by omega) (by omega) ?_
  rw [List.drop_eq_getElem_cons (by omega), List.drop_eq_nil_of_le (by omega)]; simp [up]

theorem e_roSquare (k : Nat) (r c : Int) (l : List Int) (hl : l.length ≤ 2000000) (hk : l.length < k) : spec_roSquare.f k r c l = some (decide (GoodB r c l ∧ r = c)) := by
  unfold spec_roSquare.f
  rw [e_boGood k r c l hl hk]
  simp only [Option.bind_some, Bool.decide_and]
  generalize decide (GoodB r c l) = p
  cases p <;> simp
  exact (Bool.beq_eq_decide_eq r c)

theorem i_isSquare (r c : Int) (l : List Int) : impl_isSquare.f r c l = some (decide (GoodB r c l ∧ r = c)) := by
  unfold impl_isSquare.f
  rw [i_IsBoard]
  simp only [Option.bind_some, Bool.decide_and]
  generalize decide (GoodB r c l) = p
  cases p <;> simp
  exact (Bool.beq_eq_decide_eq r c)

def lensOut (r c : Int) (l : List Int) : List Int × Bool := if GoodB r c l ∧ r = c ∧ (lensG l []).2 = true ∧ up (lensG l []).1 then ((lensG l []).1, true) else ([], false)
theorem lens_good (r c : Int) (l : List Int) (g : GoodB r c l) (e : r = c) (h : (lensG l []).2 = true) : Good (lensG l []).1 ↔ up (lensG l []).1 := by
  have h1 := g.1; have h2 := g.2.2.1
  have hl := lensG_len l [] h
  simp only [List.length_nil, Nat.zero_add] at hl
  have hm := lensG_mem c g.2.1 l [] g.2.2.2 (fun x hx => by cases hx)
  constructor
  · exact fun x => x.2.2
  · intro hu
    refine ⟨by omega, fun x hx => ?_, hu⟩
    have := hm x hx; omega
theorem e_LengthsOf (k : Nat) (r c : Int) (l : List Int) (hl : l.length ≤ 2000000) (hk : l.length < k) (hk2 : 100 ≤ k) : spec_LengthsOf.f k r c l = some (lensOut r c l) := by
  unfold spec_LengthsOf.f lensOut
  rw [e_roSquare k r c l hl hk]
  simp only [Option.bind_some, decide_eq_true_eq]
  by_cases g : GoodB r c l ∧ r = c
  · rw [if_pos g, e_feLengths k r c l g.1 hk2]
    simp only [Option.bind_some]
    by_cases h : (lensG l []).2 = true
    · have hn := lensG_len l [] h; have := goodB_len g.1
      rw [if_pos h, e_feGood k _ (by simp at hn; omega) (by simp at hn; omega)]
      simp only [Option.bind_some, decide_eq_true_eq]
      by_cases u : up (lensG l []).1
      · rw [if_pos ((lens_good r c l g.1 g.2 h).2 u), if_pos ⟨g.1, g.2, h, u⟩]
      · rw [if_neg (fun x => u ((lens_good r c l g.1 g.2 h).1 x)), if_neg (fun x => u x.2.2.2)]
    · rw [if_neg h, if_neg (fun x => h x.2.2.1)]
  · rw [if_neg g, if_neg (fun x => g ⟨x.1, x.2.1⟩)]
theorem i_LengthsOf (k : Nat) (r c : Int) (l : List Int) (hk2 : 100 ≤ k) : impl_LengthsOf.f k r c l = some (lensOut r c l) := by
  unfold impl_LengthsOf.f lensOut
  rw [i_isSquare]
  simp only [Option.bind_some, decide_eq_true_eq]
  by_cases g : GoodB r c l ∧ r = c
  · rw [if_pos g, i_lengths k r c l g.1 hk2]
    simp only [Option.bind_some]
    by_cases h : (lensG l []).2 = true
    · have hn := lensG_len l [] h; have := goodB_len g.1; have := g.1.1; have := g.1.2.2.1
      rw [if_pos h, e_IsSorted k _ (by simp at hn; omega) (by simp at hn; omega) (by simp at hn; omega)]
      simp only [Option.bind_some, decide_eq_true_eq]
      by_cases u : up (lensG l []).1
      · rw [if_pos u, if_pos ⟨g.1, g.2, h, u⟩]
      · rw [if_neg u, if_neg (fun x => u x.2.2.2)]
    · rw [if_neg h, if_neg (fun x => h x.2.2.1)]
  · rw [if_neg g, if_neg (fun x => g ⟨x.1, x.2.1⟩)]
theorem lensOut_len (r c : Int) (l : List Int) : (lensOut r c l).1.length ≤ 6 := by
  unfold lensOut
  split
  · rename_i h; have := lensG_len l [] h.2.2.1; have := goodB_len h.1; simp at *; omega
  · simp

def isoOut (r c : Int) (l : List Int) : Bool × Bool := if GoodB r c l then ((lensOut r c l).2, true) else (false, false)
theorem io_spec (k : Nat) (r c : Int) (l : List Int) (hl : l.length ≤ 2000000) (hk : l.length < k) (hk2 : 100 ≤ k) : spec_IsOrdered.f k r c l = some (isoOut r c l) := by
  unfold spec_IsOrdered.f isoOut
  rw [e_boGood k r c l hl hk]
  simp only [Option.bind_some, decide_eq_true_eq]
  by_cases g : GoodB r c l
  · rw [if_pos g, if_pos g, e_LengthsOf k r c l hl hk hk2]; rfl
  · rw [if_neg g, if_neg g]
theorem io_impl (k : Nat) (r c : Int) (l : List Int) (hk2 : 100 ≤ k) : impl_IsOrdered.f k r c l = some (isoOut r c l) := by
  unfold impl_IsOrdered.f isoOut
  rw [i_IsBoard]
  simp only [Option.bind_some, decide_eq_true_eq]
  by_cases g : GoodB r c l
  · rw [if_pos g, if_pos g, i_LengthsOf k r c l hk2]; rfl
  · rw [if_neg g, if_neg g]

def segF (L : List Int) (m i d : Nat) : List Int := ((List.range' i d).filter fun j : Nat => decide ((L.getD j 0).toNat = m)).map fun j : Nat => (j : Int)
def preK (L : List Int) : Nat → List Int
  | 0 => []
  | m + 1 => preK L m ++ segF L m 0 L.length
theorem preK_ordK (L : List Int) : ∀ m, preK L (m + 1) = ordK L m
  | 0 => by rw [preK, preK, ordK, segF, List.range_eq_range']; simp
  | m + 1 => by rw [preK, preK_ordK L m, ordK, segF, List.range_eq_range']
theorem segF_len (L : List Int) (m i d : Nat) : (segF L m i d).length ≤ d := by
  unfold segF
  rw [List.length_map]
  exact Nat.le_trans (List.length_filter_le _ _) (by simp)
theorem preK_len (L : List Int) : ∀ m, (preK L m).length ≤ m * L.length
  | 0 => by simp [preK]
  | m + 1 => by
    have := preK_len L m; have := segF_len L m 0 L.length
    rw [preK, List.length_append, Nat.succ_mul]; omega
theorem ord_l1 (L : List Int) (hL : ∀ x ∈ L, 0 ≤ x ∧ x ≤ 6) (hn : L.length ≤ 6) (m : Nat) (hm : m ≤ 6) (r c : Int) (l : List Int) : ∀ (d i k : Nat) (acc : List Int), i + d = L.length → acc.length + d ≤ 1000 →
    spec_OrderOf.l1 (k + d + 1) L acc (m : Int) L (L.length : Int) (i : Int) r c l = spec_OrderOf.l0 k L (acc ++ segF L m i d) ((m + 1 : Nat) : Int) r c l := by
  intro d
  induction d with
  | zero =>
    intro i k acc hi ha
    simp only [Nat.add_zero, spec_OrderOf.l1]
    rw [if_neg (by omega), w64 (by omega) (by omega)]; simp [segF]
  | succ d ih =>
    intro i k acc hi ha
    have hlt : i < L.length := by omega
    have hx := hL L[i] (List.getElem_mem hlt)
    obtain ⟨K, hK⟩ : ∃ K, K = k + d + 1 := ⟨_, rfl⟩
    rw [show k + (d + 1) + 1 = K + 1 from by omega]
    simp only [spec_OrderOf.l1]
    rw [if_pos (show (i : Int) < (L.length : Int) by omega), if_pos (show (0 : Int) ≤ (i : Int) by omega), if_pos (show (i : Int) < (L.length : Int) by omega), rd_nat L i hlt, w64 (by omega) (by omega), show ((i : Int) + 1) = ((i + 1 : Nat) : Int) from by omega, hK]
    have e : (L.getD i 0) = L[i] := by simp [List.getD, hlt]
    have hs : segF L m i (d + 1) = (if (m : Int) = L[i] then [(i : Int)] else []) ++ segF L m (i + 1) d := by
      unfold segF
      rw [List.range'_succ, List.filter_cons, e]
      by_cases h : (m : Int) = L[i]
      · rw [if_pos h, if_pos (by rw [← h]; simp)]; rfl
      · rw [if_neg h, if_neg (by simp; omega)]; rfl
    rw [hs]
    by_cases h : (m : Int) = L[i]
    · rw [if_pos h, if_pos h, if_pos (by omega), ih (i + 1) k _ (by omega) (by simp; omega), List.append_assoc]
    · rw [if_neg h, if_neg h, ih (i + 1) k _ (by omega) (by omega), List.nil_append]
theorem ord_l0 (L : List Int) (hL : ∀ x ∈ L, 0 ≤ x ∧ x ≤ 6) (hn : L.length ≤ 6) (C : Nat) (hC : C ≤ 6) (r : Int) (l : List Int) : ∀ (d m k : Nat), m + d = C + 1 → d * (L.length + 2) < k →
    spec_OrderOf.l0 k L (preK L m) (m : Int) r (C : Int) l = some (preK L (C + 1), true) := by
  intro d
  induction d with
  | zero =>
    intro m k hm hk
    obtain ⟨k, rfl⟩ : ∃ m, k = m + 1 := ⟨k - 1, by omega⟩
    simp only [spec_OrderOf.l0]
    rw [if_neg (by omega), show m = C + 1 by omega]
  | succ d ih =>
    intro m k hm hk
    rw [Nat.succ_mul] at hk
    obtain ⟨k, rfl⟩ : ∃ j, k = (j + L.length + 1) + 1 := ⟨k - (L.length + 2), by omega⟩
    have hp := preK_len L m
    have h42 : m * L.length ≤ 6 * 6 := Nat.mul_le_mul (by omega) (by omega)
    simp only [spec_OrderOf.l0]
    rw [if_pos (by omega), show (0 : Int) = ((0 : Nat) : Int) from rfl, ord_l1 L hL hn m (by omega) r (C : Int) l L.length 0 k (preK L m) (by omega) (by omega)]
    exact ih (m + 1) k (by omega) (by omega)
theorem ordK_top (L : List Int) (C : Nat) (hL : ∀ x ∈ L, 0 ≤ x ∧ x ≤ (C : Int)) : ∀ d, ordK L (C + d) = ordK L C
  | 0 => rfl
  | d + 1 => by
    rw [show C + (d + 1) = (C + d) + 1 by omega, ordK, ordK_top L C hL d]
    have : ((List.range L.length).filter fun i : Nat => decide ((L.getD i 0).toNat = C + d + 1)) = [] := by
      apply List.filter_eq_nil_iff.2
      intro i hi
      have hi2 := List.mem_range.1 hi
      have hx := hL L[i] (List.getElem_mem hi2)
      have e : (L.getD i 0) = L[i] := by simp [List.getD, hi2]
      rw [e]
      simp; omega
    rw [this]; simp
def orOut (r c : Int) (l : List Int) : List Int × Bool := if GoodB r c l ∧ r = c then (if (lensG l []).2 = true then (ordK (lensG l []).1 6, true) else ([], false)) else ([], false)
theorem e_OrderOf (k : Nat) (r c : Int) (l : List Int) (hl : l.length ≤ 2000000) (hk : l.length < k) (hk2 : 100 ≤ k) : spec_OrderOf.f k r c l = some (orOut r c l) := by
  unfold spec_OrderOf.f orOut
  rw [e_roSquare k r c l hl hk]
  simp only [Option.bind_some, decide_eq_true_eq]
  by_cases g : GoodB r c l ∧ r = c
  · rw [if_pos g, if_pos g, e_feLengths k r c l g.1 hk2]
    simp only [Option.bind_some]
    by_cases h : (lensG l []).2 = true
    · have hn := lensG_len l [] h
      have hg := goodB_len g.1
      have h2 := g.1.2.1
      simp only [List.length_nil, Nat.zero_add] at hn
      have hm := lensG_mem c h2 l [] g.1.2.2.2 (fun x hx => by cases hx)
      obtain ⟨C, rfl⟩ := Int.eq_ofNat_of_zero_le (show 0 ≤ c by omega)
      rw [if_pos h, if_pos h]
      have hmul : (C + 1) * ((lensG l []).1.length + 2) ≤ 7 * 8 := Nat.mul_le_mul (by omega) (by omega)
      have := ord_l0 (lensG l []).1 (fun x hx => by have := hm x hx; omega) (by omega) C (by omega) r l (C + 1) 0 k (by omega) (by omega)
      rw [preK_ordK] at this
      have ht := ordK_top (lensG l []).1 C hm (6 - C)
      rw [show C + (6 - C) = 6 by omega] at ht
      rw [ht]
      simpa [preK] using this
    · rw [if_neg h, if_neg h]
  · rw [if_neg g, if_neg g]
theorem i_OrderOf (k : Nat) (r c : Int) (l : List Int) (hk2 : 100 ≤ k) : impl_OrderOf.f k r c l = some (orOut r c l) := by
  unfold impl_OrderOf.f orOut
  rw [i_isSquare]
  simp only [Option.bind_some, decide_eq_true_eq]
  by_cases g : GoodB r c l ∧ r = c
  · rw [if_pos g, if_pos g, i_lengths k r c l g.1 hk2]
    simp only [Option.bind_some]
    by_cases h : (lensG l []).2 = true
    · have hn := lensG_len l [] h
      have hg := goodB_len g.1
      have h1 := g.1.1
      have h2 := g.1.2.1
      have h3 := g.1.2.2.1
      simp only [List.length_nil, Nat.zero_add] at hn
      have hm := lensG_mem c h2 l [] g.1.2.2.2 (fun x hx => by cases hx)
      rw [if_pos h, if_pos h, if_pos]
      exact ⟨by omega, by omega, by omega, List.all_eq_true.2 (fun x hx => decide_eq_true (by have := hm x hx; omega))⟩
    · rw [if_neg h, if_neg h]
  · rw [if_neg g, if_neg g]
theorem orOut_len (r c : Int) (l : List Int) : (orOut r c l).1.length ≤ 100 := by
  unfold orOut
  split
  · rename_i g
    split
    · rename_i h
      have := lensG_len l [] h
      have := goodB_len g.1
      have h7 := preK_len (lensG l []).1 7
      rw [preK_ordK] at h7
      simp only [List.length_nil, Nat.zero_add] at *
      omega
    · simp
  · simp

theorem e_within (a b c : Int) : impl_within.f a b c = some (decide (b ≤ a ∧ a ≤ c)) := by
  unfold impl_within.f
  by_cases h : b ≤ a
  · rw [if_pos h]; simp [h]
  · rw [if_neg h]; simp [h]

theorem sIndex_l0 (a : Int) (l : List Int) (hl : l.length ≤ 2000000) : ∀ (d i k : Nat), i + d = l.length → d < k →
    ∃ r, slices_Index_int_int.l0 k l a (l.length : Int) (i : Int) = some r ∧ (decide (r ≥ 0)) = (l.drop i).contains a := by
  intro d
  induction d with
  | zero =>
    intro i k hi hk
    obtain ⟨k, rfl⟩ : ∃ m, k = m + 1 := ⟨k - 1, by omega⟩
    simp only [slices_Index_int_int.l0]; rw [if_neg (by omega), List.drop_eq_nil_of_le (by omega)]; exact ⟨_, rfl, rfl⟩
  | succ d ih =>
    intro i k hi hk
    obtain ⟨k, rfl⟩ : ∃ m, k = m + 1 := ⟨k - 1, by omega⟩
    have hlt : i < l.length := by omega
    simp only [slices_Index_int_int.l0]
    rw [if_pos (by omega), if_pos (by omega), if_pos (by omega), rd_nat l i hlt, w64 (by omega) (by omega), show ((i : Int) + 1) = ((i + 1 : Nat) : Int) from by omega, List.drop_eq_getElem_cons hlt, List.contains_cons]
    by_cases h : a = l[i]
    · rw [if_pos h]; exact ⟨_, rfl, by simp [h]⟩
    · rw [if_neg h]
      obtain ⟨r, h1, h2⟩ := ih (i + 1) k (by omega) (by omega)
      have : (a == l[i]) = false := beq_eq_false_iff_ne.2 h
      exact ⟨r, h1, by rw [this, Bool.false_or]; exact h2⟩
theorem i_Contains (k : Nat) (l : List Int) (a : Int) (hl : l.length ≤ 2000000) (hk : l.length < k) : slices_Contains_int_int.f k l a = some (l.contains a) := by
  unfold slices_Contains_int_int.f slices_Index_int_int.f
  obtain ⟨r, h1, h2⟩ := sIndex_l0 a l hl l.length 0 k (by omega) hk
  rw [show ((0 : Nat) : Int) = 0 from rfl] at h1
  rw [h1]; simp only [Option.bind_some]; rw [h2]; simp

/-- From i on, no number stands before. -/
def preP (p : List Int) : Nat → Nat → Bool
  | 0, _ => true
  | d + 1, i => !((p.take i).contains (rd p (i : Int))) && preP p d (i + 1)
/-- Is a list an order of n rows? -/
def permB (p : List Int) (n : Int) : Bool := decide ((p.length : Int) = n) && (decide (∀ x ∈ p, 0 ≤ x ∧ x ≤ n - 1) && preP p p.length 0)
theorem all_cons (a lo hi : Int) (t : List Int) : (decide (∀ x ∈ a :: t, lo ≤ x ∧ x ≤ hi)) = (decide (lo ≤ a ∧ a ≤ hi) && decide (∀ x ∈ t, lo ≤ x ∧ x ≤ hi)) := by simp only [List.forall_mem_cons, Bool.decide_and]
theorem isPerm_l0 (p : List Int) (n : Int) (hn : 1 ≤ n ∧ n ≤ 6) (hp : p.length ≤ 2000) : ∀ (d i k : Nat), i + d = p.length → d + 3000 < k → impl_isPerm.l0 k p n p (p.length : Int) (i : Int) = some (decide (∀ x ∈ p.drop i, 0 ≤ x ∧ x ≤ n - 1) && preP p d i) := by
  intro d
  induction d with
  | zero =>
    intro i k hi hk
    obtain ⟨k, rfl⟩ : ∃ m, k = m + 1 := ⟨k - 1, by omega⟩
    rw [impl_isPerm.l0, if_neg (by omega), List.drop_eq_nil_of_le (by omega)]; simp [preP]
  | succ d ih =>
    intro i k hi hk
    obtain ⟨k, rfl⟩ : ∃ m, k = m + 1 := ⟨k - 1, by omega⟩
    have hlt : i < p.length := by omega
    rw [impl_isPerm.l0, if_pos (by omega), if_pos (by omega), if_pos (by omega), w64 (x := n - 1) (by omega) (by omega), e_within, Option.bind_some, List.drop_eq_getElem_cons hlt, rd_nat p i hlt]
    rw [all_cons, preP, rd_nat p i hlt]
    by_cases hw : 0 ≤ p[i] ∧ p[i] ≤ n - 1
    · rw [decide_eq_true hw, if_pos rfl, if_pos (by omega), Int.toNat_natCast, i_Contains k _ _ (by rw [List.length_take]; omega) (by rw [List.length_take]; omega), w64 (x := (i : Int) + 1) (by omega) (by omega), show ((i : Int) + 1) = ((i + 1 : Nat) : Int) from by omega, ih (i + 1) k (by omega) (by omega), Option.bind_some]
      generalize (p.take i).contains p[i] = q
      cases q <;> simp
    · rw [decide_eq_false hw, if_neg (by decide)]; simp
theorem i_isPerm (k : Nat) (p : List Int) (n : Int) (hn : 1 ≤ n ∧ n ≤ 6) (hk : 10000 ≤ k) : impl_isPerm.f k p n = some (permB p n) := by
  unfold impl_isPerm.f permB
  by_cases h : (p.length : Int) = n
  · have := isPerm_l0 p n hn (by omega) p.length 0 k (by omega) (by omega)
    rw [show ((0 : Nat) : Int) = 0 from rfl] at this
    rw [if_pos h, this, decide_eq_true h]; simp
  · rw [if_neg h, decide_eq_false h]; simp
def ordOut (r c : Int) (l p : List Int) : Int × Int × List Int × Bool := if GoodB r c l ∧ permB p r = true then (r, c, p.map (fun x => rd l x), true) else (0, 0, [], false)
theorem ordOut_len (r c : Int) (l p : List Int) : (ordOut r c l p).2.2.1.length ≤ 6 := by
  unfold ordOut
  split
  · rename_i h
    have h1 := h.1.1
    have h2 := h.2
    unfold permB at h2
    simp only [Bool.and_eq_true, decide_eq_true_eq] at h2
    simp only [List.length_map]; omega
  · simp
theorem i_OrderRows (k : Nat) (r c : Int) (l p : List Int) (hk : 10000 ≤ k) : impl_OrderRows.f k r c l p = some (ordOut r c l p) := by
  unfold impl_OrderRows.f ordOut
  by_cases g : GoodB r c l
  · have h1 := g.1
    have h3 := g.2.2.1
    rw [if_pos g, i_isPerm k p r h1 hk, Option.bind_some]
    by_cases hb : permB p r = true
    · have h2 := hb
      unfold permB at h2
      simp only [Bool.and_eq_true, decide_eq_true_eq] at h2
      rw [if_pos hb, if_pos (show p.length = l.length ∧ (p.all fun x => decide (0 ≤ x ∧ x < (l.length : Int))) = true from ⟨by omega, List.all_eq_true.2 fun x hx => decide_eq_true (by have := h2.2.1 x hx; omega)⟩), if_pos ⟨g, hb⟩]
    · rw [if_neg hb, if_neg (fun x => hb x.2)]
  · rw [if_neg g, if_neg (fun x => g x.1)]

theorem rd_set (l : List Int) (i : Nat) (v : Int) (j : Nat) (h : i < l.length) : rd (l.set i v) (j : Int) = if i = j then v else rd l (j : Int) := by
  unfold rd
  simp only [List.getD, Int.toNat_natCast, List.getElem?_set]
  by_cases hij : i = j
  · subst hij; simp [h]
  · simp [hij]
theorem rd_ext (a b : List Int) (hl : a.length = b.length) (h : ∀ j : Nat, j < a.length → rd a (j : Int) = rd b (j : Int)) : a = b := by
  refine List.ext_getElem hl ?_
  intro i h1 h2
  have := h i h1
  rwa [rd_nat a i h1, rd_nat b i h2] at this

/-- The columns taken, with one more. -/
def orZ (taken : Int) (j : Nat) : Int := Go.bits .or .i64 taken (shl .i64 1 (j : Int))
/-- Numbers of rooks of all placements, in order: rows that are left, columns taken. -/
def Z (C : Nat) : List Int → Int → List Nat
  | [], _ => [0]
  | m :: t, taken => (List.range (C + 1)).flatMap fun i => if i = 0 then Z C t taken else if cell m ((i - 1 : Nat) : Int) && !cell taken ((i - 1 : Nat) : Int) then (Z C t (orZ taken (i - 1))).map (· + 1) else []
/-- How often each number below M stands. -/
def HZ (M : Nat) (z : List Nat) : List Int := (List.range M).map fun k => ((z.count k : Nat) : Int)
theorem HZ_len (M : Nat) (z : List Nat) : (HZ M z).length = M := by simp [HZ]
theorem HZ_rd (M : Nat) (z : List Nat) (i : Nat) (h : i < M) : rd (HZ M z) (i : Int) = ((z.count i : Nat) : Int) := by
  rw [rd_nat _ i (by rw [HZ_len]; exact h)]; simp [HZ]
/-- How many columns are free. -/
def frZ (C : Nat) (taken : Int) : Nat := ((List.range C).filter fun j : Nat => !cell taken (j : Int)).length
theorem orZ_ok (C : Nat) (taken : Int) (j : Nat) (hC : C ≤ 6) (h : 0 ≤ taken ∧ taken ≤ 63) (hj : j < C) (hf : cell taken (j : Int) = false) : (0 ≤ orZ taken j ∧ orZ taken j ≤ 63) ∧ frZ C (orZ taken j) + 1 ≤ frZ C taken := by
  have key : ∀ C : Fin 7, ∀ j : Fin 6, ∀ t : Fin 64, j.val < C.val → cell (t.val : Int) (j.val : Int) = false → (0 ≤ orZ (t.val : Int) j.val ∧ orZ (t.val : Int) j.val ≤ 63) ∧ frZ C.val (orZ (t.val : Int) j.val) + 1 ≤ frZ C.val (t.val : Int) := by decide +kernel
  obtain ⟨t, rfl⟩ := fin_of taken 64 h.1 (by omega)
  exact key ⟨C, by omega⟩ ⟨j, by omega⟩ t hj hf
theorem frZ_le (C : Nat) (taken : Int) : frZ C taken ≤ C := by
  unfold frZ
  exact Nat.le_trans (List.length_filter_le _ _) (by simp)
theorem Z_le (C : Nat) (hC : C ≤ 6) : ∀ (t : List Int) (taken : Int), 0 ≤ taken ∧ taken ≤ 63 → ∀ z ∈ Z C t taken, z ≤ t.length ∧ z ≤ frZ C taken
  | [], _, _, z, hz => by simp [Z] at hz; omega
  | m :: t, taken, h, z, hz => by
    simp only [Z, List.mem_flatMap, List.mem_range] at hz
    obtain ⟨i, hi, hz⟩ := hz
    by_cases h0 : i = 0
    · rw [if_pos h0] at hz
      have := Z_le C hC t taken h z hz
      exact ⟨by simp; omega, this.2⟩
    · rw [if_neg h0] at hz
      split at hz
      case isFalse => simp at hz
      case isTrue hc =>
        simp only [Bool.and_eq_true, Bool.not_eq_true'] at hc
        obtain ⟨y, hy, rfl⟩ := List.mem_map.1 hz
        have ho := orZ_ok C taken (i - 1) hC h (by omega) hc.2
        have := Z_le C hC t _ ho.1 y hy
        exact ⟨by simp; omega, by omega⟩
theorem flat_len {α β : Type} (f : α → List β) (b : Nat) : ∀ l : List α, (∀ x ∈ l, (f x).length ≤ b) → (l.flatMap f).length ≤ l.length * b
  | [], _ => by simp
  | x :: t, h => by
    have h1 := h x (by simp)
    have h2 := flat_len f b t (fun y hy => h y (by simp [hy]))
    simp only [List.flatMap_cons, List.length_append, List.length_cons, Nat.succ_mul]
    omega
theorem Z_length (C : Nat) (hC : C ≤ 6) : ∀ (t : List Int) (taken : Int), (Z C t taken).length ≤ 7 ^ t.length
  | [], _ => by simp [Z]
  | m :: t, taken => by
    simp only [Z, List.length_cons]
    refine Nat.le_trans (flat_len _ (7 ^ t.length) _ ?_) ?_
    · intro i _
      by_cases h0 : i = 0
      · rw [if_pos h0]; exact Z_length C hC t taken
      · rw [if_neg h0]
        split
        · rw [List.length_map]; exact Z_length C hC t _
        · simp
    · rw [List.length_range, Nat.pow_succ, Nat.mul_comm]
      exact Nat.mul_le_mul_left _ (by omega)
theorem Z_small (C : Nat) (hC : C ≤ 6) (t : List Int) (taken : Int) (ht : t.length ≤ 6) (k : Nat) : (Z C t taken).count k ≤ 117649 := by
  refine Nat.le_trans List.count_le_length (Nat.le_trans (Z_length C hC t taken) ?_)
  exact Nat.le_trans (Nat.pow_le_pow_right (by omega) ht) (by decide)

theorem HZ_nil (M : Nat) : HZ M [] = List.replicate M 0 := by
  refine rd_ext _ _ (by simp [HZ_len]) ?_
  intro j hj
  rw [HZ_len] at hj
  rw [HZ_rd _ _ j hj, rd_nat _ j (by simpa using hj)]; simp
/-- A board's bounds. -/
def Nice (r c : Int) (l : List Int) : Prop := (1 ≤ r ∧ r ≤ 6) ∧ (1 ≤ c ∧ c ≤ 6) ∧ (l.length : Int) = r ∧ ∀ x ∈ l, 0 ≤ x ∧ x ≤ 63
/-- The rook numbers. -/
def numsL (r c : Int) (l : List Int) : List Int := HZ (min r c + 1).toNat (Z c.toNat l 0)
theorem Z_ltN (r c : Int) (l : List Int) (h : Nice r c l) : ∀ z ∈ Z c.toNat l 0, z < (min r c + 1).toNat := by
  intro z hz
  have h1 := h.1; have h2 := h.2.1; have h3 := h.2.2.1
  have := Z_le c.toNat (by omega) l 0 (by omega) z hz
  have := frZ_le c.toNat 0
  omega
theorem numsL_lenN (r c : Int) (l : List Int) (h : Nice r c l) : (numsL r c l).length ≤ 7 := by
  have h1 := h.1; have h2 := h.2.1
  unfold numsL; rw [HZ_len]; omega

theorem nice_of {r c : Int} {l : List Int} (h : GoodB r c l) : Nice r c l := ⟨h.1, h.2.1, h.2.2.1, goodB_le h⟩
theorem numsL_len (r c : Int) (l : List Int) (h : GoodB r c l) : (numsL r c l).length ≤ 7 := numsL_lenN r c l (nice_of h)

theorem cntR_snoc : ∀ (a : List Int) (v : Int), cntR (a ++ [v]) = cntR a + (if v = -1 then 0 else 1)
  | [], v => by simp [cntR]
  | x :: a, v => by simp only [List.cons_append, cntR, cntR_snoc a v]; omega
theorem okC_cell (m taken : Int) (j : Nat) (hm : 0 ≤ m ∧ m ≤ 63) (ht : 0 ≤ taken ∧ taken ≤ 63) (hj : j ≤ 6) : okC m taken j = (cell m (j : Int) && !cell taken (j : Int)) := by
  unfold okC
  rw [cell_impl m (j : Int) hm (by omega), cell_impl taken (j : Int) ht (by omega)]
theorem flatMap_map_eq {α β : Type} (f : α → List (List Int)) (g : α → List Nat) (u : List Int → β) (v : Nat → β) : ∀ l : List α, (∀ x ∈ l, (f x).map u = (g x).map v) → (l.flatMap f).map u = (l.flatMap g).map v
  | [], _ => rfl
  | x :: l, h => by
    simp only [List.flatMap_cons, List.map_append, h x (by simp), flatMap_map_eq f g u v l (fun y hy => h y (by simp [hy]))]
theorem plc_Z (C : Nat) (hC : C ≤ 6) : ∀ (t : List Int) (taken : Int) (acc : List Int), (∀ x ∈ t, 0 ≤ x ∧ x ≤ 63) → 0 ≤ taken ∧ taken ≤ 63 → (plc C t taken acc).map cntR = (Z C t taken).map fun z : Nat => cntR acc + (z : Int)
  | [], taken, acc, _, _ => by simp [plc, Z]
  | m :: t, taken, acc, hm, ht => by
    simp only [plc, Z]
    refine flatMap_map_eq _ _ _ _ _ ?_
    intro i hi
    have hi := List.mem_range.1 hi
    by_cases h0 : i = 0
    · rw [if_pos h0, if_pos h0, plc_Z C hC t taken _ (fun x hx => hm x (by simp [hx])) ht, cntR_snoc]; simp
    · rw [if_neg h0, if_neg h0, okC_cell m taken (i - 1) (hm m (by simp)) ht (by omega)]
      by_cases hc : (cell m ((i - 1 : Nat) : Int) && !cell taken ((i - 1 : Nat) : Int)) = true
      · rw [if_pos hc, if_pos hc]
        simp only [Bool.and_eq_true, Bool.not_eq_true'] at hc
        have ho := orZ_ok C taken (i - 1) hC ht (by omega) hc.2
        rw [show orC taken (i - 1) = orZ taken (i - 1) from rfl, plc_Z C hC t _ _ (fun x hx => hm x (by simp [hx])) ho.1, cntR_snoc, List.map_map, if_neg (by omega)]
        refine List.map_congr_left ?_
        intro z _
        simp only [Function.comp]; omega
      · rw [if_neg hc, if_neg hc]; rfl

theorem bump_H (M : Nat) : ∀ (L : List (List Int)) (zs z0 : List Nat), L.map cntR = zs.map (fun z : Nat => (z : Int)) → (∀ z ∈ zs, z < M) → z0.length + zs.length ≤ 1000000 → L.foldl bumpN (HZ M z0) = HZ M (z0 ++ zs)
  | [], zs, z0, h, _, _ => by
    have : zs = [] := by
      have := congrArg List.length h
      simp at this; exact List.eq_nil_of_length_eq_zero this.symm
    subst this; simp
  | q :: L, [], z0, h, _, _ => by simp at h
  | q :: L, z :: zs, z0, h, hz, hl => by
    simp only [List.map_cons, List.cons.injEq] at h
    have hzM := hz z (by simp)
    simp only [List.length_cons] at hl
    have hcl := List.count_le_length (a := z) (l := z0)
    have e : bumpN (HZ M z0) q = HZ M (z0 ++ [z]) := by
      unfold bumpN
      rw [h.1, Int.toNat_natCast, HZ_rd M z0 z hzM, w64 (by omega) (by omega)]
      refine rd_ext _ _ (by simp [HZ_len]) ?_
      intro j hj
      rw [List.length_set, HZ_len] at hj
      rw [rd_set _ z _ j (by rw [HZ_len]; exact hzM), HZ_rd _ _ j hj, HZ_rd _ _ j hj, List.count_append, List.count_singleton]
      by_cases hzj : z = j
      · subst hzj; simp
      · rw [if_neg hzj]; simp [hzj]
    rw [List.foldl_cons, e, bump_H M L zs (z0 ++ [z]) h.2 (fun y hy => hz y (by simp [hy])) (by simp; omega)]
    simp
theorem i_numbersN (r c : Int) (l : List Int) (h : Nice r c l) : impl_Board_numbers.f r c l = some (numsL r c l) := by
  have h1 := h.1; have h2 := h.2.1; have h3 := h.2.2.1
  have hl : l.length ≤ 6 := by omega
  have hp := plc_Z c.toNat (by omega) l 0 [] h.2.2.2 (by omega)
  have hzl := Z_length c.toNat (by omega) l 0
  have h7 : 7 ^ l.length ≤ 117649 := Nat.le_trans (Nat.pow_le_pow_right (by omega) hl) (by decide)
  simp only [cntR, Int.zero_add] at hp
  unfold impl_Board_numbers.f
  rw [if_pos]
  · congr 1
    rw [← HZ_nil, bump_H _ _ (Z c.toNat l 0) [] hp (Z_ltN r c l h) (by simp; omega)]
    rfl
  · refine ⟨by omega, by omega, by omega, by omega, h3, ?_⟩
    rw [List.all_eq_true]
    intro x hx
    have : cntR x ∈ (plc c.toNat l 0 []).map cntR := List.mem_map.2 ⟨x, hx, rfl⟩
    rw [hp] at this
    obtain ⟨z, hz, e⟩ := List.mem_map.1 this
    have := Z_ltN r c l h z hz
    exact decide_eq_true (by omega)

theorem i_numbers (r c : Int) (l : List Int) (h : GoodB r c l) : impl_Board_numbers.f r c l = some (numsL r c l) := i_numbersN r c l (nice_of h)

/-- How long a list is without the zeros at its end. -/
def trN (l : List Int) : Nat → Nat
  | 0 => 0
  | n + 1 => if rd l (n : Int) = 0 then trN l n else n + 1
theorem trN_le (l : List Int) : ∀ n, trN l n ≤ n
  | 0 => Nat.le_refl _
  | n + 1 => by
    simp only [trN]
    split
    · exact Nat.le_succ_of_le (trN_le l n)
    · exact Nat.le_refl _
theorem rd_take (l : List Int) (n m : Nat) (h : m < n) : rd (l.take n) (m : Int) = rd l (m : Int) := by
  unfold rd
  simp only [List.getD, Int.toNat_natCast]
  rw [List.getElem?_take_of_lt h]
theorem i_trim0 (l : List Int) (hl : l.length ≤ 1000) : ∀ n k, n ≤ l.length → n < k → impl_trimmed.l0 k (l.take n) = some (l.take (trN l n))
  | 0, k, _, hk => by
    obtain ⟨k, rfl⟩ : ∃ m, k = m + 1 := ⟨k - 1, by omega⟩
    rw [impl_trimmed.l0, if_neg (by simp)]; rfl
  | n + 1, k, hn, hk => by
    obtain ⟨k, rfl⟩ : ∃ m, k = m + 1 := ⟨k - 1, by omega⟩
    have e : (l.take (n + 1)).length = n + 1 := by rw [List.length_take]; omega
    rw [impl_trimmed.l0, e, if_pos (by omega), w64 (by omega) (by omega), show ((n + 1 : Nat) : Int) - 1 = (n : Int) from by omega, if_pos (by omega), if_pos (by omega), rd_take l (n + 1) n (by omega)]
    by_cases h : rd l (n : Int) = 0
    · rw [if_pos h, if_pos (by omega), Int.toNat_natCast, List.take_take, Nat.min_eq_left (by omega), i_trim0 l hl n k (by omega) (by omega)]; simp only [trN, if_pos h]
    · rw [if_neg h]; simp only [trN, if_neg h]
theorem i_trimmed (k : Nat) (l : List Int) (hl : l.length ≤ 1000) (hk : 1000 < k) : impl_trimmed.f k l = some (l.take (trN l l.length)) := by
  unfold impl_trimmed.f
  have := i_trim0 l hl l.length k (Nat.le_refl _) (by omega)
  rwa [List.take_length] at this


theorem eqI_l0 (a b : List Int) (hl : a.length ≤ 2000000) (hab : a.length = b.length) : ∀ (d i k : Nat), i + d = a.length → d < k → slices_Equal_int_int.l0 k a b (a.length : Int) (i : Int) = some (decide (a.drop i = b.drop i)) := by
  intro d
  induction d with
  | zero =>
    intro i k hi hk
    obtain ⟨k, rfl⟩ : ∃ m, k = m + 1 := ⟨k - 1, by omega⟩
    rw [slices_Equal_int_int.l0, if_neg (by omega), List.drop_of_length_le (by omega), List.drop_of_length_le (by omega)]; simp
  | succ d ih =>
    intro i k hi hk
    obtain ⟨k, rfl⟩ : ∃ m, k = m + 1 := ⟨k - 1, by omega⟩
    have h1 : i < a.length := by omega
    have h2 : i < b.length := by omega
    have c1 : (i : Int) < (a.length : Int) := by omega
    have c2 : 0 ≤ (i : Int) := by omega
    have c3 : (i : Int) < (b.length : Int) := by omega
    rw [slices_Equal_int_int.l0]
    simp only [if_pos c1, if_pos c2, if_pos c3]
    rw [w64 (x := (i : Int) + 1) (by omega) (by omega), show ((i : Int) + 1) = ((i + 1 : Nat) : Int) from by omega, rd_nat a i h1, rd_nat b i h2, List.drop_eq_getElem_cons h1, List.drop_eq_getElem_cons h2]
    by_cases e : a[i] = b[i]
    · rw [if_pos e, ih (i + 1) k (by omega) (by omega), e]; simp only [List.cons.injEq, true_and]
    · rw [if_neg e]; simp only [List.cons.injEq, e, false_and, decide_false]
theorem i_Equal (k : Nat) (a b : List Int) (hl : a.length ≤ 1000000) (hk : a.length < k) : slices_Equal_int_int.f k a b = some (decide (a = b)) := by
  unfold slices_Equal_int_int.f
  by_cases h : a.length = b.length
  · rw [if_pos (by omega)]
    have := eqI_l0 a b (by omega) h a.length 0 k (by omega) hk
    rw [List.drop_zero, List.drop_zero] at this
    exact this
  · rw [if_neg (by omega), decide_eq_false (fun e => h (by rw [e]))]

def trL (l : List Int) : List Int := l.take (trN l l.length)
def alOut (r c : Int) (l : List Int) (r' c' : Int) (l' : List Int) : Bool × Bool := if GoodB r c l ∧ GoodB r' c' l' then (decide (trL (numsL r c l) = trL (numsL r' c' l')), true) else (false, false)
theorem i_AreAlike (k : Nat) (r c : Int) (l : List Int) (r' c' : Int) (l' : List Int) (hk : 10000 ≤ k) : impl_AreAlike.f k r c l r' c' l' = some (alOut r c l r' c' l') := by
  unfold impl_AreAlike.f
  obtain ⟨k, rfl⟩ : ∃ m, k = m + 1 := ⟨k - 1, by omega⟩
  rw [i_IsBoard, Option.bind_some]
  rw [i_IsBoard, Option.bind_some]
  rw [impl_AreAlike.j0, impl_AreAlike.j0]
  by_cases h : GoodB r c l
  · by_cases h' : GoodB r' c' l'
    · have hn := numsL_len r c l h
      have hn' := numsL_len r' c' l' h'
      have e : alOut r c l r' c' l' = (decide (trL (numsL r c l) = trL (numsL r' c' l')), true) := by unfold alOut; rw [if_pos ⟨h, h'⟩]
      rw [decide_eq_true h, decide_eq_true h', e]
      simp only [Bool.not_true, Bool.false_eq_true, if_false, if_true]
      rw [i_numbers r c l h, i_numbers r' c' l' h']
      simp only [Option.bind_some]
      rw [i_trimmed k _ (by omega) (by omega), i_trimmed k _ (by omega) (by omega)]
      simp only [Option.bind_some]
      rw [i_Equal k _ _ (by rw [List.length_take]; omega) (by rw [List.length_take]; omega)]
      rfl
    · have e : alOut r c l r' c' l' = (false, false) := by unfold alOut; rw [if_neg (fun x => h' x.2)]
      rw [decide_eq_true h, decide_eq_false h', e]
      simp only [Bool.not_false, if_true]
  · have e : alOut r c l r' c' l' = (false, false) := by unfold alOut; rw [if_neg (fun x => h x.1)]
    rw [decide_eq_false h, e]
    simp only [Bool.false_eq_true, if_false, if_true]

/-- The rows of the board of lengths. -/
def boardL (l : List Int) : List Int := l.map (fun m => 2 ^ m.toNat - 1)
theorem sh0 (m : Int) (h : 0 ≤ m ∧ m ≤ 6) : wrap64 (shl .i64 1 m - 1) = 2 ^ m.toNat - 1 := by
  have key : ∀ i : Fin 7, wrap64 (shl .i64 1 (i.val : Int) - 1) = 2 ^ (i.val : Int).toNat - 1 := by decide +kernel
  obtain ⟨i, rfl⟩ := fin_of m 7 h.1 (by omega)
  exact key i

theorem i_newBoard (r c : Int) (h : 0 ≤ r ∧ r ≤ 6) : impl_newBoard.f r c = some (r, c, List.replicate r.toNat 0) := by
  unfold impl_newBoard.f; rw [if_pos (by omega), if_pos (by omega)]

theorem iboardOf_l0 (l : List Int) (hl : l.length ≤ 6) (hx : ∀ x ∈ l, 0 ≤ x ∧ x ≤ 6) (R C : Int) : ∀ (d i k : Nat) (out : List Int), out.length = l.length → i + d = l.length → d < k → out.take i = (boardL l).take i →
    impl_boardOf.l0 k l (l.length : Int) (i : Int) R C out = some (R, C, boardL l) := by
  intro d
  induction d with
  | zero =>
    intro i k out ho hi hk ht
    obtain ⟨k, rfl⟩ : ∃ m, k = m + 1 := ⟨k - 1, by omega⟩
    simp only [impl_boardOf.l0]; rw [if_neg (by omega)]
    rw [List.take_of_length_le (by omega), List.take_of_length_le (by simp [boardL]; omega)] at ht; rw [ht]
  | succ d ih =>
    intro i k out ho hi hk ht
    obtain ⟨k, rfl⟩ : ∃ m, k = m + 1 := ⟨k - 1, by omega⟩
    have hlt : i < l.length := by omega
    have hm := hx l[i] (List.getElem_mem _)
    simp only [impl_boardOf.l0]
    rw [if_pos (by omega), if_pos (by omega), if_pos (by omega), rd_nat l i hlt, if_pos (by omega), if_pos (by omega), sh0 _ hm, w64 (by omega) (by omega), show ((i : Int) + 1) = ((i + 1 : Nat) : Int) from by omega]
    refine ih (i + 1) k _ (by simpa using ho) (by omega) (by omega) ?_
    rw [Int.toNat_natCast, List.take_succ_eq_append_getElem (by simpa using (by omega : i < out.length)), List.take_succ_eq_append_getElem (by simpa [boardL] using hlt)]
    simp only [List.getElem_set_self, List.take_set_of_le (Nat.le_refl i), ht]
    simp [boardL]
theorem i_boardOf (k : Nat) (l : List Int) (g : Good l) (hk : 10 ≤ k) : impl_boardOf.f k l = some ((l.length : Int), (l.length : Int), boardL l) := by
  unfold impl_boardOf.f
  have h1 := g.1
  rw [i_newBoard _ _ (by omega)]
  simp only [Option.bind_some]
  exact iboardOf_l0 l (by omega) (fun x hx => by have := g.2.1 x hx; omega) _ _ l.length 0 k _ (by simp) (by omega) (by omega) (by simp)

theorem up_ge (l : List Int) (h : up l) : ∀ x ∈ l, ∀ a r, l = a :: r → a ≤ x := by
  induction l with
  | nil => intro x hx; cases hx
  | cons a r ih =>
    intro x hx a' r' he
    injection he with h1 h2
    subst h1; subst h2
    rcases List.mem_cons.1 hx with rfl | hx
    · omega
    · cases r with
      | nil => cases hx
      | cons b r => have := ih h.2 x hx b r rfl; have := h.1; omega
theorem up_le (l : List Int) (h : up l) : ∀ x ∈ l, ∀ y, l.getLast? = some y → x ≤ y := by
  induction l with
  | nil => intro x hx; cases hx
  | cons a r ih =>
    intro x hx y hy
    cases r with
    | nil => simp at hx hy; omega
    | cons b r =>
      have hy2 : (b :: r).getLast? = some y := by simpa using hy
      rcases List.mem_cons.1 hx with rfl | hx
      · have := ih h.2 b (by simp) y hy2; have := h.1; omega
      · exact ih h.2 x hx y hy2

theorem e_isSide (a : Int) : impl_isSide.f a = some (decide (1 ≤ a ∧ a ≤ 6)) := by
  unfold impl_isSide.f; rw [e_within]; rfl

theorem i_AreLengths (k : Nat) (l : List Int) (hl : l.length ≤ 2000000) (hk : l.length < k) : impl_AreLengths.f k l = some (decide (Good l)) := by
  unfold impl_AreLengths.f
  rw [e_isSide]
  simp only [Option.bind_some, decide_eq_true_eq]
  by_cases h : 1 ≤ (l.length : Int) ∧ (l.length : Int) ≤ 6
  · rw [if_pos h, e_IsSorted k l hl (by omega) hk]
    simp only [Option.bind_some, decide_eq_true_eq]
    by_cases hu : up l
    · rw [if_pos hu, if_pos (by omega), e_within, w64 (by omega) (by omega), if_pos (by omega), if_pos (by omega), e_within]
      simp only [Option.bind_some, decide_eq_true_eq]
      have hne : 0 < l.length := by omega
      have r0 : rd l 0 = l[0] := rd_nat l 0 hne
      rw [r0]
      have r1 : rd l ((l.length : Int) - 1) = l[l.length - 1] := by
        rw [show (l.length : Int) - 1 = ((l.length - 1 : Nat) : Int) from by omega]; exact rd_nat l _ (by omega)
      rw [r1]
      have key : Good l ↔ ((0 : Int) ≤ l[0] ∧ l[0] ≤ (l.length : Int)) ∧ (0 ≤ l[l.length - 1] ∧ l[l.length - 1] ≤ (l.length : Int)) := by
        constructor
        · intro g; exact ⟨g.2.1 _ (List.getElem_mem _), g.2.1 _ (List.getElem_mem _)⟩
        · intro g
          refine ⟨h, fun x hx => ?_, hu⟩
          have a1 := up_ge l hu x hx l[0] (l.drop 1) (by rw [← List.drop_eq_getElem_cons hne]; rfl)
          have a2 := up_le l hu x hx l[l.length - 1] (by rw [List.getLast?_eq_getElem?]; simp)
          omega
      by_cases g0 : (0 : Int) ≤ l[0] ∧ l[0] ≤ (l.length : Int)
      · rw [if_pos g0]; simp only [Option.some.injEq, decide_eq_decide]; rw [key]; simp [g0]
      · rw [if_neg g0]; simp only [Option.some.injEq]; symm; rw [decide_eq_false_iff_not, key]; intro hc; exact g0 hc.1
    · rw [if_neg hu]; simp [Good, hu]
  · rw [if_neg h]; simp [Good, h]

def bolOut (l : List Int) : Int × Int × List Int × Bool := if Good l then ((l.length : Int), (l.length : Int), boardL l, true) else (0, 0, [], false)
theorem bolOut_len (l : List Int) : (bolOut l).2.2.1.length ≤ 6 := by
  unfold bolOut
  split
  · rename_i h; have := h.1; simp [boardL]; omega
  · simp
theorem i_BoardOfLengths (k : Nat) (l : List Int) (hl : l.length ≤ 2000000) (hk : l.length < k) (hk2 : 10 ≤ k) : impl_BoardOfLengths.f k l = some (bolOut l) := by
  unfold impl_BoardOfLengths.f bolOut
  rw [i_AreLengths k l hl hk]
  simp only [Option.bind_some, decide_eq_true_eq]
  by_cases g : Good l
  · rw [if_pos g, if_pos g, i_boardOf k l g hk2]; rfl
  · rw [if_neg g, if_neg g]

theorem e_boEmpty (r c : Int) (h : 0 ≤ r ∧ r ≤ 6) : spec_boEmpty.f r c = some (r, c, List.replicate r.toNat 0) := by
  unfold spec_boEmpty.f; rw [if_pos (by omega), if_pos (by omega)]

theorem feBoard_l0 (l : List Int) (hl : l.length ≤ 6) (hx : ∀ x ∈ l, 0 ≤ x ∧ x ≤ 6) (R C : Int) : ∀ (d i k : Nat) (out : List Int), out.length = l.length → i + d = l.length → d < k → out.take i = (boardL l).take i →
    spec_feBoard.l0 k l (l.length : Int) (i : Int) R C out = some (R, C, boardL l) := by
  intro d
  induction d with
  | zero =>
    intro i k out ho hi hk ht
    obtain ⟨k, rfl⟩ : ∃ m, k = m + 1 := ⟨k - 1, by omega⟩
    simp only [spec_feBoard.l0]; rw [if_neg (by omega)]
    rw [List.take_of_length_le (by omega), List.take_of_length_le (by simp [boardL]; omega)] at ht; rw [ht]
  | succ d ih =>
    intro i k out ho hi hk ht
    obtain ⟨k, rfl⟩ : ∃ m, k = m + 1 := ⟨k - 1, by omega⟩
    have hlt : i < l.length := by omega
    have hm := hx l[i] (List.getElem_mem _)
    simp only [spec_feBoard.l0]
    rw [if_pos (by omega), if_pos (by omega), if_pos (by omega), rd_nat l i hlt, if_pos (by omega), if_pos (by omega), sh0 _ hm, w64 (by omega) (by omega), show ((i : Int) + 1) = ((i + 1 : Nat) : Int) from by omega]
    refine ih (i + 1) k _ (by simpa using ho) (by omega) (by omega) ?_
    rw [Int.toNat_natCast, List.take_succ_eq_append_getElem (by simpa using (by omega : i < out.length)), List.take_succ_eq_append_getElem (by simpa [boardL] using hlt)]
    simp only [List.getElem_set_self, List.take_set_of_le (Nat.le_refl i), ht]
    simp [boardL]
theorem e_feBoard (k : Nat) (l : List Int) (g : Good l) (hk : 10 ≤ k) : spec_feBoard.f k l = some ((l.length : Int), (l.length : Int), boardL l) := by
  unfold spec_feBoard.f
  have h1 := g.1
  rw [e_boEmpty _ _ (by omega)]
  simp only [Option.bind_some]
  exact feBoard_l0 l (by omega) (fun x hx => by have := g.2.1 x hx; omega) _ _ l.length 0 k _ (by simp) (by omega) (by omega) (by simp)

theorem rSame_l0 (a b : List Int) (hl : a.length ≤ 2000000) (hab : a.length = b.length) : ∀ (d i k : Nat), i + d = a.length → d < k → laws_rSame.l0 k a b (a.length : Int) (i : Int) = some (decide (a.drop i = b.drop i)) := by
  intro d
  induction d with
  | zero =>
    intro i k hi hk
    obtain ⟨k, rfl⟩ : ∃ m, k = m + 1 := ⟨k - 1, by omega⟩
    rw [laws_rSame.l0, if_neg (by omega), List.drop_of_length_le (by omega), List.drop_of_length_le (by omega)]; simp
  | succ d ih =>
    intro i k hi hk
    obtain ⟨k, rfl⟩ : ∃ m, k = m + 1 := ⟨k - 1, by omega⟩
    have h1 : i < a.length := by omega
    have h2 : i < b.length := by omega
    rw [laws_rSame.l0, if_pos (by omega), if_pos (by omega), if_pos (by omega), if_pos (by omega), w64 (by omega) (by omega), show ((i : Int) + 1) = ((i + 1 : Nat) : Int) from by omega, rd_nat a i h1, rd_nat b i h2, List.drop_eq_getElem_cons h1, List.drop_eq_getElem_cons h2]
    by_cases e : a[i] = b[i]
    · rw [if_pos e, ih (i + 1) k (by omega) (by omega), e]; simp only [List.cons.injEq, true_and]
    · rw [if_neg e]; simp only [List.cons.injEq, e, false_and, decide_false]
theorem rSame_eq (k : Nat) (a b : List Int) (hl : a.length ≤ 1000000) (hk : a.length < k) : laws_rSame.f k a b = some (decide (a = b)) := by
  unfold laws_rSame.f
  by_cases h : a.length = b.length
  · rw [if_pos (by omega)]
    have := rSame_l0 a b (by omega) h a.length 0 k (by omega) hk
    rw [List.drop_zero, List.drop_zero] at this
    exact this
  · rw [if_neg (by omega), decide_eq_false (fun e => h (by rw [e]))]
theorem rSame_self (k : Nat) (a : List Int) (hl : a.length ≤ 1000000) (hk : a.length < k) : laws_rSame.f k a a = some true := by
  rw [rSame_eq k a a hl hk, decide_eq_true rfl]

theorem rSameBoard_eq (k : Nat) (r c : Int) (l : List Int) (r' c' : Int) (l' : List Int) (hl : l.length ≤ 1000000) (hk : l.length < k) : laws_rSameBoard.f k r c l r' c' l' = some (decide (r = r' ∧ c = c' ∧ l = l')) := by
  unfold laws_rSameBoard.f
  rw [rSame_eq k l l' hl hk]
  by_cases h1 : r = r'
  · by_cases h2 : c = c'
    · rw [if_pos h1, if_pos h2]; simp [h1, h2]
    · rw [if_pos h1, if_neg h2]; simp [h2]
  · rw [if_neg h1]; simp [h1]
theorem rSameBoard_self (k : Nat) (r c : Int) (l : List Int) (hl : l.length ≤ 1000000) (hk : l.length < k) : laws_rSameBoard.f k r c l r c l = some true := by
  rw [rSameBoard_eq k r c l r c l hl hk, decide_eq_true ⟨rfl, rfl, rfl⟩]

theorem fm_app {α β : Type} (f g : α → List β) : ∀ B : List α, List.Perm (B.flatMap fun j => f j ++ g j) (B.flatMap f ++ B.flatMap g)
  | [] => List.Perm.refl _
  | b :: B => by
    rw [List.flatMap_cons, List.flatMap_cons, List.flatMap_cons]
    have h := fm_app f g B
    refine (List.Perm.append_left _ h).trans ?_
    rw [List.append_assoc, List.append_assoc]
    apply List.Perm.append_left
    rw [← List.append_assoc, ← List.append_assoc]
    exact List.Perm.append_right _ List.perm_append_comm
theorem fm_comm {α β γ : Type} (G : α → β → List γ) (B : List β) : ∀ A : List α, List.Perm (A.flatMap fun i => B.flatMap (G i)) (B.flatMap fun j => A.flatMap fun i => G i j)
  | [] => by simp
  | a :: A => by
    rw [List.flatMap_cons]
    simp only [List.flatMap_cons]
    exact (List.Perm.append_left _ (fm_comm G B A)).trans (fm_app _ _ B).symm
theorem fm_congr {α β : Type} (f g : α → List β) : ∀ A : List α, (∀ a ∈ A, List.Perm (f a) (g a)) → List.Perm (A.flatMap f) (A.flatMap g)
  | [], _ => List.Perm.refl _
  | a :: A, h => by
    rw [List.flatMap_cons, List.flatMap_cons]
    exact (h a (by simp)).append (fm_congr f g A (fun x hx => h x (by simp [hx])))
theorem orZ_cell (t : Int) (ht : 0 ≤ t ∧ t ≤ 63) (i j : Nat) (hi : i < 6) (hj : j < 6) : cell (orZ t i) (j : Int) = (cell t (j : Int) || decide (i = j)) ∧ (0 ≤ orZ t i ∧ orZ t i ≤ 63) ∧ orZ (orZ t i) j = orZ (orZ t j) i := by
  have key : ∀ t : Fin 64, ∀ i j : Fin 6, cell (orZ (t.val : Int) i.val) (j.val : Int) = (cell (t.val : Int) (j.val : Int) || decide (i.val = j.val)) ∧ (0 ≤ orZ (t.val : Int) i.val ∧ orZ (t.val : Int) i.val ≤ 63) ∧ orZ (orZ (t.val : Int) i.val) j.val = orZ (orZ (t.val : Int) j.val) i.val := by decide +kernel
  obtain ⟨t, rfl⟩ := fin_of t 64 ht.1 (by omega)
  exact key t ⟨i, hi⟩ ⟨j, hj⟩
/-- A row's part of all placements. -/
def rowZ (m : Int) (F : Int → List Nat) (t : Int) (i : Nat) : List Nat := if i = 0 then F t else if cell m ((i - 1 : Nat) : Int) && !cell t ((i - 1 : Nat) : Int) then (F (orZ t (i - 1))).map (· + 1) else []
theorem Z_cons (C : Nat) (m : Int) (l : List Int) (t : Int) : Z C (m :: l) t = (List.range (C + 1)).flatMap (rowZ m (Z C l) t) := rfl
theorem rowZ_two (C : Nat) (hC : C ≤ 6) (x y : Int) (F : Int → List Nat) (t : Int) (ht : 0 ≤ t ∧ t ≤ 63) (i j : Nat) (hi : i < C + 1) (hj : j < C + 1) : rowZ x (fun s => rowZ y F s j) t i = rowZ y (fun s => rowZ x F s i) t j := by
  unfold rowZ
  by_cases i0 : i = 0
  · by_cases j0 : j = 0
    · simp only [i0, j0, if_true]
    · simp only [i0, j0, if_true, if_false]
  · by_cases j0 : j = 0
    · simp only [i0, j0, if_true, if_false]
    · simp only [i0, j0, if_false]
      obtain ⟨c1, _, c3⟩ := orZ_cell t ht (i - 1) (j - 1) (by omega) (by omega)
      obtain ⟨d1, _, _⟩ := orZ_cell t ht (j - 1) (i - 1) (by omega) (by omega)
      rw [c1, d1, c3]
      rw [show decide (j - 1 = i - 1) = decide (i - 1 = j - 1) from by congr 1; exact propext ⟨fun h => h.symm, fun h => h.symm⟩]
      generalize decide (i - 1 = j - 1) = e
      cases cell x ((i - 1 : Nat) : Int) <;> cases cell t ((i - 1 : Nat) : Int) <;> cases cell y ((j - 1 : Nat) : Int) <;> cases cell t ((j - 1 : Nat) : Int) <;> cases e <;> simp
theorem rowZ_fm (C : Nat) (x y : Int) (F : Int → List Nat) (t : Int) (i : Nat) : rowZ x (fun s => (List.range (C + 1)).flatMap (rowZ y F s)) t i = (List.range (C + 1)).flatMap fun j => rowZ x (fun s => rowZ y F s j) t i := by
  unfold rowZ
  by_cases i0 : i = 0
  · simp only [if_pos i0]
  · simp only [if_neg i0]
    split
    · rw [List.map_flatMap]
    · simp
theorem Z_swap (C : Nat) (hC : C ≤ 6) (x y : Int) (l : List Int) (t : Int) (ht : 0 ≤ t ∧ t ≤ 63) : List.Perm (Z C (x :: y :: l) t) (Z C (y :: x :: l) t) := by
  rw [Z_cons, Z_cons]
  have e1 : (List.range (C + 1)).flatMap (rowZ x (Z C (y :: l)) t) = (List.range (C + 1)).flatMap fun i => (List.range (C + 1)).flatMap fun j => rowZ x (fun s => rowZ y (Z C l) s j) t i := by
    congr 1; funext i; exact rowZ_fm C x y (Z C l) t i
  have e2 : (List.range (C + 1)).flatMap (rowZ y (Z C (x :: l)) t) = (List.range (C + 1)).flatMap fun j => (List.range (C + 1)).flatMap fun i => rowZ y (fun s => rowZ x (Z C l) s i) t j := by
    congr 1; funext i; exact rowZ_fm C y x (Z C l) t i
  rw [e1, e2]
  refine (fm_comm _ _ _).trans ?_
  apply fm_congr
  intro j hj
  apply fm_congr
  intro i hi
  rw [rowZ_two C hC x y (Z C l) t ht i j (List.mem_range.1 hi) (List.mem_range.1 hj)]
theorem Z_perm (C : Nat) (hC : C ≤ 6) {l l' : List Int} (h : List.Perm l l') : ∀ t : Int, 0 ≤ t ∧ t ≤ 63 → List.Perm (Z C l t) (Z C l' t) := by
  induction h with
  | nil => intro t _; exact List.Perm.refl _
  | cons x h ih =>
    intro t ht
    rw [Z_cons, Z_cons]
    apply fm_congr
    intro i hi
    unfold rowZ
    have hi := List.mem_range.1 hi
    by_cases i0 : i = 0
    · rw [if_pos i0, if_pos i0]; exact ih t ht
    · rw [if_neg i0, if_neg i0]
      split
      · exact (ih _ (orZ_cell t ht (i - 1) (i - 1) (by omega) (by omega)).2.1).map _
      · exact List.Perm.refl _
  | swap x y l => intro t ht; exact Z_swap C hC y x l t ht
  | trans _ _ ih1 ih2 => intro t ht; exact (ih1 t ht).trans (ih2 t ht)
theorem numsL_perm (r c : Int) (hc : 1 ≤ c ∧ c ≤ 6) {l l' : List Int} (h : List.Perm l l') : numsL r c l = numsL r c l' := by
  unfold numsL HZ
  congr 1
  funext k
  rw [(Z_perm c.toNat (by omega) h 0 (by omega)).count_eq]

theorem wu64 (n : Int) : IntKind.u64.wrap n = n % 18446744073709551616 := by simp [IntKind.wrap, IntKind.bits, IntKind.signed]
theorem and255 (x : Int) (h0 : 0 ≤ x) (h1 : x < 18446744073709551616) : Go.bits .and .u64 x 255 = x % 256 := by
  have := Go.bits_mask .u64 64 (by decide) (fun n h0 h1 => by rw [wu64]; exact Int.emod_eq_of_lt h0 (by simpa using h1)) 8 (by decide) x h0 (by simpa using h1)
  simpa using this
theorem and255w (n : Int) : 0 ≤ wrap64 (Go.bits .and .u64 (IntKind.u64.wrap n / 1099511627776) 255) ∧ wrap64 (Go.bits .and .u64 (IntKind.u64.wrap n / 1099511627776) 255) ≤ 255 := by
  rw [and255 _ (by rw [wu64]; omega) (by rw [wu64]; omega), w64 (by omega) (by omega)]
  omega
def CodeOK (code : List Int) : Prop := code.length ≤ 1048576 ∧ ∀ x ∈ code, 0 ≤ x ∧ x ≤ 255
theorem code_ok (code : List Int) (h : code.length ≤ 1048576) (hw : ∀ x ∈ code, (Lit.int .u8 x).wf = true) : CodeOK code := by
  refine ⟨h, fun x hx => ?_⟩
  have := hw x hx
  simp only [Lit.wf, Bool.and_eq_true, decide_eq_true_eq] at this
  have h1 : IntKind.u8.min = 0 := rfl
  have h2 : IntKind.u8.max = 255 := rfl
  rw [h1, h2] at this
  exact this
/-- A place of the bytes that a draw may have come to. -/
def PL (n i : Int) : Prop := 0 ≤ i ∧ i ≤ n
theorem d_next (code : List Int) (hc : CodeOK code) (i u : Int) (hi : 0 ≤ i ∧ i ≤ 1000000000) : ∃ v u', spec_l1Cur_next.f code i u = some (v, i + 1, u') ∧ 0 ≤ v ∧ v ≤ 255 := by
  have hl := hc.1
  unfold spec_l1Cur_next.f
  rw [w64 (x := i + 1) (by omega) (by omega)]
  by_cases h : i < (code.length : Int)
  · rw [if_pos h, if_pos hi.1, if_pos (show i + 1 ≤ (code.length : Int) by omega)]
    refine ⟨_, _, rfl, ?_⟩
    obtain ⟨j, rfl⟩ := Int.eq_ofNat_of_zero_le hi.1
    have hj : j < code.length := by omega
    rw [rd_nat code j hj]
    have := hc.2 _ (List.getElem_mem hj)
    rw [w64 (by omega) (by omega)]
    exact this
  · rw [if_neg h, if_neg (show ¬ i + 1 ≤ (code.length : Int) by omega)]
    exact ⟨_, _, rfl, and255w _⟩
theorem d_pick (code : List Int) (hc : CodeOK code) (i u n : Int) (N : Int) (hi : PL N i) (hN : N ≤ 100000000) : ∃ v i' u', spec_l1Cur_pick.f code i u n = some (v, i', u') ∧ PL (N + 2) i' ∧ 0 ≤ v ∧ (1 ≤ n → v < n) := by
  unfold PL at hi ⊢
  unfold spec_l1Cur_pick.f
  by_cases h : n ≤ 1
  · rw [if_pos h]
    exact ⟨_, _, _, rfl, by omega, by omega, by omega⟩
  · rw [if_neg h]
    obtain ⟨v, u', e, h0, h1⟩ := d_next code hc i u (by omega)
    rw [e, Option.bind_some]
    by_cases h2 : n > 200
    · obtain ⟨v2, u2, e2, h3, h4⟩ := d_next code hc (i + 1) u' (by omega)
      rw [if_pos h2]
      simp only
      rw [e2, Option.bind_some, if_neg (show ¬ n = 0 by omega)]
      refine ⟨_, _, _, rfl, by simp only; omega, ?_⟩
      rw [w64 (x := v * 256) (by omega) (by omega), w64 (by omega) (by omega), Int.tmod_eq_emod_of_nonneg (by omega)]
      exact ⟨Int.emod_nonneg _ (by omega), fun _ => Int.emod_lt_of_pos _ (by omega)⟩
    · rw [if_neg h2, if_neg (show ¬ n = 0 by omega)]
      refine ⟨_, _, _, rfl, by simp only; omega, ?_⟩
      simp only
      rw [Int.tmod_eq_emod_of_nonneg (by omega)]
      exact ⟨Int.emod_nonneg _ (by omega), fun _ => Int.emod_lt_of_pos _ (by omega)⟩

theorem d_one (code : List Int) (hc : CodeOK code) (i u n : Int) (N : Int) (hi : PL N i) (hN : N ≤ 100000000) : ∃ v i' u', spec_l1Cur_one.f code i u n = some (v, i', u') ∧ PL (N + 2) i' := by
  unfold spec_l1Cur_one.f
  obtain ⟨v, i', u', e, h, _⟩ := d_pick code hc i u n N hi hN
  rw [e]
  exact ⟨_, _, _, rfl, h⟩

theorem d_sides (code : List Int) (hc : CodeOK code) (i u : Int) (N : Int) (hi : PL N i) (hN : N ≤ 10000000) : ∃ v i' u', spec_l1Cur_sides.f code i u = some (v, i', u') ∧ PL (N + 4) i' ∧ 1 ≤ v ∧ v ≤ 6 := by
  unfold spec_l1Cur_sides.f
  obtain ⟨b, i1, u1, e, h⟩ := d_one code hc i u 8 N hi (by omega)
  rw [e, Option.bind_some]
  by_cases hb : b = true
  · rw [if_pos hb]
    exact ⟨_, _, _, rfl, by unfold PL at h ⊢; simp only; omega, by omega, by omega⟩
  · rw [if_neg hb]
    obtain ⟨v, i2, u2, e2, h2, h3, h4⟩ := d_pick code hc i1 u1 5 (N + 2) h (by omega)
    have h5 := h4 (by omega)
    rw [e2]
    refine ⟨_, _, _, rfl, by rw [show N + 4 = N + 2 + 2 by omega]; exact h2, ?_⟩
    simp only
    rw [w64 (by omega) (by omega)]; omega

theorem up_get : ∀ (l : List Int), up l → ∀ i j (hi : i < l.length) (hj : j < l.length), i ≤ j → l[i] ≤ l[j]
  | [], _, i, j, hi, _, _ => by simp at hi
  | [a], _, i, j, hi, hj, _ => by
    simp at hi hj; subst hi; subst hj; exact Int.le_refl _
  | a :: b :: r, h, 0, j, hi, hj, _ => up_ge (a :: b :: r) h _ (List.getElem_mem _) a (b :: r) rfl
  | a :: b :: r, h, i + 1, j, hi, hj, hij => by
    obtain ⟨j, rfl⟩ : ∃ m, j = m + 1 := ⟨j - 1, by omega⟩
    simp only [List.getElem_cons_succ]
    exact up_get (b :: r) h.2 i j (by simp at hi ⊢; omega) (by simp at hj ⊢; omega) (by omega)

/-- A number put into a list, behind what is not greater. -/
def insI (x : Int) : List Int → List Int
  | [] => [x]
  | a :: t => if a ≤ x then a :: insI x t else x :: a :: t
theorem insI_len (x : Int) : ∀ l, (insI x l).length = l.length + 1
  | [] => rfl
  | a :: t => by
    simp only [insI]
    split
    · simp [insI_len x t]
    · simp
theorem insI_mem (x : Int) : ∀ l y, y ∈ insI x l ↔ y = x ∨ y ∈ l
  | [], y => by simp [insI]
  | a :: t, y => by
    simp only [insI]
    split
    · simp only [List.mem_cons, insI_mem x t y]
      constructor
      · rintro (h | h | h) <;> simp [h]
      · rintro (h | h | h) <;> simp [h]
    · simp
theorem insI_gt (x p : Int) (h : x < p) : ∀ P : List Int, insI x (P ++ [p]) = insI x P ++ [p]
  | [] => by simp [insI, show ¬ p ≤ x by omega]
  | a :: P => by
    simp only [List.cons_append, insI]
    split
    · rw [insI_gt x p h P]; rfl
    · rfl
theorem insI_le (x : Int) : ∀ P : List Int, (∀ y ∈ P, y ≤ x) → insI x P = P ++ [x]
  | [], _ => rfl
  | a :: P, h => by
    simp only [insI, if_pos (h a (by simp)), List.cons_append]
    rw [insI_le x P (fun y hy => h y (by simp [hy]))]
theorem up_cons (a : Int) (l : List Int) (hl : up l) (h : ∀ y ∈ l, a ≤ y) : up (a :: l) := by
  cases l with
  | nil => trivial
  | cons b r => exact ⟨h b (by simp), hl⟩
theorem up_tail (a : Int) (l : List Int) (h : up (a :: l)) : up l := by
  cases l with
  | nil => trivial
  | cons b r => exact h.2
theorem insI_up (x : Int) : ∀ l, up l → up (insI x l)
  | [], _ => trivial
  | a :: t, h => by
    simp only [insI]
    split
    case isTrue hx =>
      refine up_cons a _ (insI_up x t (up_tail a t h)) ?_
      intro y hy
      rcases (insI_mem x t y).1 hy with rfl | hy
      · exact hx
      · exact up_ge (a :: t) h y (by simp [hy]) a t rfl
    case isFalse hx => exact ⟨by omega, h⟩
def isortI (l : List Int) : List Int := l.foldl (fun acc x => insI x acc) []
theorem isortI_snoc (l : List Int) (x : Int) : isortI (l ++ [x]) = insI x (isortI l) := by simp [isortI]
theorem isortI_len_aux : ∀ (l acc : List Int), (l.foldl (fun acc x => insI x acc) acc).length = acc.length + l.length
  | [], acc => by simp
  | x :: l, acc => by simp only [List.foldl_cons, isortI_len_aux l, insI_len, List.length_cons]; omega
theorem isortI_len (l : List Int) : (isortI l).length = l.length := by unfold isortI; rw [isortI_len_aux]; simp
theorem isortI_up_aux : ∀ (l acc : List Int), up acc → up (l.foldl (fun acc x => insI x acc) acc)
  | [], acc, h => h
  | x :: l, acc, h => by simp only [List.foldl_cons]; exact isortI_up_aux l _ (insI_up x acc h)
theorem isortI_up (l : List Int) : up (isortI l) := isortI_up_aux l [] trivial
theorem rd_mid (P S : List Int) (x : Int) : rd (P ++ x :: S) (P.length : Int) = x := by
  rw [rd_nat _ _ (by simp)]; simp
theorem rd_mid1 (P S : List Int) (p x : Int) : rd (P ++ p :: x :: S) (P.length : Int) = p := rd_mid P (x :: S) p
theorem set_mid (P S : List Int) (p x : Int) : ((P ++ p :: x :: S).set (P.length + 1) p).set P.length x = P ++ x :: p :: S := by
  rw [List.set_append_right _ _ (by omega)]
  simp

theorem e_l1OwnF (l : List Int) (hl : l.length ≤ 1000) : spec_l1Own.f l = some l := by
  unfold spec_l1Own.f
  rw [Option.bind_some, if_pos (by simp; omega)]; rfl
theorem feS_l1 (v : List Int) (n : Int) (i K : Nat) (hi : i ≤ 100) (x : Int) (R : List Int) : ∀ (Q P : List Int) (k : Nat), (P ++ Q).length ≤ 100 → (∀ y ∈ P, y ≤ x) → K + (Q.length + 1) ≤ k → (∀ k', K ≤ k' → spec_feSorted.l0 k' (P ++ insI x Q) v n ((i + 1 : Nat) : Int) = some R) → spec_feSorted.l1 k (P ++ Q) x (P.length : Int) v n (i : Int) = some R
  | [], P, k, hl, hP, hk, hR => by
    obtain ⟨k, rfl⟩ : ∃ m, k = m + 1 := ⟨k - 1, by omega⟩
    simp only [List.append_nil] at hl ⊢
    have c1 : ¬ (P.length : Int) < (P.length : Int) := by omega
    have c2 : 0 ≤ (P.length : Int) := by omega
    have c3 : (P.length : Int) ≤ (P.length : Int) := by omega
    rw [spec_feSorted.l1, if_neg c1, if_pos c2, if_pos c3, Int.toNat_natCast, List.take_length, List.drop_length, e_l1OwnF P (by omega), Option.bind_some, if_pos (by omega), Option.bind_some, Option.bind_some, if_pos (by simp; omega), w64 (by omega) (by omega), show ((i : Int) + 1) = ((i + 1 : Nat) : Int) from by omega]
    have := hR k (by simp at hk; omega)
    simpa [insI] using this
  | a :: Q, P, k, hl, hP, hk, hR => by
    obtain ⟨k, rfl⟩ : ∃ m, k = m + 1 := ⟨k - 1, by omega⟩
    simp only [List.length_append, List.length_cons] at hl
    simp only [List.length_cons] at hk
    have hL : (P ++ a :: Q).length = P.length + Q.length + 1 := by simp; omega
    have c1 : (P.length : Int) < ((P ++ a :: Q).length : Int) := by omega
    have c2 : 0 ≤ (P.length : Int) := by omega
    have c3 : (P.length : Int) ≤ ((P ++ a :: Q).length : Int) := by omega
    rw [spec_feSorted.l1, if_pos c1, if_pos c2, rd_mid]
    by_cases h : a ≤ x
    · rw [if_pos h, w64 (by omega) (by omega)]
      have := feS_l1 v n i K hi x R Q (P ++ [a]) k (by simp; omega) (by
        intro y hy
        rcases List.mem_append.1 hy with hy | hy
        · exact hP y hy
        · simp at hy; rw [hy]; exact h) (by omega) (by
        intro k' hk'
        have := hR k' hk'
        simp only [insI, if_pos h] at this
        simpa using this)
      simpa using this
    · rw [if_neg h, if_pos c3, Int.toNat_natCast, List.take_left, List.drop_left, e_l1OwnF P (by omega), Option.bind_some, if_pos (by omega), Option.bind_some, Option.bind_some, if_pos (by simp; omega), w64 (by omega) (by omega), show ((i : Int) + 1) = ((i + 1 : Nat) : Int) from by omega]
      have := hR k (by omega)
      simp only [insI, if_neg h] at this
      simpa using this
theorem feS_l0 (v : List Int) (hv : v.length ≤ 12) : ∀ (d i k : Nat), i + d = v.length → 20 * d + 1 ≤ k → spec_feSorted.l0 k (isortI (v.take i)) v (v.length : Int) (i : Int) = some (isortI v)
  | 0, i, k, hi, hk => by
    obtain ⟨k, rfl⟩ : ∃ m, k = m + 1 := ⟨k - 1, by omega⟩
    rw [spec_feSorted.l0, if_neg (by omega), List.take_of_length_le (by omega)]
  | d + 1, i, k, hi, hk => by
    obtain ⟨k, rfl⟩ : ∃ m, k = m + 1 := ⟨k - 1, by omega⟩
    have hlt : i < v.length := by omega
    have hpl : (isortI (v.take i)).length = i := by rw [isortI_len, List.length_take]; omega
    rw [spec_feSorted.l0, if_pos (by omega), if_pos (by omega), if_pos (by omega), rd_nat v i hlt]
    have := feS_l1 v (v.length : Int) i (20 * d + 1) (by omega) v[i] (isortI v) (isortI (v.take i)) [] k (by simp [hpl]; omega) (by simp) (by omega) (by
      intro k' hk'
      rw [List.nil_append, ← isortI_snoc, ← List.take_succ_eq_append_getElem hlt]
      exact feS_l0 v hv d (i + 1) k' (by omega) hk')
    simpa using this
theorem e_feSorted (k : Nat) (v : List Int) (hv : v.length ≤ 12) (hk : 1000 ≤ k) : spec_feSorted.f k v = some (isortI v) := by
  unfold spec_feSorted.f
  exact feS_l0 v hv v.length 0 k (by omega) (by omega)

theorem d_lengths_l0 (code : List Int) (hc : CodeOK code) (n : Nat) (h1 : 1 ≤ n) (h6 : n ≤ 6) : ∀ (d i k : Nat) (acc : List Int) (j u N : Int), i + d = n → acc.length = i → d + 2000 < k → PL N j → N + 2 * d ≤ 100000 → ∃ L i' u', spec_l1Cur_lengths.l0 k (n : Int) acc (i : Int) code j u = some (L, i', u') ∧ 1 ≤ L.length ∧ L.length ≤ 7 ∧ PL (N + 2 * d + 6) i' := by
  intro d
  induction d with
  | zero =>
    intro i k acc j u N hi ha hk hj hN
    obtain ⟨k, rfl⟩ : ∃ m, k = m + 1 := ⟨k - 1, by omega⟩
    have hs := isortI_len acc
    rw [spec_l1Cur_lengths.l0, if_neg (by omega), e_feSorted k acc (by omega) (by omega), Option.bind_some]
    obtain ⟨v, j1, u1, e1, h2, _⟩ := d_pick code hc j u 14 N hj (by omega)
    rw [e1, Option.bind_some]
    simp only
    by_cases c0 : v = 0
    · rw [if_pos c0]
      obtain ⟨v2, j2, u2, e2, h3, h4, h5⟩ := d_pick code hc j1 u1 (n : Int) (N + 2) h2 (by omega)
      rw [e2, Option.bind_some]
      simp only
      obtain ⟨v3, j3, u3, e3, h7, _⟩ := d_pick code hc j2 u2 (wrap64 ((n : Int) + 3)) (N + 2 + 2) h3 (by omega)
      have := h5 (by omega)
      rw [e3, Option.bind_some, if_pos h4, if_pos (by omega)]
      exact ⟨_, _, _, rfl, by simp only [List.length_set]; omega, by simp only [List.length_set]; omega, by unfold PL at h7 ⊢; simp only; omega⟩
    · rw [if_neg c0]
      by_cases c1 : v = 1
      · rw [if_pos c1, if_pos (by omega)]
        exact ⟨_, _, _, rfl, by simp, by simp; omega, by unfold PL at h2 ⊢; omega⟩
      · rw [if_neg c1]
        by_cases c2 : v = 2
        · rw [if_pos c2]
          obtain ⟨v2, j2, u2, e2, h3, h4, h5⟩ := d_pick code hc j1 u1 2 (N + 2) h2 (by omega)
          have := h5 (by omega)
          rw [e2, Option.bind_some]
          simp only
          rw [w64 (x := 6 + v2) (by omega) (by omega), if_pos (by omega), if_pos (by omega)]
          exact ⟨_, _, _, rfl, by simp only [List.length_replicate]; omega, by simp only [List.length_replicate]; omega, by unfold PL at h3 ⊢; omega⟩
        · rw [if_neg c2]
          exact ⟨_, _, _, rfl, by omega, by omega, by unfold PL at h2 ⊢; omega⟩
  | succ d ih =>
    intro i k acc j u N hi ha hk hj hN
    obtain ⟨k, rfl⟩ : ∃ m, k = m + 1 := ⟨k - 1, by omega⟩
    rw [spec_l1Cur_lengths.l0, if_pos (by omega)]
    obtain ⟨v, j1, u1, e1, h2, _⟩ := d_pick code hc j u (wrap64 ((n : Int) + 1)) N hj (by omega)
    rw [e1, Option.bind_some, if_pos (by omega), w64 (x := (i : Int) + 1) (by omega) (by omega), show ((i : Int) + 1) = ((i + 1 : Nat) : Int) from by omega]
    obtain ⟨L, i', u', e, h3, h4, h5⟩ := ih (i + 1) k (acc ++ [v]) j1 u1 (N + 2) (by omega) (by simp; omega) (by omega) h2 (by omega)
    exact ⟨L, i', u', e, h3, h4, by unfold PL at h5 ⊢; omega⟩
theorem d_lengths (k : Nat) (code : List Int) (hc : CodeOK code) (i u N : Int) (hi : PL N i) (hN : N ≤ 10000) (hk : 3000 ≤ k) : ∃ L i' u', spec_l1Cur_lengths.f k code i u = some (L, i', u') ∧ 1 ≤ L.length ∧ L.length ≤ 7 ∧ PL (N + 100) i' := by
  unfold spec_l1Cur_lengths.f
  obtain ⟨v, i1, u1, e1, h1, h2, h3⟩ := d_sides code hc i u N hi (by omega)
  rw [e1, Option.bind_some]
  simp only
  obtain ⟨L, i', u', e, h4, h5, h6⟩ := d_lengths_l0 code hc v.toNat (by omega) (by omega) v.toNat 0 k [] i1 u1 (N + 4) (by omega) rfl (by omega) h1 (by omega)
  rw [show ((v.toNat : Nat) : Int) = v by omega, show ((0 : Nat) : Int) = 0 from rfl] at e
  exact ⟨L, i', u', e, h4, h5, by unfold PL at h6 ⊢; omega⟩

theorem d_boardOf_l0 (code : List Int) (hc : CodeOK code) (R C : Int) (hC : 0 ≤ C ∧ C ≤ 60) : ∀ (d j k : Nat) (i u : Int) (l : List Int) (N : Int), j + d = l.length → d < k → PL N i → N + 6 * d ≤ 10000000 → l.length ≤ 1000 → ∃ l' i' u', spec_l1Cur_boardOf.l0 k C (l.length : Int) (j : Int) code i u R C l = some (R, C, l', i', u') ∧ l'.length = l.length ∧ PL (N + 6 * d) i' := by
  intro d
  induction d with
  | zero =>
    intro j k i u l N hj hk hi hN hl
    obtain ⟨k, rfl⟩ : ∃ m, k = m + 1 := ⟨k - 1, by omega⟩
    rw [spec_l1Cur_boardOf.l0, if_neg (by omega)]
    exact ⟨_, _, _, rfl, rfl, by simpa using hi⟩
  | succ d ih =>
    intro j k i u l N hj hk hi hN hl
    obtain ⟨k, rfl⟩ : ∃ m, k = m + 1 := ⟨k - 1, by omega⟩
    rw [spec_l1Cur_boardOf.l0, if_pos (by omega), if_pos hC.1]
    obtain ⟨v1, i1, u1, e1, h1, _⟩ := d_pick code hc i u (shl .i64 1 C) N hi (by omega)
    rw [e1, Option.bind_some, if_pos (by omega), if_pos (by omega), Option.bind_some]
    obtain ⟨v2, i2, u2, e2, h2⟩ := d_one code hc i1 u1 3 (N + 2) h1 (by omega)
    simp only
    rw [e2, Option.bind_some, w64 (x := (j : Int) + 1) (by omega) (by omega), show ((j : Int) + 1) = ((j + 1 : Nat) : Int) from by omega]
    by_cases hb : v2 = true
    · rw [if_pos hb]
      obtain ⟨v3, i3, u3, e3, h3, h4, _⟩ := d_pick code hc i2 u2 (wrap64 (C + 1)) (N + 2 + 2) h2 (by omega)
      simp only
      rw [e3, Option.bind_some, if_pos h4]
      have := ih (j + 1) k i3 u3 ((l.set (j : Int).toNat v1).set (j : Int).toNat (wrap64 (shl .i64 1 v3 - 1))) (N + 2 + 2 + 2) (by simp; omega) (by omega) h3 (by omega) (by simp; omega)
      simp only [List.length_set] at this
      obtain ⟨l', i', u', e, h5, h6⟩ := this
      exact ⟨l', i', u', e, h5, by rw [show N + 6 * ((d + 1 : Nat) : Int) = N + 2 + 2 + 2 + 6 * d by omega]; exact h6⟩
    · rw [if_neg hb]
      have := ih (j + 1) k i2 u2 (l.set (j : Int).toNat v1) (N + 2 + 2) (by simp; omega) (by omega) h2 (by omega) (by simp; omega)
      simp only [List.length_set] at this
      obtain ⟨l', i', u', e, h5, h6⟩ := this
      exact ⟨l', i', u', e, h5, by unfold PL at h6 ⊢; omega⟩
theorem d_boardOf (k : Nat) (code : List Int) (hc : CodeOK code) (i u : Int) (N : Int) (R C : Int) (hR : 0 ≤ R ∧ R ≤ 100) (hC : 0 ≤ C ∧ C ≤ 60) (hi : PL N i) (hN : N ≤ 1000000) (hk : 1000 ≤ k) : ∃ l' i' u', spec_l1Cur_boardOf.f k code i u R C = some (R, C, l', i', u') ∧ (l'.length : Int) = R ∧ PL (N + 600) i' := by
  unfold spec_l1Cur_boardOf.f spec_boEmpty.f
  rw [if_pos hR.1, if_pos (by omega), Option.bind_some]
  simp only
  obtain ⟨l', i', u', e, h1, h2⟩ := d_boardOf_l0 code hc R C hC R.toNat 0 k i u (List.replicate R.toNat 0) N (by simp) (by omega) hi (by omega) (by simp; omega)
  rw [show ((0 : Nat) : Int) = 0 from rfl] at e
  refine ⟨l', i', u', e, by rw [h1]; simp; omega, by unfold PL at h2 ⊢; omega⟩

theorem rd_in (l : List Int) (i : Int) (h0 : 0 ≤ i) (h1 : i < (l.length : Int)) : rd l i ∈ l := by
  obtain ⟨j, rfl⟩ := Int.eq_ofNat_of_zero_le h0
  have hj : j < l.length := by omega
  rw [rd_nat l j hj]
  exact List.getElem_mem hj
theorem d_among (code : List Int) (hc : CodeOK code) (i u : Int) (l : List Int) (N : Int) (hl : l ≠ []) (hi : PL N i) (hN : N ≤ 100000000) : ∃ v i' u', spec_l1Cur_among.f code i u l = some (v, i', u') ∧ PL (N + 2) i' ∧ v ∈ l := by
  unfold spec_l1Cur_among.f
  have hp : 0 < l.length := by cases l with | nil => exact absurd rfl hl | cons a t => simp
  obtain ⟨v, i', u', e, h, h0, h1⟩ := d_pick code hc i u (l.length : Int) N hi hN
  have h2 := h1 (by omega)
  rw [e, Option.bind_some, if_pos h0, if_pos h2]
  exact ⟨_, _, _, rfl, h, rd_in l v h0 h2⟩

theorem d_board (k : Nat) (code : List Int) (hc : CodeOK code) (i u : Int) (N : Int) (hi : PL N i) (hN : N ≤ 100000) (hk : 1000 ≤ k) : ∃ r c l i' u', spec_l1Cur_board.f k code i u = some (r, c, l, i', u') ∧ 1 ≤ l.length ∧ l.length ≤ 7 ∧ PL (N + 1000) i' := by
  unfold spec_l1Cur_board.f
  obtain ⟨r, i1, u1, e1, h1, r1, r2⟩ := d_sides code hc i u N hi (by omega)
  rw [e1, Option.bind_some]
  simp only
  obtain ⟨c, i2, u2, e2, h2, c1, c2⟩ := d_sides code hc i1 u1 (N + 4) h1 (by omega)
  rw [e2, Option.bind_some]
  simp only
  obtain ⟨l, i3, u3, e3, h3, h4⟩ := d_boardOf k code hc i2 u2 (N + 4 + 4) r c (by omega) (by omega) h2 (by omega) hk
  rw [e3, Option.bind_some]
  simp only
  obtain ⟨v, i4, u4, e4, h5, _⟩ := d_pick code hc i3 u3 18 (N + 4 + 4 + 600) h4 (by omega)
  rw [e4, Option.bind_some]
  simp only
  split
  · obtain ⟨v5, i5, u5, e5, h6, _⟩ := d_among code hc i4 u4 [-1, 0, wrap64 (r + 1), 7] (N + 4 + 4 + 600 + 2) (by simp) h5 (by omega)
    rw [e5, Option.bind_some]
    exact ⟨_, _, _, _, _, rfl, by omega, by omega, by unfold PL at h6 ⊢; simp only; omega⟩
  · split
    · obtain ⟨v5, i5, u5, e5, h6, _⟩ := d_among code hc i4 u4 [-1, 0, 7, 4611686018427387904] (N + 4 + 4 + 600 + 2) (by simp) h5 (by omega)
      rw [e5, Option.bind_some]
      exact ⟨_, _, _, _, _, rfl, by omega, by omega, by unfold PL at h6 ⊢; simp only; omega⟩
    · split
      · obtain ⟨v5, i5, u5, e5, h6, h7, h8⟩ := d_pick code hc i4 u4 (l.length : Int) (N + 4 + 4 + 600 + 2) h5 (by omega)
        rw [e5, Option.bind_some]
        simp only
        obtain ⟨v6, i6, u6, e6, h9, _⟩ := d_among code hc i5 u5 [-1, 64, 4611686018427387904] (N + 4 + 4 + 600 + 2 + 2) (by simp) h6 (by omega)
        rw [e6, Option.bind_some, if_pos h7, if_pos (h8 (by omega))]
        exact ⟨_, _, _, _, _, rfl, by simp; omega, by simp; omega, by unfold PL at h9 ⊢; simp only; omega⟩
      · split
        · rw [if_pos (by omega)]
          exact ⟨_, _, _, _, _, rfl, by simp, by simp; omega, by unfold PL at h5 ⊢; omega⟩
        · exact ⟨_, _, _, _, _, rfl, by omega, by omega, by unfold PL at h5 ⊢; omega⟩

theorem d_square (k : Nat) (code : List Int) (hc : CodeOK code) (i u : Int) (N : Int) (hi : PL N i) (hN : N ≤ 10000) (hk : 1000 ≤ k) : ∃ r c l i' u', spec_l1Cur_square.f k code i u = some (r, c, l, i', u') ∧ 1 ≤ l.length ∧ l.length ≤ 7 ∧ PL (N + 2000) i' := by
  unfold spec_l1Cur_square.f
  obtain ⟨b, i1, u1, e1, h1⟩ := d_one code hc i u 8 N hi (by omega)
  rw [e1, Option.bind_some]
  simp only
  by_cases hb : b = true
  · rw [if_pos hb]
    obtain ⟨r, c, l, i2, u2, e2, h2, h3, h4⟩ := d_board k code hc i1 u1 (N + 2) h1 (by omega) hk
    rw [e2]
    exact ⟨_, _, _, _, _, rfl, h2, h3, by unfold PL at h4 ⊢; simp only; omega⟩
  · rw [if_neg hb]
    obtain ⟨r, i2, u2, e2, h2, r1, r2⟩ := d_sides code hc i1 u1 (N + 2) h1 (by omega)
    rw [e2, Option.bind_some]
    simp only
    obtain ⟨l, i3, u3, e3, h3, h4⟩ := d_boardOf k code hc i2 u2 (N + 2 + 4) r r (by omega) (by omega) h2 (by omega) hk
    rw [e3]
    exact ⟨_, _, _, _, _, rfl, by simp only; omega, by simp only; omega, by unfold PL at h4 ⊢; simp only; omega⟩

/-! ### the order of rows -/
theorem key_split (f : Nat → Nat) (m : Nat) : ∀ I : List Nat, List.Perm ((I.filter fun i => decide (f i ≤ m)) ++ I.filter fun i => decide (f i = m + 1)) (I.filter fun i => decide (f i ≤ m + 1))
  | [] => List.Perm.refl _
  | a :: t => by
    have ih := key_split f m t
    by_cases h : f a ≤ m
    · rw [List.filter_cons, if_pos (decide_eq_true h), List.filter_cons, if_neg (by simp; omega), List.filter_cons, if_pos (decide_eq_true (show f a ≤ m + 1 by omega)), List.cons_append]
      exact List.Perm.cons a ih
    · by_cases h2 : f a = m + 1
      · rw [List.filter_cons, if_neg (by simpa using h), List.filter_cons, if_pos (decide_eq_true h2), List.filter_cons, if_pos (decide_eq_true (show f a ≤ m + 1 by omega))]
        exact List.perm_middle.trans (List.Perm.cons a ih)
      · rw [List.filter_cons, if_neg (by simpa using h), List.filter_cons, if_neg (by simpa using h2), List.filter_cons, if_neg (by simp; omega)]
        exact ih
theorem key_sorted (f : Nat → Nat) (m : Nat) : ∀ I : List Nat, I.Pairwise (fun i j => f i ≤ f j) → ((I.filter fun i => decide (f i ≤ m)) ++ I.filter fun i => decide (f i = m + 1)) = I.filter fun i => decide (f i ≤ m + 1)
  | [], _ => rfl
  | a :: t, hp => by
    obtain ⟨h1, h2⟩ := List.pairwise_cons.1 hp
    have ih := key_sorted f m t h2
    by_cases h : f a ≤ m
    · rw [List.filter_cons, if_pos (decide_eq_true h), List.filter_cons, if_neg (by simp; omega), List.filter_cons, if_pos (decide_eq_true (show f a ≤ m + 1 by omega)), List.cons_append, ih]
    · have e0 : (t.filter fun i => decide (f i ≤ m)) = [] := by
        rw [List.filter_eq_nil_iff]
        intro x hx
        have := h1 x hx
        simp; omega
      by_cases h2' : f a = m + 1
      · rw [List.filter_cons, if_neg (by simpa using h), List.filter_cons, if_pos (decide_eq_true h2'), List.filter_cons, if_pos (decide_eq_true (show f a ≤ m + 1 by omega)), ← ih, e0]; rfl
      · rw [List.filter_cons, if_neg (by simpa using h), List.filter_cons, if_neg (by simpa using h2'), List.filter_cons, if_neg (by simp; omega)]
        exact ih
theorem ordK_perm (L : List Int) : ∀ m, List.Perm (ordK L m) (((List.range L.length).filter fun i : Nat => decide ((L.getD i 0).toNat ≤ m)).map fun i : Nat => (i : Int))
  | 0 => by
    rw [ordK]
    simp only [Nat.le_zero]
    exact List.Perm.refl _
  | m + 1 => by
    rw [ordK]
    refine (List.Perm.append_right _ (ordK_perm L m)).trans ?_
    rw [← List.map_append]
    exact (key_split (fun i => (L.getD i 0).toNat) m (List.range L.length)).map _
theorem ordK_eq (L : List Int) (hs : (List.range L.length).Pairwise fun i j => (L.getD i 0).toNat ≤ (L.getD j 0).toNat) : ∀ m, ordK L m = ((List.range L.length).filter fun i : Nat => decide ((L.getD i 0).toNat ≤ m)).map fun i : Nat => (i : Int)
  | 0 => by
    rw [ordK]
    simp only [Nat.le_zero]
  | m + 1 => by rw [ordK, ordK_eq L hs m, ← List.map_append, key_sorted (fun i => (L.getD i 0).toNat) m (List.range L.length) hs]
theorem all_le (L : List Int) (hL : ∀ x ∈ L, 0 ≤ x ∧ x ≤ 6) : ((List.range L.length).filter fun i : Nat => decide ((L.getD i 0).toNat ≤ 6)) = List.range L.length := by
  rw [List.filter_eq_self]
  intro i hi
  have hi := List.mem_range.1 hi
  have := hL L[i] (List.getElem_mem hi)
  simp only [List.getD, List.getElem?_eq_getElem hi, Option.getD_some]
  exact decide_eq_true (by omega)
theorem ordK6_perm (L : List Int) (hL : ∀ x ∈ L, 0 ≤ x ∧ x ≤ 6) : List.Perm (ordK L 6) ((List.range L.length).map fun i : Nat => (i : Int)) := by
  have := ordK_perm L 6
  rwa [all_le L hL] at this
theorem up_pair : ∀ L : List Int, up L ↔ L.Pairwise (fun a b => a ≤ b)
  | [] => by simp [up]
  | [a] => by simp [up]
  | a :: b :: t => by
    have ih := up_pair (b :: t)
    rw [up, ih, List.pairwise_cons (a := a)]
    constructor
    · rintro ⟨h1, h2⟩
      refine ⟨fun x hx => ?_, h2⟩
      rcases List.mem_cons.1 hx with rfl | hx
      · exact h1
      · have := (List.pairwise_cons.1 h2).1 x hx; omega
    · rintro ⟨h1, h2⟩
      exact ⟨h1 b (by simp), h2⟩
theorem ordK_keys (L : List Int) (hL : ∀ x ∈ L, 0 ≤ x ∧ x ≤ 6) : ∀ m, (∀ x ∈ ordK L m, ∃ i : Nat, x = (i : Int) ∧ i < L.length ∧ (L.getD i 0).toNat ≤ m) ∧ ((ordK L m).map (fun x => rd L x)).Pairwise (fun a b => a ≤ b)
  | 0 => by
    have hm : ∀ x ∈ ordK L 0, ∃ i : Nat, x = (i : Int) ∧ i < L.length ∧ (L.getD i 0).toNat ≤ 0 := by
      intro x hx
      rw [ordK] at hx
      obtain ⟨i, hi, rfl⟩ := List.mem_map.1 hx
      rw [List.mem_filter] at hi
      have h2 := of_decide_eq_true hi.2
      exact ⟨i, rfl, List.mem_range.1 hi.1, by omega⟩
    refine ⟨hm, ?_⟩
    rw [List.pairwise_map, List.pairwise_iff_forall_sublist]
    intro a b hs
    have ha := hs.subset (show a ∈ [a, b] by simp)
    have hb := hs.subset (show b ∈ [a, b] by simp)
    obtain ⟨i, rfl, hi, h1⟩ := hm a ha
    obtain ⟨j, rfl, hj, h2⟩ := hm b hb
    rw [rd_nat L i hi, rd_nat L j hj]
    have e1 : L.getD i 0 = L[i] := by simp [List.getD, hi]
    have e2 : L.getD j 0 = L[j] := by simp [List.getD, hj]
    rw [e1] at h1; rw [e2] at h2
    have := hL L[i] (List.getElem_mem hi); have := hL L[j] (List.getElem_mem hj)
    omega
  | m + 1 => by
    obtain ⟨ih1, ih2⟩ := ordK_keys L hL m
    have hB : ∀ x ∈ ((List.range L.length).filter fun i => decide ((L.getD i 0).toNat = m + 1)).map fun i : Nat => (i : Int), ∃ i : Nat, x = (i : Int) ∧ i < L.length ∧ (L.getD i 0).toNat = m + 1 := by
      intro x hx
      obtain ⟨i, hi, rfl⟩ := List.mem_map.1 hx
      rw [List.mem_filter] at hi
      exact ⟨i, rfl, List.mem_range.1 hi.1, of_decide_eq_true hi.2⟩
    rw [ordK]
    refine ⟨?_, ?_⟩
    · intro x hx
      rcases List.mem_append.1 hx with hx | hx
      · obtain ⟨i, e, h1, h2⟩ := ih1 x hx; exact ⟨i, e, h1, by omega⟩
      · obtain ⟨i, e, h1, h2⟩ := hB x hx; exact ⟨i, e, h1, by omega⟩
    · rw [List.map_append, List.pairwise_append]
      refine ⟨ih2, ?_, ?_⟩
      · rw [List.pairwise_map, List.pairwise_iff_forall_sublist]
        intro a b hs
        obtain ⟨i, rfl, hi, h1⟩ := hB a (hs.subset (by simp))
        obtain ⟨j, rfl, hj, h2⟩ := hB b (hs.subset (by simp))
        rw [rd_nat L i hi, rd_nat L j hj]
        have e1 : L.getD i 0 = L[i] := by simp [List.getD, hi]
        have e2 : L.getD j 0 = L[j] := by simp [List.getD, hj]
        rw [e1] at h1; rw [e2] at h2
        have := hL L[i] (List.getElem_mem hi); have := hL L[j] (List.getElem_mem hj)
        omega
      · intro a ha b hb
        obtain ⟨x, hx, rfl⟩ := List.mem_map.1 ha
        obtain ⟨y, hy, rfl⟩ := List.mem_map.1 hb
        obtain ⟨i, rfl, hi, h1⟩ := ih1 x hx
        obtain ⟨j, rfl, hj, h2⟩ := hB y hy
        rw [rd_nat L i hi, rd_nat L j hj]
        have e1 : L.getD i 0 = L[i] := by simp [List.getD, hi]
        have e2 : L.getD j 0 = L[j] := by simp [List.getD, hj]
        rw [e1] at h1; rw [e2] at h2
        have := hL L[i] (List.getElem_mem hi); have := hL L[j] (List.getElem_mem hj)
        omega
/-! ### lengths -/
theorem lensG_eq : ∀ (l acc : List Int), (∀ x ∈ l, x = 2 ^ lead x - 1) → lensG l acc = (acc ++ l.map fun x => (lead x : Int), true)
  | [], acc, _ => by simp [lensG]
  | m :: t, acc, h => by
    rw [lensG, if_pos (h m (by simp)), lensG_eq t _ (fun x hx => h x (by simp [hx]))]; simp
theorem lensG_ok : ∀ (l acc : List Int), (lensG l acc).2 = true → ∀ x ∈ l, x = 2 ^ lead x - 1
  | [], acc, _, x, hx => by cases hx
  | m :: t, acc, h, x, hx => by
    rw [lensG] at h
    by_cases e : m = 2 ^ lead m - 1
    · rw [if_pos e] at h
      rcases List.mem_cons.1 hx with rfl | hx
      · exact e
      · exact lensG_ok t _ h x hx
    · rw [if_neg e] at h; cases h
theorem preP_nodup (p : List Int) (hn : p.Nodup) : ∀ d i, i + d = p.length → preP p d i = true
  | 0, i, _ => rfl
  | d + 1, i, h => by
    have hi : i < p.length := by omega
    rw [preP, preP_nodup p hn d (i + 1) (by omega), Bool.and_true, rd_nat p i hi, Bool.not_eq_true', ← Bool.not_eq_true]
    intro hc
    have hm : p[i] ∈ p.take i := by simpa using hc
    have hp : p = p.take i ++ p[i] :: p.drop (i + 1) := by rw [← List.drop_eq_getElem_cons hi, List.take_append_drop]
    rw [hp] at hn
    exact (List.nodup_append.1 hn).2.2 _ hm _ List.mem_cons_self rfl
theorem permB_ord (L : List Int) (hL : ∀ x ∈ L, 0 ≤ x ∧ x ≤ 6) : permB (ordK L 6) (L.length : Int) = true := by
  have hp := ordK6_perm L hL
  have hlen := hp.length_eq
  rw [List.length_map, List.length_range] at hlen
  have hnd : (ordK L 6).Nodup := by
    rw [hp.nodup_iff]
    exact List.Pairwise.map _ (fun a b h e => h (by omega)) List.nodup_range
  unfold permB
  rw [preP_nodup _ hnd _ 0 (by omega), decide_eq_true (show ((ordK L 6).length : Int) = (L.length : Int) by omega), Bool.true_and, Bool.and_true]
  apply decide_eq_true
  intro x hx
  obtain ⟨i, hi, rfl⟩ := List.mem_map.1 (hp.mem_iff.1 hx)
  have := List.mem_range.1 hi
  omega
theorem ord_moved (l L : List Int) (hL : ∀ x ∈ L, 0 ≤ x ∧ x ≤ 6) (hl : L.length = l.length) : List.Perm ((ordK L 6).map fun x => rd l x) l := by
  have hp := (ordK6_perm L hL).map (fun x => rd l x)
  rw [List.map_map] at hp
  have e : (List.range L.length).map ((fun x => rd l x) ∘ fun i : Nat => (i : Int)) = l := by
    rw [hl]
    apply List.ext_getElem
    · simp
    · intro i h1 h2
      simp only [List.getElem_map, List.getElem_range, Function.comp]
      rw [rd_nat l i h2]
  rw [e] at hp
  exact hp
theorem moved_ok (r : Int) (l : List Int) (g : GoodB r r l) (h : (lensG l []).2 = true) : ∃ p, ordOut r r l (ordK (lensG l []).1 6) = (r, r, p, true) ∧ GoodB r r p ∧ List.Perm p l ∧ isoOut r r p = (true, true) := by
  have hok := lensG_ok l [] h
  have hLe := lensG_eq l [] hok
  rw [List.nil_append] at hLe
  have hg := goodB_len g
  have h2 := g.2.1
  have h3 := g.2.2.1
  have hm := lensG_mem r h2 l [] g.2.2.2 (fun x hx => by cases hx)
  have hn := lensG_len l [] h
  simp only [List.length_nil, Nat.zero_add] at hn
  have hL6 : ∀ x ∈ (lensG l []).1, 0 ≤ x ∧ x ≤ 6 := fun x hx => by have := hm x hx; omega
  have hp := ord_moved l (lensG l []).1 hL6 hn
  have hperm := permB_ord (lensG l []).1 hL6
  have hkeys := (ordK_keys (lensG l []).1 hL6 6)
  have e1 : ((lensG l []).1.length : Int) = r := by omega
  rw [e1] at hperm
  refine ⟨(ordK (lensG l []).1 6).map fun x => rd l x, ?_, ?_, hp, ?_⟩
  · unfold ordOut; rw [if_pos ⟨g, hperm⟩]
  · exact ⟨g.1, g.2.1, by rw [hp.length_eq]; exact h3, fun x hx => g.2.2.2 x (hp.mem_iff.1 hx)⟩
  · have gp : GoodB r r ((ordK (lensG l []).1 6).map fun x => rd l x) := ⟨g.1, g.2.1, by rw [hp.length_eq]; exact h3, fun x hx => g.2.2.2 x (hp.mem_iff.1 hx)⟩
    have hok2 : ∀ x ∈ (ordK (lensG l []).1 6).map fun x => rd l x, x = 2 ^ lead x - 1 := fun x hx => hok x (hp.mem_iff.1 hx)
    have hL2 := lensG_eq _ [] hok2
    have hu : up (lensG ((ordK (lensG l []).1 6).map fun x => rd l x) []).1 := by
      rw [hL2, up_pair, List.nil_append, List.map_map]
      have e2 : (ordK (lensG l []).1 6).map ((fun x => (lead x : Int)) ∘ fun x => rd l x) = (ordK (lensG l []).1 6).map (fun x => rd (lensG l []).1 x) := by
        apply List.map_congr_left
        intro x hx
        obtain ⟨i, rfl, hi, _⟩ := hkeys.1 x hx
        have hil : i < l.length := by omega
        show (lead (rd l (i : Int)) : Int) = rd (lensG l []).1 (i : Int)
        rw [rd_nat l i hil, rd_nat _ i hi]
        simp only [hLe, List.getElem_map]
      rw [e2]
      exact hkeys.2
    unfold isoOut lensOut
    rw [if_pos gp, if_pos ⟨gp, rfl, by rw [hL2], hu⟩]
theorem ident_ord (L : List Int) (hL : ∀ x ∈ L, 0 ≤ x ∧ x ≤ 6) (hu : up L) : ordK L 6 = (List.range L.length).map fun i : Nat => (i : Int) := by
  rw [ordK_eq L, all_le L hL]
  have h0 : (List.range L.length).Pairwise (fun i j => i < j) := List.pairwise_lt_range
  rw [List.pairwise_iff_forall_sublist] at h0 ⊢
  intro i j hs
  have hij := h0 hs
  have hj := List.mem_range.1 (hs.subset (show j ∈ [i, j] by simp))
  have hi : i < L.length := by omega
  have e1 : L.getD i 0 = L[i] := by simp [List.getD, hi]
  have e2 : L.getD j 0 = L[j] := by simp [List.getD, hj]
  rw [e1, e2]
  have := up_get L hu i j hi hj (by omega)
  omega
theorem back_board (r : Int) (l : List Int) (g : GoodB r r l) (h : (lensG l []).2 = true) (hu : up (lensG l []).1) : bolOut (lensG l []).1 = (r, r, l, true) := by
  have hok := lensG_ok l [] h
  have hLe := lensG_eq l [] hok
  rw [List.nil_append] at hLe
  have gd := (lens_good r r l g rfl h).2 hu
  have hn := lensG_len l [] h
  have h3 := g.2.2.1
  simp only [List.length_nil, Nat.zero_add] at hn
  unfold bolOut
  rw [if_pos gd]
  have e : boardL (lensG l []).1 = l := by
    rw [hLe]
    unfold boardL
    rw [List.map_map]
    conv => rhs; rw [← List.map_id l]
    apply List.map_congr_left
    intro x hx
    show (2 : Int) ^ (lead x : Int).toNat - 1 = x
    rw [Int.toNat_natCast]
    exact (hok x hx).symm
  rw [e, show ((lensG l []).1.length : Int) = r by omega]
theorem law_l0 (b1 b2 : Bool) (n : Nat) (hn : n ≤ 100) (r c : Int) (l : List Int) (r' c' : Int) (l' : List Int) : ∀ (d i k : Nat), i + d = n →
    laws_FnOrderedBoards.l0 (k + d + 1) b1 b2 ((List.range n).map fun i : Nat => (i : Int)) (n : Int) (i : Int) r c l r' c' l' = (if b1 = true then (if b2 = true then ((laws_rSameBoard.f k r' c' l' r c l).bind fun t => some t) else some false) else some false)
  | 0, i, k, h => by rw [laws_FnOrderedBoards.l0, if_neg (by omega)]
  | d + 1, i, k, h => by
    have hi : i < ((List.range n).map fun i : Nat => (i : Int)).length := by simp; omega
    rw [laws_FnOrderedBoards.l0, if_pos (by omega), if_pos (by omega), if_pos (by simp; omega), rd_nat _ i hi, if_pos (by simp), w64 (x := (i : Int) + 1) (by omega) (by omega), show ((i : Int) + 1) = ((i + 1 : Nat) : Int) from by omega]
    exact law_l0 b1 b2 n hn r c l r' c' l' d (i + 1) k (by omega)
theorem law_j2 (k : Nat) (r c : Int) (l : List Int) (hl : l.length ≤ 7) (hk : 10000 ≤ k) : laws_FnOrderedBoards.j2 k (lensOut r c l).1 (lensOut r c l).2 r c l = some true := by
  obtain ⟨k, rfl⟩ : ∃ m, k = m + 1 := ⟨k - 1, by omega⟩
  rw [laws_FnOrderedBoards.j2]
  by_cases g : GoodB r c l ∧ r = c ∧ (lensG l []).2 = true ∧ up (lensG l []).1
  · have e : lensOut r c l = ((lensG l []).1, true) := by unfold lensOut; rw [if_pos g]
    obtain ⟨g1, g2, g3, g4⟩ := g
    subst g2
    have hn := lensG_len l [] g3
    have h3 := g1.2.2.1
    have h1 := g1.1
    simp only [List.length_nil, Nat.zero_add] at hn
    have hm := lensG_mem r g1.2.1 l [] g1.2.2.2 (fun x hx => by cases hx)
    have eo : orOut r r l = (ordK (lensG l []).1 6, true) := by unfold orOut; rw [if_pos ⟨g1, rfl⟩, if_pos g3]
    rw [e]
    simp only
    rw [if_pos trivial, i_BoardOfLengths k _ (by omega) (by omega) (by omega), Option.bind_some, i_OrderOf k r r l (by omega), Option.bind_some, eo, back_board r l g1 g3 g4, ident_ord _ (fun x hx => by have := hm x hx; omega) g4]
    simp only [List.length_map, List.length_range]
    obtain ⟨K, rfl⟩ : ∃ m, k = m + (lensG l []).1.length + 1 := ⟨k - (lensG l []).1.length - 1, by omega⟩
    have := law_l0 true true (lensG l []).1.length (by omega) r r l r r l (lensG l []).1.length 0 K (by omega)
    rw [show ((0 : Nat) : Int) = 0 from rfl] at this
    rw [this, if_pos rfl, if_pos rfl, rSameBoard_self _ _ _ _ (by omega) (by omega)]; rfl
  · have e : lensOut r c l = ([], false) := by unfold lensOut; rw [if_neg g]
    rw [e]
    simp only
    rw [if_neg (by decide)]
theorem law_j1 (k : Nat) (r c : Int) (l : List Int) (hl : l.length ≤ 7) (r' c' : Int) (l' : List Int) (hl' : l'.length ≤ 7) (hk : 20000 ≤ k) : laws_FnOrderedBoards.j1 k (lensOut r c l).1 (lensOut r c l).2 (orOut r' c' l').1 (orOut r' c' l').2 false r c l r' c' l' = some true := by
  obtain ⟨k, rfl⟩ : ∃ m, k = m + 1 := ⟨k - 1, by omega⟩
  rw [laws_FnOrderedBoards.j1, if_neg (by decide)]
  by_cases g : (GoodB r' c' l' ∧ r' = c') ∧ (lensG l' []).2 = true
  · have eo : orOut r' c' l' = (ordK (lensG l' []).1 6, true) := by unfold orOut; rw [if_pos g.1, if_pos g.2]
    obtain ⟨⟨g1, g2⟩, g3⟩ := g
    subst g2
    obtain ⟨p, e1, gp, hp, e2⟩ := moved_ok r' l' g1 g3
    have ea : alOut r' r' l' r' r' p = (true, true) := by
      unfold alOut
      rw [if_pos ⟨g1, gp⟩, numsL_perm r' r' g1.2.1 hp, decide_eq_true rfl]
    rw [eo]
    simp only
    rw [if_pos trivial, i_OrderRows k _ _ _ _ (by omega), Option.bind_some, e1]
    simp only
    rw [io_impl k r' r' p (by omega), Option.bind_some, e2, i_AreAlike k _ _ _ _ _ _ (by omega), Option.bind_some, ea, if_pos trivial, if_pos rfl, if_pos rfl, if_pos rfl, if_pos rfl]
    exact law_j2 k r c l hl (by omega)
  · have eo : orOut r' c' l' = ([], false) := by
      unfold orOut
      by_cases h1 : GoodB r' c' l' ∧ r' = c'
      · rw [if_pos h1, if_neg (fun h => g ⟨h1, h⟩)]
      · rw [if_neg h1]
    rw [eo]
    simp only
    rw [if_neg (by decide)]
    exact law_j2 k r c l hl (by omega)
theorem d_swaps (code : List Int) (hc : CodeOK code) (R C : Int) (hR : 1 ≤ R ∧ R ≤ 6) : ∀ (d k : Nat) (i u N : Int) (l : List Int), d ≤ 10 → d < k → PL N i → N + 4 * d ≤ 100000 → (l.length : Int) = R → ∃ l', spec_DrawOrderOf.l0 k (d : Int) code i u R C l = some (R, C, l') ∧ l'.length = l.length
  | 0, k, i, u, N, l, hd, hk, hi, hN, hl => by
    obtain ⟨k, rfl⟩ : ∃ m, k = m + 1 := ⟨k - 1, by omega⟩
    rw [spec_DrawOrderOf.l0, if_neg (by omega)]
    exact ⟨_, rfl, rfl⟩
  | d + 1, k, i, u, N, l, hd, hk, hi, hN, hl => by
    obtain ⟨k, rfl⟩ : ∃ m, k = m + 1 := ⟨k - 1, by omega⟩
    obtain ⟨v1, i1, u1, e1, h1, a1, b1⟩ := d_pick code hc i u R N hi (by omega)
    obtain ⟨v2, i2, u2, e2, h2, a2, b2⟩ := d_pick code hc i1 u1 R (N + 2) h1 (by omega)
    have := b1 (by omega)
    have := b2 (by omega)
    rw [spec_DrawOrderOf.l0, if_pos (by omega), e1, Option.bind_some]
    simp only
    rw [e2, Option.bind_some, if_pos a1, if_pos (by omega), if_pos a2, if_pos (by omega), w64 (x := ((d + 1 : Nat) : Int) - 1) (by omega) (by omega), show ((d + 1 : Nat) : Int) - 1 = (d : Int) by omega]
    obtain ⟨l', e, h3⟩ := d_swaps code hc R C hR d k i2 u2 (N + 2 + 2) ((l.set v1.toNat (rd l v2)).set v2.toNat (rd l v1)) (by omega) (by omega) h2 (by omega) (by simp; omega)
    exact ⟨l', e, by rw [h3]; simp⟩
theorem d_OrderOf (k : Nat) (code : List Int) (hc : CodeOK code) (hk : 10000 ≤ k) : ∃ r c l, spec_DrawOrderOf.f k code = some (r, c, l) ∧ l.length ≤ 7 := by
  unfold spec_DrawOrderOf.f
  obtain ⟨L, i1, u1, e1, h1, h2, h3⟩ := d_lengths k code hc 0 0 0 (by unfold PL; omega) (by omega) (by omega)
  obtain ⟨k, rfl⟩ : ∃ m, k = m + 1 := ⟨k - 1, by omega⟩
  rw [e1, Option.bind_some]
  simp only
  rw [e_feGood _ L (by omega) (by omega), Option.bind_some]
  by_cases g : Good L
  · rw [if_pos (decide_eq_true g)]
    obtain ⟨b, i2, u2, e2, h4⟩ := d_one code hc i1 u1 4 (0 + 100) h3 (by omega)
    rw [e2, Option.bind_some]
    simp only
    rw [spec_DrawOrderOf.j0]
    by_cases hb : b = true
    · rw [if_pos hb]
      obtain ⟨r, c, l, i3, u3, e3, h5, h6, _⟩ := d_square k code hc i2 u2 (0 + 100 + 2) h4 (by omega) (by omega)
      rw [e3]
      exact ⟨_, _, _, rfl, h6⟩
    · rw [if_neg hb, e_feBoard k L g (by omega), Option.bind_some]
      obtain ⟨v, i3, u3, e3, h5, h6, h7⟩ := d_pick code hc i2 u2 5 (0 + 100 + 2) h4 (by omega)
      have := h7 (by omega)
      rw [e3, Option.bind_some]
      simp only
      have g1 := g.1
      obtain ⟨l', e, h8⟩ := d_swaps code hc (L.length : Int) (L.length : Int) (by omega) v.toNat k i3 u3 (0 + 100 + 2 + 2) (boardL L) (by omega) (by omega) h5 (by omega) (by simp [boardL])
      rw [show ((v.toNat : Nat) : Int) = v by omega] at e
      exact ⟨_, _, _, e, by rw [h8]; simp [boardL]; omega⟩
  · rw [if_neg (by simpa using g), spec_DrawOrderOf.j0, if_pos rfl]
    obtain ⟨r, c, l, i3, u3, e3, h5, h6, _⟩ := d_square k code hc i1 u1 (0 + 100) h3 (by omega) (by omega)
    rw [e3]
    exact ⟨_, _, _, rfl, h6⟩
theorem d_LengthsOf (k : Nat) (code : List Int) (hc : CodeOK code) (hk : 10000 ≤ k) : ∃ r c l, spec_DrawLengthsOf.f k code = some (r, c, l) ∧ l.length ≤ 7 := by
  unfold spec_DrawLengthsOf.f
  obtain ⟨L, i1, u1, e1, h1, h2, h3⟩ := d_lengths k code hc 0 0 0 (by unfold PL; omega) (by omega) (by omega)
  obtain ⟨k, rfl⟩ : ∃ m, k = m + 1 := ⟨k - 1, by omega⟩
  rw [e1, Option.bind_some]
  simp only
  rw [e_feGood _ L (by omega) (by omega), Option.bind_some]
  by_cases g : Good L
  · rw [if_pos (decide_eq_true g)]
    obtain ⟨b, i2, u2, e2, h4⟩ := d_one code hc i1 u1 3 (0 + 100) h3 (by omega)
    rw [e2, Option.bind_some]
    simp only
    rw [spec_DrawLengthsOf.j0]
    by_cases hb : b = true
    · rw [if_pos hb]
      obtain ⟨r, c, l, i3, u3, e3, h5, h6, _⟩ := d_square k code hc i2 u2 (0 + 100 + 2) h4 (by omega) (by omega)
      rw [e3]
      exact ⟨_, _, _, rfl, h6⟩
    · rw [if_neg hb, e_feBoard k L g (by omega)]
      exact ⟨_, _, _, rfl, by simp [boardL]; omega⟩
  · rw [if_neg (by simpa using g), spec_DrawLengthsOf.j0, if_pos rfl]
    obtain ⟨r, c, l, i3, u3, e3, h5, h6, _⟩ := d_square k code hc i1 u1 (0 + 100) h3 (by omega) (by omega)
    rw [e3]
    exact ⟨_, _, _, rfl, h6⟩
theorem FnOrderedBoards : laws_FnOrderedBoards.Pure := by
  intro a b _ ha _ hb
  refine ⟨3000000, ?_⟩
  unfold laws_FnOrderedBoards.f laws_big.f
  by_cases h : (a.length : Int) > 1048576
  · rw [if_pos h]; rfl
  · rw [if_neg h, Option.bind_some, w64 (by omega) (by omega)]
    by_cases h2 : (b.length : Int) > 1048576 - a.length
    · rw [decide_eq_true h2, if_pos rfl]
    · have hca := code_ok a (by omega) ha
      have hcb := code_ok b (by omega) hb
      rw [decide_eq_false h2, if_neg (by decide)]
      obtain ⟨r, c, l, e1, h3⟩ := d_LengthsOf 3000000 a hca (by omega)
      rw [e1, Option.bind_some]
      simp only
      have hlo := lensOut_len r c l
      rw [i_LengthsOf _ r c l (by omega), Option.bind_some, e_LengthsOf _ r c l (by omega) (by omega) (by omega), Option.bind_some, io_impl _ r c l (by omega), Option.bind_some, io_spec _ r c l (by omega) (by omega) (by omega), Option.bind_some, bne_self_eq_false, if_neg (by decide), rSame_self _ _ (by omega) (by omega), Option.bind_some, if_pos rfl, bne_self_eq_false, if_neg (by decide), bne_self_eq_false, if_neg (by decide)]
      have e2 : ((lensOut r c l).2 != (isoOut r c l).1) = false := by
        unfold isoOut
        by_cases g : GoodB r c l
        · rw [if_pos g]; simp
        · rw [if_neg g]
          have : lensOut r c l = ([], false) := by unfold lensOut; rw [if_neg (fun x => g x.1)]
          rw [this]; rfl
      rw [e2]
      obtain ⟨k, hk⟩ : ∃ k, 3000000 = k + 1 := ⟨2999999, rfl⟩
      rw [hk, laws_FnOrderedBoards.j0, if_neg (by decide)]
      obtain ⟨r', c', l', e3, h4⟩ := d_OrderOf k b hcb (by omega)
      have hoo := orOut_len r' c' l'
      rw [e3, Option.bind_some]
      simp only
      rw [i_OrderOf _ _ _ _ (by omega), Option.bind_some, e_OrderOf _ _ _ _ (by omega) (by omega) (by omega), Option.bind_some, bne_self_eq_false, if_neg (by decide), rSame_self _ _ (by omega) (by omega), Option.bind_some]
      exact law_j1 k r c l h3 r' c' l' h4 (by omega)

end Go.Proofs.Ytfgfgkpmkfjeiaa.Pure
