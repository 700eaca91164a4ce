/- CountWithCell: the law's function comes to true at every board, place and number of rooks. -/
import Derived.Test.YtmhlnpokjjclhaaPFnExactCountWithCellx7
namespace Go.Proofs.Ytmhlnpokjjclhaa.Pure
open Go.RowKit Go.Proofs.Ytmhlnpokjjclhaa.PFnExactCountWithCell Go.Proofs.YtmhlnpokjjclhaaW.PrintWords Go.Proofs.YtmhlnpokjjclhaaW.PrintLast
set_option linter.unusedVariables false
set_option linter.unusedSimpArgs false

theorem w64 {x : Int} (h0 : -9223372036854775808 ≤ x) (h1 : x < 9223372036854775808) : wrap64 x = x := by
  unfold wrap64; omega
theorem rd_nat (l : List Int) (i : Nat) (h : i < l.length) : rd l (i : Int) = l[i] := by
  unfold rd; simp [List.getD, h]

theorem e_szIntS (l : List Int) (a : Int) (hl : l.length ≤ maxLen) (h0 : 0 ≤ a) (h1 : a ≤ 1048576) : laws_szIntS.f l a = some (if a - l.length < 0 then -1 else a - l.length) := by
  unfold laws_szIntS.f
  have : l.length ≤ 9223372036854775807 := hl
  rw [w64 (by omega) (by omega)]
  by_cases h : a - (l.length : Int) < 0
  · rw [if_pos h, if_pos h]
  · rw [if_neg h, if_neg h]

theorem e_szBoard (r c : Int) (l : List Int) (a : Int) (hl : l.length ≤ maxLen) (h0 : 0 ≤ a) (h1 : a ≤ 1048576) : laws_szBoard.f r c l a = some (if a - l.length < 0 then -1 else a - l.length) := by
  unfold laws_szBoard.f
  rw [e_szIntS l a hl h0 h1]
  simp only [Option.bind_some]
  by_cases h : a - (l.length : Int) < 0
  · rw [if_pos h]; rfl
  · rw [if_neg h, if_neg h]

theorem e_toIntS_l0 (l : List Int) (hl : l.length ≤ 2000000) : ∀ (d i k : Nat) (m : List Int), i + d = l.length → d < k → m.length = l.length → m.take i = l.take i →
    laws_toIntS.l0 k l m (i : Int) = some l := by
  intro d
  induction d with
  | zero =>
    intro i k m hi' hk hm ht
    obtain ⟨k, rfl⟩ : ∃ m, k = m + 1 := ⟨k - 1, by omega⟩
    simp only [laws_toIntS.l0]; rw [if_neg (by omega)]
    rw [List.take_of_length_le (by omega), List.take_of_length_le (by omega)] at ht; rw [ht]
  | succ d ih =>
    intro i k m hi' hk hm ht
    obtain ⟨k, rfl⟩ : ∃ m, k = m + 1 := ⟨k - 1, by omega⟩
    have hlt : i < l.length := by omega
    simp only [laws_toIntS.l0]
    rw [if_pos (by omega), if_pos (by omega), if_pos (by omega), rd_nat l i hlt, w64 (by omega) (by omega), show ((i : Int) + 1) = ((i + 1 : Nat) : Int) from by omega]
    refine ih (i + 1) k _ (by omega) (by omega) (by simpa using hm) ?_
    rw [Int.toNat_natCast, List.take_succ_eq_append_getElem (by simpa using (by omega : i < m.length)), List.take_succ_eq_append_getElem hlt]
    simp [List.take_set_of_le, ht]
theorem e_toIntS (k : Nat) (l : List Int) (hl : l.length ≤ 2000000) (hk : l.length < k) : laws_toIntS.f k l = some l := by
  unfold laws_toIntS.f
  rw [if_pos (by omega), if_pos (by omega)]
  exact e_toIntS_l0 l hl l.length 0 k _ (by omega) hk (by simp) (by simp)

theorem e_toBoard (k : Nat) (r c : Int) (l : List Int) (hl : l.length ≤ 2000000) (hk : l.length < k) : laws_toBoard.f k r c l = some (r, c, l) := by
  unfold laws_toBoard.f; rw [e_toIntS k l hl hk]; rfl

theorem e_eqIntS_l0 (a b : List Int) (hl : a.length ≤ 2000000) (hab : a.length = b.length) : ∀ (d i k : Nat), i + d = a.length → d < k →
    laws_eqIntS.l0 k a b (i : Int) = some (decide (a.drop i = b.drop i)) := by
  intro d
  induction d with
  | zero =>
    intro i k hi' hk
    obtain ⟨k, rfl⟩ : ∃ m, k = m + 1 := ⟨k - 1, by omega⟩
    simp only [laws_eqIntS.l0]; rw [if_neg (by omega), List.drop_eq_nil_of_le (by omega), List.drop_eq_nil_of_le (by omega)]; simp
  | succ d ih =>
    intro i k hi' hk
    obtain ⟨k, rfl⟩ : ∃ m, k = m + 1 := ⟨k - 1, by omega⟩
    have hlt : i < a.length := by omega
    have hlt2 : i < b.length := by omega
    simp only [laws_eqIntS.l0]
    rw [if_pos (by omega), if_pos (by omega), if_pos (by omega), rd_nat a i hlt, rd_nat b i hlt2, List.drop_eq_getElem_cons hlt, List.drop_eq_getElem_cons hlt2, w64 (by omega) (by omega), show ((i : Int) + 1) = ((i + 1 : Nat) : Int) from by omega, ih (i + 1) k (by omega) (by omega)]
    by_cases h : a[i] = b[i]
    · rw [if_pos h]; simp only [List.cons.injEq, h, true_and]
    · rw [if_neg h]; simp only [List.cons.injEq, h, false_and, decide_false]
theorem e_eqIntS (k : Nat) (a b : List Int) (hl : a.length ≤ 2000000) (hk : a.length < k) : laws_eqIntS.f k a b = some (decide (a = b)) := by
  unfold laws_eqIntS.f
  by_cases h : (a.length : Int) = (b.length : Int)
  · rw [if_pos h]; exact e_eqIntS_l0 a b hl (by omega) a.length 0 k (by omega) hk
  · rw [if_neg h]; simp; intro hc; rw [hc] at h; exact h rfl
theorem e_eqIntS_self (k : Nat) (a : List Int) (hl : a.length ≤ 2000000) (hk : a.length < k) : laws_eqIntS.f k a a = some true := by
  rw [e_eqIntS k a a hl hk]; simp

theorem e_eqBoard (k : Nat) (r c : Int) (l : List Int) (r' c' : Int) (l' : List Int) (hl : l.length ≤ 2000000) (hk : l.length < k) : laws_eqBoard.f k r c l r' c' l' = some (decide (r = r' ∧ c = c' ∧ l = l')) := by
  unfold laws_eqBoard.f
  by_cases h1 : r = r'
  · by_cases h2 : c = c'
    · rw [if_pos h1, if_pos h2, e_eqIntS k l l' hl hk]
      by_cases h3 : l = l' <;> simp [h1, h2, h3]
    · rw [if_pos h1, if_neg h2]; simp [h2]
  · rw [if_neg h1]; simp [h1]
theorem e_eqBoard_self (k : Nat) (r c : Int) (l : List Int) (hl : l.length ≤ 2000000) (hk : l.length < k) : laws_eqBoard.f k r c l r c l = some true := by
  rw [e_eqBoard k r c l r c l hl hk]; simp

/-- Is there a cell in the column c of a row m? -/
def cell (m c : Int) : Bool := decide (m / 2 ^ c.toNat % 2 = 1)
theorem fin_of (m : Int) (n : Nat) (h0 : 0 ≤ m) (h1 : m < n) : ∃ i : Fin n, m = (i.val : Int) := ⟨⟨m.toNat, by omega⟩, by simp; omega⟩
theorem cell_spec (m c : Int) (hm : 0 ≤ m ∧ m ≤ 63) (hc : 0 ≤ c ∧ c ≤ 6) : (Int.tmod (shr .i64 m c) 2 == 1) = cell m c := by
  have h : ∀ m : Fin 64, ∀ c : Fin 7, (Int.tmod (shr .i64 (m.val : Int) (c.val : Int)) 2 == 1) = cell (m.val : Int) (c.val : Int) := by decide +kernel
  obtain ⟨i, rfl⟩ := fin_of m 64 hm.1 (by omega)
  obtain ⟨j, rfl⟩ := fin_of c 7 hc.1 (by omega)
  exact h i j
theorem cell_impl (m c : Int) (hm : 0 ≤ m ∧ m ≤ 63) (hc : 0 ≤ c ∧ c ≤ 6) : (Go.bits .and .i64 (shr .i64 m c) 1 == 1) = cell m c := by
  have h : ∀ m : Fin 64, ∀ c : Fin 7, (Go.bits .and .i64 (shr .i64 (m.val : Int) (c.val : Int)) 1 == 1) = cell (m.val : Int) (c.val : Int) := by decide +kernel
  obtain ⟨i, rfl⟩ := fin_of m 64 hm.1 (by omega)
  obtain ⟨j, rfl⟩ := fin_of c 7 hc.1 (by omega)
  exact h i j
theorem pow_le (a : Int) (h : 1 ≤ a ∧ a ≤ 6) : 2 ≤ (2 : Int) ^ a.toNat ∧ (2 : Int) ^ a.toNat ≤ 64 := by
  obtain ⟨h0, h1⟩ := h
  obtain h | h | h | h | h | h : a = 1 ∨ a = 2 ∨ a = 3 ∨ a = 4 ∨ a = 5 ∨ a = 6 := by omega
  all_goals (subst h; decide +kernel)
theorem rd_mem (l : List Int) (i : Int) (h0 : 0 ≤ i) (h1 : i < l.length) : rd l i ∈ l := by
  obtain ⟨n, rfl⟩ := Int.eq_ofNat_of_zero_le h0
  rw [rd_nat l n (by omega)]; exact List.getElem_mem _

theorem goodB_le {r c : Int} {l : List Int} (h : GoodB r c l) : ∀ x ∈ l, 0 ≤ x ∧ x ≤ 63 := by
  intro x hx
  have := h.2.2.2 x hx
  have := pow_le c h.2.1
  omega
theorem goodB_len {r c : Int} {l : List Int} (h : GoodB r c l) : l.length ≤ 6 := by
  have := h.1; have := h.2.2.1; omega
/-- Is it a place of a board? -/
def Place (r c i j : Int) : Prop := (0 ≤ i ∧ i ≤ r - 1) ∧ (0 ≤ j ∧ j ≤ c - 1)
instance (r c i j : Int) : Decidable (Place r c i j) := by unfold Place; exact inferInstance
theorem i_IsBoard (r c : Int) (l : List Int) : impl_IsBoard.f r c l = some (decide (GoodB r c l)) := rfl

theorem e_l1In (a b c : Int) : spec_l1In.f a b c = some (decide (b ≤ a ∧ a ≤ c)) := by
  unfold spec_l1In.f
  by_cases h : b ≤ a
  · rw [if_pos h]; simp [h]
  · rw [if_neg h]; simp [h]

theorem e_l1All_l0 (lo hi : Int) (l : List Int) (hl : l.length ≤ 2000000) : ∀ (d i k : Nat), i + d = l.length → d < k →
    spec_l1All.l0 k lo hi l (l.length : Int) (i : Int) = some (decide (∀ x ∈ l.drop i, lo ≤ x ∧ x ≤ hi)) := by
  intro d
  induction d with
  | zero =>
    intro i k hi' hk
    obtain ⟨k, rfl⟩ : ∃ m, k = m + 1 := ⟨k - 1, by omega⟩
    simp only [spec_l1All.l0]; rw [if_neg (by omega), List.drop_eq_nil_of_le (by omega)]; simp
  | succ d ih =>
    intro i k hi' hk
    obtain ⟨k, rfl⟩ : ∃ m, k = m + 1 := ⟨k - 1, by omega⟩
    have hlt : i < l.length := by omega
    simp only [spec_l1All.l0]
    rw [if_pos (by omega), if_pos (by omega), if_pos (by omega), e_l1In, rd_nat l i hlt, List.drop_eq_getElem_cons hlt, w64 (by omega) (by omega)]
    simp only [Option.bind_some, decide_eq_true_eq, List.forall_mem_cons]
    by_cases h : lo ≤ l[i] ∧ l[i] ≤ hi
    · rw [if_pos h]
      have := ih (i + 1) k (by omega) (by omega)
      rw [show ((i : Int) + 1) = ((i + 1 : Nat) : Int) from by omega, this]; simp [h]
    · rw [if_neg h]; simp [h]
theorem e_l1All (k : Nat) (l : List Int) (lo hi : Int) (hl : l.length ≤ 2000000) (hk : l.length < k) : spec_l1All.f k l lo hi = some (decide (∀ x ∈ l, lo ≤ x ∧ x ≤ hi)) := by
  unfold spec_l1All.f; exact e_l1All_l0 lo hi l hl l.length 0 k (by omega) hk

theorem e_boSide (a : Int) : spec_boSide.f a = some (decide (1 ≤ a ∧ a ≤ 6)) := by
  unfold spec_boSide.f; rw [e_l1In]; rfl

theorem sh1 (a : Int) (h : 1 ≤ a ∧ a ≤ 6) : wrap64 (shl .i64 1 a - 1) = 2 ^ a.toNat - 1 := by
  obtain ⟨h0, h1⟩ := h
  obtain h | h | h | h | h | h : a = 1 ∨ a = 2 ∨ a = 3 ∨ a = 4 ∨ a = 5 ∨ a = 6 := by omega
  all_goals (subst h; decide +kernel)
theorem e_boGood (k : Nat) (r c : Int) (l : List Int) (hl : l.length ≤ 2000000) (hk : l.length < k) : spec_boGood.f k r c l = some (decide (GoodB r c l)) := by
  unfold spec_boGood.f
  rw [e_boSide, e_boSide]
  simp only [Option.bind_some, decide_eq_true_eq]
  by_cases h0 : 1 ≤ r ∧ r ≤ 6
  · by_cases h1 : 1 ≤ c ∧ c ≤ 6
    · by_cases h2 : (l.length : Int) = r
      · rw [if_pos h0, if_pos h1, if_pos h2, if_pos (by omega), sh1 c h1, e_l1All k l _ _ hl hk]
        simp [GoodB, h0, h1, h2]
      · rw [if_pos h0, if_pos h1, if_neg h2]; simp [GoodB, h2]
    · rw [if_pos h0, if_neg h1]; simp [GoodB, h1]
  · rw [if_neg h0]; simp [GoodB, h0]

theorem e_boPlace (k : Nat) (r c : Int) (l : List Int) (i j : Int) (hl : l.length ≤ 2000000) (hk : l.length < k) : spec_boPlace.f k r c l i j = some (decide (GoodB r c l ∧ Place r c i j)) := by
  unfold spec_boPlace.f
  rw [e_boGood k r c l hl hk]
  simp only [Option.bind_some, decide_eq_true_eq]
  by_cases g : GoodB r c l
  · have h1 := g.1; have h2 := g.2.1
    rw [if_pos g, w64 (by omega) (by omega), w64 (by omega) (by omega), e_l1In, e_l1In]
    simp only [Option.bind_some, decide_eq_true_eq]
    by_cases h : 0 ≤ i ∧ i ≤ r - 1
    · rw [if_pos h]; simp [Place, h, g]
    · rw [if_neg h]; simp [Place, h]
  · rw [if_neg g]; simp [g]

theorem e_within (a b c : Int) : impl_within.f a b c = some (decide (b ≤ a ∧ a ≤ c)) := by
  unfold impl_within.f
  by_cases h : b ≤ a
  · rw [if_pos h]; simp [h]
  · rw [if_neg h]; simp [h]

theorem i_place (r c : Int) (l : List Int) (i j : Int) (h : GoodB r c l) : impl_Board_place.f r c l i j = some (decide (Place r c i j)) := by
  unfold impl_Board_place.f
  have h1 := h.1; have h2 := h.2.1
  rw [w64 (by omega) (by omega), w64 (by omega) (by omega), e_within, e_within]
  simp only [Option.bind_some, decide_eq_true_eq]
  by_cases h : 0 ≤ i ∧ i ≤ r - 1
  · rw [if_pos h]; simp [Place, h]
  · rw [if_neg h]; simp [Place, h]

theorem e_boHas (r c : Int) (l : List Int) (i j : Int) (h : GoodB r c l) (hp : Place r c i j) : spec_boHas.f r c l i j = some (cell (rd l i) j) := by
  unfold spec_boHas.f
  have h1 := h.1; have h2 := h.2.1; have h3 := h.2.2.1; have h4 := hp.1; have h5 := hp.2
  have hm := goodB_le h (rd l i) (rd_mem l i (by omega) (by omega))
  rw [if_pos (by omega), if_pos (by omega), if_pos (by omega), cell_spec _ _ hm (by omega)]

theorem rd_set (l : List Int) (i : Nat) (v : Int) (j : Nat) (h : i < l.length) : rd (l.set i v) (j : Int) = if i = j then v else rd l (j : Int) := by
  unfold rd
  simp only [List.getD, Int.toNat_natCast, List.getElem?_set]
  by_cases hij : i = j
  · subst hij; simp [h]
  · simp [hij]
theorem rd_ext (a b : List Int) (hl : a.length = b.length) (h : ∀ j : Nat, j < a.length → rd a (j : Int) = rd b (j : Int)) : a = b := by
  refine List.ext_getElem hl ?_
  intro i h1 h2
  have := h i h1
  rwa [rd_nat a i h1, rd_nat b i h2] at this

/-- The columns taken, with one more. -/
def orZ (taken : Int) (j : Nat) : Int := Go.bits .or .i64 taken (shl .i64 1 (j : Int))
/-- Numbers of rooks of all placements, in order: rows that are left, columns taken. -/
def Z (C : Nat) : List Int → Int → List Nat
  | [], _ => [0]
  | m :: t, taken => (List.range (C + 1)).flatMap fun i => if i = 0 then Z C t taken else if cell m ((i - 1 : Nat) : Int) && !cell taken ((i - 1 : Nat) : Int) then (Z C t (orZ taken (i - 1))).map (· + 1) else []
/-- How often each number below M stands. -/
def HZ (M : Nat) (z : List Nat) : List Int := (List.range M).map fun k => ((z.count k : Nat) : Int)
theorem HZ_len (M : Nat) (z : List Nat) : (HZ M z).length = M := by simp [HZ]
theorem HZ_rd (M : Nat) (z : List Nat) (i : Nat) (h : i < M) : rd (HZ M z) (i : Int) = ((z.count i : Nat) : Int) := by
  rw [rd_nat _ i (by rw [HZ_len]; exact h)]; simp [HZ]
/-- How many columns are free. -/
def frZ (C : Nat) (taken : Int) : Nat := ((List.range C).filter fun j : Nat => !cell taken (j : Int)).length
theorem orZ_ok (C : Nat) (taken : Int) (j : Nat) (hC : C ≤ 6) (h : 0 ≤ taken ∧ taken ≤ 63) (hj : j < C) (hf : cell taken (j : Int) = false) : (0 ≤ orZ taken j ∧ orZ taken j ≤ 63) ∧ frZ C (orZ taken j) + 1 ≤ frZ C taken := by
  have key : ∀ C : Fin 7, ∀ j : Fin 6, ∀ t : Fin 64, j.val < C.val → cell (t.val : Int) (j.val : Int) = false → (0 ≤ orZ (t.val : Int) j.val ∧ orZ (t.val : Int) j.val ≤ 63) ∧ frZ C.val (orZ (t.val : Int) j.val) + 1 ≤ frZ C.val (t.val : Int) := by decide +kernel
  obtain ⟨t, rfl⟩ := fin_of taken 64 h.1 (by omega)
  exact key ⟨C, by omega⟩ ⟨j, by omega⟩ t hj hf
theorem frZ_le (C : Nat) (taken : Int) : frZ C taken ≤ C := by
  unfold frZ
  exact Nat.le_trans (List.length_filter_le _ _) (by simp)
theorem Z_le (C : Nat) (hC : C ≤ 6) : ∀ (t : List Int) (taken : Int), 0 ≤ taken ∧ taken ≤ 63 → ∀ z ∈ Z C t taken, z ≤ t.length ∧ z ≤ frZ C taken
  | [], _, _, z, hz => by simp [Z] at hz; omega
  | m :: t, taken, h, z, hz => by
    simp only [Z, List.mem_flatMap, List.mem_range] at hz
    obtain ⟨i, hi, hz⟩ := hz
    by_cases h0 : i = 0
    · rw [if_pos h0] at hz
      have := Z_le C hC t taken h z hz
      exact ⟨by simp; omega, this.2⟩
    · rw [if_neg h0] at hz
      split at hz
      case isFalse => simp at hz
      case isTrue hc =>
        simp only [Bool.and_eq_true, Bool.not_eq_true'] at hc
        obtain ⟨y, hy, rfl⟩ := List.mem_map.1 hz
        have ho := orZ_ok C taken (i - 1) hC h (by omega) hc.2
        have := Z_le C hC t _ ho.1 y hy
        exact ⟨by simp; omega, by omega⟩
theorem flat_len {α β : Type} (f : α → List β) (b : Nat) : ∀ l : List α, (∀ x ∈ l, (f x).length ≤ b) → (l.flatMap f).length ≤ l.length * b
  | [], _ => by simp
  | x :: t, h => by
    have h1 := h x (by simp)
    have h2 := flat_len f b t (fun y hy => h y (by simp [hy]))
    simp only [List.flatMap_cons, List.length_append, List.length_cons, Nat.succ_mul]
    omega
theorem Z_length (C : Nat) (hC : C ≤ 6) : ∀ (t : List Int) (taken : Int), (Z C t taken).length ≤ 7 ^ t.length
  | [], _ => by simp [Z]
  | m :: t, taken => by
    simp only [Z, List.length_cons]
    refine Nat.le_trans (flat_len _ (7 ^ t.length) _ ?_) ?_
    · intro i _
      by_cases h0 : i = 0
      · rw [if_pos h0]; exact Z_length C hC t taken
      · rw [if_neg h0]
        split
        · rw [List.length_map]; exact Z_length C hC t _
        · simp
    · rw [List.length_range, Nat.pow_succ, Nat.mul_comm]
      exact Nat.mul_le_mul_left _ (by omega)
theorem Z_small (C : Nat) (hC : C ≤ 6) (t : List Int) (taken : Int) (ht : t.length ≤ 6) (k : Nat) : (Z C t taken).count k ≤ 117649 := by
  refine Nat.le_trans List.count_le_length (Nat.le_trans (Z_length C hC t taken) ?_)
  exact Nat.le_trans (Nat.pow_le_pow_right (by omega) ht) (by decide)

theorem count_succ (B : List Nat) (j : Nat) : (B.map (· + 1)).count j = if j = 0 then 0 else B.count (j - 1) := by
  induction B with
  | nil => simp
  | cons x B ih =>
    rw [List.map_cons, List.count_cons, ih, List.count_cons]
    by_cases h : j = 0
    · subst h; simp
    · simp only [h, if_false]
      congr 1
      by_cases h2 : x = j - 1
      · have : x + 1 = j := by omega
        simp [h2, this]; omega
      · have : ¬ x + 1 = j := by omega
        simp [h2, this]
theorem w_l0 (M : Nat) (hM : M ≤ 7) (H : List Int) (hH : H.length = M) (hs : ∀ j, j < M → 0 ≤ rd H (j : Int) ∧ rd H (j : Int) ≤ 117649) (x1 x2 r c : Int) (l : List Int) : ∀ (d i k : Nat) (y : List Int), i + d = M → y.length = M → (∀ j, j < M → rd y (j : Int) = if j < i then rd H (j : Int) else 0) → spec_roWays.l0 (k + (d + 1)) x1 x2 y H (M : Int) (i : Int) r c l = spec_roWays.l1 k x1 x2 H 0 r c l
  | 0, i, k, y, hi, hy, hv => by
    rw [show k + (0 + 1) = k + 1 from rfl, spec_roWays.l0, if_neg (by omega)]
    rw [rd_ext y H (by omega) (fun j hj => by rw [hv j (by omega), if_pos (by omega)])]
  | d + 1, i, k, y, hi, hy, hv => by
    have h0 := hs i (by omega)
    rw [show k + (d + 1 + 1) = (k + (d + 1)) + 1 from rfl, spec_roWays.l0, if_pos (by omega), if_pos (by omega), if_pos (by omega), if_pos (by omega), hv i (by omega), if_neg (by omega), w64 (x := 0 + rd H (i : Int)) (by omega) (by omega), w64 (by omega) (by omega), Int.toNat_natCast, show ((i : Int) + 1) = ((i + 1 : Nat) : Int) from by omega]
    refine w_l0 M hM H hH hs x1 x2 r c l d (i + 1) k _ (by omega) (by simp [hy]) ?_
    intro j hj
    rw [rd_set y i _ j (by omega)]
    by_cases h1 : i = j
    · subst h1; rw [if_pos rfl, if_pos (by omega)]; omega
    · rw [if_neg h1, hv j hj]
      by_cases h2 : j < i
      · rw [if_pos h2, if_pos (by omega)]
      · rw [if_neg h2, if_neg (by omega)]
theorem w_l2 (M : Nat) (hM : M ≤ 7) (A B : List Nat) (hA : ∀ j, A.count j ≤ 1000000) (hB : ∀ j, B.count j ≤ 117649) (hb : ∀ z ∈ B, z + 1 < M) (x1 x2 x10 r c : Int) (l : List Int) : ∀ (d i k : Nat) (y : List Int), i + d = M → y.length = M → (∀ j, j < M → rd y (j : Int) = ((A.count j : Nat) : Int) + (if 1 ≤ j ∧ j ≤ i then ((B.count (j - 1) : Nat) : Int) else 0)) → spec_roWays.l2 (k + (d + 1)) x1 x2 y x10 (HZ M B) (M : Int) (i : Int) r c l = spec_roWays.l1 k x1 x2 (HZ M (A ++ B.map (· + 1))) (wrap64 (x10 + 1)) r c l
  | 0, i, k, y, hi, hy, hv => by
    rw [show k + (0 + 1) = k + 1 from rfl, spec_roWays.l2, if_neg (by omega)]
    rw [rd_ext y (HZ M (A ++ B.map (· + 1))) (by rw [HZ_len]; omega) (fun j hj => by
      rw [hv j (by omega), HZ_rd _ _ j (by omega), List.count_append, count_succ]
      by_cases h0 : j = 0
      · rw [if_neg (by omega), if_pos h0]; omega
      · rw [if_pos (by omega), if_neg h0]; omega)]
  | d + 1, i, k, y, hi, hy, hv => by
    rw [show k + (d + 1 + 1) = (k + (d + 1)) + 1 from rfl, spec_roWays.l2, if_pos (by omega), if_pos (by omega), if_pos (by rw [HZ_len]; omega), HZ_rd _ _ i (by omega)]
    have hBi := hB i
    by_cases hp : ((B.count i : Nat) : Int) > 0
    · have hi1 : i + 1 < M := hb i (List.count_pos_iff.1 (by omega))
      have hAi := hA (i + 1)
      rw [if_pos hp, w64 (x := (i : Int) + 1) (by omega) (by omega), if_pos (by omega), if_pos (by omega), show ((i : Int) + 1) = ((i + 1 : Nat) : Int) from by omega, hv (i + 1) hi1, if_neg (by omega), w64 (by omega) (by omega), Int.toNat_natCast]
      refine w_l2 M hM A B hA hB hb x1 x2 x10 r c l d (i + 1) k _ (by omega) (by simp [hy]) ?_
      intro j hj
      rw [rd_set y (i + 1) _ j (by omega)]
      by_cases h1 : i + 1 = j
      · subst h1; rw [if_pos rfl, if_pos (by omega), Nat.add_sub_cancel]; omega
      · rw [if_neg h1, hv j hj]
        by_cases h2 : 1 ≤ j ∧ j ≤ i
        · rw [if_pos h2, if_pos (by omega)]
        · rw [if_neg h2, if_neg (by omega)]
    · rw [if_neg hp, w64 (by omega) (by omega), show ((i : Int) + 1) = ((i + 1 : Nat) : Int) from by omega]
      refine w_l2 M hM A B hA hB hb x1 x2 x10 r c l d (i + 1) k _ (by omega) hy ?_
      intro j hj
      rw [hv j hj]
      by_cases h2 : 1 ≤ j ∧ j ≤ i
      · rw [if_pos h2, if_pos (by omega)]
      · by_cases h3 : j = i + 1
        · subst h3; rw [if_neg h2, if_pos (by omega), Nat.add_sub_cancel]; omega
        · rw [if_neg h2, if_neg (by omega)]
/-- What the placements are whose row m holds no rook, or one in a column below j. -/
def candZ (C : Nat) (m : Int) (t : List Int) (taken : Int) (i : Nat) : List Nat := if i = 0 then Z C t taken else if cell m ((i - 1 : Nat) : Int) && !cell taken ((i - 1 : Nat) : Int) then (Z C t (orZ taken (i - 1))).map (· + 1) else []
theorem candZ_len (C : Nat) (hC : C ≤ 6) (m : Int) (t : List Int) (taken : Int) (ht : t.length ≤ 5) (i : Nat) : (candZ C m t taken i).length ≤ 16807 := by
  have hp : 7 ^ t.length ≤ 16807 := Nat.le_trans (Nat.pow_le_pow_right (by omega) ht) (by decide)
  unfold candZ
  by_cases h0 : i = 0
  · rw [if_pos h0]; exact Nat.le_trans (Z_length C hC t taken) hp
  · rw [if_neg h0]
    split
    · rw [List.length_map]; exact Nat.le_trans (Z_length C hC t _) hp
    · simp
/-- A board's bounds, where there may be no rows or columns. -/
def WB (r c : Int) (l : List Int) : Prop := (0 ≤ r ∧ r ≤ 6) ∧ (0 ≤ c ∧ c ≤ 6) ∧ (l.length : Int) = r ∧ ∀ x ∈ l, 0 ≤ x ∧ x ≤ 63
theorem wb_of {r c : Int} {l : List Int} (h : GoodB r c l) : WB r c l := ⟨⟨by have := h.1; omega, h.1.2⟩, ⟨by have := h.2.1; omega, h.2.1.2⟩, h.2.2.1, goodB_le h⟩
theorem e_boHasW (r c : Int) (l : List Int) (i j : Int) (h : WB r c l) (hp : (0 ≤ i ∧ i < r) ∧ (0 ≤ j ∧ j ≤ 6)) : spec_boHas.f r c l i j = some (cell (rd l i) j) := by
  unfold spec_boHas.f
  have h3 := h.2.2.1
  have hm := h.2.2.2 (rd l i) (rd_mem l i (by omega) (by omega))
  rw [if_pos (by omega), if_pos (by omega), if_pos (by omega), cell_spec _ _ hm (by omega)]
theorem e_roWaysW (r c : Int) (l : List Int) (h : WB r c l) (C M : Nat) (hC : (C : Int) = c) (hM : (M : Int) = min r c + 1) : ∀ (t : List Int) (row : Nat) (taken : Int) (k : Nat), l.drop row = t → row ≤ l.length → 0 ≤ taken ∧ taken ≤ 63 → 100 * t.length + 100 ≤ k → spec_roWays.f k r c l (row : Int) taken = some (HZ M (Z C t taken)) := by
  have h1 := h.1; have h2 := h.2.1; have h3 := h.2.2.1
  have hl : l.length ≤ 6 := by omega
  intro t
  induction t with
  | nil =>
    intro row taken k ht hrow htk hk
    have hrl : row = l.length := by
      have := congrArg List.length ht
      simp at this; omega
    obtain ⟨k, rfl⟩ : ∃ n, k = n + 1 := ⟨k - 1, by omega⟩
    rw [spec_roWays.f]
    unfold spec_l1Least.f
    have e1 : (if r < c then some r else some c) = some (min r c) := by split <;> (congr 1; omega)
    rw [e1]
    simp only [Option.bind_some]
    rw [w64 (by omega) (by omega), ← hM, if_pos (by omega), if_pos (by omega)]
    rw [if_pos (by omega), if_pos (by simp; omega), Int.toNat_natCast]
    congr 1
    refine rd_ext _ _ (by simp [HZ_len]) ?_
    intro j hj
    simp at hj
    rw [show (0 : Int).toNat = 0 from rfl, rd_set _ 0 _ j (by simpa using (by omega : 0 < M)), HZ_rd _ _ j hj]
    by_cases h0 : 0 = j
    · subst h0; simp [Z]
    · rw [if_neg h0, rd_nat _ j (by simpa using hj)]
      have h9 : List.count j [0] = 0 := List.count_eq_zero.2 (by simp; omega)
      simp [Z, h9]
  | cons m t ih =>
    intro row taken k ht hrow htk hk
    have hlt : row < l.length := by
      have := congrArg List.length ht
      simp at this; omega
    have hd := List.drop_eq_getElem_cons hlt
    rw [ht] at hd
    injection hd with hm ht'
    simp only [List.length_cons] at hk
    have htl : t.length = l.length - (row + 1) := by rw [ht']; simp
    obtain ⟨k, rfl⟩ : ∃ n, k = n + 1 := ⟨k - 1, by omega⟩
    rw [spec_roWays.f]
    unfold spec_l1Least.f
    have e1 : (if r < c then some r else some c) = some (min r c) := by split <;> (congr 1; omega)
    rw [e1]
    simp only [Option.bind_some]
    rw [w64 (by omega) (by omega), ← hM, if_pos (by omega), if_pos (by omega)]
    rw [if_neg (by omega), w64 (x := (row : Int) + 1) (by omega) (by omega), show ((row : Int) + 1) = ((row + 1 : Nat) : Int) from by omega, Int.toNat_natCast]
    rw [ih (row + 1) taken k ht'.symm (by omega) htk (by omega)]
    simp only [Option.bind_some]
    obtain ⟨k, rfl⟩ : ∃ n, k = n + (M + 1) := ⟨k - (M + 1), by omega⟩
    have hzs : ∀ (tk : Int) (j : Nat), (Z C t tk).count j ≤ 117649 := fun tk j => Z_small C (by omega) t tk (by omega) j
    have hw0 := w_l0 M (by omega) (HZ M (Z C t taken)) (HZ_len _ _) (fun j hj => by rw [HZ_rd _ _ j hj]; have := hzs taken j; omega) (row : Int) taken r c l M 0 k (List.replicate M 0) (by omega) (by simp) (fun j hj => by rw [rd_nat _ j (by simpa using hj)]; simp)
    rw [show ((0 : Nat) : Int) = 0 from rfl] at hw0
    rw [HZ_len, hw0]
    have hcz : Z C (m :: t) taken = (List.range (C + 1)).flatMap (candZ C m t taken) := rfl
    have hm63 := h.2.2.2 m (by rw [hm]; exact List.getElem_mem _)
    have loop : ∀ (d j k : Nat), j + d = C → 100 * t.length + 100 + d * 12 + 1 ≤ k → spec_roWays.l1 k (row : Int) taken (HZ M ((List.range (j + 1)).flatMap (candZ C m t taken))) (j : Int) r c l = some (HZ M (Z C (m :: t) taken)) := by
      intro d
      induction d with
      | zero =>
        intro j k hj hk
        obtain ⟨k, rfl⟩ : ∃ n, k = n + 1 := ⟨k - 1, by omega⟩
        rw [spec_roWays.l1, if_neg (by omega), hcz, show j = C from by omega]
      | succ d ihd =>
        intro j k hj hk
        obtain ⟨k, rfl⟩ : ∃ n, k = n + 1 + 1 := ⟨k - 2, by omega⟩
        have hjC : j < C := by omega
        rw [spec_roWays.l1, if_pos (by omega), e_boHasW r c l (row : Int) (j : Int) h ⟨by omega, by omega⟩, rd_nat l row hlt, ← hm]
        simp only [Option.bind_some]
        have hcd : candZ C m t taken (j + 1) = if cell m (j : Int) && !cell taken (j : Int) then (Z C t (orZ taken j)).map (· + 1) else [] := by unfold candZ; rw [if_neg (by omega)]; simp
        have hrg : (List.range (j + 1 + 1)).flatMap (candZ C m t taken) = (List.range (j + 1)).flatMap (candZ C m t taken) ++ candZ C m t taken (j + 1) := by rw [List.range_succ (n := j + 1), List.flatMap_append]; simp
        have skip : (cell m (j : Int) && !cell taken (j : Int)) = false → spec_roWays.l1 k (row : Int) taken (HZ M ((List.range (j + 1)).flatMap (candZ C m t taken))) (wrap64 ((j : Int) + 1)) r c l = some (HZ M (Z C (m :: t) taken)) := by
          intro hf
          have := ihd (j + 1) k (by omega) (by omega)
          rw [hrg, hcd, hf] at this
          simp only [Bool.false_eq_true, if_false, List.append_nil] at this
          rw [w64 (by omega) (by omega), show ((j : Int) + 1) = ((j + 1 : Nat) : Int) from by omega]
          exact this
        by_cases hc1 : cell m (j : Int) = true
        · rw [if_pos hc1, if_pos (by omega), cell_spec taken (j : Int) (by omega) (by omega), spec_roWays.j2]
          by_cases hc2 : cell taken (j : Int) = true
          · rw [if_pos hc2]
            exact skip (by rw [hc1, hc2]; rfl)
          · have hc2' := Bool.eq_false_iff.2 hc2
            have ho := orZ_ok C taken j (by omega) htk hjC hc2'
            have hfl := frZ_le C taken
            rw [if_neg hc2, if_pos (by omega), w64 (x := (row : Int) + 1) (by omega) (by omega), show ((row : Int) + 1) = ((row + 1 : Nat) : Int) from by omega, show Go.bits .or .i64 taken (shl .i64 1 (j : Int)) = orZ taken j from rfl]
            rw [ih (row + 1) (orZ taken j) k ht'.symm (by omega) ho.1 (by omega)]
            simp only [Option.bind_some]
            obtain ⟨k, rfl⟩ : ∃ n, k = n + (M + 1) := ⟨k - (M + 1), by omega⟩
            have hAs : ∀ i, ((List.range (j + 1)).flatMap (candZ C m t taken)).count i ≤ 1000000 := fun i => by
              have h7 := flat_len (candZ C m t taken) 16807 (List.range (j + 1)) (fun x _ => candZ_len C (by omega) m t taken (by omega) x)
              rw [List.length_range] at h7
              have := List.count_le_length (a := i) (l := (List.range (j + 1)).flatMap (candZ C m t taken))
              omega
            have hw2 := w_l2 M (by omega) ((List.range (j + 1)).flatMap (candZ C m t taken)) (Z C t (orZ taken j)) hAs (hzs _) (fun z hz => by
              have := Z_le C (by omega) t (orZ taken j) ho.1 z hz
              omega) (row : Int) taken (j : Int) r c l M 0 k (HZ M ((List.range (j + 1)).flatMap (candZ C m t taken))) (by omega) (HZ_len _ _) (fun i hi => by rw [HZ_rd _ _ i hi, if_neg (by omega)]; omega)
            rw [show ((0 : Nat) : Int) = 0 from rfl] at hw2
            rw [HZ_len, hw2]
            have := ihd (j + 1) k (by omega) (by omega)
            rw [hrg, hcd, hc1, hc2'] at this
            rw [w64 (by omega) (by omega), show ((j : Int) + 1) = ((j + 1 : Nat) : Int) from by omega]
            simpa using this
        · rw [if_neg hc1, spec_roWays.j2, if_pos rfl]
          exact skip (by rw [Bool.eq_false_iff.2 hc1]; rfl)
    have := loop C 0 k (by omega) (by omega)
    simpa [candZ] using this
theorem e_roWays (r c : Int) (l : List Int) (h : GoodB r c l) (C M : Nat) (hC : (C : Int) = c) (hM : (M : Int) = min r c + 1) : ∀ (t : List Int) (row : Nat) (taken : Int) (k : Nat), l.drop row = t → row ≤ l.length → 0 ≤ taken ∧ taken ≤ 63 → 100 * t.length + 100 ≤ k → spec_roWays.f k r c l (row : Int) taken = some (HZ M (Z C t taken)) := e_roWaysW r c l (wb_of h) C M hC hM

theorem HZ_nil (M : Nat) : HZ M [] = List.replicate M 0 := by
  refine rd_ext _ _ (by simp [HZ_len]) ?_
  intro j hj
  rw [HZ_len] at hj
  rw [HZ_rd _ _ j hj, rd_nat _ j (by simpa using hj)]; simp
/-- A board's bounds. -/
def Nice (r c : Int) (l : List Int) : Prop := (1 ≤ r ∧ r ≤ 6) ∧ (1 ≤ c ∧ c ≤ 6) ∧ (l.length : Int) = r ∧ ∀ x ∈ l, 0 ≤ x ∧ x ≤ 63
/-- The rook numbers. -/
def numsL (r c : Int) (l : List Int) : List Int := HZ (min r c + 1).toNat (Z c.toNat l 0)
theorem Z_ltN (r c : Int) (l : List Int) (h : Nice r c l) : ∀ z ∈ Z c.toNat l 0, z < (min r c + 1).toNat := by
  intro z hz
  have h1 := h.1; have h2 := h.2.1; have h3 := h.2.2.1
  have := Z_le c.toNat (by omega) l 0 (by omega) z hz
  have := frZ_le c.toNat 0
  omega
theorem numsL_lenN (r c : Int) (l : List Int) (h : Nice r c l) : (numsL r c l).length ≤ 7 := by
  have h1 := h.1; have h2 := h.2.1
  unfold numsL; rw [HZ_len]; omega

theorem nice_of {r c : Int} {l : List Int} (h : GoodB r c l) : Nice r c l := ⟨h.1, h.2.1, h.2.2.1, goodB_le h⟩
theorem numsL_len (r c : Int) (l : List Int) (h : GoodB r c l) : (numsL r c l).length ≤ 7 := numsL_lenN r c l (nice_of h)
theorem e_roNumbers (k : Nat) (r c : Int) (l : List Int) (h : GoodB r c l) (hk : 1000 ≤ k) : spec_roNumbers.f k r c l = some (numsL r c l) := by
  have h1 := h.1; have h2 := h.2.1; have h3 := h.2.2.1
  have hl := goodB_len h
  unfold spec_roNumbers.f
  have := e_roWays r c l h c.toNat (min r c + 1).toNat (by omega) (by omega) l 0 0 k rfl (by omega) (by omega) (by omega)
  rw [show ((0 : Nat) : Int) = 0 from rfl] at this
  rw [this]; rfl
theorem e_roNumbersW (k : Nat) (r c : Int) (l : List Int) (h : WB r c l) (hk : 1000 ≤ k) : spec_roNumbers.f k r c l = some (numsL r c l) := by
  have h1 := h.1; have h2 := h.2.1; have h3 := h.2.2.1
  unfold spec_roNumbers.f
  have := e_roWaysW r c l h c.toNat (min r c + 1).toNat (by omega) (by omega) l 0 0 k rfl (by omega) (by omega) (by omega)
  rw [show ((0 : Nat) : Int) = 0 from rfl] at this
  rw [this]; rfl

theorem e_roOfW (f : Nat) (r c : Int) (l : List Int) (k : Int) (h : WB r c l) (hk : 0 ≤ k) (hf : 1000 ≤ f) : spec_roOf.f f r c l k = some (((Z c.toNat l 0).count k.toNat : Nat) : Int) := by
  unfold spec_roOf.f
  have h1 := h.1; have h2 := h.2.1; have h3 := h.2.2.1
  rw [e_roNumbersW f r c l h hf, Option.bind_some]
  have hl : (numsL r c l).length = (min r c + 1).toNat := by unfold numsL; rw [HZ_len]
  by_cases hc : k ≥ ((numsL r c l).length : Int)
  · rw [if_pos hc]
    have : (Z c.toNat l 0).count k.toNat = 0 := by
      refine List.count_eq_zero.2 ?_
      intro hm
      have := Z_le c.toNat (by omega) l 0 (by omega) _ hm
      have := frZ_le c.toNat 0
      omega
    rw [this]; rfl
  · rw [if_neg hc, if_pos hk, if_pos (by omega)]
    congr 1
    obtain ⟨n, rfl⟩ := Int.eq_ofNat_of_zero_le hk
    unfold numsL
    rw [HZ_rd _ _ n (by omega), Int.toNat_natCast]
theorem e_roOf (f : Nat) (r c : Int) (l : List Int) (k : Int) (h : GoodB r c l) (hk : 0 ≤ k) (hf : 1000 ≤ f) : spec_roOf.f f r c l k = some (((Z c.toNat l 0).count k.toNat : Nat) : Int) := e_roOfW f r c l k (wb_of h) hk hf

theorem cntR_snoc : ∀ (a : List Int) (v : Int), cntR (a ++ [v]) = cntR a + (if v = -1 then 0 else 1)
  | [], v => by simp [cntR]
  | x :: a, v => by simp only [List.cons_append, cntR, cntR_snoc a v]; omega
theorem okC_cell (m taken : Int) (j : Nat) (hm : 0 ≤ m ∧ m ≤ 63) (ht : 0 ≤ taken ∧ taken ≤ 63) (hj : j ≤ 6) : okC m taken j = (cell m (j : Int) && !cell taken (j : Int)) := by
  unfold okC
  rw [cell_impl m (j : Int) hm (by omega), cell_impl taken (j : Int) ht (by omega)]
theorem flatMap_map_eq {α β : Type} (f : α → List (List Int)) (g : α → List Nat) (u : List Int → β) (v : Nat → β) : ∀ l : List α, (∀ x ∈ l, (f x).map u = (g x).map v) → (l.flatMap f).map u = (l.flatMap g).map v
  | [], _ => rfl
  | x :: l, h => by
    simp only [List.flatMap_cons, List.map_append, h x (by simp), flatMap_map_eq f g u v l (fun y hy => h y (by simp [hy]))]
theorem plc_Z (C : Nat) (hC : C ≤ 6) : ∀ (t : List Int) (taken : Int) (acc : List Int), (∀ x ∈ t, 0 ≤ x ∧ x ≤ 63) → 0 ≤ taken ∧ taken ≤ 63 → (plc C t taken acc).map cntR = (Z C t taken).map fun z : Nat => cntR acc + (z : Int)
  | [], taken, acc, _, _ => by simp [plc, Z]
  | m :: t, taken, acc, hm, ht => by
    simp only [plc, Z]
    refine flatMap_map_eq _ _ _ _ _ ?_
    intro i hi
    have hi := List.mem_range.1 hi
    by_cases h0 : i = 0
    · rw [if_pos h0, if_pos h0, plc_Z C hC t taken _ (fun x hx => hm x (by simp [hx])) ht, cntR_snoc]; simp
    · rw [if_neg h0, if_neg h0, okC_cell m taken (i - 1) (hm m (by simp)) ht (by omega)]
      by_cases hc : (cell m ((i - 1 : Nat) : Int) && !cell taken ((i - 1 : Nat) : Int)) = true
      · rw [if_pos hc, if_pos hc]
        simp only [Bool.and_eq_true, Bool.not_eq_true'] at hc
        have ho := orZ_ok C taken (i - 1) hC ht (by omega) hc.2
        rw [show orC taken (i - 1) = orZ taken (i - 1) from rfl, plc_Z C hC t _ _ (fun x hx => hm x (by simp [hx])) ho.1, cntR_snoc, List.map_map, if_neg (by omega)]
        refine List.map_congr_left ?_
        intro z _
        simp only [Function.comp]; omega
      · rw [if_neg hc, if_neg hc]; rfl

theorem plc_cnt (C : Nat) : ∀ (t : List Int) (taken : Int) (acc : List Int), ∀ q ∈ plc C t taken acc, cntR acc ≤ cntR q ∧ cntR q ≤ cntR acc + t.length
  | [], taken, acc, q, h => by
    simp [plc] at h; subst h; simp
  | m :: t, taken, acc, q, h => by
    simp only [plc, List.mem_flatMap, List.mem_range] at h
    obtain ⟨i, hi, h⟩ := h
    by_cases h0 : i = 0
    · rw [if_pos h0] at h
      have := plc_cnt C t _ _ q h
      rw [cntR_snoc, if_pos rfl] at this
      simp only [List.length_cons]; omega
    · rw [if_neg h0] at h
      split at h
      · have := plc_cnt C t _ _ q h
        rw [cntR_snoc, if_neg (by omega)] at this
        simp only [List.length_cons]; omega
      · simp at h
/-- The placements with k rooks more than stand already. -/
def selL (C : Nat) (t : List Int) (taken : Int) (acc : List Int) (k : Int) : List (List Int) := (plc C t taken acc).filter fun q => decide (cntR q = cntR acc + k)
theorem selL_len (C : Nat) (hC : C ≤ 6) (t : List Int) (ht : t.length ≤ 6) (taken : Int) (acc : List Int) (k : Int) : (selL C t taken acc k).length ≤ 117649 := by
  unfold selL
  refine Nat.le_trans (List.length_filter_le _ _) (Nat.le_trans (plc_len C hC t taken acc) ?_)
  exact Nat.le_trans (Nat.pow_le_pow_right (by omega) ht) (by decide)
theorem plc_elem (C : Nat) : ∀ (t : List Int) (taken : Int) (acc : List Int), ∀ q ∈ plc C t taken acc, q.length = acc.length + t.length
  | [], taken, acc, q, h => by
    simp [plc] at h; subst h; simp
  | m :: t, taken, acc, q, h => by
    simp only [plc, List.mem_flatMap, List.mem_range] at h
    obtain ⟨i, hi, h⟩ := h
    by_cases h0 : i = 0
    · rw [if_pos h0] at h
      have := plc_elem C t _ _ q h
      simp only [List.length_append, List.length_cons, List.length_nil] at this ⊢; omega
    · rw [if_neg h0] at h
      split at h
      · have := plc_elem C t _ _ q h
        simp only [List.length_append, List.length_cons, List.length_nil] at this ⊢; omega
      · simp at h
theorem count_cast (zs : List Nat) (k : Int) (hk : 0 ≤ k) : (zs.map fun z : Nat => (0 : Int) + (z : Int)).count k = zs.count k.toNat := by
  induction zs with
  | nil => rfl
  | cons z zs ih =>
    rw [List.map_cons, List.count_cons, List.count_cons, ih]
    by_cases h : z = k.toNat
    · rw [if_pos (by simp; omega), if_pos (by simp [h])]
    · rw [if_neg (by simp; omega), if_neg (by simp [h])]
theorem filter_count (k : Int) : ∀ L : List (List Int), (L.filter fun q => decide (cntR q = k)).length = (L.map cntR).count k
  | [] => rfl
  | q :: L => by
    rw [List.map_cons, List.count_cons, ← filter_count k L]
    by_cases h : cntR q = k
    · rw [List.filter_cons_of_pos (by simpa using h), if_pos (by simpa using h)]; rfl
    · rw [List.filter_cons_of_neg (by simpa using h), if_neg (by simpa using h)]; rfl
theorem selL_count (C : Nat) (hC : C ≤ 6) (l : List Int) (hl : ∀ x ∈ l, 0 ≤ x ∧ x ≤ 63) (k : Int) (hk : 0 ≤ k) : (selL C l 0 [] k).length = (Z C l 0).count k.toNat := by
  unfold selL
  have h := plc_Z C hC l 0 [] hl (by omega)
  have e : cntR [] + k = k := by simp [cntR]
  rw [e, filter_count, h, show cntR [] = 0 from rfl, count_cast _ _ hk]
theorem flatMap_cg {α β : Type} (f g : α → List β) : ∀ l : List α, (∀ x ∈ l, f x = g x) → l.flatMap f = l.flatMap g
  | [], _ => rfl
  | x :: l, h => by simp only [List.flatMap_cons, h x (by simp), flatMap_cg f g l (fun y hy => h y (by simp [hy]))]

theorem i_with (r c : Int) (l : List Int) (k : Int) (h : GoodB r c l) : impl_Board_with.f r c l k = some (selL c.toNat l 0 [] k) := by
  have h1 := h.1; have h2 := h.2.1; have h3 := h.2.2.1
  unfold impl_Board_with.f selL
  rw [if_pos ⟨by omega, by omega, by omega, by omega, h3⟩, show cntR [] + k = k by simp [cntR]]

/-- A row without a column. -/
def strikeE (m c : Int) : Int := Go.bits .or .i64 (Go.bits .and .i64 m (wrap64 ((shl .i64 1 c) - 1))) (shl .i64 (shr .i64 m (wrap64 (c + 1))) c)
/-- Rows from i on, without the row r, each without the column c. -/
def strikeL : List Int → Int → Int → Int → List Int
  | [], _, _, _ => []
  | m :: t, i, r, c => (if i = r then [] else [strikeE m c]) ++ strikeL t (i + 1) r c
theorem strikeL_len : ∀ l i r c, (strikeL l i r c).length ≤ l.length
  | [], _, _, _ => Nat.le_refl _
  | m :: t, i, r, c => by
    have := strikeL_len t (i + 1) r c
    simp only [strikeL, List.length_append, List.length_cons]
    split <;> simp <;> omega
theorem boStrike_l0 (r c : Int) (l : List Int) (hl : l.length ≤ 100) (hc : 0 ≤ c ∧ c ≤ 100) (R C : Int) : ∀ (d i k : Nat) (acc : List Int), i + d = l.length → d < k → acc.length + d ≤ 1000 →
    spec_boStrike.l0 k r c l (l.length : Int) (i : Int) R C acc = some (R, C, acc ++ strikeL (l.drop i) (i : Int) r c) := by
  intro d
  induction d with
  | zero =>
    intro i k acc hi hk ha
    obtain ⟨k, rfl⟩ : ∃ m, k = m + 1 := ⟨k - 1, by omega⟩
    simp only [spec_boStrike.l0]; rw [if_neg (by omega), List.drop_eq_nil_of_le (by omega)]; simp [strikeL]
  | succ d ih =>
    intro i k acc hi hk ha
    obtain ⟨k, rfl⟩ : ∃ m, k = m + 1 := ⟨k - 1, by omega⟩
    have hlt : i < l.length := by omega
    simp only [spec_boStrike.l0]
    rw [if_pos (by omega), if_pos (by omega), if_pos (by omega), w64 (x := (i : Int) + 1) (by omega) (by omega), show ((i : Int) + 1) = ((i + 1 : Nat) : Int) from by omega, List.drop_eq_getElem_cons hlt]
    simp only [strikeL]
    by_cases h : (i : Int) = r
    · rw [if_pos h, ih (i + 1) k acc (by omega) (by omega) (by omega), if_pos h, show ((i : Int) + 1) = ((i + 1 : Nat) : Int) from by omega]; rfl
    · rw [if_neg h, if_pos (by omega), if_pos (by rw [w64 (by omega) (by omega)]; omega), if_pos (by omega), ih (i + 1) k _ (by omega) (by omega) (by simp; omega), if_neg h, rd_nat l i hlt, show ((i : Int) + 1) = ((i + 1 : Nat) : Int) from by omega]
      simp only [List.append_assoc]; rfl
theorem e_boStrike (k : Nat) (r c : Int) (l : List Int) (i j : Int) (g : GoodB r c l) (p : Place r c i j) (hk : 100 ≤ k) : spec_boStrike.f k r c l i j = some (r - 1, c - 1, strikeL l 0 i j) := by
  have h1 := g.1; have h2 := g.2.1; have hn := goodB_len g; have := p.2
  unfold spec_boStrike.f
  rw [w64 (by omega) (by omega), w64 (by omega) (by omega)]
  have := boStrike_l0 i j l (by omega) (by omega) (r - 1) (c - 1) l.length 0 k [] (by omega) (by omega) (by simp; omega)
  simpa using this

theorem flat_skip {α : Type} (f : Nat → List α) (j : Nat) (hf : f (j + 1) = []) : ∀ C, j < C → (List.range (C + 1)).flatMap f = (List.range C).flatMap fun a => f (if a ≤ j then a else a + 1) := by
  intro C
  induction C with
  | zero => intro h; omega
  | succ C ih =>
    intro h
    rw [List.range_succ (n := C + 1), List.flatMap_append]
    by_cases hj : j < C
    · rw [ih hj, List.range_succ (n := C), List.flatMap_append]
      congr 1
      simp only [List.flatMap_cons, List.flatMap_nil, List.append_nil]
      rw [if_neg (by omega)]
    · obtain rfl : j = C := by omega
      simp only [List.flatMap_cons, List.flatMap_nil, List.append_nil, hf]
      refine flatMap_cg _ _ _ ?_
      intro x hx
      have := List.mem_range.1 hx
      rw [if_pos (by omega)]
/-- A board's rows without a row and a column. -/
def strikeR (l : List Int) (i j : Nat) : List Int := (l.eraseIdx i).map fun m => strikeE m (j : Int)
theorem sk_all (m : Int) (hm : 0 ≤ m ∧ m ≤ 63) (j : Nat) (hj : j < 6) : (0 ≤ strikeE m (j : Int) ∧ strikeE m (j : Int) ≤ 63) ∧ (∀ b : Nat, b < 6 → (b < j → cell (strikeE m (j : Int)) (b : Int) = cell m (b : Int)) ∧ (j ≤ b → b < 5 → cell (strikeE m (j : Int)) (b : Int) = cell m ((b + 1 : Nat) : Int))) := by
  have key : ∀ j : Fin 6, ∀ m : Fin 64, (0 ≤ strikeE (m.val : Int) (j.val : Int) ∧ strikeE (m.val : Int) (j.val : Int) ≤ 63) ∧ (∀ b : Fin 6, (b.val < j.val → cell (strikeE (m.val : Int) (j.val : Int)) (b.val : Int) = cell (m.val : Int) (b.val : Int)) ∧ (j.val ≤ b.val → b.val < 5 → cell (strikeE (m.val : Int) (j.val : Int)) (b.val : Int) = cell (m.val : Int) ((b.val + 1 : Nat) : Int))) := by decide +kernel
  obtain ⟨m, rfl⟩ := fin_of m 64 hm.1 (by omega)
  obtain ⟨h1, h2⟩ := key ⟨j, hj⟩ m
  exact ⟨h1, fun b hb => h2 ⟨b, hb⟩⟩
theorem sk_or (tk : Int) (ht : 0 ≤ tk ∧ tk ≤ 63) (j : Nat) (hj : j < 6) : strikeE (orZ tk j) (j : Int) = strikeE tk (j : Int) ∨ cell tk (j : Int) = true := by
  have key : ∀ j : Fin 6, ∀ m : Fin 64, strikeE (orZ (m.val : Int) j.val) (j.val : Int) = strikeE (m.val : Int) (j.val : Int) ∨ cell (m.val : Int) (j.val : Int) = true := by decide +kernel
  obtain ⟨m, rfl⟩ := fin_of tk 64 ht.1 (by omega)
  exact key ⟨j, hj⟩ m
theorem sk_orb (tk : Int) (ht : 0 ≤ tk ∧ tk ≤ 63) (j b : Nat) (hj : j < 6) (hb : b < 6) : (b < j → strikeE (orZ tk b) (j : Int) = orZ (strikeE tk (j : Int)) b) ∧ (j ≤ b → b < 5 → strikeE (orZ tk (b + 1)) (j : Int) = orZ (strikeE tk (j : Int)) b) := by
  have key : ∀ j b : Fin 6, ∀ m : Fin 64, (b.val < j.val → strikeE (orZ (m.val : Int) b.val) (j.val : Int) = orZ (strikeE (m.val : Int) (j.val : Int)) b.val) ∧ (j.val ≤ b.val → b.val < 5 → strikeE (orZ (m.val : Int) (b.val + 1)) (j.val : Int) = orZ (strikeE (m.val : Int) (j.val : Int)) b.val) := by decide +kernel
  obtain ⟨m, rfl⟩ := fin_of tk 64 ht.1 (by omega)
  exact key ⟨j, hj⟩ ⟨b, hb⟩ m
theorem or_ok (tk : Int) (ht : 0 ≤ tk ∧ tk ≤ 63) (j b : Nat) (hj : j < 6) (hb : b < 6) : (0 ≤ orZ tk b ∧ orZ tk b ≤ 63) ∧ cell (orZ tk b) (j : Int) = (cell tk (j : Int) || decide (j = b)) := by
  have key : ∀ j b : Fin 6, ∀ m : Fin 64, (0 ≤ orZ (m.val : Int) b.val ∧ orZ (m.val : Int) b.val ≤ 63) ∧ cell (orZ (m.val : Int) b.val) (j.val : Int) = (cell (m.val : Int) (j.val : Int) || decide (j.val = b.val)) := by decide +kernel
  obtain ⟨m, rfl⟩ := fin_of tk 64 ht.1 (by omega)
  exact key ⟨j, hj⟩ ⟨b, hb⟩ m
theorem strikeR_le (l : List Int) (hl : ∀ x ∈ l, 0 ≤ x ∧ x ≤ 63) (i j : Nat) (hj : j < 6) : ∀ x ∈ strikeR l i j, 0 ≤ x ∧ x ≤ 63 := by
  intro x hx
  obtain ⟨m, hm, rfl⟩ := List.mem_map.1 hx
  exact (sk_all m (hl m (List.mem_of_mem_eraseIdx hm)) j hj).1
theorem strikeL_none : ∀ (l : List Int) (n i : Int) (j : Nat), i < n → strikeL l n i (j : Int) = l.map fun m => strikeE m (j : Int)
  | [], _, _, _, _ => rfl
  | m :: t, n, i, j, h => by
    rw [strikeL, if_neg (by omega), strikeL_none t (n + 1) i j (by omega)]; rfl
theorem strikeL_R' : ∀ (l : List Int) (i : Nat) (n : Int) (j : Nat), i < l.length → strikeL l n (n + (i : Int)) (j : Int) = strikeR l i j
  | [], i, _, _, h => by simp at h
  | m :: t, 0, n, j, h => by
    rw [strikeL, if_pos (by omega), strikeL_none t (n + 1) _ j (by omega)]; rfl
  | m :: t, i + 1, n, j, h => by
    rw [strikeL, if_neg (by omega), show n + ((i + 1 : Nat) : Int) = (n + 1) + (i : Int) by omega, strikeL_R' t i (n + 1) j (by simpa using h)]; rfl
theorem strikeL_R (l : List Int) (i : Nat) (h : i < l.length) (j : Nat) : strikeL l 0 (i : Int) (j : Int) = strikeR l i j := by
  have := strikeL_R' l i 0 j h
  rwa [Int.zero_add] at this
/-- A column that is taken may go. -/
theorem Z_drop (C : Nat) (hC : C < 6) (j : Nat) (hj : j ≤ C) : ∀ (t : List Int) (tk : Int), (∀ x ∈ t, 0 ≤ x ∧ x ≤ 63) → 0 ≤ tk ∧ tk ≤ 63 → cell tk (j : Int) = true → Z (C + 1) t tk = Z C (t.map fun m => strikeE m (j : Int)) (strikeE tk (j : Int))
  | [], _, _, _, _ => rfl
  | m :: t, tk, hm, ht, hc => by
    simp only [Z, List.map_cons]
    rw [flat_skip _ j (by simp [hc]) (C + 1) (by omega)]
    refine flatMap_cg _ _ _ ?_
    intro a ha
    have ha := List.mem_range.1 ha
    have hm0 := hm m (by simp)
    have ih := fun tk => Z_drop C hC j hj t tk (fun x hx => hm x (by simp [hx]))
    by_cases h0 : a = 0
    · subst h0
      rw [if_pos (show (0 : Nat) ≤ j by omega), if_pos rfl, if_pos rfl, ih tk ht hc]
    · obtain ⟨b, rfl⟩ : ∃ b, a = b + 1 := ⟨a - 1, by omega⟩
      by_cases hb : b + 1 ≤ j
      · have e1 := ((sk_all m hm0 j (by omega)).2 b (by omega)).1 (by omega)
        have e2 := ((sk_all tk ht j (by omega)).2 b (by omega)).1 (by omega)
        have e3 := (sk_orb tk ht j b (by omega) (by omega)).1 (by omega)
        have e4 := or_ok tk ht j b (by omega) (by omega)
        rw [if_pos hb, if_neg h0, if_neg h0, Nat.add_sub_cancel, e1, e2, ← e3, ih (orZ tk b) e4.1 (by rw [e4.2, hc]; rfl)]
      · have e1 := ((sk_all m hm0 j (by omega)).2 b (by omega)).2 (by omega) (by omega)
        have e2 := ((sk_all tk ht j (by omega)).2 b (by omega)).2 (by omega) (by omega)
        have e3 := (sk_orb tk ht j b (by omega) (by omega)).2 (by omega) (by omega)
        have e4 := or_ok tk ht j (b + 1) (by omega) (by omega)
        rw [if_neg hb, if_neg (by omega), if_neg h0, Nat.add_sub_cancel, Nat.add_sub_cancel, e1, e2, ← e3, ih (orZ tk (b + 1)) e4.1 (by rw [e4.2, hc]; rfl)]
theorem plc_pre (C : Nat) : ∀ (t : List Int) (tk : Int) (acc : List Int), ∀ q ∈ plc C t tk acc, ∃ s, q = acc ++ s
  | [], tk, acc, q, h => by simp [plc] at h; exact ⟨[], by simp [h]⟩
  | m :: t, tk, acc, q, h => by
    simp only [plc, List.mem_flatMap, List.mem_range] at h
    obtain ⟨i, hi, h⟩ := h
    by_cases h0 : i = 0
    · rw [if_pos h0] at h
      obtain ⟨s, rfl⟩ := plc_pre C t _ _ q h
      exact ⟨_, List.append_assoc _ _ _⟩
    · rw [if_neg h0] at h
      split at h
      · obtain ⟨s, rfl⟩ := plc_pre C t _ _ q h
        exact ⟨_, List.append_assoc _ _ _⟩
      · simp at h
theorem rd_mid (acc s : List Int) (v : Int) : rd (acc ++ [v] ++ s) ((acc.length : Nat) : Int) = v := by
  unfold rd; simp [List.getD]
theorem plc_not (C : Nat) (hC : C ≤ 6) (j : Nat) (hj : j < 6) : ∀ (t : List Int) (tk : Int) (acc : List Int) (i : Nat), (∀ x ∈ t, 0 ≤ x ∧ x ≤ 63) → 0 ≤ tk ∧ tk ≤ 63 → cell tk (j : Int) = true → i < t.length → ∀ q ∈ plc C t tk acc, rd q (((acc.length + i : Nat)) : Int) ≠ (j : Int)
  | [], _, _, i, _, _, _, h, _, _ => by simp at h
  | m :: t, tk, acc, i, hm, ht, hc, hi, q, hq => by
    simp only [plc, List.mem_flatMap, List.mem_range] at hq
    obtain ⟨a, ha, hq⟩ := hq
    by_cases h0 : a = 0
    · rw [if_pos h0] at hq
      rcases i with _ | i
      · obtain ⟨s, rfl⟩ := plc_pre C t _ _ q hq
        rw [Nat.add_zero, rd_mid]; omega
      · have := plc_not C hC j hj t tk (acc ++ [-1]) i (fun x hx => hm x (by simp [hx])) ht hc (by simpa using hi) q hq
        rwa [show (acc ++ [(-1 : Int)]).length + i = acc.length + (i + 1) by simp; omega] at this
    · rw [if_neg h0, okC_cell m tk (a - 1) (hm m (by simp)) ht (by omega)] at hq
      split at hq
      case isFalse => simp at hq
      case isTrue hok =>
        simp only [Bool.and_eq_true, Bool.not_eq_true'] at hok
        have e4 := or_ok tk ht j (a - 1) hj (by omega)
        rcases i with _ | i
        · obtain ⟨s, rfl⟩ := plc_pre C t _ _ q hq
          rw [Nat.add_zero, rd_mid]
          intro he
          have : a - 1 = j := by omega
          rw [this, hc] at hok
          exact absurd hok.2 (by decide)
        · have := plc_not C hC j hj t (orZ tk (a - 1)) (acc ++ [((a - 1 : Nat) : Int)]) i (fun x hx => hm x (by simp [hx])) e4.1 (by rw [e4.2, hc]; rfl) (by simpa using hi) q hq
          rwa [show (acc ++ [((a - 1 : Nat) : Int)]).length + i = acc.length + (i + 1) by simp; omega] at this
theorem flat_map {α β : Type} (f : Nat → List α) (g : α → β) : ∀ l : List Nat, (l.flatMap f).map g = l.flatMap fun x => (f x).map g
  | [] => rfl
  | x :: l => by simp only [List.flatMap_cons, List.map_append, flat_map f g l]
theorem flat_one {α : Type} (f : Nat → List α) (j : Nat) : ∀ C, j < C → (∀ a, a < C → a ≠ j → f a = []) → (List.range C).flatMap f = f j := by
  intro C
  induction C with
  | zero => intro h; omega
  | succ C ih =>
    intro h hf
    rw [List.range_succ, List.flatMap_append]
    simp only [List.flatMap_cons, List.flatMap_nil, List.append_nil]
    by_cases hj : j < C
    · rw [ih hj (fun a ha hn => hf a (by omega) hn), hf C (by omega) (by omega), List.append_nil]
    · obtain rfl : j = C := by omega
      have : (List.range j).flatMap f = [] := by
        refine List.flatMap_eq_nil_iff.2 ?_
        intro x hx
        exact hf x (by have := List.mem_range.1 hx; omega) (by have := List.mem_range.1 hx; omega)
      rw [this, List.nil_append]
theorem plc_cell (C : Nat) (hC : C < 6) (j : Nat) (hj : j ≤ C) : ∀ (t : List Int) (tk : Int) (acc : List Int) (i : Nat), (∀ x ∈ t, 0 ≤ x ∧ x ≤ 63) → 0 ≤ tk ∧ tk ≤ 63 → cell tk (j : Int) = false → (hi : i < t.length) →
    ((plc (C + 1) t tk acc).filter fun q => decide (rd q (((acc.length + i : Nat)) : Int) = (j : Int))).map cntR = (if cell t[i] (j : Int) = true then Z C (strikeR t i j) (strikeE tk (j : Int)) else []).map fun z : Nat => cntR acc + 1 + (z : Int)
  | [], _, _, i, _, _, _, h => by simp at h
  | m :: t, tk, acc, 0, hm, ht, hc, hi => by
    simp only [plc, List.filter_flatMap]
    rw [flat_one _ (j + 1) (C + 1 + 1) (by omega) ?_]
    · rw [if_neg (by omega), Nat.add_sub_cancel, okC_cell m tk j (hm m (by simp)) ht (by omega), hc, Bool.not_false, Bool.and_true]
      by_cases hcm : cell m (j : Int) = true
      · have e4 := or_ok tk ht j j (by omega) (by omega)
        have e5 := (sk_or tk ht j (by omega)).resolve_right (by rw [hc]; decide)
        rw [if_pos hcm, List.getElem_cons_zero, if_pos hcm, List.filter_eq_self.2 ?_]
        · rw [show orC tk j = orZ tk j from rfl, plc_Z (C + 1) (by omega) t _ _ (fun x hx => hm x (by simp [hx])) e4.1, Z_drop C hC j hj t _ (fun x hx => hm x (by simp [hx])) e4.1 (by rw [e4.2]; simp), e5, cntR_snoc, if_neg (by omega)]
          rfl
        · intro q hq
          obtain ⟨s, rfl⟩ := plc_pre _ _ _ _ q hq
          rw [Nat.add_zero, rd_mid]; simp
      · rw [if_neg hcm, List.getElem_cons_zero, if_neg hcm]; rfl
    · intro a ha hn
      refine List.filter_eq_nil_iff.2 ?_
      intro q hq
      by_cases h0 : a = 0
      · rw [if_pos h0] at hq
        obtain ⟨s, rfl⟩ := plc_pre _ _ _ _ q hq
        rw [Nat.add_zero, rd_mid]; rw [decide_eq_true_eq]; omega
      · rw [if_neg h0] at hq
        split at hq
        · obtain ⟨s, rfl⟩ := plc_pre _ _ _ _ q hq
          rw [Nat.add_zero, rd_mid]; simp; omega
        · simp at hq
  | m :: t, tk, acc, i + 1, hm, ht, hc, hi => by
    have hm' : ∀ x ∈ t, 0 ≤ x ∧ x ≤ 63 := fun x hx => hm x (by simp [hx])
    have hi' : i < t.length := by simpa using hi
    have ih := fun tk acc h1 h2 => plc_cell C hC j hj t tk acc i hm' h1 h2 hi'
    have hln : ∀ v : Int, acc.length + (i + 1) = (acc ++ [v]).length + i := fun v => by rw [List.length_append, List.length_singleton]; omega
    simp only [plc, List.filter_flatMap, List.getElem_cons_succ]
    rw [flat_skip _ j (by
      rw [if_neg (by omega), Nat.add_sub_cancel]
      split
      · have e4 := or_ok tk ht j j (by omega) (by omega)
        refine List.filter_eq_nil_iff.2 ?_
        intro q hq
        have := plc_not (C + 1) (by omega) j (by omega) t _ _ i hm' e4.1 (by rw [e4.2]; simp) hi' q hq
        rw [hln ((j : Nat) : Int)]; simpa using this
      · rfl) (C + 1) (by omega), flat_map]
    have hR : (if cell t[i] (j : Int) = true then Z C (strikeR (m :: t) (i + 1) j) (strikeE tk (j : Int)) else []).map (fun z : Nat => cntR acc + 1 + (z : Int)) = (List.range (C + 1)).flatMap fun a => (if a = 0 then (if cell t[i] (j : Int) = true then Z C (strikeR t i j) (strikeE tk (j : Int)) else []) else if cell (strikeE m (j : Int)) ((a - 1 : Nat) : Int) && !cell (strikeE tk (j : Int)) ((a - 1 : Nat) : Int) then (if cell t[i] (j : Int) = true then Z C (strikeR t i j) (orZ (strikeE tk (j : Int)) (a - 1)) else []).map (· + 1) else []).map fun z : Nat => cntR acc + 1 + (z : Int) := by
      by_cases hct : cell t[i] (j : Int) = true
      · simp only [hct, if_true]
        rw [show strikeR (m :: t) (i + 1) j = strikeE m (j : Int) :: strikeR t i j from rfl]
        simp only [Z]
        rw [flat_map]
      · rw [if_neg hct]
        refine (List.flatMap_eq_nil_iff.2 ?_).symm
        intro x _
        simp only [if_neg hct]
        by_cases h0 : x = 0
        · rw [if_pos h0]; rfl
        · rw [if_neg h0]; split <;> rfl
    rw [hR]
    refine flatMap_cg _ _ _ ?_
    intro a ha
    have ha := List.mem_range.1 ha
    have hm0 := hm m (by simp)
    by_cases h0 : a = 0
    · subst h0
      rw [if_pos (show (0 : Nat) ≤ j by omega), if_pos rfl, if_pos rfl, hln (-1), ih tk (acc ++ [-1]) ht hc, cntR_snoc, if_pos rfl, Int.add_zero]
    · obtain ⟨b, rfl⟩ : ∃ b, a = b + 1 := ⟨a - 1, by omega⟩
      by_cases hb : b + 1 ≤ j
      · have e1 := ((sk_all m hm0 j (by omega)).2 b (by omega)).1 (by omega)
        have e2 := ((sk_all tk ht j (by omega)).2 b (by omega)).1 (by omega)
        have e3 := (sk_orb tk ht j b (by omega) (by omega)).1 (by omega)
        have e4 := or_ok tk ht j b (by omega) (by omega)
        rw [if_pos hb, if_neg h0, if_neg h0, Nat.add_sub_cancel, e1, e2, ← e3, okC_cell m tk b hm0 ht (by omega)]
        split
        · rw [show orC tk b = orZ tk b from rfl, hln ((b : Nat) : Int), ih (orZ tk b) (acc ++ [(b : Int)]) e4.1 (by rw [e4.2, hc]; simp; omega), cntR_snoc, if_neg (by omega), List.map_map]
          refine List.map_congr_left ?_
          intro z _
          simp only [Function.comp]; omega
        · rfl
      · have e1 := ((sk_all m hm0 j (by omega)).2 b (by omega)).2 (by omega) (by omega)
        have e2 := ((sk_all tk ht j (by omega)).2 b (by omega)).2 (by omega) (by omega)
        have e3 := (sk_orb tk ht j b (by omega) (by omega)).2 (by omega) (by omega)
        have e4 := or_ok tk ht j (b + 1) (by omega) (by omega)
        rw [if_neg hb, if_neg (by omega), if_neg h0, Nat.add_sub_cancel, Nat.add_sub_cancel, e1, e2, ← e3, okC_cell m tk (b + 1) hm0 ht (by omega)]
        split
        · rw [show orC tk (b + 1) = orZ tk (b + 1) from rfl, hln ((b + 1 : Nat) : Int), ih (orZ tk (b + 1)) (acc ++ [((b + 1 : Nat) : Int)]) e4.1 (by rw [e4.2, hc]; simp; omega), cntR_snoc, if_neg (by omega), List.map_map]
          refine List.map_congr_left ?_
          intro z _
          simp only [Function.comp]; omega
        · rfl
theorem count_up (zs : List Nat) (k : Int) : (zs.map fun z : Nat => (0 : Int) + 1 + (z : Int)).count k = if 1 ≤ k then zs.count (k - 1).toNat else 0 := by
  induction zs with
  | nil => simp
  | cons z zs ih =>
    rw [List.map_cons, List.count_cons, ih]
    by_cases h1 : 1 ≤ k
    · rw [if_pos h1, if_pos h1, List.count_cons]
      by_cases h : z = (k - 1).toNat
      · rw [if_pos (by simp; omega), if_pos (by simp [h])]
      · rw [if_neg (by simp; omega), if_neg (by rw [beq_iff_eq]; exact h)]
    · rw [if_neg h1, if_neg h1, if_neg (by simp; omega)]
theorem selL_cell (C : Nat) (hC : C < 6) (l : List Int) (hl : ∀ x ∈ l, 0 ≤ x ∧ x ≤ 63) (i : Nat) (hi : i < l.length) (j : Nat) (hj : j ≤ C) (k : Int) : ((selL (C + 1) l 0 [] k).filter fun q => decide (rd q (i : Int) = (j : Int))).length = if cell l[i] (j : Int) = true ∧ 1 ≤ k then (Z C (strikeR l i j) 0).count (k - 1).toNat else 0 := by
  unfold selL
  have e : cntR [] + k = k := by simp [cntR]
  have h0 : cell 0 (j : Int) = false := by
    have : ∀ j : Fin 6, cell 0 (j.val : Int) = false := by decide +kernel
    exact this ⟨j, by omega⟩
  have hs0 : strikeE 0 (j : Int) = 0 := by
    have : ∀ j : Fin 6, strikeE 0 (j.val : Int) = 0 := by decide +kernel
    exact this ⟨j, by omega⟩
  have h := plc_cell C hC j hj l 0 [] i hl (by omega) h0 hi
  rw [List.length_nil, Nat.zero_add, show cntR [] = 0 from rfl, hs0] at h
  rw [e, List.filter_filter, show (fun q => decide (rd q (i : Int) = (j : Int)) && decide (cntR q = k)) = (fun q => decide (cntR q = k) && decide (rd q (i : Int) = (j : Int))) from funext fun q => Bool.and_comm _ _, ← List.filter_filter, filter_count, h, count_up]
  by_cases hc : cell l[i] (j : Int) = true
  · rw [if_pos hc]
    by_cases hk : 1 ≤ k
    · rw [if_pos hk, if_pos ⟨hc, hk⟩]
    · rw [if_neg hk, if_neg (fun x => hk x.2)]
  · rw [if_neg hc, if_neg (show ¬ (cell l[i] (j : Int) = true ∧ 1 ≤ k) from fun x => hc x.1)]
    split <;> simp

theorem rdLL (l : List (List Int)) (i : Nat) (h : i < l.length) : rd_L1 l (i : Int) = l[i] := by
  unfold rd_L1; simp [List.getD, h]
theorem i_count (i j : Nat) (L : List (List Int)) (hL : L.length ≤ 1000000) (hl : ∀ q ∈ L, i < q.length) : ∀ (d n f : Nat) (s : Int), n + d = L.length → d < f → 0 ≤ s ∧ s ≤ n → impl_CountWithCell.l0 f (i : Int) (j : Int) s L (L.length : Int) (n : Int) = some (s + (((L.drop n).filter fun q => decide (rd q (i : Int) = (j : Int))).length : Int), true) := by
  intro d
  induction d with
  | zero =>
    intro n f s hn hf hs
    obtain ⟨f, rfl⟩ : ∃ m, f = m + 1 := ⟨f - 1, by omega⟩
    rw [impl_CountWithCell.l0, if_neg (by omega), List.drop_eq_nil_of_le (by omega)]; simp
  | succ d ih =>
    intro n f s hn hf hs
    obtain ⟨f, rfl⟩ : ∃ m, f = m + 1 := ⟨f - 1, by omega⟩
    have hlt : n < L.length := by omega
    have hq := hl L[n] (List.getElem_mem hlt)
    rw [impl_CountWithCell.l0, if_pos (by omega), if_pos (by omega), if_pos (by omega), if_pos (by omega), rdLL L n hlt, if_pos (by omega), w64 (x := (n : Int) + 1) (by omega) (by omega), show ((n : Int) + 1) = ((n + 1 : Nat) : Int) from by omega, List.drop_eq_getElem_cons hlt]
    by_cases h : rd L[n] (i : Int) = (j : Int)
    · rw [if_pos h, w64 (x := s + 1) (by omega) (by omega), ih (n + 1) f (s + 1) (by omega) (by omega) (by omega), List.filter_cons_of_pos (by simpa using h), List.length_cons]
      congr 2; omega
    · rw [if_neg h, ih (n + 1) f s (by omega) (by omega) (by omega), List.filter_cons_of_neg (by simpa using h)]
theorem both_CountWithCell (f : Nat) (r c : Int) (l : List Int) (i j k : Int) (hf : 2000000 ≤ f) (hl : l.length ≤ 1048576) : ∃ o : Int × Bool, spec_CountWithCell.f f r c l i j k = some o ∧ impl_CountWithCell.f f r c l i j k = some o := by
  obtain ⟨f, rfl⟩ : ∃ m, f = m + 1 + 1 := ⟨f - 2, by omega⟩
  unfold spec_CountWithCell.f impl_CountWithCell.f
  rw [e_boPlace _ r c l i j (by omega) (by omega), i_IsBoard]
  simp only [Option.bind_some]
  by_cases h : GoodB r c l
  · have h1 := h.1; have h2 := h.2.1; have h3 := h.2.2.1
    rw [decide_eq_true h, i_place r c l i j h]
    simp only [if_true, Option.bind_some]
    by_cases hp : Place r c i j
    · rw [decide_eq_true (show GoodB r c l ∧ Place r c i j from ⟨h, hp⟩), decide_eq_true hp]
      simp only [if_true]
      have hp1 := hp.1; have hp2 := hp.2
      rw [e_l1In, e_within]
      simp only [Option.bind_some]
      by_cases hk : 0 ≤ k ∧ k ≤ 6
      · rw [decide_eq_true hk]
        simp only [Bool.not_true]
        obtain ⟨i, rfl⟩ := Int.eq_ofNat_of_zero_le hp1.1
        obtain ⟨j, rfl⟩ := Int.eq_ofNat_of_zero_le hp2.1
        have hil : i < l.length := by omega
        obtain ⟨C, rfl⟩ : ∃ C : Nat, c = ((C + 1 : Nat) : Int) := ⟨(c - 1).toNat, by omega⟩
        have hsl := selL_len (C + 1) (by omega) l (by omega) 0 [] k
        have hel : ∀ q ∈ selL (C + 1) l 0 [] k, i < q.length := fun q hq => by
          have := plc_elem (C + 1) l 0 [] q (List.mem_filter.1 hq).1
          simp at this; omega
        have hcnt := i_count i j (selL (C + 1) l 0 [] k) (by omega) hel (selL (C + 1) l 0 [] k).length 0 (f + 1) 0 (by omega) (by omega) (by omega)
        rw [show ((0 : Nat) : Int) = 0 from rfl, List.drop_zero, Int.zero_add, selL_cell C (by omega) l (goodB_le h) i hil j (by omega) k] at hcnt
        refine ⟨(((if cell l[i] (j : Int) = true ∧ 1 ≤ k then (Z C (strikeR l i j) 0).count (k - 1).toNat else 0 : Nat) : Int), true), ?_, ?_⟩
        · rw [spec_CountWithCell.j0, if_neg (by decide)]
          have hj1 : spec_CountWithCell.j1 (f + 1) (i : Int) (j : Int) k true r ((C + 1 : Nat) : Int) l = some (0, true) := by rw [spec_CountWithCell.j1, if_pos rfl]
          by_cases hk0 : k = 0
          · rw [if_pos hk0, hj1, if_neg (by omega)]; rfl
          · rw [if_neg hk0, e_boHas r _ l (i : Int) (j : Int) h hp, rd_nat l i hil, Option.bind_some]
            by_cases hc : cell l[i] (j : Int) = true
            · rw [hc, if_pos ⟨rfl, by omega⟩, spec_CountWithCell.j1, if_neg (by decide), e_boStrike f r _ l (i : Int) (j : Int) h hp (by omega), Option.bind_some]
              simp only
              have hsL := strikeL_R l i hil j
              have hlen : (strikeR l i j).length = l.length - 1 := by simp [strikeR, List.length_eraseIdx, hil]
              rw [hsL, w64 (by omega) (by omega), e_roOfW f (r - 1) _ (strikeR l i j) (k - 1) ⟨by omega, by omega, by omega, strikeR_le l (goodB_le h) i j (by omega)⟩ (by omega) (by omega), Option.bind_some]
              rw [show (((C + 1 : Nat) : Int) - 1).toNat = C by omega]
            · rw [Bool.eq_false_iff.2 hc, if_neg (by simp), Bool.not_false, hj1]; rfl
        · rw [impl_CountWithCell.j0, if_neg (by decide), i_with r _ l k h, Option.bind_some, Int.toNat_natCast, hcnt]
      · rw [decide_eq_false hk]
        exact ⟨(0, false), by rw [spec_CountWithCell.j0]; rfl, by rw [impl_CountWithCell.j0]; rfl⟩
    · rw [decide_eq_false (show ¬ (GoodB r c l ∧ Place r c i j) from fun x => hp x.2), decide_eq_false hp]
      exact ⟨(0, false), by rw [if_neg (by decide), spec_CountWithCell.j0]; rfl, by rw [if_neg (by decide), impl_CountWithCell.j0]; rfl⟩
  · rw [decide_eq_false (show ¬ (GoodB r c l ∧ Place r c i j) from fun x => h x.1), decide_eq_false h]
    exact ⟨(0, false), by rw [if_neg (by decide), spec_CountWithCell.j0]; rfl, by rw [if_neg (by decide), impl_CountWithCell.j0]; rfl⟩
theorem FnExactCountWithCell : laws_FnExactCountWithCell.Pure := by
  intro r c l i j k _ _ hm _ _ _ _
  refine ⟨2000010, ?_⟩
  unfold laws_FnExactCountWithCell.f
  rw [e_szBoard r c l 1048576 hm (by omega) (by omega)]
  simp only [Option.bind_some]
  by_cases h : (1048576 : Int) - l.length < 0
  · rw [if_pos h]; rfl
  · rw [if_neg h, if_neg h, e_toBoard _ r c l (by omega) (by omega)]
    simp only [Option.bind_some]
    obtain ⟨o, h1, h2⟩ := both_CountWithCell 2000010 r c l i j k (by omega) (by omega)
    rw [h1, h2]
    obtain ⟨o1, o2⟩ := o
    repeat (first
      | (simp only [Option.bind_some, bne_self_eq_false, Bool.false_eq_true, if_false, if_true, Bool.not_true, Bool.not_false])
      | (rw [e_toBoard _ _ _ _ (by omega) (by omega)])
      | (rw [e_eqBoard_self _ _ _ _ (by omega) (by omega)])
      | (rw [e_toIntS _ _ (by omega) (by omega)])
      | (rw [e_eqIntS_self _ _ (by omega) (by omega)])
      | (rw [laws_FnExactCountWithCell.j0])
      | (rw [if_neg (show ¬ (_ : Int) < 0 by omega)])
      | (rw [if_pos (show (_ : Int) = _ from rfl)])
      | (rfl))

end Go.Proofs.Ytmhlnpokjjclhaa.Pure
