/- PolynomialsOfRooks: the law's function comes to true. -/
import Derived.Test.YtfgfgkpmkfjeiaaPFnPolynomialsOfRooksx9
namespace Go.Proofs.Ytfgfgkpmkfjeiaa.Pure
open Go.RowKit Go.Proofs.Ytfgfgkpmkfjeiaa.PFnPolynomialsOfRooks Go.Proofs.YtfgfgkpmkfjeiaaW.PrintWords Go.Proofs.YtfgfgkpmkfjeiaaW.PrintLast
set_option linter.unusedVariables false
set_option linter.unusedSimpArgs false

theorem w64 {x : Int} (h0 : -9223372036854775808 ≤ x) (h1 : x < 9223372036854775808) : wrap64 x = x := by
  unfold wrap64; omega
theorem rd_nat (l : List Int) (i : Nat) (h : i < l.length) : rd l (i : Int) = l[i] := by
  unfold rd; simp [List.getD, h]

/-- Is there a cell in the column c of a row m? -/
def cell (m c : Int) : Bool := decide (m / 2 ^ c.toNat % 2 = 1)
theorem fin_of (m : Int) (n : Nat) (h0 : 0 ≤ m) (h1 : m < n) : ∃ i : Fin n, m = (i.val : Int) := ⟨⟨m.toNat, by omega⟩, by simp; omega⟩
theorem cell_spec (m c : Int) (hm : 0 ≤ m ∧ m ≤ 63) (hc : 0 ≤ c ∧ c ≤ 6) : (Int.tmod (shr .i64 m c) 2 == 1) = cell m c := by
  have h : ∀ m : Fin 64, ∀ c : Fin 7, (Int.tmod (shr .i64 (m.val : Int) (c.val : Int)) 2 == 1) = cell (m.val : Int) (c.val : Int) := by decide +kernel
  obtain ⟨i, rfl⟩ := fin_of m 64 hm.1 (by omega)
  obtain ⟨j, rfl⟩ := fin_of c 7 hc.1 (by omega)
  exact h i j
theorem cell_impl (m c : Int) (hm : 0 ≤ m ∧ m ≤ 63) (hc : 0 ≤ c ∧ c ≤ 6) : (Go.bits .and .i64 (shr .i64 m c) 1 == 1) = cell m c := by
  have h : ∀ m : Fin 64, ∀ c : Fin 7, (Go.bits .and .i64 (shr .i64 (m.val : Int) (c.val : Int)) 1 == 1) = cell (m.val : Int) (c.val : Int) := by decide +kernel
  obtain ⟨i, rfl⟩ := fin_of m 64 hm.1 (by omega)
  obtain ⟨j, rfl⟩ := fin_of c 7 hc.1 (by omega)
  exact h i j
theorem pow_le (a : Int) (h : 1 ≤ a ∧ a ≤ 6) : 2 ≤ (2 : Int) ^ a.toNat ∧ (2 : Int) ^ a.toNat ≤ 64 := by
  obtain ⟨h0, h1⟩ := h
  obtain h | h | h | h | h | h : a = 1 ∨ a = 2 ∨ a = 3 ∨ a = 4 ∨ a = 5 ∨ a = 6 := by omega
  all_goals (subst h; decide +kernel)
theorem rd_mem (l : List Int) (i : Int) (h0 : 0 ≤ i) (h1 : i < l.length) : rd l i ∈ l := by
  obtain ⟨n, rfl⟩ := Int.eq_ofNat_of_zero_le h0
  rw [rd_nat l n (by omega)]; exact List.getElem_mem _

theorem i_IsBoard (r c : Int) (l : List Int) : impl_IsBoard.f r c l = some (decide (GoodB r c l)) := rfl

theorem goodB_le {r c : Int} {l : List Int} (h : GoodB r c l) : ∀ x ∈ l, 0 ≤ x ∧ x ≤ 63 := by
  intro x hx
  have := h.2.2.2 x hx
  have := pow_le c h.2.1
  omega
theorem goodB_len {r c : Int} {l : List Int} (h : GoodB r c l) : l.length ≤ 6 := by
  have := h.1; have := h.2.2.1; omega
/-- Is it a place of a board? -/
def Place (r c i j : Int) : Prop := (0 ≤ i ∧ i ≤ r - 1) ∧ (0 ≤ j ∧ j ≤ c - 1)
instance (r c i j : Int) : Decidable (Place r c i j) := by unfold Place; exact inferInstance

theorem e_boHas (r c : Int) (l : List Int) (i j : Int) (h : GoodB r c l) (hp : Place r c i j) : spec_boHas.f r c l i j = some (cell (rd l i) j) := by
  unfold spec_boHas.f
  have h1 := h.1; have h2 := h.2.1; have h3 := h.2.2.1; have h4 := hp.1; have h5 := hp.2
  have hm := goodB_le h (rd l i) (rd_mem l i (by omega) (by omega))
  rw [if_pos (by omega), if_pos (by omega), if_pos (by omega), cell_spec _ _ hm (by omega)]

theorem rd_set (l : List Int) (i : Nat) (v : Int) (j : Nat) (h : i < l.length) : rd (l.set i v) (j : Int) = if i = j then v else rd l (j : Int) := by
  unfold rd
  simp only [List.getD, Int.toNat_natCast, List.getElem?_set]
  by_cases hij : i = j
  · subst hij; simp [h]
  · simp [hij]
theorem rd_ext (a b : List Int) (hl : a.length = b.length) (h : ∀ j : Nat, j < a.length → rd a (j : Int) = rd b (j : Int)) : a = b := by
  refine List.ext_getElem hl ?_
  intro i h1 h2
  have := h i h1
  rwa [rd_nat a i h1, rd_nat b i h2] at this

/-- The columns taken, with one more. -/
def orZ (taken : Int) (j : Nat) : Int := Go.bits .or .i64 taken (shl .i64 1 (j : Int))
/-- Numbers of rooks of all placements, in order: rows that are left, columns taken. -/
def Z (C : Nat) : List Int → Int → List Nat
  | [], _ => [0]
  | m :: t, taken => (List.range (C + 1)).flatMap fun i => if i = 0 then Z C t taken else if cell m ((i - 1 : Nat) : Int) && !cell taken ((i - 1 : Nat) : Int) then (Z C t (orZ taken (i - 1))).map (· + 1) else []
/-- How often each number below M stands. -/
def HZ (M : Nat) (z : List Nat) : List Int := (List.range M).map fun k => ((z.count k : Nat) : Int)
theorem HZ_len (M : Nat) (z : List Nat) : (HZ M z).length = M := by simp [HZ]
theorem HZ_rd (M : Nat) (z : List Nat) (i : Nat) (h : i < M) : rd (HZ M z) (i : Int) = ((z.count i : Nat) : Int) := by
  rw [rd_nat _ i (by rw [HZ_len]; exact h)]; simp [HZ]
/-- How many columns are free. -/
def frZ (C : Nat) (taken : Int) : Nat := ((List.range C).filter fun j : Nat => !cell taken (j : Int)).length
theorem orZ_ok (C : Nat) (taken : Int) (j : Nat) (hC : C ≤ 6) (h : 0 ≤ taken ∧ taken ≤ 63) (hj : j < C) (hf : cell taken (j : Int) = false) : (0 ≤ orZ taken j ∧ orZ taken j ≤ 63) ∧ frZ C (orZ taken j) + 1 ≤ frZ C taken := by
  have key : ∀ C : Fin 7, ∀ j : Fin 6, ∀ t : Fin 64, j.val < C.val → cell (t.val : Int) (j.val : Int) = false → (0 ≤ orZ (t.val : Int) j.val ∧ orZ (t.val : Int) j.val ≤ 63) ∧ frZ C.val (orZ (t.val : Int) j.val) + 1 ≤ frZ C.val (t.val : Int) := by decide +kernel
  obtain ⟨t, rfl⟩ := fin_of taken 64 h.1 (by omega)
  exact key ⟨C, by omega⟩ ⟨j, by omega⟩ t hj hf
theorem frZ_le (C : Nat) (taken : Int) : frZ C taken ≤ C := by
  unfold frZ
  exact Nat.le_trans (List.length_filter_le _ _) (by simp)
theorem Z_le (C : Nat) (hC : C ≤ 6) : ∀ (t : List Int) (taken : Int), 0 ≤ taken ∧ taken ≤ 63 → ∀ z ∈ Z C t taken, z ≤ t.length ∧ z ≤ frZ C taken
  | [], _, _, z, hz => by simp [Z] at hz; omega
  | m :: t, taken, h, z, hz => by
    simp only [Z, List.mem_flatMap, List.mem_range] at hz
    obtain ⟨i, hi, hz⟩ := hz
    by_cases h0 : i = 0
    · rw [if_pos h0] at hz
      have := Z_le C hC t taken h z hz
      exact ⟨by simp; omega, this.2⟩
    · rw [if_neg h0] at hz
      split at hz
      case isFalse => simp at hz
      case isTrue hc =>
        simp only [Bool.and_eq_true, Bool.not_eq_true'] at hc
        obtain ⟨y, hy, rfl⟩ := List.mem_map.1 hz
        have ho := orZ_ok C taken (i - 1) hC h (by omega) hc.2
        have := Z_le C hC t _ ho.1 y hy
        exact ⟨by simp; omega, by omega⟩
theorem flat_len {α β : Type} (f : α → List β) (b : Nat) : ∀ l : List α, (∀ x ∈ l, (f x).length ≤ b) → (l.flatMap f).length ≤ l.length * b
  | [], _ => by simp
  | x :: t, h => by
    have h1 := h x (by simp)
    have h2 := flat_len f b t (fun y hy => h y (by simp [hy]))
    simp only [List.flatMap_cons, List.length_append, List.length_cons, Nat.succ_mul]
    omega
theorem Z_length (C : Nat) (hC : C ≤ 6) : ∀ (t : List Int) (taken : Int), (Z C t taken).length ≤ 7 ^ t.length
  | [], _ => by simp [Z]
  | m :: t, taken => by
    simp only [Z, List.length_cons]
    refine Nat.le_trans (flat_len _ (7 ^ t.length) _ ?_) ?_
    · intro i _
      by_cases h0 : i = 0
      · rw [if_pos h0]; exact Z_length C hC t taken
      · rw [if_neg h0]
        split
        · rw [List.length_map]; exact Z_length C hC t _
        · simp
    · rw [List.length_range, Nat.pow_succ, Nat.mul_comm]
      exact Nat.mul_le_mul_left _ (by omega)
theorem Z_small (C : Nat) (hC : C ≤ 6) (t : List Int) (taken : Int) (ht : t.length ≤ 6) (k : Nat) : (Z C t taken).count k ≤ 117649 := by
  refine Nat.le_trans List.count_le_length (Nat.le_trans (Z_length C hC t taken) ?_)
  exact Nat.le_trans (Nat.pow_le_pow_right (by omega) ht) (by decide)

theorem count_succ (B : List Nat) (j : Nat) : (B.map (· + 1)).count j = if j = 0 then 0 else B.count (j - 1) := by
  induction B with
  | nil => simp
  | cons x B ih =>
    rw [List.map_cons, List.count_cons, ih, List.count_cons]
    by_cases h : j = 0
    · subst h; simp
    · simp only [h, if_false]
      congr 1
      by_cases h2 : x = j - 1
      · have : x + 1 = j := by omega
        simp [h2, this]; omega
      · have : ¬ x + 1 = j := by omega
        simp [h2, this]
theorem w_l0 (M : Nat) (hM : M ≤ 7) (H : List Int) (hH : H.length = M) (hs : ∀ j, j < M → 0 ≤ rd H (j : Int) ∧ rd H (j : Int) ≤ 117649) (x1 x2 r c : Int) (l : List Int) : ∀ (d i k : Nat) (y : List Int), i + d = M → y.length = M → (∀ j, j < M → rd y (j : Int) = if j < i then rd H (j : Int) else 0) → spec_roWays.l0 (k + (d + 1)) x1 x2 y H (M : Int) (i : Int) r c l = spec_roWays.l1 k x1 x2 H 0 r c l
  | 0, i, k, y, hi, hy, hv => by
    rw [show k + (0 + 1) = k + 1 from rfl, spec_roWays.l0, if_neg (by omega)]
    rw [rd_ext y H (by omega) (fun j hj => by rw [hv j (by omega), if_pos (by omega)])]
  | d + 1, i, k, y, hi, hy, hv => by
    have h0 := hs i (by omega)
    rw [show k + (d + 1 + 1) = (k + (d + 1)) + 1 from rfl, spec_roWays.l0, if_pos (by omega), if_pos (by omega), if_pos (by omega), if_pos (by omega), hv i (by omega), if_neg (by omega), w64 (x := 0 + rd H (i : Int)) (by omega) (by omega), w64 (by omega) (by omega), Int.toNat_natCast, show ((i : Int) + 1) = ((i + 1 : Nat) : Int) from by omega]
    refine w_l0 M hM H hH hs x1 x2 r c l d (i + 1) k _ (by omega) (by simp [hy]) ?_
    intro j hj
    rw [rd_set y i _ j (by omega)]
    by_cases h1 : i = j
    · subst h1; rw [if_pos rfl, if_pos (by omega)]; omega
    · rw [if_neg h1, hv j hj]
      by_cases h2 : j < i
      · rw [if_pos h2, if_pos (by omega)]
      · rw [if_neg h2, if_neg (by omega)]
theorem w_l2 (M : Nat) (hM : M ≤ 7) (A B : List Nat) (hA : ∀ j, A.count j ≤ 1000000) (hB : ∀ j, B.count j ≤ 117649) (hb : ∀ z ∈ B, z + 1 < M) (x1 x2 x10 r c : Int) (l : List Int) : ∀ (d i k : Nat) (y : List Int), i + d = M → y.length = M → (∀ j, j < M → rd y (j : Int) = ((A.count j : Nat) : Int) + (if 1 ≤ j ∧ j ≤ i then ((B.count (j - 1) : Nat) : Int) else 0)) → spec_roWays.l2 (k + (d + 1)) x1 x2 y x10 (HZ M B) (M : Int) (i : Int) r c l = spec_roWays.l1 k x1 x2 (HZ M (A ++ B.map (· + 1))) (wrap64 (x10 + 1)) r c l
  | 0, i, k, y, hi, hy, hv => by
    rw [show k + (0 + 1) = k + 1 from rfl, spec_roWays.l2, if_neg (by omega)]
    rw [rd_ext y (HZ M (A ++ B.map (· + 1))) (by rw [HZ_len]; omega) (fun j hj => by
      rw [hv j (by omega), HZ_rd _ _ j (by omega), List.count_append, count_succ]
      by_cases h0 : j = 0
      · rw [if_neg (by omega), if_pos h0]; omega
      · rw [if_pos (by omega), if_neg h0]; omega)]
  | d + 1, i, k, y, hi, hy, hv => by
    rw [show k + (d + 1 + 1) = (k + (d + 1)) + 1 from rfl, spec_roWays.l2, if_pos (by omega), if_pos (by omega), if_pos (by rw [HZ_len]; omega), HZ_rd _ _ i (by omega)]
    have hBi := hB i
    by_cases hp : ((B.count i : Nat) : Int) > 0
    · have hi1 : i + 1 < M := hb i (List.count_pos_iff.1 (by omega))
      have hAi := hA (i + 1)
      rw [if_pos hp, w64 (x := (i : Int) + 1) (by omega) (by omega), if_pos (by omega), if_pos (by omega), show ((i : Int) + 1) = ((i + 1 : Nat) : Int) from by omega, hv (i + 1) hi1, if_neg (by omega), w64 (by omega) (by omega), Int.toNat_natCast]
      refine w_l2 M hM A B hA hB hb x1 x2 x10 r c l d (i + 1) k _ (by omega) (by simp [hy]) ?_
      intro j hj
      rw [rd_set y (i + 1) _ j (by omega)]
      by_cases h1 : i + 1 = j
      · subst h1; rw [if_pos rfl, if_pos (by omega), Nat.add_sub_cancel]; omega
      · rw [if_neg h1, hv j hj]
        by_cases h2 : 1 ≤ j ∧ j ≤ i
        · rw [if_pos h2, if_pos (by omega)]
        · rw [if_neg h2, if_neg (by omega)]
    · rw [if_neg hp, w64 (by omega) (by omega), show ((i : Int) + 1) = ((i + 1 : Nat) : Int) from by omega]
      refine w_l2 M hM A B hA hB hb x1 x2 x10 r c l d (i + 1) k _ (by omega) hy ?_
      intro j hj
      rw [hv j hj]
      by_cases h2 : 1 ≤ j ∧ j ≤ i
      · rw [if_pos h2, if_pos (by omega)]
      · by_cases h3 : j = i + 1
        · subst h3; rw [if_neg h2, if_pos (by omega), Nat.add_sub_cancel]; omega
        · rw [if_neg h2, if_neg (by omega)]
/-- What the placements are whose row m holds no rook, or one in a column below j. -/
def candZ (C : Nat) (m : Int) (t : List Int) (taken : Int) (i : Nat) : List Nat := if i = 0 then Z C t taken else if cell m ((i - 1 : Nat) : Int) && !cell taken ((i - 1 : Nat) : Int) then (Z C t (orZ taken (i - 1))).map (· + 1) else []
theorem candZ_len (C : Nat) (hC : C ≤ 6) (m : Int) (t : List Int) (taken : Int) (ht : t.length ≤ 5) (i : Nat) : (candZ C m t taken i).length ≤ 16807 := by
  have hp : 7 ^ t.length ≤ 16807 := Nat.le_trans (Nat.pow_le_pow_right (by omega) ht) (by decide)
  unfold candZ
  by_cases h0 : i = 0
  · rw [if_pos h0]; exact Nat.le_trans (Z_length C hC t taken) hp
  · rw [if_neg h0]
    split
    · rw [List.length_map]; exact Nat.le_trans (Z_length C hC t _) hp
    · simp
/-- A board's bounds, where there may be no rows or columns. -/
def WB (r c : Int) (l : List Int) : Prop := (0 ≤ r ∧ r ≤ 6) ∧ (0 ≤ c ∧ c ≤ 6) ∧ (l.length : Int) = r ∧ ∀ x ∈ l, 0 ≤ x ∧ x ≤ 63
theorem wb_of {r c : Int} {l : List Int} (h : GoodB r c l) : WB r c l := ⟨⟨by have := h.1; omega, h.1.2⟩, ⟨by have := h.2.1; omega, h.2.1.2⟩, h.2.2.1, goodB_le h⟩
theorem e_boHasW (r c : Int) (l : List Int) (i j : Int) (h : WB r c l) (hp : (0 ≤ i ∧ i < r) ∧ (0 ≤ j ∧ j ≤ 6)) : spec_boHas.f r c l i j = some (cell (rd l i) j) := by
  unfold spec_boHas.f
  have h3 := h.2.2.1
  have hm := h.2.2.2 (rd l i) (rd_mem l i (by omega) (by omega))
  rw [if_pos (by omega), if_pos (by omega), if_pos (by omega), cell_spec _ _ hm (by omega)]
theorem e_roWaysW (r c : Int) (l : List Int) (h : WB r c l) (C M : Nat) (hC : (C : Int) = c) (hM : (M : Int) = min r c + 1) : ∀ (t : List Int) (row : Nat) (taken : Int) (k : Nat), l.drop row = t → row ≤ l.length → 0 ≤ taken ∧ taken ≤ 63 → 100 * t.length + 100 ≤ k → spec_roWays.f k r c l (row : Int) taken = some (HZ M (Z C t taken)) := by
  have h1 := h.1; have h2 := h.2.1; have h3 := h.2.2.1
  have hl : l.length ≤ 6 := by omega
  intro t
  induction t with
  | nil =>
    intro row taken k ht hrow htk hk
    have hrl : row = l.length := by
      have := congrArg List.length ht
      simp at this; omega
    obtain ⟨k, rfl⟩ : ∃ n, k = n + 1 := ⟨k - 1, by omega⟩
    rw [spec_roWays.f]
    unfold spec_l1Least.f
    have e1 : (if r < c then some r else some c) = some (min r c) := by split <;> (congr 1; omega)
    rw [e1]
    simp only [Option.bind_some]
    rw [w64 (by omega) (by omega), ← hM, if_pos (by omega), if_pos (by omega)]
    rw [if_pos (by omega), if_pos (by simp; omega), Int.toNat_natCast]
    congr 1
    refine rd_ext _ _ (by simp [HZ_len]) ?_
    intro j hj
    simp at hj
    rw [show (0 : Int).toNat = 0 from rfl, rd_set _ 0 _ j (by simpa using (by omega : 0 < M)), HZ_rd _ _ j hj]
    by_cases h0 : 0 = j
    · subst h0; simp [Z]
    · rw [if_neg h0, rd_nat _ j (by simpa using hj)]
      have h9 : List.count j [0] = 0 := List.count_eq_zero.2 (by simp; omega)
      simp [Z, h9]
  | cons m t ih =>
    intro row taken k ht hrow htk hk
    have hlt : row < l.length := by
      have := congrArg List.length ht
      simp at this; omega
    have hd := List.drop_eq_getElem_cons hlt
    rw [ht] at hd
    injection hd with hm ht'
    simp only [List.length_cons] at hk
    have htl : t.length = l.length - (row + 1) := by rw [ht']; simp
    obtain ⟨k, rfl⟩ : ∃ n, k = n + 1 := ⟨k - 1, by omega⟩
    rw [spec_roWays.f]
    unfold spec_l1Least.f
    have e1 : (if r < c then some r else some c) = some (min r c) := by split <;> (congr 1; omega)
    rw [e1]
    simp only [Option.bind_some]
    rw [w64 (by omega) (by omega), ← hM, if_pos (by omega), if_pos (by omega)]
    rw [if_neg (by omega), w64 (x := (row : Int) + 1) (by omega) (by omega), show ((row : Int) + 1) = ((row + 1 : Nat) : Int) from by omega, Int.toNat_natCast]
    rw [ih (row + 1) taken k ht'.symm (by omega) htk (by omega)]
    simp only [Option.bind_some]
    obtain ⟨k, rfl⟩ : ∃ n, k = n + (M + 1) := ⟨k - (M + 1), by omega⟩
    have hzs : ∀ (tk : Int) (j : Nat), (Z C t tk).count j ≤ 117649 := fun tk j => Z_small C (by omega) t tk (by omega) j
    have hw0 := w_l0 M (by omega) (HZ M (Z C t taken)) (HZ_len _ _) (fun j hj => by rw [HZ_rd _ _ j hj]; have := hzs taken j; omega) (row : Int) taken r c l M 0 k (List.replicate M 0) (by omega) (by simp) (fun j hj => by rw [rd_nat _ j (by simpa using hj)]; simp)
    rw [show ((0 : Nat) : Int) = 0 from rfl] at hw0
    rw [HZ_len, hw0]
    have hcz : Z C (m :: t) taken = (List.range (C + 1)).flatMap (candZ C m t taken) := rfl
    have hm63 := h.2.2.2 m (by rw [hm]; exact List.getElem_mem _)
    have loop : ∀ (d j k : Nat), j + d = C → 100 * t.length + 100 + d * 12 + 1 ≤ k → spec_roWays.l1 k (row : Int) taken (HZ M ((List.range (j + 1)).flatMap (candZ C m t taken))) (j : Int) r c l = some (HZ M (Z C (m :: t) taken)) := by
      intro d
      induction d with
      | zero =>
        intro j k hj hk
        obtain ⟨k, rfl⟩ : ∃ n, k = n + 1 := ⟨k - 1, by omega⟩
        rw [spec_roWays.l1, if_neg (by omega), hcz, show j = C from by omega]
      | succ d ihd =>
        intro j k hj hk
        obtain ⟨k, rfl⟩ : ∃ n, k = n + 1 + 1 := ⟨k - 2, by omega⟩
        have hjC : j < C := by omega
        rw [spec_roWays.l1, if_pos (by omega), e_boHasW r c l (row : Int) (j : Int) h ⟨by omega, by omega⟩, rd_nat l row hlt, ← hm]
        simp only [Option.bind_some]
        have hcd : candZ C m t taken (j + 1) = if cell m (j : Int) && !cell taken (j : Int) then (Z C t (orZ taken j)).map (· + 1) else [] := by unfold candZ; rw [if_neg (by omega)]; simp
        have hrg : (List.range (j + 1 + 1)).flatMap (candZ C m t taken) = (List.range (j + 1)).flatMap (candZ C m t taken) ++ candZ C m t taken (j + 1) := by rw [List.range_succ (n := j + 1), List.flatMap_append]; simp
        have skip : (cell m (j : Int) && !cell taken (j : Int)) = false → spec_roWays.l1 k (row : Int) taken (HZ M ((List.range (j + 1)).flatMap (candZ C m t taken))) (wrap64 ((j : Int) + 1)) r c l = some (HZ M (Z C (m :: t) taken)) := by
          intro hf
          have := ihd (j + 1) k (by omega) (by omega)
          rw [hrg, hcd, hf] at this
          simp only [Bool.false_eq_true, if_false, List.append_nil] at this
          rw [w64 (by omega) (by omega), show ((j : Int) + 1) = ((j + 1 : Nat) : Int) from by omega]
          exact this
        by_cases hc1 : cell m (j : Int) = true
        · rw [if_pos hc1, if_pos (by omega), cell_spec taken (j : Int) (by omega) (by omega), spec_roWays.j2]
          by_cases hc2 : cell taken (j : Int) = true
          · rw [if_pos hc2]
            exact skip (by rw [hc1, hc2]; rfl)
          · have hc2' := Bool.eq_false_iff.2 hc2
            have ho := orZ_ok C taken j (by omega) htk hjC hc2'
            have hfl := frZ_le C taken
            rw [if_neg hc2, if_pos (by omega), w64 (x := (row : Int) + 1) (by omega) (by omega), show ((row : Int) + 1) = ((row + 1 : Nat) : Int) from by omega, show Go.bits .or .i64 taken (shl .i64 1 (j : Int)) = orZ taken j from rfl]
            rw [ih (row + 1) (orZ taken j) k ht'.symm (by omega) ho.1 (by omega)]
            simp only [Option.bind_some]
            obtain ⟨k, rfl⟩ : ∃ n, k = n + (M + 1) := ⟨k - (M + 1), by omega⟩
            have hAs : ∀ i, ((List.range (j + 1)).flatMap (candZ C m t taken)).count i ≤ 1000000 := fun i => by
              have h7 := flat_len (candZ C m t taken) 16807 (List.range (j + 1)) (fun x _ => candZ_len C (by omega) m t taken (by omega) x)
              rw [List.length_range] at h7
              have := List.count_le_length (a := i) (l := (List.range (j + 1)).flatMap (candZ C m t taken))
              omega
            have hw2 := w_l2 M (by omega) ((List.range (j + 1)).flatMap (candZ C m t taken)) (Z C t (orZ taken j)) hAs (hzs _) (fun z hz => by
              have := Z_le C (by omega) t (orZ taken j) ho.1 z hz
              omega) (row : Int) taken (j : Int) r c l M 0 k (HZ M ((List.range (j + 1)).flatMap (candZ C m t taken))) (by omega) (HZ_len _ _) (fun i hi => by rw [HZ_rd _ _ i hi, if_neg (by omega)]; omega)
            rw [show ((0 : Nat) : Int) = 0 from rfl] at hw2
            rw [HZ_len, hw2]
            have := ihd (j + 1) k (by omega) (by omega)
            rw [hrg, hcd, hc1, hc2'] at this
            rw [w64 (by omega) (by omega), show ((j : Int) + 1) = ((j + 1 : Nat) : Int) from by omega]
            simpa using this
        · rw [if_neg hc1, spec_roWays.j2, if_pos rfl]
          exact skip (by rw [Bool.eq_false_iff.2 hc1]; rfl)
    have := loop C 0 k (by omega) (by omega)
    simpa [candZ] using this
theorem e_roWays (r c : Int) (l : List Int) (h : GoodB r c l) (C M : Nat) (hC : (C : Int) = c) (hM : (M : Int) = min r c + 1) : ∀ (t : List Int) (row : Nat) (taken : Int) (k : Nat), l.drop row = t → row ≤ l.length → 0 ≤ taken ∧ taken ≤ 63 → 100 * t.length + 100 ≤ k → spec_roWays.f k r c l (row : Int) taken = some (HZ M (Z C t taken)) := e_roWaysW r c l (wb_of h) C M hC hM

theorem HZ_nil (M : Nat) : HZ M [] = List.replicate M 0 := by
  refine rd_ext _ _ (by simp [HZ_len]) ?_
  intro j hj
  rw [HZ_len] at hj
  rw [HZ_rd _ _ j hj, rd_nat _ j (by simpa using hj)]; simp
/-- A board's bounds. -/
def Nice (r c : Int) (l : List Int) : Prop := (1 ≤ r ∧ r ≤ 6) ∧ (1 ≤ c ∧ c ≤ 6) ∧ (l.length : Int) = r ∧ ∀ x ∈ l, 0 ≤ x ∧ x ≤ 63
/-- The rook numbers. -/
def numsL (r c : Int) (l : List Int) : List Int := HZ (min r c + 1).toNat (Z c.toNat l 0)
theorem Z_ltN (r c : Int) (l : List Int) (h : Nice r c l) : ∀ z ∈ Z c.toNat l 0, z < (min r c + 1).toNat := by
  intro z hz
  have h1 := h.1; have h2 := h.2.1; have h3 := h.2.2.1
  have := Z_le c.toNat (by omega) l 0 (by omega) z hz
  have := frZ_le c.toNat 0
  omega
theorem numsL_lenN (r c : Int) (l : List Int) (h : Nice r c l) : (numsL r c l).length ≤ 7 := by
  have h1 := h.1; have h2 := h.2.1
  unfold numsL; rw [HZ_len]; omega

theorem nice_of {r c : Int} {l : List Int} (h : GoodB r c l) : Nice r c l := ⟨h.1, h.2.1, h.2.2.1, goodB_le h⟩
theorem numsL_len (r c : Int) (l : List Int) (h : GoodB r c l) : (numsL r c l).length ≤ 7 := numsL_lenN r c l (nice_of h)
theorem e_roNumbers (k : Nat) (r c : Int) (l : List Int) (h : GoodB r c l) (hk : 1000 ≤ k) : spec_roNumbers.f k r c l = some (numsL r c l) := by
  have h1 := h.1; have h2 := h.2.1; have h3 := h.2.2.1
  have hl := goodB_len h
  unfold spec_roNumbers.f
  have := e_roWays r c l h c.toNat (min r c + 1).toNat (by omega) (by omega) l 0 0 k rfl (by omega) (by omega) (by omega)
  rw [show ((0 : Nat) : Int) = 0 from rfl] at this
  rw [this]; rfl
theorem e_roNumbersW (k : Nat) (r c : Int) (l : List Int) (h : WB r c l) (hk : 1000 ≤ k) : spec_roNumbers.f k r c l = some (numsL r c l) := by
  have h1 := h.1; have h2 := h.2.1; have h3 := h.2.2.1
  unfold spec_roNumbers.f
  have := e_roWaysW r c l h c.toNat (min r c + 1).toNat (by omega) (by omega) l 0 0 k rfl (by omega) (by omega) (by omega)
  rw [show ((0 : Nat) : Int) = 0 from rfl] at this
  rw [this]; rfl

theorem cntR_snoc : ∀ (a : List Int) (v : Int), cntR (a ++ [v]) = cntR a + (if v = -1 then 0 else 1)
  | [], v => by simp [cntR]
  | x :: a, v => by simp only [List.cons_append, cntR, cntR_snoc a v]; omega
theorem okC_cell (m taken : Int) (j : Nat) (hm : 0 ≤ m ∧ m ≤ 63) (ht : 0 ≤ taken ∧ taken ≤ 63) (hj : j ≤ 6) : okC m taken j = (cell m (j : Int) && !cell taken (j : Int)) := by
  unfold okC
  rw [cell_impl m (j : Int) hm (by omega), cell_impl taken (j : Int) ht (by omega)]
theorem flatMap_map_eq {α β : Type} (f : α → List (List Int)) (g : α → List Nat) (u : List Int → β) (v : Nat → β) : ∀ l : List α, (∀ x ∈ l, (f x).map u = (g x).map v) → (l.flatMap f).map u = (l.flatMap g).map v
  | [], _ => rfl
  | x :: l, h => by
    simp only [List.flatMap_cons, List.map_append, h x (by simp), flatMap_map_eq f g u v l (fun y hy => h y (by simp [hy]))]
theorem plc_Z (C : Nat) (hC : C ≤ 6) : ∀ (t : List Int) (taken : Int) (acc : List Int), (∀ x ∈ t, 0 ≤ x ∧ x ≤ 63) → 0 ≤ taken ∧ taken ≤ 63 → (plc C t taken acc).map cntR = (Z C t taken).map fun z : Nat => cntR acc + (z : Int)
  | [], taken, acc, _, _ => by simp [plc, Z]
  | m :: t, taken, acc, hm, ht => by
    simp only [plc, Z]
    refine flatMap_map_eq _ _ _ _ _ ?_
    intro i hi
    have hi := List.mem_range.1 hi
    by_cases h0 : i = 0
    · rw [if_pos h0, if_pos h0, plc_Z C hC t taken _ (fun x hx => hm x (by simp [hx])) ht, cntR_snoc]; simp
    · rw [if_neg h0, if_neg h0, okC_cell m taken (i - 1) (hm m (by simp)) ht (by omega)]
      by_cases hc : (cell m ((i - 1 : Nat) : Int) && !cell taken ((i - 1 : Nat) : Int)) = true
      · rw [if_pos hc, if_pos hc]
        simp only [Bool.and_eq_true, Bool.not_eq_true'] at hc
        have ho := orZ_ok C taken (i - 1) hC ht (by omega) hc.2
        rw [show orC taken (i - 1) = orZ taken (i - 1) from rfl, plc_Z C hC t _ _ (fun x hx => hm x (by simp [hx])) ho.1, cntR_snoc, List.map_map, if_neg (by omega)]
        refine List.map_congr_left ?_
        intro z _
        simp only [Function.comp]; omega
      · rw [if_neg hc, if_neg hc]; rfl

theorem bump_H (M : Nat) : ∀ (L : List (List Int)) (zs z0 : List Nat), L.map cntR = zs.map (fun z : Nat => (z : Int)) → (∀ z ∈ zs, z < M) → z0.length + zs.length ≤ 1000000 → L.foldl bumpN (HZ M z0) = HZ M (z0 ++ zs)
  | [], zs, z0, h, _, _ => by
    have : zs = [] := by
      have := congrArg List.length h
      simp at this; exact List.eq_nil_of_length_eq_zero this.symm
    subst this; simp
  | q :: L, [], z0, h, _, _ => by simp at h
  | q :: L, z :: zs, z0, h, hz, hl => by
    simp only [List.map_cons, List.cons.injEq] at h
    have hzM := hz z (by simp)
    simp only [List.length_cons] at hl
    have hcl := List.count_le_length (a := z) (l := z0)
    have e : bumpN (HZ M z0) q = HZ M (z0 ++ [z]) := by
      unfold bumpN
      rw [h.1, Int.toNat_natCast, HZ_rd M z0 z hzM, w64 (by omega) (by omega)]
      refine rd_ext _ _ (by simp [HZ_len]) ?_
      intro j hj
      rw [List.length_set, HZ_len] at hj
      rw [rd_set _ z _ j (by rw [HZ_len]; exact hzM), HZ_rd _ _ j hj, HZ_rd _ _ j hj, List.count_append, List.count_singleton]
      by_cases hzj : z = j
      · subst hzj; simp
      · rw [if_neg hzj]; simp [hzj]
    rw [List.foldl_cons, e, bump_H M L zs (z0 ++ [z]) h.2 (fun y hy => hz y (by simp [hy])) (by simp; omega)]
    simp
theorem i_numbersN (r c : Int) (l : List Int) (h : Nice r c l) : impl_Board_numbers.f r c l = some (numsL r c l) := by
  have h1 := h.1; have h2 := h.2.1; have h3 := h.2.2.1
  have hl : l.length ≤ 6 := by omega
  have hp := plc_Z c.toNat (by omega) l 0 [] h.2.2.2 (by omega)
  have hzl := Z_length c.toNat (by omega) l 0
  have h7 : 7 ^ l.length ≤ 117649 := Nat.le_trans (Nat.pow_le_pow_right (by omega) hl) (by decide)
  simp only [cntR, Int.zero_add] at hp
  unfold impl_Board_numbers.f
  rw [if_pos]
  · congr 1
    rw [← HZ_nil, bump_H _ _ (Z c.toNat l 0) [] hp (Z_ltN r c l h) (by simp; omega)]
    rfl
  · refine ⟨by omega, by omega, by omega, by omega, h3, ?_⟩
    rw [List.all_eq_true]
    intro x hx
    have : cntR x ∈ (plc c.toNat l 0 []).map cntR := List.mem_map.2 ⟨x, hx, rfl⟩
    rw [hp] at this
    obtain ⟨z, hz, e⟩ := List.mem_map.1 this
    have := Z_ltN r c l h z hz
    exact decide_eq_true (by omega)

theorem i_numbers (r c : Int) (l : List Int) (h : GoodB r c l) : impl_Board_numbers.f r c l = some (numsL r c l) := i_numbersN r c l (nice_of h)

theorem e_l1In (a b c : Int) : spec_l1In.f a b c = some (decide (b ≤ a ∧ a ≤ c)) := by
  unfold spec_l1In.f
  by_cases h : b ≤ a
  · rw [if_pos h]; simp [h]
  · rw [if_neg h]; simp [h]

theorem e_l1All_l0 (lo hi : Int) (l : List Int) (hl : l.length ≤ 2000000) : ∀ (d i k : Nat), i + d = l.length → d < k →
    spec_l1All.l0 k lo hi l (l.length : Int) (i : Int) = some (decide (∀ x ∈ l.drop i, lo ≤ x ∧ x ≤ hi)) := by
  intro d
  induction d with
  | zero =>
    intro i k hi' hk
    obtain ⟨k, rfl⟩ : ∃ m, k = m + 1 := ⟨k - 1, by omega⟩
    simp only [spec_l1All.l0]; rw [if_neg (by omega), List.drop_eq_nil_of_le (by omega)]; simp
  | succ d ih =>
    intro i k hi' hk
    obtain ⟨k, rfl⟩ : ∃ m, k = m + 1 := ⟨k - 1, by omega⟩
    have hlt : i < l.length := by omega
    simp only [spec_l1All.l0]
    rw [if_pos (by omega), if_pos (by omega), if_pos (by omega), e_l1In, rd_nat l i hlt, List.drop_eq_getElem_cons hlt, w64 (by omega) (by omega)]
    simp only [Option.bind_some, decide_eq_true_eq, List.forall_mem_cons]
    by_cases h : lo ≤ l[i] ∧ l[i] ≤ hi
    · rw [if_pos h]
      have := ih (i + 1) k (by omega) (by omega)
      rw [show ((i : Int) + 1) = ((i + 1 : Nat) : Int) from by omega, this]; simp [h]
    · rw [if_neg h]; simp [h]
theorem e_l1All (k : Nat) (l : List Int) (lo hi : Int) (hl : l.length ≤ 2000000) (hk : l.length < k) : spec_l1All.f k l lo hi = some (decide (∀ x ∈ l, lo ≤ x ∧ x ≤ hi)) := by
  unfold spec_l1All.f; exact e_l1All_l0 lo hi l hl l.length 0 k (by omega) hk

theorem e_boSide (a : Int) : spec_boSide.f a = some (decide (1 ≤ a ∧ a ≤ 6)) := by
  unfold spec_boSide.f; rw [e_l1In]; rfl

theorem sh1 (a : Int) (h : 1 ≤ a ∧ a ≤ 6) : wrap64 (shl .i64 1 a - 1) = 2 ^ a.toNat - 1 := by
  obtain ⟨h0, h1⟩ := h
  obtain h | h | h | h | h | h : a = 1 ∨ a = 2 ∨ a = 3 ∨ a = 4 ∨ a = 5 ∨ a = 6 := by omega
  all_goals (subst h; decide +kernel)
theorem e_boGood (k : Nat) (r c : Int) (l : List Int) (hl : l.length ≤ 2000000) (hk : l.length < k) : spec_boGood.f k r c l = some (decide (GoodB r c l)) := by
  unfold spec_boGood.f
  rw [e_boSide, e_boSide]
  simp only [Option.bind_some, decide_eq_true_eq]
  by_cases h0 : 1 ≤ r ∧ r ≤ 6
  · by_cases h1 : 1 ≤ c ∧ c ≤ 6
    · by_cases h2 : (l.length : Int) = r
      · rw [if_pos h0, if_pos h1, if_pos h2, if_pos (by omega), sh1 c h1, e_l1All k l _ _ hl hk]
        simp [GoodB, h0, h1, h2]
      · rw [if_pos h0, if_pos h1, if_neg h2]; simp [GoodB, h2]
    · rw [if_pos h0, if_neg h1]; simp [GoodB, h1]
  · rw [if_neg h0]; simp [GoodB, h0]

theorem e_roSquare (k : Nat) (r c : Int) (l : List Int) (hl : l.length ≤ 2000000) (hk : l.length < k) : spec_roSquare.f k r c l = some (decide (GoodB r c l ∧ r = c)) := by
  unfold spec_roSquare.f
  rw [e_boGood k r c l hl hk]
  simp only [Option.bind_some, Bool.decide_and]
  generalize decide (GoodB r c l) = p
  cases p <;> simp
  exact (Bool.beq_eq_decide_eq r c)

theorem i_isSquare (r c : Int) (l : List Int) : impl_isSquare.f r c l = some (decide (GoodB r c l ∧ r = c)) := by
  unfold impl_isSquare.f
  rw [i_IsBoard]
  simp only [Option.bind_some, Bool.decide_and]
  generalize decide (GoodB r c l) = p
  cases p <;> simp
  exact (Bool.beq_eq_decide_eq r c)

theorem e_within (a b c : Int) : impl_within.f a b c = some (decide (b ≤ a ∧ a ≤ c)) := by
  unfold impl_within.f
  by_cases h : b ≤ a
  · rw [if_pos h]; simp [h]
  · rw [if_neg h]; simp [h]

theorem i_isPoint (a : Int) : impl_isPoint.f a = some (decide (-20 ≤ a ∧ a ≤ 20)) := by
  unfold impl_isPoint.f
  rw [e_within]; rfl

theorem fall_loop (x : Int) (n : Nat) (hn : n ≤ 100) : ∀ (d i k k' : Nat) (a : Int), i + d = n → d < k → d < k' → ∃ v, spec_roFalling.l0 k x (n : Int) a (i : Int) = some v ∧ impl_falling.l0 k' x a (n : Int) (i : Int) = some v := by
  intro d
  induction d with
  | zero =>
    intro i k k' a hi hk hk'
    obtain ⟨k, rfl⟩ : ∃ m, k = m + 1 := ⟨k - 1, by omega⟩
    obtain ⟨k', rfl⟩ : ∃ m, k' = m + 1 := ⟨k' - 1, by omega⟩
    rw [spec_roFalling.l0, impl_falling.l0, if_neg (by omega), if_neg (by omega)]
    exact ⟨_, rfl, rfl⟩
  | succ d ih =>
    intro i k k' a hi hk hk'
    obtain ⟨k, rfl⟩ : ∃ m, k = m + 1 := ⟨k - 1, by omega⟩
    obtain ⟨k', rfl⟩ : ∃ m, k' = m + 1 := ⟨k' - 1, by omega⟩
    rw [spec_roFalling.l0, impl_falling.l0, if_pos (by omega), if_pos (by omega), w64 (x := (i : Int) + 1) (by omega) (by omega), show ((i : Int) + 1) = ((i + 1 : Nat) : Int) from by omega]
    exact ih (i + 1) k k' _ (by omega) (by omega) (by omega)
theorem fall_both (x : Int) (n : Nat) (k k' : Nat) (hn : n ≤ 100) (hk : 200 ≤ k) (hk' : 200 ≤ k') : ∃ v, spec_roFalling.f k x (n : Int) = some v ∧ impl_falling.f k' x (n : Int) = some v := by
  unfold spec_roFalling.f impl_falling.f
  exact fall_loop x n hn n 0 k k' 1 (by omega) (by omega) (by omega)

theorem fact_loop (x1 r c : Int) (l v : List Int) (hv : (v.length : Int) = r + 1) (hr : 1 ≤ r ∧ r ≤ 6) : ∀ (d i k k' : Nat) (a : Int), i + d = v.length → d + 500 < k → d + 500 < k' → ∃ o, spec_FactorialAt.l0 k x1 a v (v.length : Int) (i : Int) r c l = some o ∧ impl_FactorialAt.l0 k' x1 a v (v.length : Int) (i : Int) r c l = some o := by
  intro d
  induction d with
  | zero =>
    intro i k k' a hi hk hk'
    obtain ⟨k, rfl⟩ : ∃ m, k = m + 1 := ⟨k - 1, by omega⟩
    obtain ⟨k', rfl⟩ : ∃ m, k' = m + 1 := ⟨k' - 1, by omega⟩
    rw [spec_FactorialAt.l0, impl_FactorialAt.l0, if_neg (by omega), if_neg (by omega)]
    exact ⟨_, rfl, rfl⟩
  | succ d ih =>
    intro i k k' a hi hk hk'
    obtain ⟨k, rfl⟩ : ∃ m, k = m + 1 := ⟨k - 1, by omega⟩
    obtain ⟨k', rfl⟩ : ∃ m, k' = m + 1 := ⟨k' - 1, by omega⟩
    rw [spec_FactorialAt.l0, impl_FactorialAt.l0, if_pos (by omega), if_pos (by omega), if_pos (by omega), if_pos (by omega), if_pos (by omega), if_pos (by omega), w64 (x := (i : Int) + 1) (by omega) (by omega), w64 (x := r - (i : Int)) (by omega) (by omega), show ((i : Int) + 1) = ((i + 1 : Nat) : Int) from by omega, show r - (i : Int) = ((r.toNat - i : Nat) : Int) from by omega]
    obtain ⟨f, h1, h2⟩ := fall_both x1 (r.toNat - i) k k' (by omega) (by omega) (by omega)
    rw [h1, h2]
    simp only [Option.bind_some]
    exact ih (i + 1) k k' _ (by omega) (by omega) (by omega)
theorem both_FactorialAt (k k' : Nat) (r c : Int) (l : List Int) (a : Int) (hk : 2000000 ≤ k) (hk' : 2000000 ≤ k') (hl : l.length ≤ 1048576) : ∃ o, spec_FactorialAt.f k r c l a = some o ∧ impl_FactorialAt.f k' r c l a = some o := by
  unfold spec_FactorialAt.f impl_FactorialAt.f
  rw [e_roSquare k r c l (by omega) (by omega), i_isSquare]
  simp only [Option.bind_some]
  obtain ⟨k, rfl⟩ : ∃ m, k = m + 1 := ⟨k - 1, by omega⟩
  obtain ⟨k', rfl⟩ : ∃ m, k' = m + 1 := ⟨k' - 1, by omega⟩
  by_cases h : GoodB r c l ∧ r = c
  · obtain ⟨h, e⟩ := h
    subst e
    have h1 := h.1
    have hn : ((numsL r r l).length : Int) = r + 1 := by unfold numsL; rw [HZ_len]; omega
    rw [if_pos (decide_eq_true ⟨h, rfl⟩), if_pos (decide_eq_true ⟨h, rfl⟩), e_l1In, i_isPoint]
    simp only [Option.bind_some]
    rw [spec_FactorialAt.j0, impl_FactorialAt.j0]
    by_cases hp : (-20 ≤ a ∧ a ≤ 20)
    · rw [if_neg (by simpa using hp), if_neg (by simpa using hp), e_roNumbers k r r l h (by omega), i_numbers r r l h]
      simp only [Option.bind_some]
      exact fact_loop a r r l (numsL r r l) hn h1 (numsL r r l).length 0 k k' 0 (by omega) (by omega) (by omega)
    · rw [if_pos (by simp [hp]), if_pos (by simp [hp])]
      exact ⟨_, rfl, rfl⟩
  · rw [if_neg (by simpa using h), if_neg (by simpa using h), spec_FactorialAt.j0, impl_FactorialAt.j0, if_pos rfl, if_pos rfl]
    exact ⟨_, rfl, rfl⟩

theorem poly_loop (x1 : Int) (v : List Int) (hv : v.length ≤ 100) : ∀ (d i k k' : Nat) (a b : Int), i + d = v.length → d < k → d < k' → ∃ o, spec_RookPolynomialAt.l0 k x1 a b v (v.length : Int) (i : Int) = some o ∧ impl_RookPolynomialAt.l0 k' x1 a b v (v.length : Int) (i : Int) = some o := by
  intro d
  induction d with
  | zero =>
    intro i k k' a b hi hk hk'
    obtain ⟨k, rfl⟩ : ∃ m, k = m + 1 := ⟨k - 1, by omega⟩
    obtain ⟨k', rfl⟩ : ∃ m, k' = m + 1 := ⟨k' - 1, by omega⟩
    rw [spec_RookPolynomialAt.l0, impl_RookPolynomialAt.l0, if_neg (by omega), if_neg (by omega)]
    exact ⟨_, rfl, rfl⟩
  | succ d ih =>
    intro i k k' a b hi hk hk'
    obtain ⟨k, rfl⟩ : ∃ m, k = m + 1 := ⟨k - 1, by omega⟩
    obtain ⟨k', rfl⟩ : ∃ m, k' = m + 1 := ⟨k' - 1, by omega⟩
    rw [spec_RookPolynomialAt.l0, impl_RookPolynomialAt.l0, if_pos (by omega), if_pos (by omega), if_pos (by omega), if_pos (by omega), if_pos (by omega), if_pos (by omega), w64 (x := (i : Int) + 1) (by omega) (by omega), show ((i : Int) + 1) = ((i + 1 : Nat) : Int) from by omega]
    exact ih (i + 1) k k' _ _ (by omega) (by omega) (by omega)
theorem both_RookPolynomialAt (k k' : Nat) (r c : Int) (l : List Int) (a : Int) (hk : 2000000 ≤ k) (hk' : 2000000 ≤ k') (hl : l.length ≤ 1048576) : ∃ o, spec_RookPolynomialAt.f k r c l a = some o ∧ impl_RookPolynomialAt.f k' r c l a = some o := by
  unfold spec_RookPolynomialAt.f impl_RookPolynomialAt.f
  rw [e_boGood k r c l (by omega) (by omega), i_IsBoard]
  simp only [Option.bind_some]
  obtain ⟨k, rfl⟩ : ∃ m, k = m + 1 := ⟨k - 1, by omega⟩
  obtain ⟨k', rfl⟩ : ∃ m, k' = m + 1 := ⟨k' - 1, by omega⟩
  by_cases h : GoodB r c l
  · have hn := numsL_len r c l h
    rw [if_pos (decide_eq_true h), if_pos (decide_eq_true h), e_l1In, i_isPoint]
    simp only [Option.bind_some]
    rw [spec_RookPolynomialAt.j0, impl_RookPolynomialAt.j0]
    by_cases hp : (-20 ≤ a ∧ a ≤ 20)
    · rw [if_neg (by simpa using hp), if_neg (by simpa using hp), e_roNumbers k r c l h (by omega), i_numbers r c l h]
      simp only [Option.bind_some]
      exact poly_loop a (numsL r c l) (by omega) (numsL r c l).length 0 k k' 0 1 (by omega) (by omega) (by omega)
    · rw [if_pos (by simp [hp]), if_pos (by simp [hp])]
      exact ⟨_, rfl, rfl⟩
  · rw [if_neg (by simpa using h), if_neg (by simpa using h), spec_RookPolynomialAt.j0, impl_RookPolynomialAt.j0, if_pos rfl, if_pos rfl]
    exact ⟨_, rfl, rfl⟩

theorem both_PermanentOf (k : Nat) (r c : Int) (l : List Int) (hk : 2000000 ≤ k) (hl : l.length ≤ 1048576) : ∃ o, spec_PermanentOf.f k r c l = some o ∧ impl_PermanentOf.f r c l = some o := by
  unfold spec_PermanentOf.f impl_PermanentOf.f spec_roOf.f
  rw [e_roSquare k r c l (by omega) (by omega), i_isSquare]
  simp only [Option.bind_some]
  by_cases h : GoodB r c l ∧ r = c
  · obtain ⟨h, e⟩ := h
    subst e
    have h1 := h.1
    have hn : ((numsL r r l).length : Int) = r + 1 := by unfold numsL; rw [HZ_len]; omega
    rw [if_pos (decide_eq_true ⟨h, rfl⟩), if_pos (decide_eq_true ⟨h, rfl⟩), e_roNumbers k r r l h (by omega), i_numbers r r l h]
    simp only [Option.bind_some]
    rw [if_neg (by omega), if_pos (by omega), if_pos (by omega), if_pos (by omega), if_pos (by omega)]
    exact ⟨_, rfl, rfl⟩
  · rw [if_neg (by simpa using h), if_neg (by simpa using h)]
    exact ⟨_, rfl, rfl⟩

def numsOut (r c : Int) (l : List Int) : List Int × Bool := if GoodB r c l then (numsL r c l, true) else ([], false)
theorem numsOut_len (r c : Int) (l : List Int) : (numsOut r c l).1.length ≤ 7 := by
  unfold numsOut
  split
  case isTrue h => exact numsL_len r c l h
  case isFalse => simp
theorem i_RookNumbers (r c : Int) (l : List Int) : impl_RookNumbers.f r c l = some (numsOut r c l) := by
  unfold impl_RookNumbers.f numsOut
  rw [i_IsBoard]
  simp only [Option.bind_some]
  by_cases h : GoodB r c l
  · rw [if_pos h, if_pos (decide_eq_true h), i_numbers r c l h]; rfl
  · rw [if_neg h, if_neg (by simpa using h)]

theorem wr_shift (a q : Int) : wrap64 (a - 18446744073709551616 * q) = wrap64 a := by unfold wrap64; omega
theorem wr_eq (a : Int) : ∃ q, wrap64 a = a - 18446744073709551616 * q := ⟨(a + 9223372036854775808) / 18446744073709551616, by unfold wrap64; omega⟩
theorem wr_wr (a : Int) : wrap64 (wrap64 a) = wrap64 a := by unfold wrap64; omega
theorem wr_addl (a b : Int) : wrap64 (wrap64 a + b) = wrap64 (a + b) := by unfold wrap64; omega
theorem wr_addr (a b : Int) : wrap64 (a + wrap64 b) = wrap64 (a + b) := by unfold wrap64; omega
theorem wr_mull (a b : Int) : wrap64 (wrap64 a * b) = wrap64 (a * b) := by
  obtain ⟨q, e⟩ := wr_eq a
  rw [e, Int.sub_mul, Int.mul_assoc, wr_shift]
theorem wr_mulr (a b : Int) : wrap64 (a * wrap64 b) = wrap64 (a * b) := by rw [Int.mul_comm, wr_mull, Int.mul_comm]

theorem wu64 (n : Int) : IntKind.u64.wrap n = n % 18446744073709551616 := by simp [IntKind.wrap, IntKind.bits, IntKind.signed]
theorem and255 (x : Int) (h0 : 0 ≤ x) (h1 : x < 18446744073709551616) : Go.bits .and .u64 x 255 = x % 256 := by
  have := Go.bits_mask .u64 64 (by decide) (fun n h0 h1 => by rw [wu64]; exact Int.emod_eq_of_lt h0 (by simpa using h1)) 8 (by decide) x h0 (by simpa using h1)
  simpa using this
theorem and255w (n : Int) : 0 ≤ wrap64 (Go.bits .and .u64 (IntKind.u64.wrap n / 1099511627776) 255) ∧ wrap64 (Go.bits .and .u64 (IntKind.u64.wrap n / 1099511627776) 255) ≤ 255 := by
  rw [and255 _ (by rw [wu64]; omega) (by rw [wu64]; omega), w64 (by omega) (by omega)]
  omega
def CodeOK (code : List Int) : Prop := code.length ≤ 1048576 ∧ ∀ x ∈ code, 0 ≤ x ∧ x ≤ 255
theorem code_ok (code : List Int) (h : code.length ≤ 1048576) (hw : ∀ x ∈ code, (Lit.int .u8 x).wf = true) : CodeOK code := by
  refine ⟨h, fun x hx => ?_⟩
  have := hw x hx
  simp only [Lit.wf, Bool.and_eq_true, decide_eq_true_eq] at this
  have h1 : IntKind.u8.min = 0 := rfl
  have h2 : IntKind.u8.max = 255 := rfl
  rw [h1, h2] at this
  exact this
/-- A place of the bytes that a draw may have come to. -/
def PL (n i : Int) : Prop := 0 ≤ i ∧ i ≤ n
theorem d_next (code : List Int) (hc : CodeOK code) (i u : Int) (hi : 0 ≤ i ∧ i ≤ 1000000000) : ∃ v u', spec_l1Cur_next.f code i u = some (v, i + 1, u') ∧ 0 ≤ v ∧ v ≤ 255 := by
  have hl := hc.1
  unfold spec_l1Cur_next.f
  rw [w64 (x := i + 1) (by omega) (by omega)]
  by_cases h : i < (code.length : Int)
  · rw [if_pos h, if_pos hi.1, if_pos (show i + 1 ≤ (code.length : Int) by omega)]
    refine ⟨_, _, rfl, ?_⟩
    obtain ⟨j, rfl⟩ := Int.eq_ofNat_of_zero_le hi.1
    have hj : j < code.length := by omega
    rw [rd_nat code j hj]
    have := hc.2 _ (List.getElem_mem hj)
    rw [w64 (by omega) (by omega)]
    exact this
  · rw [if_neg h, if_neg (show ¬ i + 1 ≤ (code.length : Int) by omega)]
    exact ⟨_, _, rfl, and255w _⟩
theorem d_pick (code : List Int) (hc : CodeOK code) (i u n : Int) (N : Int) (hi : PL N i) (hN : N ≤ 100000000) : ∃ v i' u', spec_l1Cur_pick.f code i u n = some (v, i', u') ∧ PL (N + 2) i' ∧ 0 ≤ v ∧ (1 ≤ n → v < n) := by
  unfold PL at hi ⊢
  unfold spec_l1Cur_pick.f
  by_cases h : n ≤ 1
  · rw [if_pos h]
    exact ⟨_, _, _, rfl, by omega, by omega, by omega⟩
  · rw [if_neg h]
    obtain ⟨v, u', e, h0, h1⟩ := d_next code hc i u (by omega)
    rw [e, Option.bind_some]
    by_cases h2 : n > 200
    · obtain ⟨v2, u2, e2, h3, h4⟩ := d_next code hc (i + 1) u' (by omega)
      rw [if_pos h2]
      simp only
      rw [e2, Option.bind_some, if_neg (show ¬ n = 0 by omega)]
      refine ⟨_, _, _, rfl, by simp only; omega, ?_⟩
      rw [w64 (x := v * 256) (by omega) (by omega), w64 (by omega) (by omega), Int.tmod_eq_emod_of_nonneg (by omega)]
      exact ⟨Int.emod_nonneg _ (by omega), fun _ => Int.emod_lt_of_pos _ (by omega)⟩
    · rw [if_neg h2, if_neg (show ¬ n = 0 by omega)]
      refine ⟨_, _, _, rfl, by simp only; omega, ?_⟩
      simp only
      rw [Int.tmod_eq_emod_of_nonneg (by omega)]
      exact ⟨Int.emod_nonneg _ (by omega), fun _ => Int.emod_lt_of_pos _ (by omega)⟩

theorem d_one (code : List Int) (hc : CodeOK code) (i u n : Int) (N : Int) (hi : PL N i) (hN : N ≤ 100000000) : ∃ v i' u', spec_l1Cur_one.f code i u n = some (v, i', u') ∧ PL (N + 2) i' := by
  unfold spec_l1Cur_one.f
  obtain ⟨v, i', u', e, h, _⟩ := d_pick code hc i u n N hi hN
  rw [e]
  exact ⟨_, _, _, rfl, h⟩

theorem rd_in (l : List Int) (i : Int) (h0 : 0 ≤ i) (h1 : i < (l.length : Int)) : rd l i ∈ l := by
  obtain ⟨j, rfl⟩ := Int.eq_ofNat_of_zero_le h0
  have hj : j < l.length := by omega
  rw [rd_nat l j hj]
  exact List.getElem_mem hj
theorem d_among (code : List Int) (hc : CodeOK code) (i u : Int) (l : List Int) (N : Int) (hl : l ≠ []) (hi : PL N i) (hN : N ≤ 100000000) : ∃ v i' u', spec_l1Cur_among.f code i u l = some (v, i', u') ∧ PL (N + 2) i' ∧ v ∈ l := by
  unfold spec_l1Cur_among.f
  have hp : 0 < l.length := by cases l with | nil => exact absurd rfl hl | cons a t => simp
  obtain ⟨v, i', u', e, h, h0, h1⟩ := d_pick code hc i u (l.length : Int) N hi hN
  have h2 := h1 (by omega)
  rw [e, Option.bind_some, if_pos h0, if_pos h2]
  exact ⟨_, _, _, rfl, h, rd_in l v h0 h2⟩

theorem d_argument (code : List Int) (hc : CodeOK code) (i u : Int) (N : Int) (hi : PL N i) (hN : N ≤ 10000000) : ∃ v i' u', spec_l1Cur_argument.f code i u = some (v, i', u') ∧ PL (N + 4) i' := by
  unfold spec_l1Cur_argument.f
  obtain ⟨b, i1, u1, e, h⟩ := d_one code hc i u 12 N hi (by omega)
  rw [e, Option.bind_some]
  by_cases hb : b = true
  · rw [if_pos hb]
    obtain ⟨v, i2, u2, e2, h2, _⟩ := d_among code hc i1 u1 [-21, -20, 20, 21, 4611686018427387904] (N + 2) (by simp) h (by omega)
    rw [e2]
    exact ⟨_, _, _, rfl, by rw [show N + 4 = N + 2 + 2 by omega]; exact h2⟩
  · rw [if_neg hb]
    obtain ⟨v, i2, u2, e2, h2, _⟩ := d_pick code hc i1 u1 13 (N + 2) h (by omega)
    rw [e2]
    exact ⟨_, _, _, rfl, by rw [show N + 4 = N + 2 + 2 by omega]; exact h2⟩

theorem d_boardOf_l0 (code : List Int) (hc : CodeOK code) (R C : Int) (hC : 0 ≤ C ∧ C ≤ 60) : ∀ (d j k : Nat) (i u : Int) (l : List Int) (N : Int), j + d = l.length → d < k → PL N i → N + 6 * d ≤ 10000000 → l.length ≤ 1000 → ∃ l' i' u', spec_l1Cur_boardOf.l0 k C (l.length : Int) (j : Int) code i u R C l = some (R, C, l', i', u') ∧ l'.length = l.length ∧ PL (N + 6 * d) i' := by
  intro d
  induction d with
  | zero =>
    intro j k i u l N hj hk hi hN hl
    obtain ⟨k, rfl⟩ : ∃ m, k = m + 1 := ⟨k - 1, by omega⟩
    rw [spec_l1Cur_boardOf.l0, if_neg (by omega)]
    exact ⟨_, _, _, rfl, rfl, by simpa using hi⟩
  | succ d ih =>
    intro j k i u l N hj hk hi hN hl
    obtain ⟨k, rfl⟩ : ∃ m, k = m + 1 := ⟨k - 1, by omega⟩
    rw [spec_l1Cur_boardOf.l0, if_pos (by omega), if_pos hC.1]
    obtain ⟨v1, i1, u1, e1, h1, _⟩ := d_pick code hc i u (shl .i64 1 C) N hi (by omega)
    rw [e1, Option.bind_some, if_pos (by omega), if_pos (by omega), Option.bind_some]
    obtain ⟨v2, i2, u2, e2, h2⟩ := d_one code hc i1 u1 3 (N + 2) h1 (by omega)
    simp only
    rw [e2, Option.bind_some, w64 (x := (j : Int) + 1) (by omega) (by omega), show ((j : Int) + 1) = ((j + 1 : Nat) : Int) from by omega]
    by_cases hb : v2 = true
    · rw [if_pos hb]
      obtain ⟨v3, i3, u3, e3, h3, h4, _⟩ := d_pick code hc i2 u2 (wrap64 (C + 1)) (N + 2 + 2) h2 (by omega)
      simp only
      rw [e3, Option.bind_some, if_pos h4]
      have := ih (j + 1) k i3 u3 ((l.set (j : Int).toNat v1).set (j : Int).toNat (wrap64 (shl .i64 1 v3 - 1))) (N + 2 + 2 + 2) (by simp; omega) (by omega) h3 (by omega) (by simp; omega)
      simp only [List.length_set] at this
      obtain ⟨l', i', u', e, h5, h6⟩ := this
      exact ⟨l', i', u', e, h5, by rw [show N + 6 * ((d + 1 : Nat) : Int) = N + 2 + 2 + 2 + 6 * d by omega]; exact h6⟩
    · rw [if_neg hb]
      have := ih (j + 1) k i2 u2 (l.set (j : Int).toNat v1) (N + 2 + 2) (by simp; omega) (by omega) h2 (by omega) (by simp; omega)
      simp only [List.length_set] at this
      obtain ⟨l', i', u', e, h5, h6⟩ := this
      exact ⟨l', i', u', e, h5, by unfold PL at h6 ⊢; omega⟩
theorem d_boardOf (k : Nat) (code : List Int) (hc : CodeOK code) (i u : Int) (N : Int) (R C : Int) (hR : 0 ≤ R ∧ R ≤ 100) (hC : 0 ≤ C ∧ C ≤ 60) (hi : PL N i) (hN : N ≤ 1000000) (hk : 1000 ≤ k) : ∃ l' i' u', spec_l1Cur_boardOf.f k code i u R C = some (R, C, l', i', u') ∧ (l'.length : Int) = R ∧ PL (N + 600) i' := by
  unfold spec_l1Cur_boardOf.f spec_boEmpty.f
  rw [if_pos hR.1, if_pos (by omega), Option.bind_some]
  simp only
  obtain ⟨l', i', u', e, h1, h2⟩ := d_boardOf_l0 code hc R C hC R.toNat 0 k i u (List.replicate R.toNat 0) N (by simp) (by omega) hi (by omega) (by simp; omega)
  rw [show ((0 : Nat) : Int) = 0 from rfl] at e
  refine ⟨l', i', u', e, by rw [h1]; simp; omega, by unfold PL at h2 ⊢; omega⟩

theorem d_sides (code : List Int) (hc : CodeOK code) (i u : Int) (N : Int) (hi : PL N i) (hN : N ≤ 10000000) : ∃ v i' u', spec_l1Cur_sides.f code i u = some (v, i', u') ∧ PL (N + 4) i' ∧ 1 ≤ v ∧ v ≤ 6 := by
  unfold spec_l1Cur_sides.f
  obtain ⟨b, i1, u1, e, h⟩ := d_one code hc i u 8 N hi (by omega)
  rw [e, Option.bind_some]
  by_cases hb : b = true
  · rw [if_pos hb]
    exact ⟨_, _, _, rfl, by unfold PL at h ⊢; simp only; omega, by omega, by omega⟩
  · rw [if_neg hb]
    obtain ⟨v, i2, u2, e2, h2, h3, h4⟩ := d_pick code hc i1 u1 5 (N + 2) h (by omega)
    have h5 := h4 (by omega)
    rw [e2]
    refine ⟨_, _, _, rfl, by rw [show N + 4 = N + 2 + 2 by omega]; exact h2, ?_⟩
    simp only
    rw [w64 (by omega) (by omega)]; omega

theorem d_board (k : Nat) (code : List Int) (hc : CodeOK code) (i u : Int) (N : Int) (hi : PL N i) (hN : N ≤ 100000) (hk : 1000 ≤ k) : ∃ r c l i' u', spec_l1Cur_board.f k code i u = some (r, c, l, i', u') ∧ 1 ≤ l.length ∧ l.length ≤ 7 ∧ PL (N + 1000) i' := by
  unfold spec_l1Cur_board.f
  obtain ⟨r, i1, u1, e1, h1, r1, r2⟩ := d_sides code hc i u N hi (by omega)
  rw [e1, Option.bind_some]
  simp only
  obtain ⟨c, i2, u2, e2, h2, c1, c2⟩ := d_sides code hc i1 u1 (N + 4) h1 (by omega)
  rw [e2, Option.bind_some]
  simp only
  obtain ⟨l, i3, u3, e3, h3, h4⟩ := d_boardOf k code hc i2 u2 (N + 4 + 4) r c (by omega) (by omega) h2 (by omega) hk
  rw [e3, Option.bind_some]
  simp only
  obtain ⟨v, i4, u4, e4, h5, _⟩ := d_pick code hc i3 u3 18 (N + 4 + 4 + 600) h4 (by omega)
  rw [e4, Option.bind_some]
  simp only
  split
  · obtain ⟨v5, i5, u5, e5, h6, _⟩ := d_among code hc i4 u4 [-1, 0, wrap64 (r + 1), 7] (N + 4 + 4 + 600 + 2) (by simp) h5 (by omega)
    rw [e5, Option.bind_some]
    exact ⟨_, _, _, _, _, rfl, by omega, by omega, by unfold PL at h6 ⊢; simp only; omega⟩
  · split
    · obtain ⟨v5, i5, u5, e5, h6, _⟩ := d_among code hc i4 u4 [-1, 0, 7, 4611686018427387904] (N + 4 + 4 + 600 + 2) (by simp) h5 (by omega)
      rw [e5, Option.bind_some]
      exact ⟨_, _, _, _, _, rfl, by omega, by omega, by unfold PL at h6 ⊢; simp only; omega⟩
    · split
      · obtain ⟨v5, i5, u5, e5, h6, h7, h8⟩ := d_pick code hc i4 u4 (l.length : Int) (N + 4 + 4 + 600 + 2) h5 (by omega)
        rw [e5, Option.bind_some]
        simp only
        obtain ⟨v6, i6, u6, e6, h9, _⟩ := d_among code hc i5 u5 [-1, 64, 4611686018427387904] (N + 4 + 4 + 600 + 2 + 2) (by simp) h6 (by omega)
        rw [e6, Option.bind_some, if_pos h7, if_pos (h8 (by omega))]
        exact ⟨_, _, _, _, _, rfl, by simp; omega, by simp; omega, by unfold PL at h9 ⊢; simp only; omega⟩
      · split
        · rw [if_pos (by omega)]
          exact ⟨_, _, _, _, _, rfl, by simp, by simp; omega, by unfold PL at h5 ⊢; omega⟩
        · exact ⟨_, _, _, _, _, rfl, by omega, by omega, by unfold PL at h5 ⊢; omega⟩

theorem d_square (k : Nat) (code : List Int) (hc : CodeOK code) (i u : Int) (N : Int) (hi : PL N i) (hN : N ≤ 10000) (hk : 1000 ≤ k) : ∃ r c l i' u', spec_l1Cur_square.f k code i u = some (r, c, l, i', u') ∧ 1 ≤ l.length ∧ l.length ≤ 7 ∧ PL (N + 2000) i' := by
  unfold spec_l1Cur_square.f
  obtain ⟨b, i1, u1, e1, h1⟩ := d_one code hc i u 8 N hi (by omega)
  rw [e1, Option.bind_some]
  simp only
  by_cases hb : b = true
  · rw [if_pos hb]
    obtain ⟨r, c, l, i2, u2, e2, h2, h3, h4⟩ := d_board k code hc i1 u1 (N + 2) h1 (by omega) hk
    rw [e2]
    exact ⟨_, _, _, _, _, rfl, h2, h3, by unfold PL at h4 ⊢; simp only; omega⟩
  · rw [if_neg hb]
    obtain ⟨r, i2, u2, e2, h2, r1, r2⟩ := d_sides code hc i1 u1 (N + 2) h1 (by omega)
    rw [e2, Option.bind_some]
    simp only
    obtain ⟨l, i3, u3, e3, h3, h4⟩ := d_boardOf k code hc i2 u2 (N + 2 + 4) r r (by omega) (by omega) h2 (by omega) hk
    rw [e3]
    exact ⟨_, _, _, _, _, rfl, by simp only; omega, by simp only; omega, by unfold PL at h4 ⊢; simp only; omega⟩

/-- A falling product, as both compute it. -/
def fallF (x : Int) : Nat → Int → Int → Int
  | 0, _, a => a
  | d + 1, i, a => fallF x d (i + 1) (wrap64 (a * wrap64 (x - i)))
theorem i_fall (x n : Int) (hn : n ≤ 100) : ∀ (d k : Nat) (i a : Int), i + d = n → 0 ≤ i → d < k → impl_falling.l0 k x a n i = some (fallF x d i a)
  | 0, k, i, a, hi, h0, hk => by
    obtain ⟨k, rfl⟩ : ∃ m, k = m + 1 := ⟨k - 1, by omega⟩
    rw [impl_falling.l0, if_neg (by omega)]; rfl
  | d + 1, k, i, a, hi, h0, hk => by
    obtain ⟨k, rfl⟩ : ∃ m, k = m + 1 := ⟨k - 1, by omega⟩
    rw [impl_falling.l0, if_pos (by omega), w64 (x := i + 1) (by omega) (by omega), i_fall x n hn d k (i + 1) _ (by omega) (by omega) (by omega)]; rfl
def sumF (x R : Int) (v : List Int) : Nat → Nat → Int → Int
  | 0, _, s => s
  | d + 1, i, s => sumF x R v d (i + 1) (wrap64 (s + wrap64 (rd v (i : Int) * fallF x (R.toNat - i) 0 1)))
theorem i_sum (x R c : Int) (l v : List Int) (hv : (v.length : Int) = R + 1) (hR : 1 ≤ R ∧ R ≤ 6) : ∀ (d i k : Nat) (s : Int), i + d = v.length → d + 200 < k → impl_FactorialAt.l0 k x s v (v.length : Int) (i : Int) R c l = some (sumF x R v d i s, true)
  | 0, i, k, s, hi, hk => by
    obtain ⟨k, rfl⟩ : ∃ m, k = m + 1 := ⟨k - 1, by omega⟩
    rw [impl_FactorialAt.l0, if_neg (by omega)]; rfl
  | d + 1, i, k, s, hi, hk => by
    obtain ⟨k, rfl⟩ : ∃ m, k = m + 1 := ⟨k - 1, by omega⟩
    rw [impl_FactorialAt.l0, if_pos (by omega), if_pos (by omega), if_pos (by omega), w64 (x := (i : Int) + 1) (by omega) (by omega), w64 (x := R - (i : Int)) (by omega) (by omega)]
    unfold impl_falling.f
    rw [i_fall x (R - (i : Int)) (by omega) (R.toNat - i) k 0 1 (by omega) (by omega) (by omega), Option.bind_some, show ((i : Int) + 1) = ((i + 1 : Nat) : Int) from by omega, i_sum x R c l v hv hR d (i + 1) k _ (by omega) (by omega)]; rfl
def faOut (r c : Int) (l : List Int) (a : Int) : Int × Bool := if (GoodB r c l ∧ r = c) ∧ (-20 ≤ a ∧ a ≤ 20) then (sumF a r (numsL r c l) (numsL r c l).length 0 0, true) else (0, false)
theorem i_FactorialAt (k : Nat) (r c : Int) (l : List Int) (a : Int) (hk : 1000 ≤ k) : impl_FactorialAt.f k r c l a = some (faOut r c l a) := by
  unfold impl_FactorialAt.f faOut
  rw [i_isSquare, Option.bind_some]
  obtain ⟨k, rfl⟩ : ∃ m, k = m + 1 := ⟨k - 1, by omega⟩
  by_cases h : GoodB r c l ∧ r = c
  · have h1 := h.1.1
    have hn : ((numsL r c l).length : Int) = r + 1 := by have := h.2; subst this; unfold numsL; rw [HZ_len]; omega
    rw [if_pos (decide_eq_true h), i_isPoint, Option.bind_some, impl_FactorialAt.j0]
    by_cases hp : (-20 ≤ a ∧ a ≤ 20)
    · rw [if_neg (by simpa using hp), if_pos ⟨h, hp⟩, i_numbers r c l h.1, Option.bind_some]
      exact i_sum a r c l (numsL r c l) hn h1 (numsL r c l).length 0 k 0 (by omega) (by omega)
    · rw [if_pos (by simp [hp]), if_neg (fun x => hp x.2)]
  · rw [if_neg (by simpa using h), impl_FactorialAt.j0, if_pos rfl, if_neg (fun x => h x.1)]
theorem e_FactorialAt (k : Nat) (r c : Int) (l : List Int) (a : Int) (hk : 2000000 ≤ k) (hl : l.length ≤ 1048576) : spec_FactorialAt.f k r c l a = some (faOut r c l a) := by
  obtain ⟨o, h1, h2⟩ := both_FactorialAt k k r c l a hk hk hl
  rw [i_FactorialAt k r c l a (by omega)] at h2
  rw [h1, h2]
def polyL (y : Int) : List Int → Int
  | [] => 0
  | a :: t => a + y * polyL y t
theorem i_poly (y : Int) (v : List Int) (hv : v.length ≤ 100) : ∀ (d i k : Nat) (s p : Int), i + d = v.length → d < k → wrap64 s = s → impl_RookPolynomialAt.l0 k y s p v (v.length : Int) (i : Int) = some (wrap64 (s + p * polyL y (v.drop i)), true)
  | 0, i, k, s, p, hi, hk, hs => by
    obtain ⟨k, rfl⟩ : ∃ m, k = m + 1 := ⟨k - 1, by omega⟩
    rw [impl_RookPolynomialAt.l0, if_neg (by omega), List.drop_of_length_le (by omega), polyL, Int.mul_zero, Int.add_zero, hs]
  | d + 1, i, k, s, p, hi, hk, hs => by
    obtain ⟨k, rfl⟩ : ∃ m, k = m + 1 := ⟨k - 1, by omega⟩
    have hlt : i < v.length := by omega
    rw [impl_RookPolynomialAt.l0, if_pos (by omega), if_pos (by omega), if_pos (by omega), w64 (x := (i : Int) + 1) (by omega) (by omega), show ((i : Int) + 1) = ((i + 1 : Nat) : Int) from by omega, i_poly y v hv d (i + 1) k _ _ (by omega) (by omega) (wr_wr _), List.drop_eq_getElem_cons hlt, polyL, rd_nat v i hlt]
    congr 2
    rw [wr_addr, wr_addl]
    have h2 : wrap64 (s + v[i] * p + wrap64 (p * y) * polyL y (v.drop (i + 1))) = wrap64 (s + v[i] * p + (p * y) * polyL y (v.drop (i + 1))) := by
      rw [← wr_addr, wr_mull, wr_addr]
    rw [h2]
    congr 1
    rw [Int.mul_add, Int.mul_comm v[i] p, Int.mul_assoc]; omega
def rpOut (r c : Int) (l : List Int) (a : Int) : Int × Bool := if GoodB r c l ∧ (-20 ≤ a ∧ a ≤ 20) then (wrap64 (polyL a (numsL r c l)), true) else (0, false)
theorem i_RookPolynomialAt (k : Nat) (r c : Int) (l : List Int) (a : Int) (hk : 1000 ≤ k) : impl_RookPolynomialAt.f k r c l a = some (rpOut r c l a) := by
  unfold impl_RookPolynomialAt.f rpOut
  rw [i_IsBoard, Option.bind_some]
  obtain ⟨k, rfl⟩ : ∃ m, k = m + 1 := ⟨k - 1, by omega⟩
  by_cases h : GoodB r c l
  · have hn := numsL_len r c l h
    rw [if_pos (decide_eq_true h), i_isPoint, Option.bind_some, impl_RookPolynomialAt.j0]
    by_cases hp : (-20 ≤ a ∧ a ≤ 20)
    · rw [if_neg (by simpa using hp), if_pos ⟨h, hp⟩, i_numbers r c l h, Option.bind_some]
      have := i_poly a (numsL r c l) (by omega) (numsL r c l).length 0 k 0 1 (by omega) (by omega) (by unfold wrap64; omega)
      rw [show ((0 : Nat) : Int) = 0 from rfl, List.drop_zero, Int.one_mul, Int.zero_add] at this
      exact this
    · rw [if_pos (by simp [hp]), if_neg (fun x => hp x.2)]
  · rw [if_neg (by simpa using h), impl_RookPolynomialAt.j0, if_pos rfl, if_neg (fun x => h x.1)]
theorem e_RookPolynomialAt (k : Nat) (r c : Int) (l : List Int) (a : Int) (hk : 2000000 ≤ k) (hl : l.length ≤ 1048576) : spec_RookPolynomialAt.f k r c l a = some (rpOut r c l a) := by
  obtain ⟨o, h1, h2⟩ := both_RookPolynomialAt k k r c l a hk hk hl
  rw [i_RookPolynomialAt k r c l a (by omega)] at h2
  rw [h1, h2]
def pmOut (r c : Int) (l : List Int) : Int × Bool := if GoodB r c l ∧ r = c then (rd (numsL r c l) r, true) else (0, false)
theorem i_PermanentOf (r c : Int) (l : List Int) : impl_PermanentOf.f r c l = some (pmOut r c l) := by
  unfold impl_PermanentOf.f pmOut
  rw [i_isSquare, Option.bind_some]
  by_cases h : GoodB r c l ∧ r = c
  · have h1 := h.1.1
    have hn : ((numsL r c l).length : Int) = r + 1 := by have := h.2; subst this; unfold numsL; rw [HZ_len]; omega
    rw [if_pos (decide_eq_true h), if_pos h, i_numbers r c l h.1, Option.bind_some, if_pos (by omega), if_pos (by omega)]
  · rw [if_neg (by simpa using h), if_neg h]
theorem e_PermanentOf (k : Nat) (r c : Int) (l : List Int) (hk : 2000000 ≤ k) (hl : l.length ≤ 1048576) : spec_PermanentOf.f k r c l = some (pmOut r c l) := by
  obtain ⟨o, h1, h2⟩ := both_PermanentOf k r c l hk hl
  rw [i_PermanentOf r c l] at h2
  rw [h1, h2]
theorem fallF_zero (x : Int) : ∀ (d : Nat) (i : Int), fallF x d i 0 = 0
  | 0, _ => rfl
  | d + 1, i => by rw [fallF, Int.zero_mul, show wrap64 0 = 0 from by unfold wrap64; omega, fallF_zero x d]
theorem sum_zero (R : Nat) (v : List Int) (hb : ∀ j, j ≤ R → wrap64 (rd v (j : Int)) = rd v (j : Int)) : ∀ (d i : Nat), i + d = R → sumF 0 (R : Int) v (d + 1) i 0 = rd v (R : Int)
  | 0, i, h => by
    have : i = R := by omega
    subst this
    rw [sumF, sumF, Int.toNat_natCast, Nat.sub_self, fallF, Int.mul_one, Int.zero_add, wr_wr, hb i (by omega)]
  | d + 1, i, h => by
    rw [sumF, Int.toNat_natCast, show R - i = d + 1 by omega, fallF, show wrap64 (1 * wrap64 (0 - 0)) = 0 from by unfold wrap64; omega, fallF_zero, Int.mul_zero, show wrap64 (0 + wrap64 0) = 0 from by unfold wrap64; omega]
    exact sum_zero R v hb d (i + 1) (by omega)
theorem nums_small (r c : Int) (l : List Int) (h : GoodB r c l) (j : Nat) (hj : j < (numsL r c l).length) : 0 ≤ rd (numsL r c l) (j : Int) ∧ rd (numsL r c l) (j : Int) ≤ 117649 := by
  have hl := goodB_len h
  have h2 := h.2.1
  unfold numsL at hj ⊢
  rw [HZ_len] at hj
  rw [HZ_rd _ _ j hj]
  have := Z_small c.toNat (by omega) l 0 hl j
  omega
theorem fa_zero (r c : Int) (l : List Int) (h : GoodB r c l ∧ r = c) : faOut r c l 0 = ((pmOut r c l).1, true) := by
  have h1 := h.1.1
  have hn : ((numsL r c l).length : Int) = r + 1 := by have := h.2; subst this; unfold numsL; rw [HZ_len]; omega
  unfold faOut pmOut
  rw [if_pos ⟨h, by omega⟩, if_pos h]
  congr 1
  have := sum_zero r.toNat (numsL r c l) (fun j hj => by
    have := nums_small r c l h.1 j (by omega)
    exact w64 (by omega) (by omega)) r.toNat 0 (by omega)
  rw [show ((r.toNat : Nat) : Int) = r by omega] at this
  rw [show (numsL r c l).length = r.toNat + 1 by omega]
  exact this
theorem law_l2 (x6 x7 : Int) (x29 : Bool) (s : Int) (kk : Nat) (vk : Int) (V : List Int) (n R c : Int) (l : List Int) (hR : 0 ≤ R ∧ R ≤ 100) (hkk : kk ≤ 100) : ∀ (d k : Nat) (i a : Int), i + d = R - kk → 0 ≤ i →
    laws_FnPolynomialsOfRooks.l2 (k + d + 1) x6 x7 x29 s (kk : Int) vk a i V n (kk : Int) R c l = laws_FnPolynomialsOfRooks.l1 k x6 x7 x29 (wrap64 (s + wrap64 (vk * fallF x6 d i a))) V n ((kk + 1 : Nat) : Int) R c l
  | 0, k, i, a, hi, h0 => by
    rw [laws_FnPolynomialsOfRooks.l2, w64 (x := R - (kk : Int)) (by omega) (by omega), if_neg (by omega), w64 (x := (kk : Int) + 1) (by omega) (by omega)]; rfl
  | d + 1, k, i, a, hi, h0 => by
    rw [laws_FnPolynomialsOfRooks.l2, w64 (x := R - (kk : Int)) (by omega) (by omega), if_pos (by omega), w64 (x := i + 1) (by omega) (by omega), show k + (d + 1) = k + d + 1 by omega, law_l2 x6 x7 x29 s kk vk V n R c l hR hkk d k (i + 1) _ (by omega) (by omega)]; rfl
theorem law_l1 (x6 x7 : Int) (V : List Int) (R c : Int) (l : List Int) (hR : 0 ≤ R ∧ R ≤ 6) (hV : (V.length : Int) = R + 1) : ∀ (d i k : Nat) (s : Int), i + d = V.length → d * 20 + 20 < k →
    laws_FnPolynomialsOfRooks.l1 k x6 x7 true s V (V.length : Int) (i : Int) R c l = some (sumF x6 R V d i s == x7)
  | 0, i, k, s, hi, hk => by
    obtain ⟨k, rfl⟩ : ∃ m, k = m + 1 := ⟨k - 1, by omega⟩
    rw [laws_FnPolynomialsOfRooks.l1, if_neg (by omega), if_pos rfl]; rfl
  | d + 1, i, k, s, hi, hk => by
    obtain ⟨k, rfl⟩ : ∃ m, k = (m + (R.toNat - i) + 1) + 1 := ⟨k - (R.toNat - i) - 2, by omega⟩
    rw [laws_FnPolynomialsOfRooks.l1, if_pos (by omega), if_pos (by omega), if_pos (by omega), law_l2 x6 x7 true s i _ V _ R c l (by omega) (by omega) (R.toNat - i) k 0 1 (by omega) (by omega), law_l1 x6 x7 V R c l hR hV d (i + 1) k _ (by omega) (by omega)]; rfl
theorem law_j5 (k : Nat) (x6 r c : Int) (l : List Int) (hk : 1000 ≤ k) : laws_FnPolynomialsOfRooks.j5 k x6 (faOut r c l x6).1 (faOut r c l x6).2 r c l = some true := by
  obtain ⟨k, rfl⟩ : ∃ m, k = m + 1 := ⟨k - 1, by omega⟩
  rw [laws_FnPolynomialsOfRooks.j5]
  by_cases h : (GoodB r c l ∧ r = c) ∧ (-20 ≤ x6 ∧ x6 ≤ 20)
  · have h1 := h.1.1.1
    have hn : ((numsL r c l).length : Int) = r + 1 := by have := h.1.2; subst this; unfold numsL; rw [HZ_len]; omega
    have e : faOut r c l x6 = (sumF x6 r (numsL r c l) (numsL r c l).length 0 0, true) := by unfold faOut; rw [if_pos h]
    rw [e, if_pos rfl, i_RookNumbers, Option.bind_some]
    have e2 : numsOut r c l = (numsL r c l, true) := by unfold numsOut; rw [if_pos h.1.1]
    rw [e2]
    have := law_l1 x6 (sumF x6 r (numsL r c l) (numsL r c l).length 0 0) (numsL r c l) r c l (by omega) hn (numsL r c l).length 0 k 0 (by omega) (by omega)
    rw [show ((0 : Nat) : Int) = 0 from rfl, beq_self_eq_true] at this
    exact this
  · have e : faOut r c l x6 = (0, false) := by unfold faOut; rw [if_neg h]
    rw [e, if_neg (by decide)]
theorem law_j3 (k : Nat) (x1 : List Int) (hc : CodeOK x1) (x6 r c : Int) (l : List Int) (hk : 2000010 ≤ k) : laws_FnPolynomialsOfRooks.j3 k x1 x6 (faOut r c l x6).1 (faOut r c l x6).2 r c l = some true := by
  obtain ⟨k, rfl⟩ : ∃ m, k = m + 1 := ⟨k - 1, by omega⟩
  rw [laws_FnPolynomialsOfRooks.j3]
  unfold spec_DrawPermanentOf.f
  obtain ⟨r2, c2, l2, i2, u2, e2, h1, h2, _⟩ := d_square k x1 hc 0 0 0 (by unfold PL; omega) (by omega) (by omega)
  rw [e2, Option.bind_some, Option.bind_some, i_PermanentOf, Option.bind_some, e_PermanentOf _ _ _ _ (by omega) (by simp only; omega), Option.bind_some, bne_self_eq_false, if_neg (by decide), bne_self_eq_false]
  simp only
  obtain ⟨k, rfl⟩ : ∃ m, k = m + 1 := ⟨k - 1, by omega⟩
  rw [laws_FnPolynomialsOfRooks.j4, if_neg (by decide)]
  by_cases h : GoodB r2 c2 l2 ∧ r2 = c2
  · have e3 : (pmOut r2 c2 l2).2 = true := by unfold pmOut; rw [if_pos h]
    rw [e3, if_pos rfl, i_FactorialAt _ _ _ _ _ (by omega), Option.bind_some, fa_zero r2 c2 l2 h, if_pos rfl, if_pos rfl]
    exact law_j5 k x6 r c l (by omega)
  · have e3 : (pmOut r2 c2 l2).2 = false := by unfold pmOut; rw [if_neg h]
    rw [e3, if_neg (by decide)]
    exact law_j5 k x6 r c l (by omega)
theorem law_l0 (x1 : List Int) (hc : CodeOK x1) (x6 r c : Int) (l : List Int) (y : Int) (v : List Int) (hv : v.length ≤ 100) : ∀ (d k : Nat) (own : Int), d ≤ v.length → d + 2000010 < k → own = wrap64 (polyL y (v.drop d)) →
    laws_FnPolynomialsOfRooks.l0 k x1 x6 (faOut r c l x6).1 (faOut r c l x6).2 y (wrap64 (polyL y v)) v true own ((d : Int) - 1) r c l = some true
  | 0, k, own, hd, hk, ho => by
    obtain ⟨k, rfl⟩ : ∃ m, k = m + 1 := ⟨k - 1, by omega⟩
    rw [laws_FnPolynomialsOfRooks.l0, if_neg (by omega), if_pos rfl, if_pos (by rw [ho, List.drop_zero])]
    exact law_j3 k x1 hc x6 r c l (by omega)
  | d + 1, k, own, hd, hk, ho => by
    obtain ⟨k, rfl⟩ : ∃ m, k = m + 1 := ⟨k - 1, by omega⟩
    have hlt : d < v.length := by omega
    rw [laws_FnPolynomialsOfRooks.l0, if_pos (by omega), if_pos (by omega), if_pos (by omega), show (((d + 1 : Nat) : Int) - 1) = (d : Int) by omega, w64 (x := (d : Int) - 1) (by omega) (by omega)]
    apply law_l0 x1 hc x6 r c l y v hv d k _ (by omega) (by omega)
    rw [ho, wr_addl, rd_nat v d hlt, List.drop_eq_getElem_cons hlt, polyL, ← wr_addl, wr_mull, wr_addl, Int.mul_comm, Int.add_comm]
theorem FnPolynomialsOfRooks : laws_FnPolynomialsOfRooks.Pure := by
  intro a b _ ha _ hb
  refine ⟨3000000, ?_⟩
  unfold laws_FnPolynomialsOfRooks.f laws_big.f
  by_cases h : (a.length : Int) > 1048576
  · rw [if_pos h]; rfl
  · rw [if_neg h, Option.bind_some, w64 (by omega) (by omega)]
    by_cases h2 : (b.length : Int) > 1048576 - a.length
    · rw [decide_eq_true h2, if_pos rfl]
    · have hca := code_ok a (by omega) ha
      have hcb := code_ok b (by omega) hb
      rw [decide_eq_false h2, if_neg (by decide)]
      unfold spec_DrawFactorialAt.f
      obtain ⟨r, c, l, i1, u1, e1, h3, h4, h5⟩ := d_square 3000000 a hca 0 0 0 (by unfold PL; omega) (by omega) (by omega)
      rw [e1, Option.bind_some]
      simp only
      obtain ⟨x, i2, u2, e2, _⟩ := d_argument a hca i1 u1 (0 + 2000) h5 (by omega)
      rw [e2, Option.bind_some, Option.bind_some, i_FactorialAt _ _ _ _ _ (by omega), Option.bind_some, e_FactorialAt _ _ _ _ _ (by omega) (by simp only; omega), Option.bind_some, bne_self_eq_false, if_neg (by decide), bne_self_eq_false]
      simp only
      obtain ⟨k, hk⟩ : ∃ k, 3000000 = k + 1 := ⟨2999999, rfl⟩
      rw [hk, laws_FnPolynomialsOfRooks.j0, if_neg (by decide)]
      unfold spec_DrawRookPolynomialAt.f
      obtain ⟨r2, c2, l2, i3, u3, e3, h6, h7, h8⟩ := d_board k b hcb 0 0 0 (by unfold PL; omega) (by omega) (by omega)
      rw [e3, Option.bind_some]
      simp only
      obtain ⟨y, i4, u4, e4, _⟩ := d_argument b hcb i3 u3 (0 + 1000) h8 (by omega)
      rw [e4, Option.bind_some, Option.bind_some, i_RookPolynomialAt _ _ _ _ _ (by omega), Option.bind_some, e_RookPolynomialAt _ _ _ _ _ (by omega) (by simp only; omega), Option.bind_some, bne_self_eq_false, if_neg (by decide), bne_self_eq_false]
      simp only
      obtain ⟨k, rfl⟩ : ∃ m, k = m + 1 := ⟨k - 1, by omega⟩
      rw [laws_FnPolynomialsOfRooks.j1, if_neg (by decide)]
      by_cases g : GoodB r2 c2 l2 ∧ (-20 ≤ y ∧ y ≤ 20)
      · have e5 : rpOut r2 c2 l2 y = (wrap64 (polyL y (numsL r2 c2 l2)), true) := by unfold rpOut; rw [if_pos g]
        have e6 : numsOut r2 c2 l2 = (numsL r2 c2 l2, true) := by unfold numsOut; rw [if_pos g.1]
        have hn := numsL_len r2 c2 l2 g.1
        rw [e5, if_pos rfl, i_RookNumbers, Option.bind_some, e6]
        simp only
        rw [w64 (x := ((numsL r2 c2 l2).length : Int) - 1) (by omega) (by omega)]
        exact law_l0 b hcb x r c l y (numsL r2 c2 l2) (by omega) (numsL r2 c2 l2).length k 0 (by omega) (by omega) (by rw [List.drop_length]; show (0 : Int) = wrap64 0; unfold wrap64; omega)
      · have e5 : rpOut r2 c2 l2 y = (0, false) := by unfold rpOut; rw [if_neg g]
        rw [e5, if_neg (by decide)]
        exact law_j3 k b hcb x r c l (by omega)

end Go.Proofs.Ytfgfgkpmkfjeiaa.Pure
