/- NumbersOfLengths: the law's function comes to true at every list. -/
import Derived.Test.YtiidbapgbomfjaaPFnExactNumbersOfLengthsx5
namespace Go.Proofs.Ytiidbapgbomfjaa.Pure
open Go.RowKit Go.Proofs.Ytiidbapgbomfjaa.PFnExactNumbersOfLengths Go.Proofs.YtiidbapgbomfjaaW.PrintWords Go.Proofs.YtiidbapgbomfjaaW.PrintLast
set_option linter.unusedVariables false
set_option linter.unusedSimpArgs false

theorem w64 {x : Int} (h0 : -9223372036854775808 ≤ x) (h1 : x < 9223372036854775808) : wrap64 x = x := by
  unfold wrap64; omega
theorem rd_nat (l : List Int) (i : Nat) (h : i < l.length) : rd l (i : Int) = l[i] := by
  unfold rd; simp [List.getD, h]

theorem e_toIntS_l0 (l : List Int) (hl : l.length ≤ 2000000) : ∀ (d i k : Nat) (m : List Int), i + d = l.length → d < k → m.length = l.length → m.take i = l.take i →
    laws_toIntS.l0 k l m (i : Int) = some l := by
  intro d
  induction d with
  | zero =>
    intro i k m hi' hk hm ht
    obtain ⟨k, rfl⟩ : ∃ m, k = m + 1 := ⟨k - 1, by omega⟩
    simp only [laws_toIntS.l0]; rw [if_neg (by omega)]
    rw [List.take_of_length_le (by omega), List.take_of_length_le (by omega)] at ht; rw [ht]
  | succ d ih =>
    intro i k m hi' hk hm ht
    obtain ⟨k, rfl⟩ : ∃ m, k = m + 1 := ⟨k - 1, by omega⟩
    have hlt : i < l.length := by omega
    simp only [laws_toIntS.l0]
    rw [if_pos (by omega), if_pos (by omega), if_pos (by omega), rd_nat l i hlt, w64 (by omega) (by omega), show ((i : Int) + 1) = ((i + 1 : Nat) : Int) from by omega]
    refine ih (i + 1) k _ (by omega) (by omega) (by simpa using hm) ?_
    rw [Int.toNat_natCast, List.take_succ_eq_append_getElem (by simpa using (by omega : i < m.length)), List.take_succ_eq_append_getElem hlt]
    simp [List.take_set_of_le, ht]
theorem e_toIntS (k : Nat) (l : List Int) (hl : l.length ≤ 2000000) (hk : l.length < k) : laws_toIntS.f k l = some l := by
  unfold laws_toIntS.f
  rw [if_pos (by omega), if_pos (by omega)]
  exact e_toIntS_l0 l hl l.length 0 k _ (by omega) hk (by simp) (by simp)

theorem e_eqIntS_l0 (a b : List Int) (hl : a.length ≤ 2000000) (hab : a.length = b.length) : ∀ (d i k : Nat), i + d = a.length → d < k →
    laws_eqIntS.l0 k a b (i : Int) = some (decide (a.drop i = b.drop i)) := by
  intro d
  induction d with
  | zero =>
    intro i k hi' hk
    obtain ⟨k, rfl⟩ : ∃ m, k = m + 1 := ⟨k - 1, by omega⟩
    simp only [laws_eqIntS.l0]; rw [if_neg (by omega), List.drop_eq_nil_of_le (by omega), List.drop_eq_nil_of_le (by omega)]; simp
  | succ d ih =>
    intro i k hi' hk
    obtain ⟨k, rfl⟩ : ∃ m, k = m + 1 := ⟨k - 1, by omega⟩
    have hlt : i < a.length := by omega
    have hlt2 : i < b.length := by omega
    simp only [laws_eqIntS.l0]
    rw [if_pos (by omega), if_pos (by omega), if_pos (by omega), rd_nat a i hlt, rd_nat b i hlt2, List.drop_eq_getElem_cons hlt, List.drop_eq_getElem_cons hlt2, w64 (by omega) (by omega), show ((i : Int) + 1) = ((i + 1 : Nat) : Int) from by omega, ih (i + 1) k (by omega) (by omega)]
    by_cases h : a[i] = b[i]
    · rw [if_pos h]; simp only [List.cons.injEq, h, true_and]
    · rw [if_neg h]; simp only [List.cons.injEq, h, false_and, decide_false]
theorem e_eqIntS (k : Nat) (a b : List Int) (hl : a.length ≤ 2000000) (hk : a.length < k) : laws_eqIntS.f k a b = some (decide (a = b)) := by
  unfold laws_eqIntS.f
  by_cases h : (a.length : Int) = (b.length : Int)
  · rw [if_pos h]; exact e_eqIntS_l0 a b hl (by omega) a.length 0 k (by omega) hk
  · rw [if_neg h]; simp; intro hc; rw [hc] at h; exact h rfl
theorem e_eqIntS_self (k : Nat) (a : List Int) (hl : a.length ≤ 2000000) (hk : a.length < k) : laws_eqIntS.f k a a = some true := by
  rw [e_eqIntS k a a hl hk]; simp

/-- The numbers from a on, n of them. -/
def marks : Int → Nat → List Int
  | _, 0 => []
  | a, n + 1 => a :: marks (a + 1) n
theorem marks_length : ∀ (n : Nat) (a : Int), (marks a n).length = n
  | 0, _ => rfl
  | n + 1, a => by simp [marks, marks_length n]
theorem marks_get : ∀ (n : Nat) (a : Int) (i : Nat) (h : i < (marks a n).length), (marks a n)[i] = a + i
  | 0, _, i, h => by simp [marks] at h
  | n + 1, a, 0, h => by simp [marks]
  | n + 1, a, i + 1, h => by
    simp only [marks, List.getElem_cons_succ]
    rw [marks_get n (a + 1) i]; omega

theorem e_markIntS_l0 (n : Nat) (hn : n ≤ 2000000) : ∀ (d i k : Nat) (l : List Int) (a : Int), l.length = n → i + d = n → d < k → 0 ≤ a → a + d ≤ 1000000000 →
    laws_markIntS.l0 k l a (i : Int) = some (a + d, l.take i ++ marks a d) := by
  intro d
  induction d with
  | zero =>
    intro i k l a hl hi hk h0 h1
    obtain ⟨k, rfl⟩ : ∃ m, k = m + 1 := ⟨k - 1, by omega⟩
    simp only [laws_markIntS.l0]; rw [if_neg (by omega), List.take_of_length_le (by omega)]; simp [marks]
  | succ d ih =>
    intro i k l a hl hi hk h0 h1
    obtain ⟨k, rfl⟩ : ∃ m, k = m + 1 := ⟨k - 1, by omega⟩
    have hlt : i < l.length := by omega
    simp only [laws_markIntS.l0]
    rw [if_pos (by omega), if_pos (by omega), w64 (by omega) (by omega), w64 (by omega) (by omega), show ((i : Int) + 1) = ((i + 1 : Nat) : Int) from by omega]
    rw [ih (i + 1) k _ (a + 1) (by simpa using hl) (by omega) (by omega) (by omega) (by omega)]
    rw [Int.toNat_natCast, List.take_succ_eq_append_getElem (by simpa using hlt)]
    simp only [List.getElem_set_self, List.take_set_of_le (Nat.le_refl i), List.append_assoc, List.singleton_append, marks]
    congr 2; omega
theorem e_markIntS (k : Nat) (l : List Int) (a : Int) (hl : l.length ≤ 2000000) (hk : l.length < k) (h0 : 0 ≤ a) (h1 : a + l.length ≤ 1000000000) : laws_markIntS.f k l a = some (a + l.length, marks a l.length) := by
  unfold laws_markIntS.f
  have := e_markIntS_l0 l.length hl l.length 0 k l a rfl (by omega) hk h0 h1
  simpa using this

theorem e_heldIntS_l0 (b : Int) (n : Nat) (hn : n ≤ 2000000) (hb : 0 ≤ b) (hbn : b + n ≤ 1000000000) : ∀ (d i k : Nat), i + d = n → d < k →
    laws_heldIntS.l0 k (marks b n) (b + i) (i : Int) = some (b + n) := by
  intro d
  induction d with
  | zero =>
    intro i k hi hk
    obtain ⟨k, rfl⟩ : ∃ m, k = m + 1 := ⟨k - 1, by omega⟩
    simp only [laws_heldIntS.l0, marks_length]; rw [if_neg (by omega)]; congr 1; omega
  | succ d ih =>
    intro i k hi hk
    obtain ⟨k, rfl⟩ : ∃ m, k = m + 1 := ⟨k - 1, by omega⟩
    have hlt : i < (marks b n).length := by rw [marks_length]; omega
    simp only [laws_heldIntS.l0]
    rw [rd_nat _ i hlt, marks_get n b i hlt]
    simp only [marks_length]
    rw [if_pos (by omega), if_pos (by omega), if_pos trivial, w64 (by omega) (by omega), w64 (by omega) (by omega), show ((i : Int) + 1) = ((i + 1 : Nat) : Int) from by omega, show b + (i : Int) + 1 = b + ((i + 1 : Nat) : Int) from by omega]
    exact ih (i + 1) k (by omega) (by omega)
theorem e_heldIntS (k : Nat) (n : Nat) (b : Int) (hn : n ≤ 2000000) (hk : n < k) (hb : 0 ≤ b) (hbn : b + n ≤ 1000000000) : laws_heldIntS.f k (marks b n) b = some (b + n) := by
  unfold laws_heldIntS.f
  have := e_heldIntS_l0 b n hn hb hbn n 0 k (by omega) hk
  simpa using this

theorem rd_set (l : List Int) (i : Nat) (v : Int) (j : Nat) (h : i < l.length) : rd (l.set i v) (j : Int) = if i = j then v else rd l (j : Int) := by
  unfold rd
  simp only [List.getD, Int.toNat_natCast, List.getElem?_set]
  by_cases hij : i = j
  · subst hij; simp [h]
  · simp [hij]
theorem rd_ext (a b : List Int) (hl : a.length = b.length) (h : ∀ j : Nat, j < a.length → rd a (j : Int) = rd b (j : Int)) : a = b := by
  refine List.ext_getElem hl ?_
  intro i h1 h2
  have := h i h1
  rwa [rd_nat a i h1, rd_nat b i h2] at this

/-- Is there a cell in the column c of a row m? -/
def cell (m c : Int) : Bool := decide (m / 2 ^ c.toNat % 2 = 1)
theorem fin_of (m : Int) (n : Nat) (h0 : 0 ≤ m) (h1 : m < n) : ∃ i : Fin n, m = (i.val : Int) := ⟨⟨m.toNat, by omega⟩, by simp; omega⟩
theorem cell_spec (m c : Int) (hm : 0 ≤ m ∧ m ≤ 63) (hc : 0 ≤ c ∧ c ≤ 6) : (Int.tmod (shr .i64 m c) 2 == 1) = cell m c := by
  have h : ∀ m : Fin 64, ∀ c : Fin 7, (Int.tmod (shr .i64 (m.val : Int) (c.val : Int)) 2 == 1) = cell (m.val : Int) (c.val : Int) := by decide +kernel
  obtain ⟨i, rfl⟩ := fin_of m 64 hm.1 (by omega)
  obtain ⟨j, rfl⟩ := fin_of c 7 hc.1 (by omega)
  exact h i j
theorem cell_impl (m c : Int) (hm : 0 ≤ m ∧ m ≤ 63) (hc : 0 ≤ c ∧ c ≤ 6) : (Go.bits .and .i64 (shr .i64 m c) 1 == 1) = cell m c := by
  have h : ∀ m : Fin 64, ∀ c : Fin 7, (Go.bits .and .i64 (shr .i64 (m.val : Int) (c.val : Int)) 1 == 1) = cell (m.val : Int) (c.val : Int) := by decide +kernel
  obtain ⟨i, rfl⟩ := fin_of m 64 hm.1 (by omega)
  obtain ⟨j, rfl⟩ := fin_of c 7 hc.1 (by omega)
  exact h i j
theorem pow_le (a : Int) (h : 1 ≤ a ∧ a ≤ 6) : 2 ≤ (2 : Int) ^ a.toNat ∧ (2 : Int) ^ a.toNat ≤ 64 := by
  obtain ⟨h0, h1⟩ := h
  obtain h | h | h | h | h | h : a = 1 ∨ a = 2 ∨ a = 3 ∨ a = 4 ∨ a = 5 ∨ a = 6 := by omega
  all_goals (subst h; decide +kernel)
theorem rd_mem (l : List Int) (i : Int) (h0 : 0 ≤ i) (h1 : i < l.length) : rd l i ∈ l := by
  obtain ⟨n, rfl⟩ := Int.eq_ofNat_of_zero_le h0
  rw [rd_nat l n (by omega)]; exact List.getElem_mem _

/-- The columns taken, with one more. -/
def orZ (taken : Int) (j : Nat) : Int := Go.bits .or .i64 taken (shl .i64 1 (j : Int))
/-- Numbers of rooks of all placements, in order: rows that are left, columns taken. -/
def Z (C : Nat) : List Int → Int → List Nat
  | [], _ => [0]
  | m :: t, taken => (List.range (C + 1)).flatMap fun i => if i = 0 then Z C t taken else if cell m ((i - 1 : Nat) : Int) && !cell taken ((i - 1 : Nat) : Int) then (Z C t (orZ taken (i - 1))).map (· + 1) else []
/-- How often each number below M stands. -/
def HZ (M : Nat) (z : List Nat) : List Int := (List.range M).map fun k => ((z.count k : Nat) : Int)
theorem HZ_len (M : Nat) (z : List Nat) : (HZ M z).length = M := by simp [HZ]
theorem HZ_rd (M : Nat) (z : List Nat) (i : Nat) (h : i < M) : rd (HZ M z) (i : Int) = ((z.count i : Nat) : Int) := by
  rw [rd_nat _ i (by rw [HZ_len]; exact h)]; simp [HZ]
/-- How many columns are free. -/
def frZ (C : Nat) (taken : Int) : Nat := ((List.range C).filter fun j : Nat => !cell taken (j : Int)).length
theorem orZ_ok (C : Nat) (taken : Int) (j : Nat) (hC : C ≤ 6) (h : 0 ≤ taken ∧ taken ≤ 63) (hj : j < C) (hf : cell taken (j : Int) = false) : (0 ≤ orZ taken j ∧ orZ taken j ≤ 63) ∧ frZ C (orZ taken j) + 1 ≤ frZ C taken := by
  have key : ∀ C : Fin 7, ∀ j : Fin 6, ∀ t : Fin 64, j.val < C.val → cell (t.val : Int) (j.val : Int) = false → (0 ≤ orZ (t.val : Int) j.val ∧ orZ (t.val : Int) j.val ≤ 63) ∧ frZ C.val (orZ (t.val : Int) j.val) + 1 ≤ frZ C.val (t.val : Int) := by decide +kernel
  obtain ⟨t, rfl⟩ := fin_of taken 64 h.1 (by omega)
  exact key ⟨C, by omega⟩ ⟨j, by omega⟩ t hj hf
theorem frZ_le (C : Nat) (taken : Int) : frZ C taken ≤ C := by
  unfold frZ
  exact Nat.le_trans (List.length_filter_le _ _) (by simp)
theorem Z_le (C : Nat) (hC : C ≤ 6) : ∀ (t : List Int) (taken : Int), 0 ≤ taken ∧ taken ≤ 63 → ∀ z ∈ Z C t taken, z ≤ t.length ∧ z ≤ frZ C taken
  | [], _, _, z, hz => by simp [Z] at hz; omega
  | m :: t, taken, h, z, hz => by
    simp only [Z, List.mem_flatMap, List.mem_range] at hz
    obtain ⟨i, hi, hz⟩ := hz
    by_cases h0 : i = 0
    · rw [if_pos h0] at hz
      have := Z_le C hC t taken h z hz
      exact ⟨by simp; omega, this.2⟩
    · rw [if_neg h0] at hz
      split at hz
      case isFalse => simp at hz
      case isTrue hc =>
        simp only [Bool.and_eq_true, Bool.not_eq_true'] at hc
        obtain ⟨y, hy, rfl⟩ := List.mem_map.1 hz
        have ho := orZ_ok C taken (i - 1) hC h (by omega) hc.2
        have := Z_le C hC t _ ho.1 y hy
        exact ⟨by simp; omega, by omega⟩
theorem flat_len {α β : Type} (f : α → List β) (b : Nat) : ∀ l : List α, (∀ x ∈ l, (f x).length ≤ b) → (l.flatMap f).length ≤ l.length * b
  | [], _ => by simp
  | x :: t, h => by
    have h1 := h x (by simp)
    have h2 := flat_len f b t (fun y hy => h y (by simp [hy]))
    simp only [List.flatMap_cons, List.length_append, List.length_cons, Nat.succ_mul]
    omega
theorem Z_length (C : Nat) (hC : C ≤ 6) : ∀ (t : List Int) (taken : Int), (Z C t taken).length ≤ 7 ^ t.length
  | [], _ => by simp [Z]
  | m :: t, taken => by
    simp only [Z, List.length_cons]
    refine Nat.le_trans (flat_len _ (7 ^ t.length) _ ?_) ?_
    · intro i _
      by_cases h0 : i = 0
      · rw [if_pos h0]; exact Z_length C hC t taken
      · rw [if_neg h0]
        split
        · rw [List.length_map]; exact Z_length C hC t _
        · simp
    · rw [List.length_range, Nat.pow_succ, Nat.mul_comm]
      exact Nat.mul_le_mul_left _ (by omega)
theorem Z_small (C : Nat) (hC : C ≤ 6) (t : List Int) (taken : Int) (ht : t.length ≤ 6) (k : Nat) : (Z C t taken).count k ≤ 117649 := by
  refine Nat.le_trans List.count_le_length (Nat.le_trans (Z_length C hC t taken) ?_)
  exact Nat.le_trans (Nat.pow_le_pow_right (by omega) ht) (by decide)

theorem cntR_snoc : ∀ (a : List Int) (v : Int), cntR (a ++ [v]) = cntR a + (if v = -1 then 0 else 1)
  | [], v => by simp [cntR]
  | x :: a, v => by simp only [List.cons_append, cntR, cntR_snoc a v]; omega
theorem okC_cell (m taken : Int) (j : Nat) (hm : 0 ≤ m ∧ m ≤ 63) (ht : 0 ≤ taken ∧ taken ≤ 63) (hj : j ≤ 6) : okC m taken j = (cell m (j : Int) && !cell taken (j : Int)) := by
  unfold okC
  rw [cell_impl m (j : Int) hm (by omega), cell_impl taken (j : Int) ht (by omega)]
theorem flatMap_map_eq {α β : Type} (f : α → List (List Int)) (g : α → List Nat) (u : List Int → β) (v : Nat → β) : ∀ l : List α, (∀ x ∈ l, (f x).map u = (g x).map v) → (l.flatMap f).map u = (l.flatMap g).map v
  | [], _ => rfl
  | x :: l, h => by
    simp only [List.flatMap_cons, List.map_append, h x (by simp), flatMap_map_eq f g u v l (fun y hy => h y (by simp [hy]))]
theorem plc_Z (C : Nat) (hC : C ≤ 6) : ∀ (t : List Int) (taken : Int) (acc : List Int), (∀ x ∈ t, 0 ≤ x ∧ x ≤ 63) → 0 ≤ taken ∧ taken ≤ 63 → (plc C t taken acc).map cntR = (Z C t taken).map fun z : Nat => cntR acc + (z : Int)
  | [], taken, acc, _, _ => by simp [plc, Z]
  | m :: t, taken, acc, hm, ht => by
    simp only [plc, Z]
    refine flatMap_map_eq _ _ _ _ _ ?_
    intro i hi
    have hi := List.mem_range.1 hi
    by_cases h0 : i = 0
    · rw [if_pos h0, if_pos h0, plc_Z C hC t taken _ (fun x hx => hm x (by simp [hx])) ht, cntR_snoc]; simp
    · rw [if_neg h0, if_neg h0, okC_cell m taken (i - 1) (hm m (by simp)) ht (by omega)]
      by_cases hc : (cell m ((i - 1 : Nat) : Int) && !cell taken ((i - 1 : Nat) : Int)) = true
      · rw [if_pos hc, if_pos hc]
        simp only [Bool.and_eq_true, Bool.not_eq_true'] at hc
        have ho := orZ_ok C taken (i - 1) hC ht (by omega) hc.2
        rw [show orC taken (i - 1) = orZ taken (i - 1) from rfl, plc_Z C hC t _ _ (fun x hx => hm x (by simp [hx])) ho.1, cntR_snoc, List.map_map, if_neg (by omega)]
        refine List.map_congr_left ?_
        intro z _
        simp only [Function.comp]; omega
      · rw [if_neg hc, if_neg hc]; rfl
theorem bump_H (M : Nat) : ∀ (L : List (List Int)) (zs z0 : List Nat), L.map cntR = zs.map (fun z : Nat => (z : Int)) → (∀ z ∈ zs, z < M) → z0.length + zs.length ≤ 1000000 → L.foldl bumpN (HZ M z0) = HZ M (z0 ++ zs)
  | [], zs, z0, h, _, _ => by
    have : zs = [] := by
      have := congrArg List.length h
      simp at this; exact List.eq_nil_of_length_eq_zero this.symm
    subst this; simp
  | q :: L, [], z0, h, _, _ => by simp at h
  | q :: L, z :: zs, z0, h, hz, hl => by
    simp only [List.map_cons, List.cons.injEq] at h
    have hzM := hz z (by simp)
    simp only [List.length_cons] at hl
    have hcl := List.count_le_length (a := z) (l := z0)
    have e : bumpN (HZ M z0) q = HZ M (z0 ++ [z]) := by
      unfold bumpN
      rw [h.1, Int.toNat_natCast, HZ_rd M z0 z hzM, w64 (by omega) (by omega)]
      refine rd_ext _ _ (by simp [HZ_len]) ?_
      intro j hj
      rw [List.length_set, HZ_len] at hj
      rw [rd_set _ z _ j (by rw [HZ_len]; exact hzM), HZ_rd _ _ j hj, HZ_rd _ _ j hj, List.count_append, List.count_singleton]
      by_cases hzj : z = j
      · subst hzj; simp
      · rw [if_neg hzj]; simp [hzj]
    rw [List.foldl_cons, e, bump_H M L zs (z0 ++ [z]) h.2 (fun y hy => hz y (by simp [hy])) (by simp; omega)]
    simp
theorem HZ_nil (M : Nat) : HZ M [] = List.replicate M 0 := by
  refine rd_ext _ _ (by simp [HZ_len]) ?_
  intro j hj
  rw [HZ_len] at hj
  rw [HZ_rd _ _ j hj, rd_nat _ j (by simpa using hj)]; simp
/-- A board's bounds. -/
def Nice (r c : Int) (l : List Int) : Prop := (1 ≤ r ∧ r ≤ 6) ∧ (1 ≤ c ∧ c ≤ 6) ∧ (l.length : Int) = r ∧ ∀ x ∈ l, 0 ≤ x ∧ x ≤ 63
/-- The rook numbers. -/
def numsL (r c : Int) (l : List Int) : List Int := HZ (min r c + 1).toNat (Z c.toNat l 0)
theorem Z_ltN (r c : Int) (l : List Int) (h : Nice r c l) : ∀ z ∈ Z c.toNat l 0, z < (min r c + 1).toNat := by
  intro z hz
  have h1 := h.1; have h2 := h.2.1; have h3 := h.2.2.1
  have := Z_le c.toNat (by omega) l 0 (by omega) z hz
  have := frZ_le c.toNat 0
  omega
theorem i_numbersN (r c : Int) (l : List Int) (h : Nice r c l) : impl_Board_numbers.f r c l = some (numsL r c l) := by
  have h1 := h.1; have h2 := h.2.1; have h3 := h.2.2.1
  have hl : l.length ≤ 6 := by omega
  have hp := plc_Z c.toNat (by omega) l 0 [] h.2.2.2 (by omega)
  have hzl := Z_length c.toNat (by omega) l 0
  have h7 : 7 ^ l.length ≤ 117649 := Nat.le_trans (Nat.pow_le_pow_right (by omega) hl) (by decide)
  simp only [cntR, Int.zero_add] at hp
  unfold impl_Board_numbers.f
  rw [if_pos]
  · congr 1
    rw [← HZ_nil, bump_H _ _ (Z c.toNat l 0) [] hp (Z_ltN r c l h) (by simp; omega)]
    rfl
  · refine ⟨by omega, by omega, by omega, by omega, h3, ?_⟩
    rw [List.all_eq_true]
    intro x hx
    have : cntR x ∈ (plc c.toNat l 0 []).map cntR := List.mem_map.2 ⟨x, hx, rfl⟩
    rw [hp] at this
    obtain ⟨z, hz, e⟩ := List.mem_map.1 this
    have := Z_ltN r c l h z hz
    exact decide_eq_true (by omega)
theorem numsL_lenN (r c : Int) (l : List Int) (h : Nice r c l) : (numsL r c l).length ≤ 7 := by
  have h1 := h.1; have h2 := h.2.1
  unfold numsL; rw [HZ_len]; omega

/-- A list does not fall. -/
def up : List Int → Prop
  | [] => True
  | [_] => True
  | a :: b :: r => a ≤ b ∧ up (b :: r)
instance upDec : ∀ l, Decidable (up l)
  | [] => .isTrue trivial
  | [_] => .isTrue trivial
  | a :: b :: r => by unfold up; have := upDec (b :: r); exact inferInstance

def Good (l : List Int) : Prop := (1 ≤ (l.length : Int) ∧ (l.length : Int) ≤ 6) ∧ (∀ x ∈ l, 0 ≤ x ∧ x ≤ (l.length : Int)) ∧ up l
instance (l : List Int) : Decidable (Good l) := by unfold Good; exact inferInstance

/-- The rows of the board of lengths. -/
def boardL (l : List Int) : List Int := l.map (fun m => 2 ^ m.toNat - 1)
theorem sh0 (m : Int) (h : 0 ≤ m ∧ m ≤ 6) : wrap64 (shl .i64 1 m - 1) = 2 ^ m.toNat - 1 := by
  have key : ∀ i : Fin 7, wrap64 (shl .i64 1 (i.val : Int) - 1) = 2 ^ (i.val : Int).toNat - 1 := by decide +kernel
  obtain ⟨i, rfl⟩ := fin_of m 7 h.1 (by omega)
  exact key i

/-- All placements of rows: number of rooks, columns taken in the end. -/
def Y (C : Nat) : List Int → Nat × Int → List (Nat × Int)
  | [], p => [p]
  | m :: t, p => (List.range (C + 1)).flatMap fun i => if i = 0 then Y C t p else if cell m ((i - 1 : Nat) : Int) && !cell p.2 ((i - 1 : Nat) : Int) then Y C t (p.1 + 1, orZ p.2 (i - 1)) else []
def rowY (C : Nat) (m : Int) (p : Nat × Int) : List (Nat × Int) := (List.range (C + 1)).flatMap fun i => if i = 0 then [p] else if cell m ((i - 1 : Nat) : Int) && !cell p.2 ((i - 1 : Nat) : Int) then [(p.1 + 1, orZ p.2 (i - 1))] else []
theorem Y_snoc (C : Nat) (m : Int) : ∀ (t : List Int) (p : Nat × Int), Y C (t ++ [m]) p = (Y C t p).flatMap (rowY C m)
  | [], p => by simp [Y, rowY]
  | x :: t, p => by
    simp only [List.cons_append, Y, List.flatMap_assoc]
    congr 1
    funext i
    by_cases h0 : i = 0
    · rw [if_pos h0, if_pos h0, Y_snoc C m t p]
    · rw [if_neg h0, if_neg h0]
      split
      · rw [Y_snoc C m t _]
      · rfl
theorem Y_Z (C : Nat) : ∀ (t : List Int) (n : Nat) (taken : Int), (Y C t (n, taken)).map (·.1) = (Z C t taken).map (fun z : Nat => n + z)
  | [], n, taken => by simp [Y, Z]
  | m :: t, n, taken => by
    simp only [Y, Z, List.map_flatMap]
    congr 1
    funext i
    by_cases h0 : i = 0
    · rw [if_pos h0, if_pos h0, Y_Z C t n taken]
    · rw [if_neg h0, if_neg h0]
      split
      · rw [Y_Z C t (n + 1) _, List.map_map]
        congr 1
        funext z
        simp only [Function.comp]; omega
      · rfl
/-- How many columns are taken. -/
def pcZ (taken : Int) : Nat := ((List.range 6).filter fun j : Nat => cell taken (j : Int)).length
/-- Which columns a row can take still. -/
def canZ (C : Nat) (m taken : Int) : List Nat := (List.range C).filter fun j : Nat => cell m (j : Int) && !cell taken (j : Int)
/-- A way that is good up to a length. -/
def OkY (a : Nat) (p : Nat × Int) : Prop := 0 ≤ p.2 ∧ p.2 < 2 ^ a ∧ pcZ p.2 = p.1
theorem pcZ_le (taken : Int) (a : Nat) (ha : a ≤ 6) (h : 0 ≤ taken ∧ taken < 2 ^ a) : pcZ taken ≤ a := by
  have key : ∀ a : Fin 7, ∀ t : Fin 64, (t.val : Int) < 2 ^ a.val → pcZ (t.val : Int) ≤ a.val := by decide +kernel
  have h6 : ∀ a : Fin 7, (2 : Int) ^ a.val ≤ 64 := by decide +kernel
  have := h6 ⟨a, by omega⟩
  obtain ⟨t, rfl⟩ := fin_of taken 64 h.1 (by simp only at this; omega)
  exact key ⟨a, by omega⟩ t h.2
theorem canZ_len (C a : Nat) (taken : Int) (hC : C ≤ 6) (ha : a ≤ C) (h : 0 ≤ taken ∧ taken < 2 ^ a) : (canZ C (2 ^ a - 1) taken).length = a - pcZ taken := by
  have key : ∀ C : Fin 7, ∀ a : Fin 7, a.val ≤ C.val → ∀ t : Fin 64, (t.val : Int) < 2 ^ a.val → (canZ C.val (2 ^ a.val - 1) (t.val : Int)).length = a.val - pcZ (t.val : Int) := by decide +kernel
  have h6 : ∀ a : Fin 7, (2 : Int) ^ a.val ≤ 64 := by decide +kernel
  have := h6 ⟨a, by omega⟩
  obtain ⟨t, rfl⟩ := fin_of taken 64 h.1 (by simp only at this; omega)
  exact key ⟨C, by omega⟩ ⟨a, by omega⟩ ha t h.2
theorem orZ_pc (a j : Nat) (taken : Int) (ha : a ≤ 6) (h : 0 ≤ taken ∧ taken < 2 ^ a) (hj : cell (2 ^ a - 1) (j : Int) = true) (hj6 : j < 6) (hf : cell taken (j : Int) = false) : (0 ≤ orZ taken j ∧ orZ taken j < 2 ^ a) ∧ pcZ (orZ taken j) = pcZ taken + 1 := by
  have key : ∀ a : Fin 7, ∀ j : Fin 6, ∀ t : Fin 64, (t.val : Int) < 2 ^ a.val → cell (2 ^ a.val - 1) (j.val : Int) = true → cell (t.val : Int) (j.val : Int) = false → (0 ≤ orZ (t.val : Int) j.val ∧ orZ (t.val : Int) j.val < 2 ^ a.val) ∧ pcZ (orZ (t.val : Int) j.val) = pcZ (t.val : Int) + 1 := by decide +kernel
  have h6 : ∀ a : Fin 7, (2 : Int) ^ a.val ≤ 64 := by decide +kernel
  have := h6 ⟨a, by omega⟩
  obtain ⟨t, rfl⟩ := fin_of taken 64 h.1 (by simp only at this; omega)
  exact key ⟨a, by omega⟩ ⟨j, hj6⟩ t h.2 hj hf
theorem rowY_ok (C a : Nat) (hC : C ≤ 6) (ha : a ≤ C) (p : Nat × Int) (h : OkY a p) : ∀ q ∈ rowY C (2 ^ a - 1) p, OkY a q := by
  intro q hq
  simp only [rowY, List.mem_flatMap, List.mem_range] at hq
  obtain ⟨i, hi, hq⟩ := hq
  by_cases h0 : i = 0
  · rw [if_pos h0] at hq; simp at hq; rw [hq]; exact h
  · rw [if_neg h0] at hq
    split at hq
    case isFalse => simp at hq
    case isTrue hc =>
      simp only [Bool.and_eq_true, Bool.not_eq_true'] at hc
      simp at hq
      have := orZ_pc a (i - 1) p.2 (by omega) ⟨h.1, h.2.1⟩ hc.1 (by omega) hc.2
      rw [hq]
      exact ⟨this.1.1, this.1.2, by simp only [this.2, h.2.2]⟩
theorem OkY_mono {a b : Nat} (hab : a ≤ b) (hb : b ≤ 6) {p : Nat × Int} (h : OkY a p) : OkY b p := by
  refine ⟨h.1, ?_, h.2.2⟩
  have key : ∀ a b : Fin 7, a.val ≤ b.val → (2 : Int) ^ a.val ≤ 2 ^ b.val := by decide +kernel
  have := key ⟨a, by omega⟩ ⟨b, by omega⟩ hab
  simp only at this
  have := h.2.1
  omega
theorem range_shift {β : Type} (C : Nat) (x : List β) (f : Nat → List β) : ((List.range (C + 1)).flatMap fun i => if i = 0 then x else f (i - 1)) = x ++ (List.range C).flatMap f := by
  rw [List.range_succ_eq_map, List.flatMap_cons, if_pos rfl, List.flatMap_map]
  congr 1
theorem flat_filter {β : Type} (c : Nat → Bool) (g : Nat → β) : ∀ l : List Nat, (l.flatMap fun j => if c j then [g j] else []) = (l.filter c).map g
  | [] => rfl
  | x :: l => by
    rw [List.flatMap_cons, flat_filter c g l, List.filter_cons]
    cases c x <;> simp
theorem rowY_count (C a : Nat) (hC : C ≤ 6) (ha : a ≤ C) (p : Nat × Int) (h : OkY a p) (k : Nat) : ((rowY C (2 ^ a - 1) p).map (·.1)).count k = (if p.1 = k then 1 else 0) + (if p.1 + 1 = k then a - p.1 else 0) := by
  unfold rowY
  rw [range_shift C [p] (fun j => if cell (2 ^ a - 1) (j : Int) && !cell p.2 (j : Int) then [(p.1 + 1, orZ p.2 j)] else []), flat_filter (fun j : Nat => cell (2 ^ a - 1) (j : Int) && !cell p.2 (j : Int)) (fun j => (p.1 + 1, orZ p.2 j))]
  rw [List.map_append, List.count_append, List.map_map]
  have e : ((fun x : Nat × Int => x.1) ∘ fun j => (p.1 + 1, orZ p.2 j)) = fun _ => p.1 + 1 := rfl
  rw [e, List.map_const', List.count_replicate]
  have hl := canZ_len C a p.2 hC ha ⟨h.1, h.2.1⟩
  unfold canZ at hl
  rw [hl, h.2.2]
  simp [List.count_cons]
theorem flat_count (C a : Nat) (hC : C ≤ 6) (ha : a ≤ C) (k : Nat) : ∀ L : List (Nat × Int), (∀ p ∈ L, OkY a p) → ((L.flatMap (rowY C (2 ^ a - 1))).map (·.1)).count k = (L.map (·.1)).count k + (if k = 0 then 0 else (a - (k - 1)) * (L.map (·.1)).count (k - 1))
  | [], _ => by simp
  | p :: L, h => by
    rw [List.flatMap_cons, List.map_append, List.count_append, rowY_count C a hC ha p (h p (by simp)) k, flat_count C a hC ha k L (fun q hq => h q (by simp [hq])), List.map_cons, List.count_cons, List.count_cons]
    by_cases h0 : k = 0
    · subst h0
      by_cases h1 : p.1 = 0
      · simp [h1]; omega
      · simp [h1]
    · simp only [h0, if_false]
      by_cases h1 : p.1 = k
      · have h2 : ¬ p.1 + 1 = k := by omega
        have h3 : ¬ p.1 = k - 1 := by omega
        simp [h1, h2, h3]
        have h4 : ¬ k = k - 1 := by omega
        simp [h4]; omega
      · by_cases h2 : p.1 + 1 = k
        · have h3 : p.1 = k - 1 := by omega
          have h5 : ¬ k - 1 = k := by omega
          simp [h3, h5, Nat.mul_add]
          have h6 : k - 1 + 1 = k := by omega
          simp [h6]; omega
        · have h3 : ¬ p.1 = k - 1 := by omega
          simp [h1, h2, h3]
theorem Y_ok (l : List Int) (C : Nat) (hC : C ≤ 6) (hx : ∀ x ∈ l, 0 ≤ x ∧ x.toNat ≤ C) (hup : ∀ i j (hi : i < l.length) (hj : j < l.length), i ≤ j → l[i] ≤ l[j]) : ∀ (i : Nat), i ≤ l.length → ∀ p ∈ Y C ((boardL l).take i) (0, 0), ∀ b : Nat, b ≤ C → (∀ j (hj : j < l.length), j < i → l[j].toNat ≤ b) → OkY b p
  | 0, _, p, hp, b, hb, _ => by
    simp [Y] at hp
    rw [hp]
    exact ⟨Int.le_refl _, by show (0 : Int) < 2 ^ b; exact Int.pow_pos (by omega), by decide⟩
  | i + 1, hi, p, hp, b, hb, hbx => by
    have hlt : i < l.length := by omega
    have hlb : i < (boardL l).length := by simpa [boardL] using hlt
    rw [List.take_succ_eq_append_getElem hlb, Y_snoc] at hp
    obtain ⟨q, hq, hp⟩ := List.mem_flatMap.1 hp
    have hm := hx l[i] (List.getElem_mem _)
    have e : (boardL l)[i] = 2 ^ l[i].toNat - 1 := by simp [boardL]
    rw [e] at hp
    have hq' := Y_ok l C hC hx hup i (by omega) q hq l[i].toNat hm.2 (fun j hj hji => by have := hup j i hj hlt (by omega); omega)
    exact OkY_mono (hbx i hlt (by omega)) (by omega) (rowY_ok C l[i].toNat hC hm.2 q hq' p hp)
theorem Z_snoc (l : List Int) (C : Nat) (hC : C ≤ 6) (hx : ∀ x ∈ l, 0 ≤ x ∧ x.toNat ≤ C) (hup : ∀ i j (hi : i < l.length) (hj : j < l.length), i ≤ j → l[i] ≤ l[j]) (i : Nat) (hi : i < l.length) (k : Nat) : (Z C ((boardL l).take (i + 1)) 0).count k = (Z C ((boardL l).take i) 0).count k + (if k = 0 then 0 else (l[i].toNat - (k - 1)) * (Z C ((boardL l).take i) 0).count (k - 1)) := by
  have hm := hx l[i] (List.getElem_mem _)
  have hlb : i < (boardL l).length := by simpa [boardL] using hi
  have e : (boardL l)[i] = 2 ^ l[i].toNat - 1 := by simp [boardL]
  have z : ∀ t, (Y C t (0, 0)).map (·.1) = Z C t 0 := fun t => by rw [Y_Z]; simp
  rw [← z, ← z, List.take_succ_eq_append_getElem hlb, Y_snoc, e]
  exact flat_count C l[i].toNat hC hm.2 k _ (fun p hp => Y_ok l C hC hx hup i (by omega) p hp l[i].toNat hm.2 (fun j hj hji => by have := hup j i hj hi (by omega); omega))
theorem fe_l1 (l : List Int) (n a : Nat) (hn : n ≤ 6) (ha : a ≤ 6) (z z' : List Nat) (hz : ∀ j, z.count j ≤ 117649) (hz' : ∀ j, z'.count j = z.count j + (if j = 0 then 0 else (a - (j - 1)) * z.count (j - 1))) (v : List Int) (nn i : Int) : ∀ (x6 k : Nat) (y : List Int), x6 ≤ n → y.length = n + 1 → (∀ j : Nat, j ≤ n → rd y (j : Int) = if j ≤ x6 then ((z.count j : Nat) : Int) else ((z'.count j : Nat) : Int)) → spec_feNumbers.l1 (k + (x6 + 1)) l y (a : Int) (x6 : Int) v nn i = spec_feNumbers.l0 k l (HZ (n + 1) z') v nn (wrap64 (i + 1))
  | 0, k, y, _, hy, hv => by
    rw [show k + (0 + 1) = k + 1 from rfl, spec_feNumbers.l1, if_neg (by omega)]
    rw [rd_ext y (HZ (n + 1) z') (by rw [HZ_len]; omega) (fun j hj => by
      rw [hv j (by omega), HZ_rd _ _ j (by omega)]
      by_cases h0 : j = 0
      · subst h0; rw [if_pos (Nat.le_refl _), hz' 0]; simp
      · rw [if_neg (by omega)])]
  | x + 1, k, y, hx, hy, hv => by
    have c1 : ((x + 1 : Nat) : Int) > 0 := by omega
    have c2 : (0 : Int) ≤ ((x + 1 : Nat) : Int) := by omega
    have c3 : ((x + 1 : Nat) : Int) < (y.length : Int) := by omega
    have e1 : wrap64 (((x + 1 : Nat) : Int) - 1) = (x : Int) := by rw [w64 (by omega) (by omega)]; omega
    have c4 : (0 : Int) ≤ (x : Int) := by omega
    have c5 : (x : Int) < (y.length : Int) := by omega
    rw [show k + (x + 1 + 1) = (k + (x + 1)) + 1 from rfl, spec_feNumbers.l1]
    simp only [e1, if_pos c1, if_pos c2, if_pos c3, if_pos c4, if_pos c5]
    have e2 : spec_l1Most.f 0 (wrap64 (wrap64 ((a : Int) - ((x + 1 : Nat) : Int)) + 1)) = some ((a - x : Nat) : Int) := by
      rw [w64 (x := (a : Int) - ((x + 1 : Nat) : Int)) (by omega) (by omega), w64 (by omega) (by omega)]
      unfold spec_l1Most.f
      by_cases h : (0 : Int) > (a : Int) - ((x + 1 : Nat) : Int) + 1
      · rw [if_pos h]; congr 1; omega
      · rw [if_neg h]; congr 1; omega
    rw [e2]
    simp only [Option.bind_some]
    have h1 := hv (x + 1) (by omega)
    have h2 := hv x (by omega)
    rw [if_pos (Nat.le_refl _)] at h1
    rw [if_pos (by omega)] at h2
    have hzx := hz x
    have hzx1 := hz (x + 1)
    have hp : (z.count x) * (a - x) ≤ 117649 * 6 := Nat.mul_le_mul hzx (by omega)
    have e3 : ((z.count x : Nat) : Int) * ((a - x : Nat) : Int) = (((z.count x) * (a - x) : Nat) : Int) := by push_cast; rfl
    have e4 := hz' (x + 1)
    rw [if_neg (by omega), Nat.add_sub_cancel, Nat.mul_comm] at e4
    rw [h1, h2, e3, w64 (x := (((z.count x) * (a - x) : Nat) : Int)) (by omega) (by omega), w64 (x := ((z.count (x + 1) : Nat) : Int) + _) (by omega) (by omega), Int.toNat_natCast]
    refine fe_l1 l n a hn ha z z' hz hz' v nn i x k _ (by omega) (by simp [hy]) ?_
    intro j hj
    rw [rd_set y (x + 1) _ j (by omega)]
    by_cases h3 : x + 1 = j
    · subst h3; rw [if_pos rfl, if_neg (by omega)]; omega
    · rw [if_neg h3, hv j hj]
      by_cases h4 : j ≤ x
      · rw [if_pos h4, if_pos (by omega)]
      · rw [if_neg h4, if_neg (by omega)]
theorem fe_l0 (l : List Int) (hl : l.length ≤ 6) (hx : ∀ x ∈ l, 0 ≤ x ∧ x.toNat ≤ l.length) (hup : ∀ i j (hi : i < l.length) (hj : j < l.length), i ≤ j → l[i] ≤ l[j]) : ∀ (d i k : Nat), i + d = l.length → d * 9 < k → spec_feNumbers.l0 k l (HZ (l.length + 1) (Z l.length ((boardL l).take i) 0)) l (l.length : Int) (i : Int) = some (HZ (l.length + 1) (Z l.length (boardL l) 0))
  | 0, i, k, hi, hk => by
    obtain ⟨k, rfl⟩ : ∃ m, k = m + 1 := ⟨k - 1, by omega⟩
    rw [spec_feNumbers.l0, if_neg (by omega), List.take_of_length_le (by simp [boardL]; omega)]
  | d + 1, i, k, hi, hk => by
    obtain ⟨k, rfl⟩ : ∃ m, k = m + (l.length + 1) + 1 := ⟨k - (l.length + 2), by omega⟩
    have hlt : i < l.length := by omega
    have hm := hx l[i] (List.getElem_mem _)
    rw [spec_feNumbers.l0, if_pos (by omega), if_pos (by omega), if_pos (by omega), rd_nat l i hlt]
    have hz := fun j => Z_small l.length hl ((boardL l).take i) 0 (by rw [List.length_take]; simp [boardL]; omega) j
    have := fe_l1 l l.length l[i].toNat hl (by omega) (Z l.length ((boardL l).take i) 0) (Z l.length ((boardL l).take (i + 1)) 0) hz (fun j => Z_snoc l l.length hl hx hup i hlt j) l (l.length : Int) (i : Int) l.length k (HZ (l.length + 1) (Z l.length ((boardL l).take i) 0)) (Nat.le_refl _) (HZ_len _ _) (fun j hj => by rw [HZ_rd _ _ j (by omega), if_pos hj])
    rw [show ((l[i].toNat : Nat) : Int) = l[i] from by omega] at this
    rw [this, w64 (by omega) (by omega), show ((i : Int) + 1) = ((i + 1 : Nat) : Int) from by omega]
    exact fe_l0 l hl hx hup d (i + 1) k (by omega) (by omega)
theorem e_feNumbers (k : Nat) (l : List Int) (h1 : 1 ≤ l.length) (hl : l.length ≤ 6) (hx : ∀ x ∈ l, 0 ≤ x ∧ x.toNat ≤ l.length) (hup : ∀ i j (hi : i < l.length) (hj : j < l.length), i ≤ j → l[i] ≤ l[j]) (hk : 100 ≤ k) : spec_feNumbers.f k l = some (numsL (l.length : Int) (l.length : Int) (boardL l)) := by
  unfold spec_feNumbers.f
  rw [w64 (by omega) (by omega), if_pos (by omega), if_pos (by omega)]
  simp only [Option.bind_some]
  rw [if_pos (by simp <;> omega)]
  have e : (List.replicate ((l.length : Int) + 1).toNat (0 : Int)).set (0 : Int).toNat 1 = HZ (l.length + 1) (Z l.length ((boardL l).take 0) 0) := by
    refine rd_ext _ _ (by simp [HZ_len] <;> omega) ?_
    intro j hj
    simp at hj
    rw [show (0 : Int).toNat = 0 from rfl, rd_set _ 0 _ j (by simp <;> omega), HZ_rd _ _ j (by omega)]
    by_cases h0 : 0 = j
    · subst h0; simp [Z]
    · rw [if_neg h0, rd_nat _ j (by simp <;> omega)]
      have h9 : List.count j [0] = 0 := List.count_eq_zero.2 (by simp; omega)
      simp [Z, h9]
  rw [e]
  have := fe_l0 l hl hx hup l.length 0 k (by omega) (by omega)
  rw [show ((0 : Nat) : Int) = 0 from rfl] at this
  rw [this]
  unfold numsL
  rw [show (min (l.length : Int) (l.length : Int) + 1).toNat = l.length + 1 from by omega, Int.toNat_natCast]
theorem nice_boardL (l : List Int) (h1 : 1 ≤ l.length) (hl : l.length ≤ 6) (hx : ∀ x ∈ l, 0 ≤ x ∧ x.toNat ≤ l.length) : Nice (l.length : Int) (l.length : Int) (boardL l) := by
  refine ⟨by omega, by omega, by simp [boardL], ?_⟩
  intro x hx'
  obtain ⟨y, hy, rfl⟩ := List.mem_map.1 hx'
  have key : ∀ a : Fin 7, 0 ≤ (2 : Int) ^ a.val - 1 ∧ (2 : Int) ^ a.val - 1 ≤ 63 := by decide +kernel
  have := hx y hy
  exact key ⟨y.toNat, by omega⟩

theorem i_newBoard (r c : Int) (h : 0 ≤ r ∧ r ≤ 6) : impl_newBoard.f r c = some (r, c, List.replicate r.toNat 0) := by
  unfold impl_newBoard.f; rw [if_pos (by omega), if_pos (by omega)]

theorem iboardOf_l0 (l : List Int) (hl : l.length ≤ 6) (hx : ∀ x ∈ l, 0 ≤ x ∧ x ≤ 6) (R C : Int) : ∀ (d i k : Nat) (out : List Int), out.length = l.length → i + d = l.length → d < k → out.take i = (boardL l).take i →
    impl_boardOf.l0 k l (l.length : Int) (i : Int) R C out = some (R, C, boardL l) := by
  intro d
  induction d with
  | zero =>
    intro i k out ho hi hk ht
    obtain ⟨k, rfl⟩ : ∃ m, k = m + 1 := ⟨k - 1, by omega⟩
    simp only [impl_boardOf.l0]; rw [if_neg (by omega)]
    rw [List.take_of_length_le (by omega), List.take_of_length_le (by simp [boardL]; omega)] at ht; rw [ht]
  | succ d ih =>
    intro i k out ho hi hk ht
    obtain ⟨k, rfl⟩ : ∃ m, k = m + 1 := ⟨k - 1, by omega⟩
    have hlt : i < l.length := by omega
    have hm := hx l[i] (List.getElem_mem _)
    simp only [impl_boardOf.l0]
    rw [if_pos (by omega), if_pos (by omega), if_pos (by omega), rd_nat l i hlt, if_pos (by omega), if_pos (by omega), sh0 _ hm, w64 (by omega) (by omega), show ((i : Int) + 1) = ((i + 1 : Nat) : Int) from by omega]
    refine ih (i + 1) k _ (by simpa using ho) (by omega) (by omega) ?_
    rw [Int.toNat_natCast, List.take_succ_eq_append_getElem (by simpa using (by omega : i < out.length)), List.take_succ_eq_append_getElem (by simpa [boardL] using hlt)]
    simp only [List.getElem_set_self, List.take_set_of_le (Nat.le_refl i), ht]
    simp [boardL]
theorem i_boardOf (k : Nat) (l : List Int) (g : Good l) (hk : 10 ≤ k) : impl_boardOf.f k l = some ((l.length : Int), (l.length : Int), boardL l) := by
  unfold impl_boardOf.f
  have h1 := g.1
  rw [i_newBoard _ _ (by omega)]
  simp only [Option.bind_some]
  exact iboardOf_l0 l (by omega) (fun x hx => by have := g.2.1 x hx; omega) _ _ l.length 0 k _ (by simp) (by omega) (by omega) (by simp)

theorem e_l1In (a b c : Int) : spec_l1In.f a b c = some (decide (b ≤ a ∧ a ≤ c)) := by
  unfold spec_l1In.f
  by_cases h : b ≤ a
  · rw [if_pos h]; simp [h]
  · rw [if_neg h]; simp [h]

theorem e_l1All_l0 (lo hi : Int) (l : List Int) (hl : l.length ≤ 2000000) : ∀ (d i k : Nat), i + d = l.length → d < k →
    spec_l1All.l0 k lo hi l (l.length : Int) (i : Int) = some (decide (∀ x ∈ l.drop i, lo ≤ x ∧ x ≤ hi)) := by
  intro d
  induction d with
  | zero =>
    intro i k hi' hk
    obtain ⟨k, rfl⟩ : ∃ m, k = m + 1 := ⟨k - 1, by omega⟩
    simp only [spec_l1All.l0]; rw [if_neg (by omega), List.drop_eq_nil_of_le (by omega)]; simp
  | succ d ih =>
    intro i k hi' hk
    obtain ⟨k, rfl⟩ : ∃ m, k = m + 1 := ⟨k - 1, by omega⟩
    have hlt : i < l.length := by omega
    simp only [spec_l1All.l0]
    rw [if_pos (by omega), if_pos (by omega), if_pos (by omega), e_l1In, rd_nat l i hlt, List.drop_eq_getElem_cons hlt, w64 (by omega) (by omega)]
    simp only [Option.bind_some, decide_eq_true_eq, List.forall_mem_cons]
    by_cases h : lo ≤ l[i] ∧ l[i] ≤ hi
    · rw [if_pos h]
      have := ih (i + 1) k (by omega) (by omega)
      rw [show ((i : Int) + 1) = ((i + 1 : Nat) : Int) from by omega, this]; simp [h]
    · rw [if_neg h]; simp [h]
theorem e_l1All (k : Nat) (l : List Int) (lo hi : Int) (hl : l.length ≤ 2000000) (hk : l.length < k) : spec_l1All.f k l lo hi = some (decide (∀ x ∈ l, lo ≤ x ∧ x ≤ hi)) := by
  unfold spec_l1All.f; exact e_l1All_l0 lo hi l hl l.length 0 k (by omega) hk

theorem e_boSide (a : Int) : spec_boSide.f a = some (decide (1 ≤ a ∧ a ≤ 6)) := by
  unfold spec_boSide.f; rw [e_l1In]; rfl

theorem e_feGood_l0 (l : List Int) (hl : l.length ≤ 2000000) : ∀ (d i k : Nat), i + 1 + d = l.length → d < k →
    spec_feGood.l0 k l ((i + 1 : Nat) : Int) = some (decide (up (l.drop i))) := by
  intro d
  induction d with
  | zero =>
    intro i k hi' hk
    obtain ⟨k, rfl⟩ : ∃ m, k = m + 1 := ⟨k - 1, by omega⟩
    simp only [spec_feGood.l0]; rw [if_neg (by omega), List.drop_eq_getElem_cons (by omega), List.drop_eq_nil_of_le (by omega)]; exact congrArg some (decide_eq_true trivial).symm
  | succ d ih =>
    intro i k hi' hk
    obtain ⟨k, rfl⟩ : ∃ m, k = m + 1 := ⟨k - 1, by omega⟩
    have hlt : i < l.length := by omega
    have hlt1 : i + 1 < l.length := by omega
    simp only [spec_feGood.l0]
    rw [w64 (x := ((i + 1 : Nat) : Int) - 1) (by omega) (by omega), if_pos (by omega), if_pos (by omega), if_pos (by omega), if_pos (by omega), rd_nat l (i + 1) hlt1,
      show ((i + 1 : Nat) : Int) - 1 = (i : Int) from by omega, rd_nat l i hlt, w64 (by omega) (by omega), show ((i + 1 : Nat) : Int) + 1 = ((i + 1 + 1 : Nat) : Int) from by omega, ih (i + 1) k (by omega) (by omega),
      List.drop_eq_getElem_cons hlt, List.drop_eq_getElem_cons hlt1]
    by_cases h : l[i + 1] < l[i]
    · rw [if_pos h]; simp only [up]; simp; intro h2; omega
    · rw [if_neg h]; simp only [up]; simp; intro; omega
theorem e_feGood (k : Nat) (l : List Int) (hl : l.length ≤ 2000000) (hk : l.length + 1 < k) : spec_feGood.f k l = some (decide (Good l)) := by
  unfold spec_feGood.f
  rw [e_boSide, e_l1All _ _ _ _ hl (by omega)]
  obtain ⟨k, rfl⟩ : ∃ m, k = m + 1 := ⟨k - 1, by omega⟩
  simp only [Option.bind_some, decide_eq_true_eq, spec_feGood.j0]
  by_cases h : 1 ≤ (l.length : Int) ∧ (l.length : Int) ≤ 6
  · rw [if_pos h]
    by_cases h2 : ∀ x ∈ l, 0 ≤ x ∧ x ≤ (l.length : Int)
    · have := e_feGood_l0 l hl (l.length - 1) 0 k (by omega) (by omega)
      rw [show ((0 + 1 : Nat) : Int) = 1 from rfl] at this
      simp only [decide_eq_true h2, Bool.not_true, Bool.false_eq_true, if_false]
      rw [this]; simp only [Good]; simp [h]; exact fun _ => h2
    · simp only [decide_eq_false h2, Bool.not_false, if_true]; simp only [Good]; simp [h2]
  · rw [if_neg h]; simp only [Good]; simp [h]

theorem e_Less (a b : Int) : cmp_Less_int.f a b = some (decide (a < b)) := by
  unfold cmp_Less_int.f; rw [show cmp_isNaN_int.f a = some false from by unfold cmp_isNaN_int.f; simp]; rfl
theorem up_take_succ (l : List Int) (i : Nat) (h : i + 1 < l.length) : up (l.drop i) ↔ l[i] ≤ l[i + 1] ∧ up (l.drop (i + 1)) := by
  rw [List.drop_eq_getElem_cons (by omega), List.drop_eq_getElem_cons h]; rfl
theorem not_up (l : List Int) (i : Nat) (hi : i + 1 < l.length) (h : l[i + 1] < l[i]) : ∀ (d j : Nat), j + d = i → ¬ up (l.drop j) := by
  intro d
  induction d with
  | zero =>
    intro j hj
    obtain rfl : j = i := hj
    rw [up_take_succ l j hi]; intro hc; omega
  | succ d ih => intro j hj; rw [up_take_succ l j (by omega)]; intro hc; exact ih (j + 1) (by omega) hc.2
theorem e_IsSorted_l0 (l : List Int) (hl : l.length ≤ 2000000) : ∀ (i k : Nat), i < l.length → i < k → up (l.drop i) →
    slices_IsSorted_int_int.l0 k l (i : Int) = some (decide (up l)) := by
  intro i
  induction i with
  | zero =>
    intro k hi' hk hu
    obtain ⟨k, rfl⟩ : ∃ m, k = m + 1 := ⟨k - 1, by omega⟩
    simp only [slices_IsSorted_int_int.l0]; rw [if_neg (by omega)]; rw [List.drop_zero] at hu; simp [hu]
  | succ i ih =>
    intro k hi' hk hu
    obtain ⟨k, rfl⟩ : ∃ m, k = m + 1 := ⟨k - 1, by omega⟩
    have hlt : i < l.length := by omega
    simp only [slices_IsSorted_int_int.l0]
    rw [w64 (x := ((i + 1 : Nat) : Int) - 1) (by omega) (by omega), if_pos (by omega), if_pos (by omega), if_pos (by omega), if_pos (by omega), if_pos (by omega), rd_nat l (i + 1) hi',
      show ((i + 1 : Nat) : Int) - 1 = (i : Int) from by omega, rd_nat l i hlt, e_Less]
    simp only [Option.bind_some, decide_eq_true_eq]
    by_cases h : l[i + 1] < l[i]
    · rw [if_pos h]
      have := not_up l i hi' h i 0 (by omega)
      rw [List.drop_zero] at this; simp [this]
    · rw [if_neg h]; exact ih k hlt (by omega) ((up_take_succ l i hi').2 ⟨by omega, hu⟩)
theorem e_IsSorted (k : Nat) (l : List Int) (hl : l.length ≤ 2000000) (h1 : 1 ≤ l.length) (hk : l.length < k) : slices_IsSorted_int_int.f k l = some (decide (up l)) := by
  unfold slices_IsSorted_int_int.f
  rw [w64 (by omega) (by omega), show (l.length : Int) - 1 = ((l.length - 1 : Nat) : Int) from by omega]
  refine e_IsSorted_l0 l hl (l.length - 1) k (by omega) (by omega) ?_
  rw [List.drop_eq_getElem_cons (by omega), List.drop_eq_nil_of_le (by omega)]; simp [up]

theorem up_ge (l : List Int) (h : up l) : ∀ x ∈ l, ∀ a r, l = a :: r → a ≤ x := by
  induction l with
  | nil => intro x hx; cases hx
  | cons a r ih =>
    intro x hx a' r' he
    injection he with h1 h2
    subst h1; subst h2
    rcases List.mem_cons.1 hx with rfl | hx
    · omega
    · cases r with
      | nil => cases hx
      | cons b r => have := ih h.2 x hx b r rfl; have := h.1; omega
theorem up_le (l : List Int) (h : up l) : ∀ x ∈ l, ∀ y, l.getLast? = some y → x ≤ y := by
  induction l with
  | nil => intro x hx; cases hx
  | cons a r ih =>
    intro x hx y hy
    cases r with
    | nil => simp at hx hy; omega
    | cons b r =>
      have hy2 : (b :: r).getLast? = some y := by simpa using hy
      rcases List.mem_cons.1 hx with rfl | hx
      · have := ih h.2 b (by simp) y hy2; have := h.1; omega
      · exact ih h.2 x hx y hy2

theorem e_within (a b c : Int) : impl_within.f a b c = some (decide (b ≤ a ∧ a ≤ c)) := by
  unfold impl_within.f
  by_cases h : b ≤ a
  · rw [if_pos h]; simp [h]
  · rw [if_neg h]; simp [h]

theorem e_isSide (a : Int) : impl_isSide.f a = some (decide (1 ≤ a ∧ a ≤ 6)) := by
  unfold impl_isSide.f; rw [e_within]; rfl

theorem i_AreLengths (k : Nat) (l : List Int) (hl : l.length ≤ 2000000) (hk : l.length < k) : impl_AreLengths.f k l = some (decide (Good l)) := by
  unfold impl_AreLengths.f
  rw [e_isSide]
  simp only [Option.bind_some, decide_eq_true_eq]
  by_cases h : 1 ≤ (l.length : Int) ∧ (l.length : Int) ≤ 6
  · rw [if_pos h, e_IsSorted k l hl (by omega) hk]
    simp only [Option.bind_some, decide_eq_true_eq]
    by_cases hu : up l
    · rw [if_pos hu, if_pos (by omega), e_within, w64 (by omega) (by omega), if_pos (by omega), if_pos (by omega), e_within]
      simp only [Option.bind_some, decide_eq_true_eq]
      have hne : 0 < l.length := by omega
      have r0 : rd l 0 = l[0] := rd_nat l 0 hne
      rw [r0]
      have r1 : rd l ((l.length : Int) - 1) = l[l.length - 1] := by
        rw [show (l.length : Int) - 1 = ((l.length - 1 : Nat) : Int) from by omega]; exact rd_nat l _ (by omega)
      rw [r1]
      have key : Good l ↔ ((0 : Int) ≤ l[0] ∧ l[0] ≤ (l.length : Int)) ∧ (0 ≤ l[l.length - 1] ∧ l[l.length - 1] ≤ (l.length : Int)) := by
        constructor
        · intro g; exact ⟨g.2.1 _ (List.getElem_mem _), g.2.1 _ (List.getElem_mem _)⟩
        · intro g
          refine ⟨h, fun x hx => ?_, hu⟩
          have a1 := up_ge l hu x hx l[0] (l.drop 1) (by rw [← List.drop_eq_getElem_cons hne]; rfl)
          have a2 := up_le l hu x hx l[l.length - 1] (by rw [List.getLast?_eq_getElem?]; simp)
          omega
      by_cases g0 : (0 : Int) ≤ l[0] ∧ l[0] ≤ (l.length : Int)
      · rw [if_pos g0]; simp only [Option.some.injEq, decide_eq_decide]; rw [key]; simp [g0]
      · rw [if_neg g0]; simp only [Option.some.injEq]; symm; rw [decide_eq_false_iff_not, key]; intro hc; exact g0 hc.1
    · rw [if_neg hu]; simp [Good, hu]
  · rw [if_neg h]; simp [Good, h]

theorem up_get : ∀ (l : List Int), up l → ∀ i j (hi : i < l.length) (hj : j < l.length), i ≤ j → l[i] ≤ l[j]
  | [], _, i, j, hi, _, _ => by simp at hi
  | [a], _, i, j, hi, hj, _ => by
    simp at hi hj; subst hi; subst hj; exact Int.le_refl _
  | a :: b :: r, h, 0, j, hi, hj, _ => up_ge (a :: b :: r) h _ (List.getElem_mem _) a (b :: r) rfl
  | a :: b :: r, h, i + 1, j, hi, hj, hij => by
    obtain ⟨j, rfl⟩ : ∃ m, j = m + 1 := ⟨j - 1, by omega⟩
    simp only [List.getElem_cons_succ]
    exact up_get (b :: r) h.2 i j (by simp at hi ⊢; omega) (by simp at hj ⊢; omega) (by omega)

def nolOut (l : List Int) : List Int × Bool := if Good l then (numsL (l.length : Int) (l.length : Int) (boardL l), true) else ([], false)
theorem good_nat {l : List Int} (g : Good l) : ∀ x ∈ l, 0 ≤ x ∧ x.toNat ≤ l.length := by
  intro x hx
  have := g.2.1 x hx
  omega
theorem nolOut_len (l : List Int) : (nolOut l).1.length ≤ 7 := by
  unfold nolOut
  split
  case isTrue g => exact numsL_lenN _ _ _ (nice_boardL l (by have := g.1; omega) (by have := g.1; omega) (good_nat g))
  case isFalse => simp
theorem e_NumbersOfLengths (k : Nat) (l : List Int) (hl : l.length ≤ 1048576) (hk : 2000000 ≤ k) : spec_NumbersOfLengths.f k l = some (nolOut l) := by
  unfold spec_NumbersOfLengths.f nolOut
  rw [e_feGood k l (by omega) (by omega)]
  simp only [Option.bind_some, decide_eq_true_eq]
  by_cases g : Good l
  · have h1 := g.1
    rw [if_pos g, if_pos g, e_feNumbers k l (by omega) (by omega) (good_nat g) (up_get l g.2.2) (by omega)]; rfl
  · rw [if_neg g, if_neg g]
theorem i_NumbersOfLengths (k : Nat) (l : List Int) (hl : l.length ≤ 1048576) (hk : 2000000 ≤ k) : impl_NumbersOfLengths.f k l = some (nolOut l) := by
  unfold impl_NumbersOfLengths.f nolOut
  rw [i_AreLengths k l (by omega) (by omega)]
  simp only [Option.bind_some, decide_eq_true_eq]
  by_cases g : Good l
  · have h1 := g.1
    rw [if_pos g, if_pos g, i_boardOf k l g (by omega)]
    simp only [Option.bind_some]
    rw [i_numbersN _ _ _ (nice_boardL l (by omega) (by omega) (good_nat g))]; rfl
  · rw [if_neg g, if_neg g]
theorem FnExactNumbersOfLengths : laws_FnExactNumbersOfLengths.Pure := by
  intro l _ _
  refine ⟨2000010, ?_⟩
  unfold laws_FnExactNumbersOfLengths.f
  by_cases h : (l.length : Int) > 1048576
  · rw [if_pos h]
  · rw [if_neg h, e_toIntS _ l (by omega) (by omega)]
    simp only [Option.bind_some]
    rw [e_NumbersOfLengths _ l (by omega) (by omega), i_NumbersOfLengths _ l (by omega) (by omega)]
    have hI : ∀ k, 2000000 ≤ k → impl_NumbersOfLengths.f k l = some (nolOut l) := fun k hk => i_NumbersOfLengths k l (by omega) hk
    have hlen := nolOut_len l
    generalize nolOut l = o at hI hlen
    obtain ⟨o1, o2⟩ := o
    simp only at hlen
    repeat (first
      | (simp only [Option.bind_some, bne_self_eq_false, Bool.false_eq_true, if_false, if_true, Bool.not_true, Bool.not_false])
      | (rw [e_toIntS _ _ (by omega) (by omega)])
      | (rw [e_eqIntS_self _ _ (by omega) (by omega)])
      | (rw [e_markIntS _ _ _ (by omega) (by omega) (by omega) (by omega)])
      | (rw [e_heldIntS _ _ _ (by omega) (by omega) (by omega) (by omega)])
      | (rw [hI _ (by omega)])
      | (rw [laws_FnExactNumbersOfLengths.j0])
      | (rw [laws_FnExactNumbersOfLengths.j1])
      | (rw [laws_FnExactNumbersOfLengths.j2])
      | (rw [if_neg (show ¬ (_ : Int) < 0 by omega)])
      | (rw [if_pos (show (_ : Int) = _ from rfl)])
      | (rfl))

end Go.Proofs.Ytiidbapgbomfjaa.Pure
