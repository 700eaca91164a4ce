/- RookNumbersMultiply: the law's function comes to true. -/
import Derived.Test.YtllhofdgbpnkkaaPFnRookNumbersMultiplyx17
namespace Go.Proofs.Ytllhofdgbpnkkaa.Pure
open Go.RowKit Go.Proofs.Ytllhofdgbpnkkaa.PFnRookNumbersMultiply Go.Proofs.YtllhofdgbpnkkaaW.PrintWords Go.Proofs.YtllhofdgbpnkkaaW.PrintLast
set_option linter.unusedVariables false
set_option linter.unusedSimpArgs false

theorem w64 {x : Int} (h0 : -9223372036854775808 ≤ x) (h1 : x < 9223372036854775808) : wrap64 x = x := by
  unfold wrap64; omega
theorem rd_nat (l : List Int) (i : Nat) (h : i < l.length) : rd l (i : Int) = l[i] := by
  unfold rd; simp [List.getD, h]

theorem rd_set (l : List Int) (i : Nat) (v : Int) (j : Nat) (h : i < l.length) : rd (l.set i v) (j : Int) = if i = j then v else rd l (j : Int) := by
  unfold rd
  simp only [List.getD, Int.toNat_natCast, List.getElem?_set]
  by_cases hij : i = j
  · subst hij; simp [h]
  · simp [hij]
theorem rd_ext (a b : List Int) (hl : a.length = b.length) (h : ∀ j : Nat, j < a.length → rd a (j : Int) = rd b (j : Int)) : a = b := by
  refine List.ext_getElem hl ?_
  intro i h1 h2
  have := h i h1
  rwa [rd_nat a i h1, rd_nat b i h2] at this

/-- Is there a cell in the column c of a row m? -/
def cell (m c : Int) : Bool := decide (m / 2 ^ c.toNat % 2 = 1)
theorem fin_of (m : Int) (n : Nat) (h0 : 0 ≤ m) (h1 : m < n) : ∃ i : Fin n, m = (i.val : Int) := ⟨⟨m.toNat, by omega⟩, by simp; omega⟩
theorem cell_spec (m c : Int) (hm : 0 ≤ m ∧ m ≤ 63) (hc : 0 ≤ c ∧ c ≤ 6) : (Int.tmod (shr .i64 m c) 2 == 1) = cell m c := by
  have h : ∀ m : Fin 64, ∀ c : Fin 7, (Int.tmod (shr .i64 (m.val : Int) (c.val : Int)) 2 == 1) = cell (m.val : Int) (c.val : Int) := by decide +kernel
  obtain ⟨i, rfl⟩ := fin_of m 64 hm.1 (by omega)
  obtain ⟨j, rfl⟩ := fin_of c 7 hc.1 (by omega)
  exact h i j
theorem cell_impl (m c : Int) (hm : 0 ≤ m ∧ m ≤ 63) (hc : 0 ≤ c ∧ c ≤ 6) : (Go.bits .and .i64 (shr .i64 m c) 1 == 1) = cell m c := by
  have h : ∀ m : Fin 64, ∀ c : Fin 7, (Go.bits .and .i64 (shr .i64 (m.val : Int) (c.val : Int)) 1 == 1) = cell (m.val : Int) (c.val : Int) := by decide +kernel
  obtain ⟨i, rfl⟩ := fin_of m 64 hm.1 (by omega)
  obtain ⟨j, rfl⟩ := fin_of c 7 hc.1 (by omega)
  exact h i j
theorem pow_le (a : Int) (h : 1 ≤ a ∧ a ≤ 6) : 2 ≤ (2 : Int) ^ a.toNat ∧ (2 : Int) ^ a.toNat ≤ 64 := by
  obtain ⟨h0, h1⟩ := h
  obtain h | h | h | h | h | h : a = 1 ∨ a = 2 ∨ a = 3 ∨ a = 4 ∨ a = 5 ∨ a = 6 := by omega
  all_goals (subst h; decide +kernel)
theorem rd_mem (l : List Int) (i : Int) (h0 : 0 ≤ i) (h1 : i < l.length) : rd l i ∈ l := by
  obtain ⟨n, rfl⟩ := Int.eq_ofNat_of_zero_le h0
  rw [rd_nat l n (by omega)]; exact List.getElem_mem _

/-- The columns taken, with one more. -/
def orZ (taken : Int) (j : Nat) : Int := Go.bits .or .i64 taken (shl .i64 1 (j : Int))
/-- Numbers of rooks of all placements, in order: rows that are left, columns taken. -/
def Z (C : Nat) : List Int → Int → List Nat
  | [], _ => [0]
  | m :: t, taken => (List.range (C + 1)).flatMap fun i => if i = 0 then Z C t taken else if cell m ((i - 1 : Nat) : Int) && !cell taken ((i - 1 : Nat) : Int) then (Z C t (orZ taken (i - 1))).map (· + 1) else []
/-- How often each number below M stands. -/
def HZ (M : Nat) (z : List Nat) : List Int := (List.range M).map fun k => ((z.count k : Nat) : Int)
theorem HZ_len (M : Nat) (z : List Nat) : (HZ M z).length = M := by simp [HZ]
theorem HZ_rd (M : Nat) (z : List Nat) (i : Nat) (h : i < M) : rd (HZ M z) (i : Int) = ((z.count i : Nat) : Int) := by
  rw [rd_nat _ i (by rw [HZ_len]; exact h)]; simp [HZ]
/-- How many columns are free. -/
def frZ (C : Nat) (taken : Int) : Nat := ((List.range C).filter fun j : Nat => !cell taken (j : Int)).length
theorem orZ_ok (C : Nat) (taken : Int) (j : Nat) (hC : C ≤ 6) (h : 0 ≤ taken ∧ taken ≤ 63) (hj : j < C) (hf : cell taken (j : Int) = false) : (0 ≤ orZ taken j ∧ orZ taken j ≤ 63) ∧ frZ C (orZ taken j) + 1 ≤ frZ C taken := by
  have key : ∀ C : Fin 7, ∀ j : Fin 6, ∀ t : Fin 64, j.val < C.val → cell (t.val : Int) (j.val : Int) = false → (0 ≤ orZ (t.val : Int) j.val ∧ orZ (t.val : Int) j.val ≤ 63) ∧ frZ C.val (orZ (t.val : Int) j.val) + 1 ≤ frZ C.val (t.val : Int) := by decide +kernel
  obtain ⟨t, rfl⟩ := fin_of taken 64 h.1 (by omega)
  exact key ⟨C, by omega⟩ ⟨j, by omega⟩ t hj hf
theorem frZ_le (C : Nat) (taken : Int) : frZ C taken ≤ C := by
  unfold frZ
  exact Nat.le_trans (List.length_filter_le _ _) (by simp)
theorem Z_le (C : Nat) (hC : C ≤ 6) : ∀ (t : List Int) (taken : Int), 0 ≤ taken ∧ taken ≤ 63 → ∀ z ∈ Z C t taken, z ≤ t.length ∧ z ≤ frZ C taken
  | [], _, _, z, hz => by simp [Z] at hz; omega
  | m :: t, taken, h, z, hz => by
    simp only [Z, List.mem_flatMap, List.mem_range] at hz
    obtain ⟨i, hi, hz⟩ := hz
    by_cases h0 : i = 0
    · rw [if_pos h0] at hz
      have := Z_le C hC t taken h z hz
      exact ⟨by simp; omega, this.2⟩
    · rw [if_neg h0] at hz
      split at hz
      case isFalse => simp at hz
      case isTrue hc =>
        simp only [Bool.and_eq_true, Bool.not_eq_true'] at hc
        obtain ⟨y, hy, rfl⟩ := List.mem_map.1 hz
        have ho := orZ_ok C taken (i - 1) hC h (by omega) hc.2
        have := Z_le C hC t _ ho.1 y hy
        exact ⟨by simp; omega, by omega⟩
theorem flat_len {α β : Type} (f : α → List β) (b : Nat) : ∀ l : List α, (∀ x ∈ l, (f x).length ≤ b) → (l.flatMap f).length ≤ l.length * b
  | [], _ => by simp
  | x :: t, h => by
    have h1 := h x (by simp)
    have h2 := flat_len f b t (fun y hy => h y (by simp [hy]))
    simp only [List.flatMap_cons, List.length_append, List.length_cons, Nat.succ_mul]
    omega
theorem Z_length (C : Nat) (hC : C ≤ 6) : ∀ (t : List Int) (taken : Int), (Z C t taken).length ≤ 7 ^ t.length
  | [], _ => by simp [Z]
  | m :: t, taken => by
    simp only [Z, List.length_cons]
    refine Nat.le_trans (flat_len _ (7 ^ t.length) _ ?_) ?_
    · intro i _
      by_cases h0 : i = 0
      · rw [if_pos h0]; exact Z_length C hC t taken
      · rw [if_neg h0]
        split
        · rw [List.length_map]; exact Z_length C hC t _
        · simp
    · rw [List.length_range, Nat.pow_succ, Nat.mul_comm]
      exact Nat.mul_le_mul_left _ (by omega)
theorem Z_small (C : Nat) (hC : C ≤ 6) (t : List Int) (taken : Int) (ht : t.length ≤ 6) (k : Nat) : (Z C t taken).count k ≤ 117649 := by
  refine Nat.le_trans List.count_le_length (Nat.le_trans (Z_length C hC t taken) ?_)
  exact Nat.le_trans (Nat.pow_le_pow_right (by omega) ht) (by decide)

theorem HZ_nil (M : Nat) : HZ M [] = List.replicate M 0 := by
  refine rd_ext _ _ (by simp [HZ_len]) ?_
  intro j hj
  rw [HZ_len] at hj
  rw [HZ_rd _ _ j hj, rd_nat _ j (by simpa using hj)]; simp
/-- A board's bounds. -/
def Nice (r c : Int) (l : List Int) : Prop := (1 ≤ r ∧ r ≤ 6) ∧ (1 ≤ c ∧ c ≤ 6) ∧ (l.length : Int) = r ∧ ∀ x ∈ l, 0 ≤ x ∧ x ≤ 63
/-- The rook numbers. -/
def numsL (r c : Int) (l : List Int) : List Int := HZ (min r c + 1).toNat (Z c.toNat l 0)
theorem Z_ltN (r c : Int) (l : List Int) (h : Nice r c l) : ∀ z ∈ Z c.toNat l 0, z < (min r c + 1).toNat := by
  intro z hz
  have h1 := h.1; have h2 := h.2.1; have h3 := h.2.2.1
  have := Z_le c.toNat (by omega) l 0 (by omega) z hz
  have := frZ_le c.toNat 0
  omega
theorem numsL_lenN (r c : Int) (l : List Int) (h : Nice r c l) : (numsL r c l).length ≤ 7 := by
  have h1 := h.1; have h2 := h.2.1
  unfold numsL; rw [HZ_len]; omega

theorem fm_app {α β : Type} (f g : α → List β) : ∀ B : List α, List.Perm (B.flatMap fun j => f j ++ g j) (B.flatMap f ++ B.flatMap g)
  | [] => List.Perm.refl _
  | b :: B => by
    rw [List.flatMap_cons, List.flatMap_cons, List.flatMap_cons]
    have h := fm_app f g B
    refine (List.Perm.append_left _ h).trans ?_
    rw [List.append_assoc, List.append_assoc]
    apply List.Perm.append_left
    rw [← List.append_assoc, ← List.append_assoc]
    exact List.Perm.append_right _ List.perm_append_comm
theorem fm_comm {α β γ : Type} (G : α → β → List γ) (B : List β) : ∀ A : List α, List.Perm (A.flatMap fun i => B.flatMap (G i)) (B.flatMap fun j => A.flatMap fun i => G i j)
  | [] => by simp
  | a :: A => by
    rw [List.flatMap_cons]
    simp only [List.flatMap_cons]
    exact (List.Perm.append_left _ (fm_comm G B A)).trans (fm_app _ _ B).symm
theorem fm_congr {α β : Type} (f g : α → List β) : ∀ A : List α, (∀ a ∈ A, List.Perm (f a) (g a)) → List.Perm (A.flatMap f) (A.flatMap g)
  | [], _ => List.Perm.refl _
  | a :: A, h => by
    rw [List.flatMap_cons, List.flatMap_cons]
    exact (h a (by simp)).append (fm_congr f g A (fun x hx => h x (by simp [hx])))
theorem orZ_cell (t : Int) (ht : 0 ≤ t ∧ t ≤ 63) (i j : Nat) (hi : i < 6) (hj : j < 6) : cell (orZ t i) (j : Int) = (cell t (j : Int) || decide (i = j)) ∧ (0 ≤ orZ t i ∧ orZ t i ≤ 63) ∧ orZ (orZ t i) j = orZ (orZ t j) i := by
  have key : ∀ t : Fin 64, ∀ i j : Fin 6, cell (orZ (t.val : Int) i.val) (j.val : Int) = (cell (t.val : Int) (j.val : Int) || decide (i.val = j.val)) ∧ (0 ≤ orZ (t.val : Int) i.val ∧ orZ (t.val : Int) i.val ≤ 63) ∧ orZ (orZ (t.val : Int) i.val) j.val = orZ (orZ (t.val : Int) j.val) i.val := by decide +kernel
  obtain ⟨t, rfl⟩ := fin_of t 64 ht.1 (by omega)
  exact key t ⟨i, hi⟩ ⟨j, hj⟩
/-- A row's part of all placements. -/
def rowZ (m : Int) (F : Int → List Nat) (t : Int) (i : Nat) : List Nat := if i = 0 then F t else if cell m ((i - 1 : Nat) : Int) && !cell t ((i - 1 : Nat) : Int) then (F (orZ t (i - 1))).map (· + 1) else []
theorem Z_cons (C : Nat) (m : Int) (l : List Int) (t : Int) : Z C (m :: l) t = (List.range (C + 1)).flatMap (rowZ m (Z C l) t) := rfl
theorem rowZ_two (C : Nat) (hC : C ≤ 6) (x y : Int) (F : Int → List Nat) (t : Int) (ht : 0 ≤ t ∧ t ≤ 63) (i j : Nat) (hi : i < C + 1) (hj : j < C + 1) : rowZ x (fun s => rowZ y F s j) t i = rowZ y (fun s => rowZ x F s i) t j := by
  unfold rowZ
  by_cases i0 : i = 0
  · by_cases j0 : j = 0
    · simp only [i0, j0, if_true]
    · simp only [i0, j0, if_true, if_false]
  · by_cases j0 : j = 0
    · simp only [i0, j0, if_true, if_false]
    · simp only [i0, j0, if_false]
      obtain ⟨c1, _, c3⟩ := orZ_cell t ht (i - 1) (j - 1) (by omega) (by omega)
      obtain ⟨d1, _, _⟩ := orZ_cell t ht (j - 1) (i - 1) (by omega) (by omega)
      rw [c1, d1, c3]
      rw [show decide (j - 1 = i - 1) = decide (i - 1 = j - 1) from by congr 1; exact propext ⟨fun h => h.symm, fun h => h.symm⟩]
      generalize decide (i - 1 = j - 1) = e
      cases cell x ((i - 1 : Nat) : Int) <;> cases cell t ((i - 1 : Nat) : Int) <;> cases cell y ((j - 1 : Nat) : Int) <;> cases cell t ((j - 1 : Nat) : Int) <;> cases e <;> simp
theorem rowZ_fm (C : Nat) (x y : Int) (F : Int → List Nat) (t : Int) (i : Nat) : rowZ x (fun s => (List.range (C + 1)).flatMap (rowZ y F s)) t i = (List.range (C + 1)).flatMap fun j => rowZ x (fun s => rowZ y F s j) t i := by
  unfold rowZ
  by_cases i0 : i = 0
  · simp only [if_pos i0]
  · simp only [if_neg i0]
    split
    · rw [List.map_flatMap]
    · simp
theorem Z_swap (C : Nat) (hC : C ≤ 6) (x y : Int) (l : List Int) (t : Int) (ht : 0 ≤ t ∧ t ≤ 63) : List.Perm (Z C (x :: y :: l) t) (Z C (y :: x :: l) t) := by
  rw [Z_cons, Z_cons]
  have e1 : (List.range (C + 1)).flatMap (rowZ x (Z C (y :: l)) t) = (List.range (C + 1)).flatMap fun i => (List.range (C + 1)).flatMap fun j => rowZ x (fun s => rowZ y (Z C l) s j) t i := by
    congr 1; funext i; exact rowZ_fm C x y (Z C l) t i
  have e2 : (List.range (C + 1)).flatMap (rowZ y (Z C (x :: l)) t) = (List.range (C + 1)).flatMap fun j => (List.range (C + 1)).flatMap fun i => rowZ y (fun s => rowZ x (Z C l) s i) t j := by
    congr 1; funext i; exact rowZ_fm C y x (Z C l) t i
  rw [e1, e2]
  refine (fm_comm _ _ _).trans ?_
  apply fm_congr
  intro j hj
  apply fm_congr
  intro i hi
  rw [rowZ_two C hC x y (Z C l) t ht i j (List.mem_range.1 hi) (List.mem_range.1 hj)]
theorem Z_perm (C : Nat) (hC : C ≤ 6) {l l' : List Int} (h : List.Perm l l') : ∀ t : Int, 0 ≤ t ∧ t ≤ 63 → List.Perm (Z C l t) (Z C l' t) := by
  induction h with
  | nil => intro t _; exact List.Perm.refl _
  | cons x h ih =>
    intro t ht
    rw [Z_cons, Z_cons]
    apply fm_congr
    intro i hi
    unfold rowZ
    have hi := List.mem_range.1 hi
    by_cases i0 : i = 0
    · rw [if_pos i0, if_pos i0]; exact ih t ht
    · rw [if_neg i0, if_neg i0]
      split
      · exact (ih _ (orZ_cell t ht (i - 1) (i - 1) (by omega) (by omega)).2.1).map _
      · exact List.Perm.refl _
  | swap x y l => intro t ht; exact Z_swap C hC y x l t ht
  | trans _ _ ih1 ih2 => intro t ht; exact (ih1 t ht).trans (ih2 t ht)
theorem numsL_perm (r c : Int) (hc : 1 ≤ c ∧ c ≤ 6) {l l' : List Int} (h : List.Perm l l') : numsL r c l = numsL r c l' := by
  unfold numsL HZ
  congr 1
  funext k
  rw [(Z_perm c.toNat (by omega) h 0 (by omega)).count_eq]

/-- The product of x - i, x - i - 1, .. -/
def prodI (x : Int) : Nat → Int → Int
  | 0, _ => 1
  | d + 1, i => (x - i) * prodI x d (i + 1)
theorem prodI_snoc (x : Int) : ∀ (d : Nat) (i : Int), prodI x (d + 1) i = prodI x d i * (x - (i + d))
  | 0, i => by simp [prodI]
  | d + 1, i => by
    rw [prodI, prodI_snoc x d (i + 1), prodI, Int.mul_assoc]
    congr 3
    omega
def sumN (f : Nat → Int) : Nat → Int
  | 0 => 0
  | n + 1 => sumN f n + f n
theorem sumN_front (f : Nat → Int) : ∀ n, sumN f (n + 1) = f 0 + sumN (fun k => f (k + 1)) n
  | 0 => by simp [sumN]
  | n + 1 => by
    rw [sumN, sumN_front f n, sumN]
    omega
theorem sumN_congr (f g : Nat → Int) : ∀ n, (∀ k, k < n → f k = g k) → sumN f n = sumN g n
  | 0, _ => rfl
  | n + 1, h => by rw [sumN, sumN, sumN_congr f g n (fun k hk => h k (by omega)), h n (by omega)]
theorem sumN_add (f g : Nat → Int) : ∀ n, sumN (fun k => f k + g k) n = sumN f n + sumN g n
  | 0 => rfl
  | n + 1 => by rw [sumN, sumN, sumN, sumN_add f g n]; omega
theorem sumN_mul (f : Nat → Int) (c : Int) : ∀ n, sumN (fun k => f k * c) n = sumN f n * c
  | 0 => by simp [sumN]
  | n + 1 => by rw [sumN, sumN, sumN_mul f c n, Int.add_mul]
theorem sumN_zero (f : Nat → Int) : ∀ n, (∀ k, k < n → f k = 0) → sumN f n = 0
  | 0, _ => rfl
  | n + 1, h => by rw [sumN, sumN_zero f n (fun k hk => h k (by omega)), h n (by omega)]; rfl
theorem sumN_one (f : Nat → Int) (j : Nat) : ∀ n, j < n → (∀ k, k < n → k ≠ j → f k = 0) → sumN f n = f j
  | 0, h, _ => by omega
  | n + 1, h, hz => by
    rw [sumN]
    by_cases e : j = n
    · subst e
      rw [sumN_zero f j (fun k hk => hz k (by omega) (by omega)), Int.zero_add]
    · rw [sumN_one f j n (by omega) (fun k hk hkj => hz k (by omega) hkj), hz n (by omega) (fun h => e h.symm), Int.add_zero]

/-- How many placements have k rooks. -/
def zI (C : Nat) (t : List Int) (taken : Int) (k : Nat) : Int := (((Z C t taken).count k : Nat) : Int)
theorem sumN_swap (f : Nat → Nat → Int) (n : Nat) : ∀ m, sumN (fun c => sumN (fun d => f c d) n) m = sumN (fun d => sumN (fun c => f c d) m) n
  | 0 => by
    rw [sumN]
    induction n with
    | zero => rfl
    | succ n ih => rw [sumN, ← ih]; rfl
  | m + 1 => by
    rw [sumN, sumN_swap f n m, ← sumN_add]
    rfl
theorem sumN_lmul (f : Nat → Int) (c : Int) (n : Nat) : sumN (fun k => c * f k) n = c * sumN f n := by
  rw [Int.mul_comm, ← sumN_mul]
  exact sumN_congr _ _ n (fun k _ => Int.mul_comm _ _)
theorem sumN_zero' (n : Nat) : sumN (fun _ => 0) n = 0 := by
  induction n with
  | zero => rfl
  | succ n ih => rw [sumN, ih]; rfl
theorem count_fm {α : Type} (f : α → List Nat) (k : Nat) : ∀ l : List α, (l.flatMap f).count k = (l.map fun x => (f x).count k).sum
  | [] => rfl
  | a :: t => by rw [List.flatMap_cons, List.count_append, count_fm f k t, List.map_cons, List.sum_cons]
theorem sum_range (g : Nat → Nat) : ∀ n, ((((List.range n).map g).sum : Nat) : Int) = sumN (fun i => ((g i : Nat) : Int)) n
  | 0 => rfl
  | n + 1 => by rw [List.range_succ, List.map_append, List.sum_append, Int.natCast_add, sum_range g n, sumN]; simp
theorem count_up (l : List Nat) (k : Nat) : (l.map (· + 1)).count k = if k = 0 then 0 else l.count (k - 1) := by
  induction l with
  | nil => simp
  | cons a t ih =>
    rw [List.map_cons, List.count_cons, ih]
    by_cases h : k = 0
    · rw [if_pos h, if_pos h, if_neg (by simp; omega)]
    · rw [if_neg h, if_neg h, List.count_cons]
      by_cases e : a = k - 1
      · rw [if_pos (by simp; omega), if_pos (by simp [e])]
      · rw [if_neg (by simp; omega), if_neg (by simpa using e)]
/-- May a rook stand in column j of row m? -/
def fitB (m taken : Int) (j : Nat) : Bool := cell m (j : Int) && !cell taken (j : Int)
theorem zI_cons (C : Nat) (m : Int) (t : List Int) (taken : Int) (k : Nat) : zI C (m :: t) taken k = zI C t taken k + sumN (fun j => if fitB m taken j = true then (if k = 0 then 0 else zI C t (orZ taken j) (k - 1)) else 0) C := by
  unfold zI
  rw [Z_cons, count_fm, sum_range, sumN_front]
  congr 1
  apply sumN_congr
  intro j _
  unfold rowZ fitB
  rw [if_neg (by omega), Nat.add_sub_cancel]
  split
  · rw [count_up]; split <;> simp_all
  · simp
theorem zI_nil (C : Nat) (taken : Int) (k : Nat) : zI C [] taken k = if k = 0 then 1 else 0 := by
  unfold zI
  rw [Z, List.count_singleton]
  by_cases h : k = 0
  · subst h; rfl
  · rw [if_neg h, if_neg (by simp; omega)]; rfl
/-- How many columns are free. -/
def frI (C : Nat) (taken : Int) : Int := sumN (fun j => if cell taken (j : Int) = false then 1 else 0) C
theorem frI_or (C : Nat) (hC : C ≤ 6) (taken : Int) (ht : 0 ≤ taken ∧ taken ≤ 63) (d : Nat) (hd : d < C) (hf : cell taken (d : Int) = false) : frI C (orZ taken d) = frI C taken - 1 := by
  have e : frI C taken = frI C (orZ taken d) + sumN (fun j => if j = d then 1 else 0) C := by
    unfold frI
    rw [← sumN_add]
    apply sumN_congr
    intro j hj
    rw [(orZ_cell taken ht d j (by omega) (by omega)).1]
    by_cases h : j = d
    · subst h; rw [hf]; simp
    · rw [if_neg h, decide_eq_false (fun x => h x.symm)]; simp
  have e2 : sumN (fun j => if j = d then (1 : Int) else 0) C = 1 := by
    have := sumN_one (fun j => if j = d then (1 : Int) else 0) d C hd (fun k _ hk => if_neg hk)
    rw [this, if_pos rfl]
  omega
theorem avoid (C : Nat) (hC : C ≤ 6) : ∀ (t : List Int) (taken : Int) (i : Nat), 0 ≤ taken ∧ taken ≤ 63 → sumN (fun c => if cell taken (c : Int) = false then zI C t (orZ taken c) i else 0) C = (frI C taken - i) * zI C t taken i
  | [], taken, i, ht => by
    rw [zI_nil]
    by_cases h : i = 0
    · subst h
      rw [if_pos rfl, Int.mul_one]
      show _ = frI C taken - ((0 : Nat) : Int)
      rw [show frI C taken - ((0 : Nat) : Int) = frI C taken by omega]
      apply sumN_congr
      intro c _
      rw [zI_nil, if_pos rfl]
    · rw [if_neg h, Int.mul_zero]
      rw [sumN_congr _ (fun _ => 0) C (fun c _ => by rw [zI_nil, if_neg h]; split <;> rfl), sumN_zero']
  | m :: t, taken, i, ht => by
    rw [zI_cons, Int.mul_add, ← avoid C hC t taken i ht]
    by_cases h : i = 0
    · subst h
      rw [sumN_congr (fun j => if fitB m taken j = true then (if (0 : Nat) = 0 then 0 else zI C t (orZ taken j) (0 - 1)) else 0) (fun _ => 0) C (fun j _ => by split <;> rfl), sumN_zero', Int.mul_zero, Int.add_zero]
      apply sumN_congr
      intro c hc
      split
      · rw [zI_cons, sumN_congr _ (fun _ => 0) C (fun j _ => by split <;> rfl), sumN_zero', Int.add_zero]
      · rfl
    · rw [sumN_congr (fun j => if fitB m taken j = true then (if i = 0 then 0 else zI C t (orZ taken j) (i - 1)) else 0) (fun j => if fitB m taken j = true then zI C t (orZ taken j) (i - 1) else 0) C (fun j _ => by rw [if_neg h])]
      rw [← sumN_lmul]
      have e : sumN (fun k => (frI C taken - (i : Int)) * (if fitB m taken k = true then zI C t (orZ taken k) (i - 1) else 0)) C = sumN (fun d => sumN (fun c => if fitB m taken d = true ∧ cell (orZ taken d) (c : Int) = false then zI C t (orZ (orZ taken d) c) (i - 1) else 0) C) C := by
        apply sumN_congr
        intro d hd
        by_cases hf : fitB m taken d = true
        · have hfd : cell taken (d : Int) = false := by unfold fitB at hf; simp only [Bool.and_eq_true, Bool.not_eq_true'] at hf; exact hf.2
          have h1 := avoid C hC t (orZ taken d) (i - 1) (orZ_cell taken ht d d (by omega) (by omega)).2.1
          rw [frI_or C hC taken ht d hd hfd] at h1
          rw [if_pos hf, sumN_congr _ (fun c => if cell (orZ taken d) (c : Int) = false then zI C t (orZ (orZ taken d) c) (i - 1) else 0) C (fun c _ => by
            by_cases hx : cell (orZ taken d) (c : Int) = false
            · rw [if_pos ⟨hf, hx⟩, if_pos hx]
            · rw [if_neg (fun x => hx x.2), if_neg hx]), h1]
          congr 1
          omega
        · rw [if_neg hf, Int.mul_zero, sumN_congr _ (fun _ => 0) C (fun c _ => by rw [if_neg (fun x => hf x.1)]), sumN_zero']
      rw [e, sumN_swap (fun d c => if fitB m taken d = true ∧ cell (orZ taken d) (c : Int) = false then zI C t (orZ (orZ taken d) c) (i - 1) else 0) C C, ← sumN_add]
      apply sumN_congr
      intro c hc
      by_cases hfc : cell taken (c : Int) = false
      · rw [if_pos hfc, if_pos hfc, zI_cons]
        congr 1
        apply sumN_congr
        intro d hd
        have c1 := orZ_cell taken ht c d (by omega) (by omega)
        have c2 := orZ_cell taken ht d c (by omega) (by omega)
        unfold fitB
        rw [c1.1, c2.1, c1.2.2, if_neg h, hfc]
        rw [show decide (d = c) = decide (c = d) from by congr 1; exact propext ⟨fun h => h.symm, fun h => h.symm⟩]
        cases cell m (d : Int) <;> cases cell taken (d : Int) <;> cases decide (c = d) <;> simp
      · rw [if_neg hfc, if_neg hfc, sumN_congr _ (fun _ => 0) C (fun d hd => by
          have c2 := orZ_cell taken ht d c (by omega) (by omega)
          rw [c2.1, if_neg (fun x => hfc (by have := x.2; simp only [Bool.or_eq_false_iff] at this; exact this.1))]), sumN_zero']; rfl
/-- How many placements of m rooks a full board of a rows and b columns has. -/
def fullE : Nat → Int → Nat → Int
  | 0, _, m => if m = 0 then 1 else 0
  | a + 1, b, m => fullE a b m + (if m = 0 then 0 else b * fullE a (b - 1) (m - 1))
def sgn (j : Nat) : Int := if j % 2 = 0 then 1 else -1
theorem sgn_succ (j : Nat) : sgn (j + 1) = - sgn j := by
  unfold sgn
  by_cases h : j % 2 = 0
  · rw [if_pos h, if_neg (by omega)]
  · rw [if_neg h, if_pos (by omega)]; rfl
/-- The alternating sum. -/
def altG (C : Nat) (t : List Int) (taken : Int) (k : Nat) : Int := sumN (fun j => sgn j * zI C t taken j * fullE (t.length - j) (frI C taken - j) (k - j)) (k + 1)
theorem zI_long (C : Nat) (hC : C ≤ 6) (t : List Int) (taken : Int) (ht : 0 ≤ taken ∧ taken ≤ 63) (k : Nat) (h : t.length < k) : zI C t taken k = 0 := by
  unfold zI
  rw [List.count_eq_zero.2]; rfl
  intro hm
  have := (Z_le C hC t taken ht k hm).1
  omega
theorem alt_compl (C : Nat) (hC : C ≤ 6) (cm : Int → Int) : ∀ (t : List Int), (∀ x ∈ t, ∀ j : Nat, j < C → cell (cm x) (j : Int) = !cell x (j : Int)) → ∀ (taken : Int) (k : Nat), 0 ≤ taken ∧ taken ≤ 63 → zI C (t.map cm) taken k = altG C t taken k
  | [], _, taken, k, ht => by
    unfold altG
    rw [List.map_nil, zI_nil]
    by_cases h : k = 0
    · subst h
      rw [if_pos rfl]
      simp [sumN, zI_nil, sgn, fullE]
    · rw [if_neg h, sumN_congr _ (fun _ => 0) _ (fun j _ => by
        rw [zI_nil]
        by_cases hj : j = 0
        · subst hj
          rw [if_pos rfl, List.length_nil, Nat.sub_zero, fullE, if_neg (by omega), Int.mul_zero]
        · rw [if_neg hj]; simp), sumN_zero']
  | m :: t, hc, taken, k, ht => by
    have ih := alt_compl C hC cm t (fun x hx => hc x (by simp [hx]))
    have hm := hc m (by simp)
    rw [List.map_cons, zI_cons, ih taken k ht]
    -- the complement's cells are all free ones but the row's
    have e1 : sumN (fun j => if fitB (cm m) taken j = true then (if k = 0 then 0 else zI C (t.map cm) (orZ taken j) (k - 1)) else 0) C = sumN (fun j => if cell taken (j : Int) = false then (if k = 0 then 0 else altG C t (orZ taken j) (k - 1)) else 0) C - sumN (fun j => if fitB m taken j = true then (if k = 0 then 0 else altG C t (orZ taken j) (k - 1)) else 0) C := by
      have : sumN (fun j => if cell taken (j : Int) = false then (if k = 0 then 0 else altG C t (orZ taken j) (k - 1)) else 0) C = sumN (fun j => if fitB (cm m) taken j = true then (if k = 0 then 0 else zI C (t.map cm) (orZ taken j) (k - 1)) else 0) C + sumN (fun j => if fitB m taken j = true then (if k = 0 then 0 else altG C t (orZ taken j) (k - 1)) else 0) C := by
        rw [← sumN_add]
        apply sumN_congr
        intro j hj
        rw [ih (orZ taken j) (k - 1) (orZ_cell taken ht j j (by omega) (by omega)).2.1]
        unfold fitB
        rw [hm j hj]
        cases cell m (j : Int) <;> cases cell taken (j : Int) <;> simp
      omega
    rw [e1]
    unfold altG
    -- what is asked of the row's own numbers
    have hrow : ∀ j, zI C (m :: t) taken j = zI C t taken j + sumN (fun c => if fitB m taken c = true then (if j = 0 then 0 else zI C t (orZ taken c) (j - 1)) else 0) C := fun j => zI_cons C m t taken j
    rw [sumN_congr (fun j => sgn j * zI C (m :: t) taken j * fullE ((m :: t).length - j) (frI C taken - j) (k - j)) (fun j => sgn j * zI C t taken j * fullE ((m :: t).length - j) (frI C taken - j) (k - j) + sgn j * sumN (fun c => if fitB m taken c = true then (if j = 0 then 0 else zI C t (orZ taken c) (j - 1)) else 0) C * fullE ((m :: t).length - j) (frI C taken - j) (k - j)) (k + 1) (fun j _ => by rw [hrow j, Int.mul_add, Int.add_mul]), sumN_add]
    have p1 : sumN (fun j => sgn j * zI C t taken j * fullE ((m :: t).length - j) (frI C taken - j) (k - j)) (k + 1) = sumN (fun j => sgn j * zI C t taken j * fullE (t.length - j) (frI C taken - j) (k - j)) (k + 1) + sumN (fun j => sgn j * zI C t taken j * (if k - j = 0 then 0 else (frI C taken - j) * fullE (t.length - j) (frI C taken - j - 1) (k - j - 1))) (k + 1) := by
      rw [← sumN_add]
      apply sumN_congr
      intro j _
      by_cases hl : t.length < j
      · rw [zI_long C hC t taken ht j hl]; simp
      · rw [List.length_cons, show t.length + 1 - j = (t.length - j) + 1 by omega, fullE, Int.mul_add]
    have p2 : sumN (fun j => sgn j * zI C t taken j * (if k - j = 0 then 0 else (frI C taken - j) * fullE (t.length - j) (frI C taken - j - 1) (k - j - 1))) (k + 1) = sumN (fun c => if cell taken (c : Int) = false then (if k = 0 then 0 else sumN (fun j => sgn j * zI C t (orZ taken c) j * fullE (t.length - j) (frI C (orZ taken c) - j) (k - 1 - j)) (k - 1 + 1)) else 0) C := by
      by_cases hk : k = 0
      · subst hk
        rw [sumN_congr _ (fun _ => 0) (0 + 1) (fun j hj => by rw [if_pos (by omega), Int.mul_zero]), sumN_zero', sumN_congr _ (fun _ => 0) C (fun c _ => by rw [if_pos rfl]; split <;> rfl), sumN_zero']
      · rw [sumN, if_pos (show k - k = 0 by omega), Int.mul_zero, Int.add_zero]
        rw [sumN_congr _ (fun j => sumN (fun c => if cell taken (c : Int) = false then sgn j * zI C t (orZ taken c) j * fullE (t.length - j) (frI C (orZ taken c) - j) (k - 1 - j) else 0) C) k (fun j hj => by
          rw [if_neg (by omega)]
          have ha := avoid C hC t taken j ht
          rw [sumN_congr (fun c => if cell taken (c : Int) = false then sgn j * zI C t (orZ taken c) j * fullE (t.length - j) (frI C (orZ taken c) - j) (k - 1 - j) else 0) (fun c => (if cell taken (c : Int) = false then zI C t (orZ taken c) j else 0) * (sgn j * fullE (t.length - j) (frI C taken - j - 1) (k - j - 1))) C (fun c hcC => by
            by_cases hf : cell taken (c : Int) = false
            · rw [if_pos hf, if_pos hf, frI_or C hC taken ht c hcC hf, show k - 1 - j = k - j - 1 by omega, show frI C taken - 1 - (j : Int) = frI C taken - j - 1 by omega]
              grind
            · rw [if_neg hf, if_neg hf, Int.zero_mul]), sumN_mul, ha]
          grind), sumN_swap]
        apply sumN_congr
        intro c _
        by_cases hf : cell taken (c : Int) = false
        · rw [if_pos hf, if_neg hk, show k - 1 + 1 = k by omega]
          apply sumN_congr
          intro j _
          rw [if_pos hf]
        · rw [if_neg hf, sumN_congr _ (fun _ => 0) k (fun j _ => by rw [if_neg hf]), sumN_zero']
    have p3 : sumN (fun j => sgn j * sumN (fun c => if fitB m taken c = true then (if j = 0 then 0 else zI C t (orZ taken c) (j - 1)) else 0) C * fullE ((m :: t).length - j) (frI C taken - j) (k - j)) (k + 1) = - sumN (fun c => if fitB m taken c = true then (if k = 0 then 0 else sumN (fun j => sgn j * zI C t (orZ taken c) j * fullE (t.length - j) (frI C (orZ taken c) - j) (k - 1 - j)) (k - 1 + 1)) else 0) C := by
      rw [sumN_front]
      rw [sumN_congr (fun c => if fitB m taken c = true then (if (0 : Nat) = 0 then 0 else zI C t (orZ taken c) (0 - 1)) else 0) (fun _ => 0) C (fun c _ => by split <;> rfl), sumN_zero', Int.mul_zero, Int.zero_mul, Int.zero_add]
      by_cases hk : k = 0
      · subst hk
        rw [sumN, sumN_congr _ (fun _ => 0) C (fun c _ => by rw [if_pos rfl]; split <;> rfl), sumN_zero']; rfl
      · rw [sumN_congr _ (fun j => sumN (fun c => if fitB m taken c = true then -(sgn j * zI C t (orZ taken c) j * fullE (t.length - j) (frI C (orZ taken c) - j) (k - 1 - j)) else 0) C) k (fun j hj => by
          rw [sgn_succ, ← sumN_lmul, ← sumN_mul]
          apply sumN_congr
          intro c hcC
          by_cases hf : fitB m taken c = true
          · have hfd : cell taken (c : Int) = false := by unfold fitB at hf; simp only [Bool.and_eq_true, Bool.not_eq_true'] at hf; exact hf.2
            rw [if_pos hf, if_pos hf, if_neg (by omega), Nat.add_sub_cancel, List.length_cons, show t.length + 1 - (j + 1) = t.length - j by omega, frI_or C hC taken ht c hcC hfd, show k - (j + 1) = k - 1 - j by omega, show frI C taken - ((j + 1 : Nat) : Int) = frI C taken - 1 - j by omega]
            grind
          · rw [if_neg hf, if_neg hf]; simp), sumN_swap]
        have neg : ∀ (f : Nat → Int) (n : Nat), sumN (fun c => -(f c)) n = - sumN f n := by
          intro f n
          induction n with
          | zero => rfl
          | succ n ih => rw [sumN, sumN, ih]; omega
        rw [← neg]
        apply sumN_congr
        intro c _
        by_cases hf : fitB m taken c = true
        · rw [if_pos hf, if_neg hk, show k - 1 + 1 = k by omega, ← neg]
          apply sumN_congr
          intro j _
          rw [if_pos hf]
        · rw [if_neg hf, sumN_congr _ (fun _ => 0) k (fun j _ => by rw [if_neg hf]), sumN_zero']; rfl
    rw [p1, p2, p3]
    omega

def chV (n k : Nat) : Int := (spec_roChoose.f 20 (n : Int) (k : Int)).getD 0
theorem fullE_ch (a m : Nat) (ha : a ≤ 6) (hm : m ≤ a) : fullE a (a : Int) m = chV a m * chV a m * prodI (m : Int) m 0 ∧ 0 ≤ chV a m ∧ chV a m ≤ 20 ∧ 0 ≤ prodI (m : Int) m 0 ∧ prodI (m : Int) m 0 ≤ 720 := by
  have key : ∀ a m : Fin 7, m.val ≤ a.val → fullE a.val (a.val : Int) m.val = chV a.val m.val * chV a.val m.val * prodI (m.val : Int) m.val 0 ∧ 0 ≤ chV a.val m.val ∧ chV a.val m.val ≤ 20 ∧ 0 ≤ prodI (m.val : Int) m.val 0 ∧ prodI (m.val : Int) m.val 0 ≤ 720 := by decide +kernel
  exact key ⟨a, by omega⟩ ⟨m, by omega⟩ hm
theorem frI_zero (C : Nat) (hC : C ≤ 6) : frI C 0 = C := by
  have key : ∀ C : Fin 7, frI C.val 0 = (C.val : Int) := by decide +kernel
  exact key ⟨C, by omega⟩
/-- The alternating sum on a square board, in the program's numbers. -/
theorem altG_square (n : Nat) (hn : n ≤ 6) (t : List Int) (ht : t.length = n) (k : Nat) (hk : k ≤ n) : altG n t 0 k = sumN (fun j => sgn j * zI n t 0 j * (chV (n - j) (k - j) * chV (n - j) (k - j) * prodI ((k - j : Nat) : Int) (k - j) 0)) (k + 1) := by
  unfold altG
  apply sumN_congr
  intro j hj
  rw [ht, frI_zero n hn, show ((n : Int) - (j : Int)) = ((n - j : Nat) : Int) by omega, (fullE_ch (n - j) (k - j) (by omega) (by omega)).1]

theorem i_IsBoard (r c : Int) (l : List Int) : impl_IsBoard.f r c l = some (decide (GoodB r c l)) := rfl

theorem goodB_le {r c : Int} {l : List Int} (h : GoodB r c l) : ∀ x ∈ l, 0 ≤ x ∧ x ≤ 63 := by
  intro x hx
  have := h.2.2.2 x hx
  have := pow_le c h.2.1
  omega
theorem goodB_len {r c : Int} {l : List Int} (h : GoodB r c l) : l.length ≤ 6 := by
  have := h.1; have := h.2.2.1; omega
/-- Is it a place of a board? -/
def Place (r c i j : Int) : Prop := (0 ≤ i ∧ i ≤ r - 1) ∧ (0 ≤ j ∧ j ≤ c - 1)
instance (r c i j : Int) : Decidable (Place r c i j) := by unfold Place; exact inferInstance

theorem e_boHas (r c : Int) (l : List Int) (i j : Int) (h : GoodB r c l) (hp : Place r c i j) : spec_boHas.f r c l i j = some (cell (rd l i) j) := by
  unfold spec_boHas.f
  have h1 := h.1; have h2 := h.2.1; have h3 := h.2.2.1; have h4 := hp.1; have h5 := hp.2
  have hm := goodB_le h (rd l i) (rd_mem l i (by omega) (by omega))
  rw [if_pos (by omega), if_pos (by omega), if_pos (by omega), cell_spec _ _ hm (by omega)]

theorem count_succ (B : List Nat) (j : Nat) : (B.map (· + 1)).count j = if j = 0 then 0 else B.count (j - 1) := by
  induction B with
  | nil => simp
  | cons x B ih =>
    rw [List.map_cons, List.count_cons, ih, List.count_cons]
    by_cases h : j = 0
    · subst h; simp
    · simp only [h, if_false]
      congr 1
      by_cases h2 : x = j - 1
      · have : x + 1 = j := by omega
        simp [h2, this]; omega
      · have : ¬ x + 1 = j := by omega
        simp [h2, this]
theorem w_l0 (M : Nat) (hM : M ≤ 7) (H : List Int) (hH : H.length = M) (hs : ∀ j, j < M → 0 ≤ rd H (j : Int) ∧ rd H (j : Int) ≤ 117649) (x1 x2 r c : Int) (l : List Int) : ∀ (d i k : Nat) (y : List Int), i + d = M → y.length = M → (∀ j, j < M → rd y (j : Int) = if j < i then rd H (j : Int) else 0) → spec_roWays.l0 (k + (d + 1)) x1 x2 y H (M : Int) (i : Int) r c l = spec_roWays.l1 k x1 x2 H 0 r c l
  | 0, i, k, y, hi, hy, hv => by
    rw [show k + (0 + 1) = k + 1 from rfl, spec_roWays.l0, if_neg (by omega)]
    rw [rd_ext y H (by omega) (fun j hj => by rw [hv j (by omega), if_pos (by omega)])]
  | d + 1, i, k, y, hi, hy, hv => by
    have h0 := hs i (by omega)
    rw [show k + (d + 1 + 1) = (k + (d + 1)) + 1 from rfl, spec_roWays.l0, if_pos (by omega), if_pos (by omega), if_pos (by omega), if_pos (by omega), hv i (by omega), if_neg (by omega), w64 (x := 0 + rd H (i : Int)) (by omega) (by omega), w64 (by omega) (by omega), Int.toNat_natCast, show ((i : Int) + 1) = ((i + 1 : Nat) : Int) from by omega]
    refine w_l0 M hM H hH hs x1 x2 r c l d (i + 1) k _ (by omega) (by simp [hy]) ?_
    intro j hj
    rw [rd_set y i _ j (by omega)]
    by_cases h1 : i = j
    · subst h1; rw [if_pos rfl, if_pos (by omega)]; omega
    · rw [if_neg h1, hv j hj]
      by_cases h2 : j < i
      · rw [if_pos h2, if_pos (by omega)]
      · rw [if_neg h2, if_neg (by omega)]
theorem w_l2 (M : Nat) (hM : M ≤ 7) (A B : List Nat) (hA : ∀ j, A.count j ≤ 1000000) (hB : ∀ j, B.count j ≤ 117649) (hb : ∀ z ∈ B, z + 1 < M) (x1 x2 x10 r c : Int) (l : List Int) : ∀ (d i k : Nat) (y : List Int), i + d = M → y.length = M → (∀ j, j < M → rd y (j : Int) = ((A.count j : Nat) : Int) + (if 1 ≤ j ∧ j ≤ i then ((B.count (j - 1) : Nat) : Int) else 0)) → spec_roWays.l2 (k + (d + 1)) x1 x2 y x10 (HZ M B) (M : Int) (i : Int) r c l = spec_roWays.l1 k x1 x2 (HZ M (A ++ B.map (· + 1))) (wrap64 (x10 + 1)) r c l
  | 0, i, k, y, hi, hy, hv => by
    rw [show k + (0 + 1) = k + 1 from rfl, spec_roWays.l2, if_neg (by omega)]
    rw [rd_ext y (HZ M (A ++ B.map (· + 1))) (by rw [HZ_len]; omega) (fun j hj => by
      rw [hv j (by omega), HZ_rd _ _ j (by omega), List.count_append, count_succ]
      by_cases h0 : j = 0
      · rw [if_neg (by omega), if_pos h0]; omega
      · rw [if_pos (by omega), if_neg h0]; omega)]
  | d + 1, i, k, y, hi, hy, hv => by
    rw [show k + (d + 1 + 1) = (k + (d + 1)) + 1 from rfl, spec_roWays.l2, if_pos (by omega), if_pos (by omega), if_pos (by rw [HZ_len]; omega), HZ_rd _ _ i (by omega)]
    have hBi := hB i
    by_cases hp : ((B.count i : Nat) : Int) > 0
    · have hi1 : i + 1 < M := hb i (List.count_pos_iff.1 (by omega))
      have hAi := hA (i + 1)
      rw [if_pos hp, w64 (x := (i : Int) + 1) (by omega) (by omega), if_pos (by omega), if_pos (by omega), show ((i : Int) + 1) = ((i + 1 : Nat) : Int) from by omega, hv (i + 1) hi1, if_neg (by omega), w64 (by omega) (by omega), Int.toNat_natCast]
      refine w_l2 M hM A B hA hB hb x1 x2 x10 r c l d (i + 1) k _ (by omega) (by simp [hy]) ?_
      intro j hj
      rw [rd_set y (i + 1) _ j (by omega)]
      by_cases h1 : i + 1 = j
      · subst h1; rw [if_pos rfl, if_pos (by omega), Nat.add_sub_cancel]; omega
      · rw [if_neg h1, hv j hj]
        by_cases h2 : 1 ≤ j ∧ j ≤ i
        · rw [if_pos h2, if_pos (by omega)]
        · rw [if_neg h2, if_neg (by omega)]
    · rw [if_neg hp, w64 (by omega) (by omega), show ((i : Int) + 1) = ((i + 1 : Nat) : Int) from by omega]
      refine w_l2 M hM A B hA hB hb x1 x2 x10 r c l d (i + 1) k _ (by omega) hy ?_
      intro j hj
      rw [hv j hj]
      by_cases h2 : 1 ≤ j ∧ j ≤ i
      · rw [if_pos h2, if_pos (by omega)]
      · by_cases h3 : j = i + 1
        · subst h3; rw [if_neg h2, if_pos (by omega), Nat.add_sub_cancel]; omega
        · rw [if_neg h2, if_neg (by omega)]
/-- What the placements are whose row m holds no rook, or one in a column below j. -/
def candZ (C : Nat) (m : Int) (t : List Int) (taken : Int) (i : Nat) : List Nat := if i = 0 then Z C t taken else if cell m ((i - 1 : Nat) : Int) && !cell taken ((i - 1 : Nat) : Int) then (Z C t (orZ taken (i - 1))).map (· + 1) else []
theorem candZ_len (C : Nat) (hC : C ≤ 6) (m : Int) (t : List Int) (taken : Int) (ht : t.length ≤ 5) (i : Nat) : (candZ C m t taken i).length ≤ 16807 := by
  have hp : 7 ^ t.length ≤ 16807 := Nat.le_trans (Nat.pow_le_pow_right (by omega) ht) (by decide)
  unfold candZ
  by_cases h0 : i = 0
  · rw [if_pos h0]; exact Nat.le_trans (Z_length C hC t taken) hp
  · rw [if_neg h0]
    split
    · rw [List.length_map]; exact Nat.le_trans (Z_length C hC t _) hp
    · simp
/-- A board's bounds, where there may be no rows or columns. -/
def WB (r c : Int) (l : List Int) : Prop := (0 ≤ r ∧ r ≤ 6) ∧ (0 ≤ c ∧ c ≤ 6) ∧ (l.length : Int) = r ∧ ∀ x ∈ l, 0 ≤ x ∧ x ≤ 63
theorem wb_of {r c : Int} {l : List Int} (h : GoodB r c l) : WB r c l := ⟨⟨by have := h.1; omega, h.1.2⟩, ⟨by have := h.2.1; omega, h.2.1.2⟩, h.2.2.1, goodB_le h⟩
theorem e_boHasW (r c : Int) (l : List Int) (i j : Int) (h : WB r c l) (hp : (0 ≤ i ∧ i < r) ∧ (0 ≤ j ∧ j ≤ 6)) : spec_boHas.f r c l i j = some (cell (rd l i) j) := by
  unfold spec_boHas.f
  have h3 := h.2.2.1
  have hm := h.2.2.2 (rd l i) (rd_mem l i (by omega) (by omega))
  rw [if_pos (by omega), if_pos (by omega), if_pos (by omega), cell_spec _ _ hm (by omega)]
theorem e_roWaysW (r c : Int) (l : List Int) (h : WB r c l) (C M : Nat) (hC : (C : Int) = c) (hM : (M : Int) = min r c + 1) : ∀ (t : List Int) (row : Nat) (taken : Int) (k : Nat), l.drop row = t → row ≤ l.length → 0 ≤ taken ∧ taken ≤ 63 → 100 * t.length + 100 ≤ k → spec_roWays.f k r c l (row : Int) taken = some (HZ M (Z C t taken)) := by
  have h1 := h.1; have h2 := h.2.1; have h3 := h.2.2.1
  have hl : l.length ≤ 6 := by omega
  intro t
  induction t with
  | nil =>
    intro row taken k ht hrow htk hk
    have hrl : row = l.length := by
      have := congrArg List.length ht
      simp at this; omega
    obtain ⟨k, rfl⟩ : ∃ n, k = n + 1 := ⟨k - 1, by omega⟩
    rw [spec_roWays.f]
    unfold spec_l1Least.f
    have e1 : (if r < c then some r else some c) = some (min r c) := by split <;> (congr 1; omega)
    rw [e1]
    simp only [Option.bind_some]
    rw [w64 (by omega) (by omega), ← hM, if_pos (by omega), if_pos (by omega)]
    rw [if_pos (by omega), if_pos (by simp; omega), Int.toNat_natCast]
    congr 1
    refine rd_ext _ _ (by simp [HZ_len]) ?_
    intro j hj
    simp at hj
    rw [show (0 : Int).toNat = 0 from rfl, rd_set _ 0 _ j (by simpa using (by omega : 0 < M)), HZ_rd _ _ j hj]
    by_cases h0 : 0 = j
    · subst h0; simp [Z]
    · rw [if_neg h0, rd_nat _ j (by simpa using hj)]
      have h9 : List.count j [0] = 0 := List.count_eq_zero.2 (by simp; omega)
      simp [Z, h9]
  | cons m t ih =>
    intro row taken k ht hrow htk hk
    have hlt : row < l.length := by
      have := congrArg List.length ht
      simp at this; omega
    have hd := List.drop_eq_getElem_cons hlt
    rw [ht] at hd
    injection hd with hm ht'
    simp only [List.length_cons] at hk
    have htl : t.length = l.length - (row + 1) := by rw [ht']; simp
    obtain ⟨k, rfl⟩ : ∃ n, k = n + 1 := ⟨k - 1, by omega⟩
    rw [spec_roWays.f]
    unfold spec_l1Least.f
    have e1 : (if r < c then some r else some c) = some (min r c) := by split <;> (congr 1; omega)
    rw [e1]
    simp only [Option.bind_some]
    rw [w64 (by omega) (by omega), ← hM, if_pos (by omega), if_pos (by omega)]
    rw [if_neg (by omega), w64 (x := (row : Int) + 1) (by omega) (by omega), show ((row : Int) + 1) = ((row + 1 : Nat) : Int) from by omega, Int.toNat_natCast]
    rw [ih (row + 1) taken k ht'.symm (by omega) htk (by omega)]
    simp only [Option.bind_some]
    obtain ⟨k, rfl⟩ : ∃ n, k = n + (M + 1) := ⟨k - (M + 1), by omega⟩
    have hzs : ∀ (tk : Int) (j : Nat), (Z C t tk).count j ≤ 117649 := fun tk j => Z_small C (by omega) t tk (by omega) j
    have hw0 := w_l0 M (by omega) (HZ M (Z C t taken)) (HZ_len _ _) (fun j hj => by rw [HZ_rd _ _ j hj]; have := hzs taken j; omega) (row : Int) taken r c l M 0 k (List.replicate M 0) (by omega) (by simp) (fun j hj => by rw [rd_nat _ j (by simpa using hj)]; simp)
    rw [show ((0 : Nat) : Int) = 0 from rfl] at hw0
    rw [HZ_len, hw0]
    have hcz : Z C (m :: t) taken = (List.range (C + 1)).flatMap (candZ C m t taken) := rfl
    have hm63 := h.2.2.2 m (by rw [hm]; exact List.getElem_mem _)
    have loop : ∀ (d j k : Nat), j + d = C → 100 * t.length + 100 + d * 12 + 1 ≤ k → spec_roWays.l1 k (row : Int) taken (HZ M ((List.range (j + 1)).flatMap (candZ C m t taken))) (j : Int) r c l = some (HZ M (Z C (m :: t) taken)) := by
      intro d
      induction d with
      | zero =>
        intro j k hj hk
        obtain ⟨k, rfl⟩ : ∃ n, k = n + 1 := ⟨k - 1, by omega⟩
        rw [spec_roWays.l1, if_neg (by omega), hcz, show j = C from by omega]
      | succ d ihd =>
        intro j k hj hk
        obtain ⟨k, rfl⟩ : ∃ n, k = n + 1 + 1 := ⟨k - 2, by omega⟩
        have hjC : j < C := by omega
        rw [spec_roWays.l1, if_pos (by omega), e_boHasW r c l (row : Int) (j : Int) h ⟨by omega, by omega⟩, rd_nat l row hlt, ← hm]
        simp only [Option.bind_some]
        have hcd : candZ C m t taken (j + 1) = if cell m (j : Int) && !cell taken (j : Int) then (Z C t (orZ taken j)).map (· + 1) else [] := by unfold candZ; rw [if_neg (by omega)]; simp
        have hrg : (List.range (j + 1 + 1)).flatMap (candZ C m t taken) = (List.range (j + 1)).flatMap (candZ C m t taken) ++ candZ C m t taken (j + 1) := by rw [List.range_succ (n := j + 1), List.flatMap_append]; simp
        have skip : (cell m (j : Int) && !cell taken (j : Int)) = false → spec_roWays.l1 k (row : Int) taken (HZ M ((List.range (j + 1)).flatMap (candZ C m t taken))) (wrap64 ((j : Int) + 1)) r c l = some (HZ M (Z C (m :: t) taken)) := by
          intro hf
          have := ihd (j + 1) k (by omega) (by omega)
          rw [hrg, hcd, hf] at this
          simp only [Bool.false_eq_true, if_false, List.append_nil] at this
          rw [w64 (by omega) (by omega), show ((j : Int) + 1) = ((j + 1 : Nat) : Int) from by omega]
          exact this
        by_cases hc1 : cell m (j : Int) = true
        · rw [if_pos hc1, if_pos (by omega), cell_spec taken (j : Int) (by omega) (by omega), spec_roWays.j2]
          by_cases hc2 : cell taken (j : Int) = true
          · rw [if_pos hc2]
            exact skip (by rw [hc1, hc2]; rfl)
          · have hc2' := Bool.eq_false_iff.2 hc2
            have ho := orZ_ok C taken j (by omega) htk hjC hc2'
            have hfl := frZ_le C taken
            rw [if_neg hc2, if_pos (by omega), w64 (x := (row : Int) + 1) (by omega) (by omega), show ((row : Int) + 1) = ((row + 1 : Nat) : Int) from by omega, show Go.bits .or .i64 taken (shl .i64 1 (j : Int)) = orZ taken j from rfl]
            rw [ih (row + 1) (orZ taken j) k ht'.symm (by omega) ho.1 (by omega)]
            simp only [Option.bind_some]
            obtain ⟨k, rfl⟩ : ∃ n, k = n + (M + 1) := ⟨k - (M + 1), by omega⟩
            have hAs : ∀ i, ((List.range (j + 1)).flatMap (candZ C m t taken)).count i ≤ 1000000 := fun i => by
              have h7 := flat_len (candZ C m t taken) 16807 (List.range (j + 1)) (fun x _ => candZ_len C (by omega) m t taken (by omega) x)
              rw [List.length_range] at h7
              have := List.count_le_length (a := i) (l := (List.range (j + 1)).flatMap (candZ C m t taken))
              omega
            have hw2 := w_l2 M (by omega) ((List.range (j + 1)).flatMap (candZ C m t taken)) (Z C t (orZ taken j)) hAs (hzs _) (fun z hz => by
              have := Z_le C (by omega) t (orZ taken j) ho.1 z hz
              omega) (row : Int) taken (j : Int) r c l M 0 k (HZ M ((List.range (j + 1)).flatMap (candZ C m t taken))) (by omega) (HZ_len _ _) (fun i hi => by rw [HZ_rd _ _ i hi, if_neg (by omega)]; omega)
            rw [show ((0 : Nat) : Int) = 0 from rfl] at hw2
            rw [HZ_len, hw2]
            have := ihd (j + 1) k (by omega) (by omega)
            rw [hrg, hcd, hc1, hc2'] at this
            rw [w64 (by omega) (by omega), show ((j : Int) + 1) = ((j + 1 : Nat) : Int) from by omega]
            simpa using this
        · rw [if_neg hc1, spec_roWays.j2, if_pos rfl]
          exact skip (by rw [Bool.eq_false_iff.2 hc1]; rfl)
    have := loop C 0 k (by omega) (by omega)
    simpa [candZ] using this
theorem e_roWays (r c : Int) (l : List Int) (h : GoodB r c l) (C M : Nat) (hC : (C : Int) = c) (hM : (M : Int) = min r c + 1) : ∀ (t : List Int) (row : Nat) (taken : Int) (k : Nat), l.drop row = t → row ≤ l.length → 0 ≤ taken ∧ taken ≤ 63 → 100 * t.length + 100 ≤ k → spec_roWays.f k r c l (row : Int) taken = some (HZ M (Z C t taken)) := e_roWaysW r c l (wb_of h) C M hC hM

theorem nice_of {r c : Int} {l : List Int} (h : GoodB r c l) : Nice r c l := ⟨h.1, h.2.1, h.2.2.1, goodB_le h⟩
theorem numsL_len (r c : Int) (l : List Int) (h : GoodB r c l) : (numsL r c l).length ≤ 7 := numsL_lenN r c l (nice_of h)

theorem e_roNumbers (k : Nat) (r c : Int) (l : List Int) (h : GoodB r c l) (hk : 1000 ≤ k) : spec_roNumbers.f k r c l = some (numsL r c l) := by
  have h1 := h.1; have h2 := h.2.1; have h3 := h.2.2.1
  have hl := goodB_len h
  unfold spec_roNumbers.f
  have := e_roWays r c l h c.toNat (min r c + 1).toNat (by omega) (by omega) l 0 0 k rfl (by omega) (by omega) (by omega)
  rw [show ((0 : Nat) : Int) = 0 from rfl] at this
  rw [this]; rfl
theorem e_roNumbersW (k : Nat) (r c : Int) (l : List Int) (h : WB r c l) (hk : 1000 ≤ k) : spec_roNumbers.f k r c l = some (numsL r c l) := by
  have h1 := h.1; have h2 := h.2.1; have h3 := h.2.2.1
  unfold spec_roNumbers.f
  have := e_roWaysW r c l h c.toNat (min r c + 1).toNat (by omega) (by omega) l 0 0 k rfl (by omega) (by omega) (by omega)
  rw [show ((0 : Nat) : Int) = 0 from rfl] at this
  rw [this]; rfl

theorem cntR_snoc : ∀ (a : List Int) (v : Int), cntR (a ++ [v]) = cntR a + (if v = -1 then 0 else 1)
  | [], v => by simp [cntR]
  | x :: a, v => by simp only [List.cons_append, cntR, cntR_snoc a v]; omega
theorem okC_cell (m taken : Int) (j : Nat) (hm : 0 ≤ m ∧ m ≤ 63) (ht : 0 ≤ taken ∧ taken ≤ 63) (hj : j ≤ 6) : okC m taken j = (cell m (j : Int) && !cell taken (j : Int)) := by
  unfold okC
  rw [cell_impl m (j : Int) hm (by omega), cell_impl taken (j : Int) ht (by omega)]
theorem flatMap_map_eq {α β : Type} (f : α → List (List Int)) (g : α → List Nat) (u : List Int → β) (v : Nat → β) : ∀ l : List α, (∀ x ∈ l, (f x).map u = (g x).map v) → (l.flatMap f).map u = (l.flatMap g).map v
  | [], _ => rfl
  | x :: l, h => by
    simp only [List.flatMap_cons, List.map_append, h x (by simp), flatMap_map_eq f g u v l (fun y hy => h y (by simp [hy]))]
theorem plc_Z (C : Nat) (hC : C ≤ 6) : ∀ (t : List Int) (taken : Int) (acc : List Int), (∀ x ∈ t, 0 ≤ x ∧ x ≤ 63) → 0 ≤ taken ∧ taken ≤ 63 → (plc C t taken acc).map cntR = (Z C t taken).map fun z : Nat => cntR acc + (z : Int)
  | [], taken, acc, _, _ => by simp [plc, Z]
  | m :: t, taken, acc, hm, ht => by
    simp only [plc, Z]
    refine flatMap_map_eq _ _ _ _ _ ?_
    intro i hi
    have hi := List.mem_range.1 hi
    by_cases h0 : i = 0
    · rw [if_pos h0, if_pos h0, plc_Z C hC t taken _ (fun x hx => hm x (by simp [hx])) ht, cntR_snoc]; simp
    · rw [if_neg h0, if_neg h0, okC_cell m taken (i - 1) (hm m (by simp)) ht (by omega)]
      by_cases hc : (cell m ((i - 1 : Nat) : Int) && !cell taken ((i - 1 : Nat) : Int)) = true
      · rw [if_pos hc, if_pos hc]
        simp only [Bool.and_eq_true, Bool.not_eq_true'] at hc
        have ho := orZ_ok C taken (i - 1) hC ht (by omega) hc.2
        rw [show orC taken (i - 1) = orZ taken (i - 1) from rfl, plc_Z C hC t _ _ (fun x hx => hm x (by simp [hx])) ho.1, cntR_snoc, List.map_map, if_neg (by omega)]
        refine List.map_congr_left ?_
        intro z _
        simp only [Function.comp]; omega
      · rw [if_neg hc, if_neg hc]; rfl

theorem bump_H (M : Nat) : ∀ (L : List (List Int)) (zs z0 : List Nat), L.map cntR = zs.map (fun z : Nat => (z : Int)) → (∀ z ∈ zs, z < M) → z0.length + zs.length ≤ 1000000 → L.foldl bumpN (HZ M z0) = HZ M (z0 ++ zs)
  | [], zs, z0, h, _, _ => by
    have : zs = [] := by
      have := congrArg List.length h
      simp at this; exact List.eq_nil_of_length_eq_zero this.symm
    subst this; simp
  | q :: L, [], z0, h, _, _ => by simp at h
  | q :: L, z :: zs, z0, h, hz, hl => by
    simp only [List.map_cons, List.cons.injEq] at h
    have hzM := hz z (by simp)
    simp only [List.length_cons] at hl
    have hcl := List.count_le_length (a := z) (l := z0)
    have e : bumpN (HZ M z0) q = HZ M (z0 ++ [z]) := by
      unfold bumpN
      rw [h.1, Int.toNat_natCast, HZ_rd M z0 z hzM, w64 (by omega) (by omega)]
      refine rd_ext _ _ (by simp [HZ_len]) ?_
      intro j hj
      rw [List.length_set, HZ_len] at hj
      rw [rd_set _ z _ j (by rw [HZ_len]; exact hzM), HZ_rd _ _ j hj, HZ_rd _ _ j hj, List.count_append, List.count_singleton]
      by_cases hzj : z = j
      · subst hzj; simp
      · rw [if_neg hzj]; simp [hzj]
    rw [List.foldl_cons, e, bump_H M L zs (z0 ++ [z]) h.2 (fun y hy => hz y (by simp [hy])) (by simp; omega)]
    simp
theorem i_numbersN (r c : Int) (l : List Int) (h : Nice r c l) : impl_Board_numbers.f r c l = some (numsL r c l) := by
  have h1 := h.1; have h2 := h.2.1; have h3 := h.2.2.1
  have hl : l.length ≤ 6 := by omega
  have hp := plc_Z c.toNat (by omega) l 0 [] h.2.2.2 (by omega)
  have hzl := Z_length c.toNat (by omega) l 0
  have h7 : 7 ^ l.length ≤ 117649 := Nat.le_trans (Nat.pow_le_pow_right (by omega) hl) (by decide)
  simp only [cntR, Int.zero_add] at hp
  unfold impl_Board_numbers.f
  rw [if_pos]
  · congr 1
    rw [← HZ_nil, bump_H _ _ (Z c.toNat l 0) [] hp (Z_ltN r c l h) (by simp; omega)]
    rfl
  · refine ⟨by omega, by omega, by omega, by omega, h3, ?_⟩
    rw [List.all_eq_true]
    intro x hx
    have : cntR x ∈ (plc c.toNat l 0 []).map cntR := List.mem_map.2 ⟨x, hx, rfl⟩
    rw [hp] at this
    obtain ⟨z, hz, e⟩ := List.mem_map.1 this
    have := Z_ltN r c l h z hz
    exact decide_eq_true (by omega)

theorem i_numbers (r c : Int) (l : List Int) (h : GoodB r c l) : impl_Board_numbers.f r c l = some (numsL r c l) := i_numbersN r c l (nice_of h)


theorem e_l1In (a b c : Int) : spec_l1In.f a b c = some (decide (b ≤ a ∧ a ≤ c)) := by
  unfold spec_l1In.f
  by_cases h : b ≤ a
  · rw [if_pos h]; simp [h]
  · rw [if_neg h]; simp [h]

theorem e_l1All_l0 (lo hi : Int) (l : List Int) (hl : l.length ≤ 2000000) : ∀ (d i k : Nat), i + d = l.length → d < k →
    spec_l1All.l0 k lo hi l (l.length : Int) (i : Int) = some (decide (∀ x ∈ l.drop i, lo ≤ x ∧ x ≤ hi)) := by
  intro d
  induction d with
  | zero =>
    intro i k hi' hk
    obtain ⟨k, rfl⟩ : ∃ m, k = m + 1 := ⟨k - 1, by omega⟩
    simp only [spec_l1All.l0]; rw [if_neg (by omega), List.drop_eq_nil_of_le (by omega)]; simp
  | succ d ih =>
    intro i k hi' hk
    obtain ⟨k, rfl⟩ : ∃ m, k = m + 1 := ⟨k - 1, by omega⟩
    have hlt : i < l.length := by omega
    simp only [spec_l1All.l0]
    rw [if_pos (by omega), if_pos (by omega), if_pos (by omega), e_l1In, rd_nat l i hlt, List.drop_eq_getElem_cons hlt, w64 (by omega) (by omega)]
    simp only [Option.bind_some, decide_eq_true_eq, List.forall_mem_cons]
    by_cases h : lo ≤ l[i] ∧ l[i] ≤ hi
    · rw [if_pos h]
      have := ih (i + 1) k (by omega) (by omega)
      rw [show ((i : Int) + 1) = ((i + 1 : Nat) : Int) from by omega, this]; simp [h]
    · rw [if_neg h]; simp [h]
theorem e_l1All (k : Nat) (l : List Int) (lo hi : Int) (hl : l.length ≤ 2000000) (hk : l.length < k) : spec_l1All.f k l lo hi = some (decide (∀ x ∈ l, lo ≤ x ∧ x ≤ hi)) := by
  unfold spec_l1All.f; exact e_l1All_l0 lo hi l hl l.length 0 k (by omega) hk

theorem e_boSide (a : Int) : spec_boSide.f a = some (decide (1 ≤ a ∧ a ≤ 6)) := by
  unfold spec_boSide.f; rw [e_l1In]; rfl

theorem sh1 (a : Int) (h : 1 ≤ a ∧ a ≤ 6) : wrap64 (shl .i64 1 a - 1) = 2 ^ a.toNat - 1 := by
  obtain ⟨h0, h1⟩ := h
  obtain h | h | h | h | h | h : a = 1 ∨ a = 2 ∨ a = 3 ∨ a = 4 ∨ a = 5 ∨ a = 6 := by omega
  all_goals (subst h; decide +kernel)
theorem e_boGood (k : Nat) (r c : Int) (l : List Int) (hl : l.length ≤ 2000000) (hk : l.length < k) : spec_boGood.f k r c l = some (decide (GoodB r c l)) := by
  unfold spec_boGood.f
  rw [e_boSide, e_boSide]
  simp only [Option.bind_some, decide_eq_true_eq]
  by_cases h0 : 1 ≤ r ∧ r ≤ 6
  · by_cases h1 : 1 ≤ c ∧ c ≤ 6
    · by_cases h2 : (l.length : Int) = r
      · rw [if_pos h0, if_pos h1, if_pos h2, if_pos (by omega), sh1 c h1, e_l1All k l _ _ hl hk]
        simp [GoodB, h0, h1, h2]
      · rw [if_pos h0, if_pos h1, if_neg h2]; simp [GoodB, h2]
    · rw [if_pos h0, if_neg h1]; simp [GoodB, h1]
  · rw [if_neg h0]; simp [GoodB, h0]

theorem e_roSquare (k : Nat) (r c : Int) (l : List Int) (hl : l.length ≤ 2000000) (hk : l.length < k) : spec_roSquare.f k r c l = some (decide (GoodB r c l ∧ r = c)) := by
  unfold spec_roSquare.f
  rw [e_boGood k r c l hl hk]
  simp only [Option.bind_some, Bool.decide_and]
  generalize decide (GoodB r c l) = p
  cases p <;> simp
  exact (Bool.beq_eq_decide_eq r c)

theorem i_isSquare (r c : Int) (l : List Int) : impl_isSquare.f r c l = some (decide (GoodB r c l ∧ r = c)) := by
  unfold impl_isSquare.f
  rw [i_IsBoard]
  simp only [Option.bind_some, Bool.decide_and]
  generalize decide (GoodB r c l) = p
  cases p <;> simp
  exact (Bool.beq_eq_decide_eq r c)

theorem fall_loop (x : Int) (n : Nat) (hn : n ≤ 100) : ∀ (d i k k' : Nat) (a : Int), i + d = n → d < k → d < k' → ∃ v, spec_roFalling.l0 k x (n : Int) a (i : Int) = some v ∧ impl_falling.l0 k' x a (n : Int) (i : Int) = some v := by
  intro d
  induction d with
  | zero =>
    intro i k k' a hi hk hk'
    obtain ⟨k, rfl⟩ : ∃ m, k = m + 1 := ⟨k - 1, by omega⟩
    obtain ⟨k', rfl⟩ : ∃ m, k' = m + 1 := ⟨k' - 1, by omega⟩
    rw [spec_roFalling.l0, impl_falling.l0, if_neg (by omega), if_neg (by omega)]
    exact ⟨_, rfl, rfl⟩
  | succ d ih =>
    intro i k k' a hi hk hk'
    obtain ⟨k, rfl⟩ : ∃ m, k = m + 1 := ⟨k - 1, by omega⟩
    obtain ⟨k', rfl⟩ : ∃ m, k' = m + 1 := ⟨k' - 1, by omega⟩
    rw [spec_roFalling.l0, impl_falling.l0, if_pos (by omega), if_pos (by omega), w64 (x := (i : Int) + 1) (by omega) (by omega), show ((i : Int) + 1) = ((i + 1 : Nat) : Int) from by omega]
    exact ih (i + 1) k k' _ (by omega) (by omega) (by omega)
theorem fall_both (x : Int) (n : Nat) (k k' : Nat) (hn : n ≤ 100) (hk : 200 ≤ k) (hk' : 200 ≤ k') : ∃ v, spec_roFalling.f k x (n : Int) = some v ∧ impl_falling.f k' x (n : Int) = some v := by
  unfold spec_roFalling.f impl_falling.f
  exact fall_loop x n hn n 0 k k' 1 (by omega) (by omega) (by omega)

theorem e_within (a b c : Int) : impl_within.f a b c = some (decide (b ≤ a ∧ a ≤ c)) := by
  unfold impl_within.f
  by_cases h : b ≤ a
  · rw [if_pos h]; simp [h]
  · rw [if_neg h]; simp [h]

theorem choose_both (m m' n k : Nat) (hn : n ≤ 6) (hk : k ≤ n) : spec_roChoose.f (m + 20) (n : Int) (k : Int) = some ((spec_roChoose.f 20 (n : Int) (k : Int)).getD 0) ∧ impl_choose.f (m' + 20) (n : Int) (k : Int) = some ((spec_roChoose.f 20 (n : Int) (k : Int)).getD 0) := by
  rcases n with _ | _ | _ | _ | _ | _ | _ | n <;> rcases k with _ | _ | _ | _ | _ | _ | _ | k <;> first | omega | exact ⟨by kernel_rfl, by kernel_rfl⟩
theorem comp_in (r c : Int) (l v : List Int) (hv : (v.length : Int) = r + 1) (hr : 1 ≤ r ∧ r ≤ 6) (i : Nat) (hi : (i : Int) ≤ r) (acc : List Int) (ha : acc.length ≤ 100) : ∀ (d j k k' : Nat) (s sg : Int), j + d = i + 1 → 300 ≤ k → 300 ≤ k' → ∃ s', spec_NumbersOfComplement.l1 (k + (d + 1)) acc v (i : Int) s sg (j : Int) (v.length : Int) (i : Int) r c l = spec_NumbersOfComplement.l0 k (acc ++ [s']) v (v.length : Int) ((i + 1 : Nat) : Int) r c l ∧ impl_NumbersOfComplement.l1 (k' + (d + 1)) v acc (i : Int) s sg (v.length : Int) (i : Int) ((i + 1 : Nat) : Int) (j : Int) r c l = impl_NumbersOfComplement.l0 k' v (acc ++ [s']) (v.length : Int) ((i + 1 : Nat) : Int) r c l := by
  intro d
  induction d with
  | zero =>
    intro j k k' s sg hj hk hk'
    rw [show k + (0 + 1) = k + 1 from rfl, show k' + (0 + 1) = k' + 1 from rfl, spec_NumbersOfComplement.l1, impl_NumbersOfComplement.l1, if_neg (by omega), if_pos (by omega), if_neg (by omega), if_pos (by omega), w64 (x := (i : Int) + 1) (by omega) (by omega)]
    exact ⟨s, rfl, rfl⟩
  | succ d ih =>
    intro j k k' s sg hj hk hk'
    obtain ⟨m, hm⟩ : ∃ m, k + (d + 1) = m + 20 := ⟨k + (d + 1) - 20, by omega⟩
    obtain ⟨m', hm'⟩ : ∃ m, k' + (d + 1) = m + 20 := ⟨k' + (d + 1) - 20, by omega⟩
    obtain ⟨ch, h1, h2⟩ : ∃ v : Int, spec_roChoose.f (m + 20) ((r.toNat - j : Nat) : Int) ((i - j : Nat) : Int) = some v ∧ impl_choose.f (m' + 20) ((r.toNat - j : Nat) : Int) ((i - j : Nat) : Int) = some v := ⟨_, choose_both m m' (r.toNat - j) (i - j) (by omega) (by omega)⟩
    obtain ⟨f, h3, h4⟩ := fall_both ((i - j : Nat) : Int) (i - j) (k + (d + 1)) (k' + (d + 1)) (by omega) (by omega) (by omega)
    rw [← hm] at h1
    rw [← hm'] at h2
    have e1 : r - (j : Int) = ((r.toNat - j : Nat) : Int) := by omega
    have e2 : (i : Int) - (j : Int) = ((i - j : Nat) : Int) := by omega
    rw [show k + (d + 1 + 1) = (k + (d + 1)) + 1 from rfl, show k' + (d + 1 + 1) = (k' + (d + 1)) + 1 from rfl, spec_NumbersOfComplement.l1, impl_NumbersOfComplement.l1, if_pos (by omega), if_pos (by omega), w64 (x := r - (j : Int)) (by omega) (by omega), w64 (x := (i : Int) - (j : Int)) (by omega) (by omega), e1, e2, h1, h2]
    simp only [Option.bind_some]
    unfold impl_factorial.f
    have c1 : 0 ≤ (j : Int) := by omega
    have c2 : (j : Int) < (v.length : Int) := by omega
    simp only [if_pos c1, if_pos c2]
    rw [h3, h4, Option.bind_some, Option.bind_some]
    rw [w64 (x := (j : Int) + 1) (by omega) (by omega), show ((j : Int) + 1) = ((j + 1 : Nat) : Int) from by omega]
    exact ih (j + 1) k k' _ _ (by omega) hk hk'
theorem comp_out (r c : Int) (l v : List Int) (hv : (v.length : Int) = r + 1) (hr : 1 ≤ r ∧ r ≤ 6) : ∀ (d i k k' : Nat) (acc : List Int), i + d = v.length → acc.length = i → 300 + (d + 1) * 10 ≤ k → 300 + (d + 1) * 10 ≤ k' → ∃ o : List Int, o.length = v.length ∧ spec_NumbersOfComplement.l0 k acc v (v.length : Int) (i : Int) r c l = some (o, true) ∧ impl_NumbersOfComplement.l0 k' v acc (v.length : Int) (i : Int) r c l = some (o, true) := by
  intro d
  induction d with
  | zero =>
    intro i k k' acc hi ha hk hk'
    obtain ⟨k, rfl⟩ : ∃ m, k = m + 1 := ⟨k - 1, by omega⟩
    obtain ⟨k', rfl⟩ : ∃ m, k' = m + 1 := ⟨k' - 1, by omega⟩
    rw [spec_NumbersOfComplement.l0, impl_NumbersOfComplement.l0, if_neg (by omega), if_neg (by omega)]
    exact ⟨acc, by omega, rfl, rfl⟩
  | succ d ih =>
    intro i k k' acc hi ha hk hk'
    obtain ⟨k, rfl⟩ : ∃ m, k = m + (i + 1 + 1) + 1 := ⟨k - (i + 3), by omega⟩
    obtain ⟨k', rfl⟩ : ∃ m, k' = m + (i + 1 + 1) + 1 := ⟨k' - (i + 3), by omega⟩
    rw [spec_NumbersOfComplement.l0, impl_NumbersOfComplement.l0, if_pos (by omega), if_pos (by omega)]
    obtain ⟨s', h1, h2⟩ := comp_in r c l v hv hr i (by omega) acc (by omega) (i + 1) 0 k k' 0 1 (by omega) (by omega) (by omega)
    rw [show ((0 : Nat) : Int) = 0 from rfl] at h1 h2
    rw [w64 (x := (i : Int) + 1) (by omega) (by omega), show ((i : Int) + 1) = ((i + 1 : Nat) : Int) from by omega, h1, h2]
    exact ih (i + 1) k k' _ (by omega) (by simp; omega) (by omega) (by omega)
theorem both_NumbersOfComplement (r c : Int) (l : List Int) (hl : l.length ≤ 1048576) : ∃ o : List Int × Bool, o.1.length ≤ 7 ∧ ∀ k, 2000000 ≤ k → spec_NumbersOfComplement.f k r c l = some o ∧ impl_NumbersOfComplement.f k r c l = some o := by
  by_cases h : GoodB r c l ∧ r = c
  · have hh := h
    obtain ⟨h, e⟩ := h
    subst e
    have h1 := h.1
    have hn : ((numsL r r l).length : Int) = r + 1 := by unfold numsL; rw [HZ_len]; omega
    have key : ∀ k k', 2000000 ≤ k → 2000000 ≤ k' → ∃ o : List Int × Bool, o.1.length ≤ 7 ∧ spec_NumbersOfComplement.f k r r l = some o ∧ impl_NumbersOfComplement.f k' r r l = some o := by
      intro k k' hk hk'
      unfold spec_NumbersOfComplement.f impl_NumbersOfComplement.f
      rw [e_roSquare k r r l (by omega) (by omega), i_isSquare]
      simp only [Option.bind_some]
      rw [if_pos (decide_eq_true ⟨h, trivial⟩), if_pos (decide_eq_true ⟨h, trivial⟩), e_roNumbers k r r l h (by omega), i_numbers r r l h]
      simp only [Option.bind_some]
      obtain ⟨o, h0, h2, h3⟩ := comp_out r r l (numsL r r l) hn h1 (numsL r r l).length 0 k k' [] (by omega) rfl (by omega) (by omega)
      exact ⟨(o, true), by simp only; omega, h2, h3⟩
    obtain ⟨o, h0, h2, h3⟩ := key 2000000 2000000 (Nat.le_refl _) (Nat.le_refl _)
    refine ⟨o, h0, fun k hk => ?_⟩
    obtain ⟨o1, _, a1, a2⟩ := key k 2000000 hk (Nat.le_refl _)
    obtain ⟨o2, _, b1, b2⟩ := key 2000000 k (Nat.le_refl _) hk
    rw [h3] at a2
    rw [h2] at b1
    obtain rfl := Option.some.inj a2
    obtain rfl := Option.some.inj b1
    exact ⟨a1, b2⟩
  · refine ⟨([], false), by simp, fun k hk => ?_⟩
    unfold spec_NumbersOfComplement.f impl_NumbersOfComplement.f
    rw [e_roSquare k r c l (by omega) (by omega), i_isSquare]
    simp only [Option.bind_some]
    rw [if_neg (by simpa using h), if_neg (by simpa using h)]
    exact ⟨rfl, rfl⟩

theorem nums_small (r c : Int) (l : List Int) (h : GoodB r c l) (j : Nat) (hj : j < (numsL r c l).length) : 0 ≤ rd (numsL r c l) (j : Int) ∧ rd (numsL r c l) (j : Int) ≤ 117649 := by
  have hl := goodB_len h
  have h2 := h.2.1
  unfold numsL at hj ⊢
  rw [HZ_len] at hj
  rw [HZ_rd _ _ j hj]
  have := Z_small c.toNat (by omega) l 0 hl j
  omega

theorem fall_val (m n : Nat) (hn : n ≤ 6) : spec_roFalling.f (m + 20) (n : Int) (n : Int) = some (prodI (n : Int) n 0) := by
  rcases n with _ | _ | _ | _ | _ | _ | _ | n <;> first | omega | kernel_rfl
def ncT (v : List Int) (n i j : Nat) : Int := sgn j * rd v (j : Int) * (chV (n - j) (i - j) * chV (n - j) (i - j) * prodI ((i - j : Nat) : Int) (i - j) 0)
theorem sgn_two (j : Nat) : sgn j = 1 ∨ sgn j = -1 := by unfold sgn; split <;> simp
theorem ncT_bd (v : List Int) (n i j : Nat) (hn : n ≤ 6) (hi : i ≤ n) (hj : j ≤ i) (hv : 0 ≤ rd v (j : Int) ∧ rd v (j : Int) ≤ 117649) : -40000000000 ≤ ncT v n i j ∧ ncT v n i j ≤ 40000000000 ∧ wrap64 (wrap64 (wrap64 (wrap64 (sgn j * rd v (j : Int)) * chV (n - j) (i - j)) * chV (n - j) (i - j)) * prodI ((i - j : Nat) : Int) (i - j) 0) = ncT v n i j := by
  obtain ⟨_, a1, a2, b1, b2⟩ := fullE_ch (n - j) (i - j) (by omega) (by omega)
  unfold ncT
  generalize chV (n - j) (i - j) = c at a1 a2
  generalize prodI ((i - j : Nat) : Int) (i - j) 0 = p at b1 b2
  generalize rd v (j : Int) = r at hv
  have h1 : 0 ≤ r * c ∧ r * c ≤ 117649 * 20 := ⟨Int.mul_nonneg hv.1 a1, Int.mul_le_mul hv.2 a2 a1 (by omega)⟩
  have h2 : 0 ≤ r * c * c ∧ r * c * c ≤ 117649 * 20 * 20 := ⟨Int.mul_nonneg h1.1 a1, Int.mul_le_mul h1.2 a2 a1 (by omega)⟩
  have h3 : 0 ≤ r * c * c * p ∧ r * c * c * p ≤ 117649 * 20 * 20 * 720 := ⟨Int.mul_nonneg h2.1 b1, Int.mul_le_mul h2.2 b2 b1 (by omega)⟩
  rcases sgn_two j with h | h
  · rw [h]
    have e : 1 * r * (c * c * p) = r * c * c * p := by grind
    rw [e, Int.one_mul, w64 (x := r) (by omega) (by omega), w64 (x := r * c) (by omega) (by omega), w64 (x := r * c * c) (by omega) (by omega), w64 (x := r * c * c * p) (by omega) (by omega)]
    omega
  · rw [h]
    have e : -1 * r * (c * c * p) = -(r * c * c * p) := by grind
    have e1 : -1 * r = -r := by omega
    have e2 : -r * c = -(r * c) := by grind
    have e3 : -(r * c) * c = -(r * c * c) := by grind
    have e4 : -(r * c * c) * p = -(r * c * c * p) := by grind
    rw [e, e1, w64 (x := -r) (by omega) (by omega), e2, w64 (x := -(r * c)) (by omega) (by omega), e3, w64 (x := -(r * c * c)) (by omega) (by omega), e4, w64 (x := -(r * c * c * p)) (by omega) (by omega)]
    omega
theorem nc_in (c : Int) (l v : List Int) (n : Nat) (hn : 1 ≤ n ∧ n ≤ 6) (hv : v.length = n + 1) (hb : ∀ j, j ≤ n → 0 ≤ rd v (j : Int) ∧ rd v (j : Int) ≤ 117649) (i : Nat) (hi : i ≤ n) (acc : List Int) (ha : acc.length ≤ 100) : ∀ (d j k : Nat) (s : Int), j + d = i + 1 → 300 ≤ k → -40000000000 * j ≤ s → s ≤ 40000000000 * j →
    spec_NumbersOfComplement.l1 (k + (d + 1)) acc v (i : Int) s (sgn j) (j : Int) (v.length : Int) (i : Int) (n : Int) c l = spec_NumbersOfComplement.l0 k (acc ++ [s + sumN (fun q => ncT v n i (j + q)) d]) v (v.length : Int) ((i + 1 : Nat) : Int) (n : Int) c l
  | 0, j, k, s, hj, hk, s1, s2 => by
    rw [show k + (0 + 1) = k + 1 from rfl, spec_NumbersOfComplement.l1, if_neg (by omega), if_pos (by omega), w64 (x := (i : Int) + 1) (by omega) (by omega), sumN, Int.add_zero]; rfl
  | d + 1, j, k, s, hj, hk, s1, s2 => by
    obtain ⟨m, hm⟩ : ∃ m, k + (d + 1) = m + 20 := ⟨k + (d + 1) - 20, by omega⟩
    have h1 := (choose_both m m (n - j) (i - j) (by omega) (by omega)).1
    have h3 := fall_val m (i - j) (by omega)
    rw [← hm] at h1 h3
    have e1 : (n : Int) - (j : Int) = ((n - j : Nat) : Int) := by omega
    have e2 : (i : Int) - (j : Int) = ((i - j : Nat) : Int) := by omega
    obtain ⟨t1, t2, t3⟩ := ncT_bd v n i j hn.2 hi (by omega) (hb j (by omega))
    have hs : wrap64 (-(sgn j)) = sgn (j + 1) := by rw [sgn_succ]; rcases sgn_two j with h | h <;> rw [h] <;> unfold wrap64 <;> omega
    rw [show k + (d + 1 + 1) = (k + (d + 1)) + 1 from rfl, spec_NumbersOfComplement.l1, if_pos (by omega), w64 (x := (n : Int) - (j : Int)) (by omega) (by omega), w64 (x := (i : Int) - (j : Int)) (by omega) (by omega), e1, e2, h1]
    simp only [Option.bind_some]
    rw [if_pos (by omega), if_pos (by omega), h3, Option.bind_some, w64 (x := (j : Int) + 1) (by omega) (by omega), show ((j : Int) + 1) = ((j + 1 : Nat) : Int) from by omega, hs]
    have e5 : (spec_roChoose.f 20 ((n - j : Nat) : Int) ((i - j : Nat) : Int)).getD 0 = chV (n - j) (i - j) := rfl
    rw [e5, t3, w64 (x := s + ncT v n i j) (by omega) (by omega), nc_in c l v n hn hv hb i hi acc ha d (j + 1) k _ (by omega) hk (by omega) (by omega), sumN_front, Nat.add_zero]
    have e6 : sumN (fun q => ncT v n i (j + 1 + q)) d = sumN (fun q => ncT v n i (j + (q + 1))) d := sumN_congr _ _ d (fun q _ => by rw [show j + 1 + q = j + (q + 1) by omega])
    rw [e6, Int.add_assoc]
    simp only [Nat.add_zero]
def ncL (v : List Int) (n : Nat) (i : Nat) : Int := sumN (fun q => ncT v n i q) (i + 1)
theorem nc_out (c : Int) (l v : List Int) (n : Nat) (hn : 1 ≤ n ∧ n ≤ 6) (hv : v.length = n + 1) (hb : ∀ j, j ≤ n → 0 ≤ rd v (j : Int) ∧ rd v (j : Int) ≤ 117649) : ∀ (d i k : Nat), i + d = n + 1 → 1000 + d * 20 ≤ k →
    spec_NumbersOfComplement.l0 k ((List.range i).map (ncL v n)) v (v.length : Int) (i : Int) (n : Int) c l = some ((List.range (n + 1)).map (ncL v n), true)
  | 0, i, k, hi, hk => by
    obtain ⟨k, rfl⟩ : ∃ m, k = m + 1 := ⟨k - 1, by omega⟩
    rw [spec_NumbersOfComplement.l0, if_neg (by omega), show i = n + 1 by omega]
  | d + 1, i, k, hi, hk => by
    obtain ⟨k, rfl⟩ : ∃ m, k = m + (i + 1 + 1) + 1 := ⟨k - (i + 3), by omega⟩
    have h := nc_in c l v n hn hv hb i (by omega) ((List.range i).map (ncL v n)) (by simp; omega) (i + 1) 0 k 0 (by omega) (by omega) (by omega) (by omega)
    rw [show ((0 : Nat) : Int) = 0 from rfl, show sgn 0 = 1 from rfl] at h
    rw [spec_NumbersOfComplement.l0, if_pos (by omega), h, Int.zero_add]
    have e : (List.range i).map (ncL v n) ++ [sumN (fun q => ncT v n i (0 + q)) (i + 1)] = (List.range (i + 1)).map (ncL v n) := by
      rw [List.range_succ, List.map_append]
      congr 1
      unfold ncL
      simp only [Nat.zero_add, List.map_cons, List.map_nil]
    rw [e]
    exact nc_out c l v n hn hv hb d (i + 1) k (by omega) (by omega)
def ncOut (r c : Int) (l : List Int) : List Int × Bool := if GoodB r c l ∧ r = c then ((List.range (r.toNat + 1)).map (ncL (numsL r c l) r.toNat), true) else ([], false)
theorem e_NumbersOfComplement (k : Nat) (r c : Int) (l : List Int) (hk : 2000000 ≤ k) (hl : l.length ≤ 1048576) : spec_NumbersOfComplement.f k r c l = some (ncOut r c l) := by
  unfold spec_NumbersOfComplement.f ncOut
  rw [e_roSquare k r c l (by omega) (by omega), Option.bind_some]
  by_cases h : GoodB r c l ∧ r = c
  · rw [if_pos (decide_eq_true h), if_pos h]
    obtain ⟨h, e⟩ := h
    subst e
    have h1 := h.1
    have hn : (numsL r r l).length = r.toNat + 1 := by unfold numsL; rw [HZ_len]; omega
    rw [e_roNumbers k r r l h (by omega), Option.bind_some]
    have := nc_out r l (numsL r r l) r.toNat (by omega) hn (fun j hj => nums_small r r l h j (by omega)) (r.toNat + 1) 0 k (by omega) (by omega)
    rw [show ((r.toNat : Nat) : Int) = r by omega, show ((0 : Nat) : Int) = 0 from rfl] at this
    exact this
  · rw [if_neg (by simpa using h), if_neg h]
theorem i_NumbersOfComplement (k : Nat) (r c : Int) (l : List Int) (hk : 2000000 ≤ k) (hl : l.length ≤ 1048576) : impl_NumbersOfComplement.f k r c l = some (ncOut r c l) := by
  obtain ⟨o, _, h⟩ := both_NumbersOfComplement r c l hl
  obtain ⟨h1, h2⟩ := h k hk
  rw [e_NumbersOfComplement k r c l hk hl] at h1
  rw [h2, ← h1]
/-- The complement's rook numbers are the alternating sums. -/
theorem nc_numsL (r : Int) (l : List Int) (g : GoodB r r l) (cm : Int → Int) (hc : ∀ x ∈ l, ∀ j : Nat, j < r.toNat → cell (cm x) (j : Int) = !cell x (j : Int)) : numsL r r (l.map cm) = (List.range (r.toNat + 1)).map (ncL (numsL r r l) r.toNat) := by
  have h1 := g.1
  have h3 := g.2.2.1
  have hn : (min r r + 1).toNat = r.toNat + 1 := by omega
  unfold numsL HZ
  rw [hn]
  apply List.map_congr_left
  intro k hk
  have hk := List.mem_range.1 hk
  have h := alt_compl r.toNat (by omega) cm l hc 0 k (by omega)
  rw [altG_square r.toNat (by omega) l (by omega) k (by omega)] at h
  unfold ncL
  have e : sumN (fun q => ncT ((List.range (r.toNat + 1)).map fun k => (((Z r.toNat l 0).count k : Nat) : Int)) r.toNat k q) (k + 1) = zI r.toNat (l.map cm) 0 k := by
    rw [h]
    apply sumN_congr
    intro j hj
    unfold ncT zI
    have := HZ_rd (r.toNat + 1) (Z r.toNat l 0) j (by omega)
    unfold HZ at this
    rw [this]
  rw [e]; rfl

theorem sumN_split (f : Nat → Int) (a : Nat) : ∀ b, sumN f (a + b) = sumN f a + sumN (fun j => f (a + j)) b
  | 0 => by rw [Nat.add_zero, sumN, Int.add_zero]
  | b + 1 => by rw [← Nat.add_assoc, sumN, sumN_split f a b, sumN, Int.add_assoc]
theorem low_facts (c : Nat) (hc : c ≤ 6) (m : Int) (hm : 0 ≤ m ∧ m ≤ 2 ^ c - 1) (T : Int) (hT : 0 ≤ T ∧ T ≤ 63) (j : Nat) (hj : j < 6) : fitB m T j = (decide (j < c) && fitB m (T % 2 ^ c) j) ∧ (j < c → cell T (j : Int) = false → (orZ T j) % 2 ^ c = orZ (T % 2 ^ c) j ∧ (orZ T j) / 2 ^ c = T / 2 ^ c) := by
  have k1 : ∀ c : Fin 7, ∀ T : Fin 64, ∀ j : Fin 6, (j.val < c.val → cell (T.val : Int) (j.val : Int) = cell ((T.val : Int) % 2 ^ c.val) (j.val : Int)) ∧ (j.val < c.val → cell (T.val : Int) (j.val : Int) = false → (orZ (T.val : Int) j.val) % 2 ^ c.val = orZ ((T.val : Int) % 2 ^ c.val) j.val ∧ (orZ (T.val : Int) j.val) / 2 ^ c.val = (T.val : Int) / 2 ^ c.val) := by decide +kernel
  have k2 : ∀ c : Fin 7, ∀ m : Fin 64, (m.val : Int) ≤ 2 ^ c.val - 1 → ∀ j : Fin 6, c.val ≤ j.val → cell (m.val : Int) (j.val : Int) = false := by decide +kernel
  have h64 : m < 64 := by
    have : ∀ c : Fin 7, (2 : Int) ^ c.val ≤ 64 := by decide +kernel
    have := this ⟨c, by omega⟩
    simp only at this
    omega
  obtain ⟨T, rfl⟩ := fin_of T 64 hT.1 (by omega)
  obtain ⟨m, rfl⟩ := fin_of m 64 hm.1 h64
  obtain ⟨a1, a2⟩ := k1 ⟨c, by omega⟩ T ⟨j, hj⟩
  refine ⟨?_, a2⟩
  unfold fitB
  by_cases h : j < c
  · rw [decide_eq_true h, Bool.true_and]
    have := a1 h
    simp only at this
    rw [this]
  · rw [decide_eq_false h, Bool.false_and]
    have := k2 ⟨c, by omega⟩ m hm.2 ⟨j, hj⟩ (by show c ≤ j; omega)
    simp only at this
    rw [this, Bool.false_and]
theorem high_facts (c c' : Nat) (hc : c + c' ≤ 6) (m : Int) (hm : 0 ≤ m ∧ m ≤ 2 ^ c' - 1) (T : Int) (hT : 0 ≤ T ∧ T ≤ 63) : (∀ j, j < c → fitB (shl .i64 m (c : Int)) T j = false) ∧ ∀ j, j < c' → fitB (shl .i64 m (c : Int)) T (c + j) = fitB m (T / 2 ^ c) j ∧ (orZ T (c + j)) / 2 ^ c = orZ (T / 2 ^ c) j := by
  have k1 : ∀ c c' : Fin 7, c.val + c'.val ≤ 6 → ∀ m : Fin 64, (m.val : Int) ≤ 2 ^ c'.val - 1 → ∀ j : Fin 6, cell (shl .i64 (m.val : Int) (c.val : Int)) (j.val : Int) = (decide (c.val ≤ j.val) && cell (m.val : Int) ((j.val - c.val : Nat) : Int)) := by decide +kernel
  have k2 : ∀ c : Fin 7, ∀ T : Fin 64, ∀ j : Fin 6, c.val ≤ j.val → cell (T.val : Int) (j.val : Int) = cell ((T.val : Int) / 2 ^ c.val) ((j.val - c.val : Nat) : Int) ∧ (orZ (T.val : Int) j.val) / 2 ^ c.val = orZ ((T.val : Int) / 2 ^ c.val) (j.val - c.val) := by decide +kernel
  have h64 : m < 64 := by
    have : ∀ c : Fin 7, (2 : Int) ^ c.val ≤ 64 := by decide +kernel
    have := this ⟨c', by omega⟩
    simp only at this
    omega
  obtain ⟨T, rfl⟩ := fin_of T 64 hT.1 (by omega)
  obtain ⟨m, rfl⟩ := fin_of m 64 hm.1 h64
  refine ⟨fun j hj => ?_, fun j hj => ?_⟩
  · have := k1 ⟨c, by omega⟩ ⟨c', by omega⟩ hc m hm.2 ⟨j, by omega⟩
    simp only at this
    unfold fitB
    rw [this, decide_eq_false (by omega)]; rfl
  · have h1 := k1 ⟨c, by omega⟩ ⟨c', by omega⟩ hc m hm.2 ⟨c + j, by omega⟩
    have h2 := k2 ⟨c, by omega⟩ T ⟨c + j, by omega⟩ (by show c ≤ c + j; omega)
    simp only [Nat.add_sub_cancel_left] at h1 h2
    unfold fitB
    rw [h1, decide_eq_true (by omega), h2.1, Bool.true_and]
    exact ⟨rfl, h2.2⟩
theorem zI_high (c c' : Nat) (hc : c + c' ≤ 6) : ∀ (l : List Int), (∀ x ∈ l, 0 ≤ x ∧ x ≤ 2 ^ c' - 1) → ∀ (T : Int) (k : Nat), 0 ≤ T ∧ T ≤ 63 → zI (c + c') (l.map fun m => shl .i64 m (c : Int)) T k = zI c' l (T / 2 ^ c) k
  | [], _, T, k, hT => by rw [List.map_nil, zI_nil, zI_nil]
  | m :: t, hx, T, k, hT => by
    have ih := zI_high c c' hc t (fun x hx' => hx x (by simp [hx']))
    obtain ⟨h1, h2⟩ := high_facts c c' hc m (hx m (by simp)) T hT
    rw [List.map_cons, zI_cons, zI_cons, ih T k hT, sumN_split]
    rw [sumN_congr (fun j => if fitB (shl .i64 m (c : Int)) T j = true then (if k = 0 then 0 else zI (c + c') (t.map fun m => shl .i64 m (c : Int)) (orZ T j) (k - 1)) else 0) (fun _ => 0) c (fun j hj => by rw [h1 j hj]; rfl), sumN_zero', Int.zero_add]
    congr 1
    apply sumN_congr
    intro j hj
    rw [(h2 j hj).1, ih _ (k - 1) (orZ_cell T hT (c + j) (c + j) (by omega) (by omega)).2.1, (h2 j hj).2]
theorem zI_stack (c c' : Nat) (hc : c + c' ≤ 6) (l' : List Int) (hl' : ∀ x ∈ l', 0 ≤ x ∧ x ≤ 2 ^ c' - 1) : ∀ (l : List Int), (∀ x ∈ l, 0 ≤ x ∧ x ≤ 2 ^ c - 1) → ∀ (T : Int) (k : Nat), 0 ≤ T ∧ T ≤ 63 → zI (c + c') (l ++ l'.map fun m => shl .i64 m (c : Int)) T k = sumN (fun j => zI c l (T % 2 ^ c) j * zI c' l' (T / 2 ^ c) (k - j)) (k + 1)
  | [], _, T, k, hT => by
    rw [List.nil_append, zI_high c c' hc l' hl' T k hT, sumN_front, zI_nil, if_pos rfl, Int.one_mul, sumN_congr _ (fun _ => 0) k (fun j _ => by rw [zI_nil, if_neg (by omega), Int.zero_mul]), sumN_zero', Int.add_zero]; rfl
  | m :: t, hx, T, k, hT => by
    have ih := zI_stack c c' hc l' hl' t (fun x hx' => hx x (by simp [hx']))
    have hm := hx m (by simp)
    rw [List.cons_append, zI_cons, ih T k hT]
    rw [sumN_congr (fun j => zI c (m :: t) (T % 2 ^ c) j * zI c' l' (T / 2 ^ c) (k - j)) (fun j => zI c t (T % 2 ^ c) j * zI c' l' (T / 2 ^ c) (k - j) + sumN (fun q => if fitB m (T % 2 ^ c) q = true then (if j = 0 then 0 else zI c t (orZ (T % 2 ^ c) q) (j - 1)) else 0) c * zI c' l' (T / 2 ^ c) (k - j)) (k + 1) (fun j _ => by rw [zI_cons, Int.add_mul]), sumN_add]
    congr 1
    rw [sumN_split, sumN_congr (fun j => if fitB m T (c + j) = true then (if k = 0 then 0 else zI (c + c') (t ++ l'.map fun m => shl .i64 m (c : Int)) (orZ T (c + j)) (k - 1)) else 0) (fun _ => 0) c' (fun j hj => by
      rw [(low_facts c (by omega) m hm T hT (c + j) (by omega)).1, decide_eq_false (by omega)]; rfl), sumN_zero', Int.add_zero]
    rw [sumN_front, sumN_congr (fun q => if fitB m (T % 2 ^ c) q = true then (if (0 : Nat) = 0 then 0 else zI c t (orZ (T % 2 ^ c) q) (0 - 1)) else 0) (fun _ => 0) c (fun q _ => by split <;> rfl), sumN_zero', Int.zero_mul, Int.zero_add]
    by_cases hk : k = 0
    · subst hk
      rw [sumN, sumN_congr _ (fun _ => 0) c (fun j _ => by rw [if_pos rfl]; split <;> rfl), sumN_zero']
    · rw [sumN_congr (fun j => sumN (fun q => if fitB m (T % 2 ^ c) q = true then (if j + 1 = 0 then 0 else zI c t (orZ (T % 2 ^ c) q) (j + 1 - 1)) else 0) c * zI c' l' (T / 2 ^ c) (k - (j + 1))) (fun j => sumN (fun q => if fitB m (T % 2 ^ c) q = true then zI c t (orZ (T % 2 ^ c) q) j * zI c' l' (T / 2 ^ c) (k - 1 - j) else 0) c) k (fun j _ => by
        rw [← sumN_mul]
        apply sumN_congr
        intro q _
        by_cases hf : fitB m (T % 2 ^ c) q = true
        · rw [if_pos hf, if_pos hf, if_neg (by omega), Nat.add_sub_cancel, show k - (j + 1) = k - 1 - j by omega]
        · rw [if_neg hf, if_neg hf, Int.zero_mul]), sumN_swap]
      apply sumN_congr
      intro j hj
      obtain ⟨f1, f2⟩ := low_facts c (by omega) m hm T hT j (by omega)
      rw [f1, decide_eq_true hj, Bool.true_and]
      by_cases hf : fitB m (T % 2 ^ c) j = true
      · have hfT : fitB m T j = true := by rw [f1, decide_eq_true hj, Bool.true_and]; exact hf
        have hcell : cell T (j : Int) = false := by unfold fitB at hfT; simp only [Bool.and_eq_true, Bool.not_eq_true'] at hfT; exact hfT.2
        obtain ⟨g1, g2⟩ := f2 hj hcell
        rw [if_pos hf, if_neg hk, ih _ (k - 1) (orZ_cell T hT j j (by omega) (by omega)).2.1, g1, g2, show k - 1 + 1 = k by omega]
        apply sumN_congr
        intro q _
        rw [if_pos hf]
      · rw [if_neg hf, sumN_congr _ (fun _ => 0) k (fun q _ => by rw [if_neg hf]), sumN_zero']

/-- How long a list is without the zeros at its end. -/
def trN (l : List Int) : Nat → Nat
  | 0 => 0
  | n + 1 => if rd l (n : Int) = 0 then trN l n else n + 1
theorem trN_le (l : List Int) : ∀ n, trN l n ≤ n
  | 0 => Nat.le_refl _
  | n + 1 => by
    simp only [trN]
    split
    · exact Nat.le_succ_of_le (trN_le l n)
    · exact Nat.le_refl _
theorem rd_take (l : List Int) (n m : Nat) (h : m < n) : rd (l.take n) (m : Int) = rd l (m : Int) := by
  unfold rd
  simp only [List.getD, Int.toNat_natCast]
  rw [List.getElem?_take_of_lt h]
theorem i_trim0 (l : List Int) (hl : l.length ≤ 1000) : ∀ n k, n ≤ l.length → n < k → impl_trimmed.l0 k (l.take n) = some (l.take (trN l n))
  | 0, k, _, hk => by
    obtain ⟨k, rfl⟩ : ∃ m, k = m + 1 := ⟨k - 1, by omega⟩
    rw [impl_trimmed.l0, if_neg (by simp)]; rfl
  | n + 1, k, hn, hk => by
    obtain ⟨k, rfl⟩ : ∃ m, k = m + 1 := ⟨k - 1, by omega⟩
    have e : (l.take (n + 1)).length = n + 1 := by rw [List.length_take]; omega
    rw [impl_trimmed.l0, e, if_pos (by omega), w64 (by omega) (by omega), show ((n + 1 : Nat) : Int) - 1 = (n : Int) from by omega, if_pos (by omega), if_pos (by omega), rd_take l (n + 1) n (by omega)]
    by_cases h : rd l (n : Int) = 0
    · rw [if_pos h, if_pos (by omega), Int.toNat_natCast, List.take_take, Nat.min_eq_left (by omega), i_trim0 l hl n k (by omega) (by omega)]; simp only [trN, if_pos h]
    · rw [if_neg h]; simp only [trN, if_neg h]
theorem i_trimmed (k : Nat) (l : List Int) (hl : l.length ≤ 1000) (hk : 1000 < k) : impl_trimmed.f k l = some (l.take (trN l l.length)) := by
  unfold impl_trimmed.f
  have := i_trim0 l hl l.length k (Nat.le_refl _) (by omega)
  rwa [List.take_length] at this


theorem trN_zero (l : List Int) : ∀ n k, trN l n ≤ k → k < n → rd l (k : Int) = 0
  | 0, k, _, h => by omega
  | n + 1, k, h1, h2 => by
    rw [trN] at h1
    by_cases h : rd l (n : Int) = 0
    · rw [if_pos h] at h1
      by_cases e : k = n
      · rw [e]; exact h
      · exact trN_zero l n k h1 (by omega)
    · rw [if_neg h] at h1; omega
theorem trN_last (l : List Int) : ∀ n, trN l n = 0 ∨ rd l ((trN l n - 1 : Nat) : Int) ≠ 0
  | 0 => Or.inl rfl
  | n + 1 => by
    rw [trN]
    by_cases h : rd l (n : Int) = 0
    · rw [if_pos h]; exact trN_last l n
    · rw [if_neg h]; right; rw [Nat.add_sub_cancel]; exact h
theorem rd_out (l : List Int) (k : Nat) (h : l.length ≤ k) : rd l (k : Int) = 0 := by
  unfold rd
  simp [List.getD, List.getElem?_eq_none h]
theorem trN_ge (a b : List Int) (h : ∀ k : Nat, rd a (k : Int) = rd b (k : Int)) : trN b b.length ≤ trN a a.length := by
  rcases trN_last b b.length with e | e
  · omega
  · by_cases hlt : trN a a.length < trN b b.length
    · exfalso
      apply e
      rw [← h]
      by_cases h1 : trN b b.length - 1 < a.length
      · exact trN_zero a a.length _ (by omega) h1
      · exact rd_out a _ (by omega)
    · omega
/-- Lists of the same numbers, but for zeros at the end, are the same when shortened. -/
theorem trim_eq (a b : List Int) (h : ∀ k : Nat, rd a (k : Int) = rd b (k : Int)) : a.take (trN a a.length) = b.take (trN b b.length) := by
  have e : trN a a.length = trN b b.length := Nat.le_antisymm (trN_ge b a (fun k => (h k).symm)) (trN_ge a b h)
  have ha := trN_le a a.length
  have hb := trN_le b b.length
  apply List.ext_getElem
  · rw [List.length_take, List.length_take]; omega
  · intro i h1 h2
    rw [List.length_take] at h1 h2
    rw [List.getElem_take, List.getElem_take, ← rd_nat a i (by omega), ← rd_nat b i (by omega)]
    exact h i

def Small (l : List Int) : Prop := ∀ k : Nat, 0 ≤ rd l (k : Int) ∧ rd l (k : Int) ≤ 117649
theorem prod_l1 (a b : List Int) (hb : b.length ≤ 7) (sb : Small b) (x : Int) (hx : 0 ≤ x ∧ x ≤ 117649) (n : Int) (i m : Nat) (hi : i ≤ 10) (hm : i + b.length ≤ m) : ∀ (d j k : Nat) (y : List Int), j + d = b.length → y.length = m → (∀ q : Nat, 0 ≤ rd y (q : Int) ∧ rd y (q : Int) ≤ 20000000000 * (if q < i + j then i + 1 else i)) → ∃ y' : List Int, y'.length = m ∧ impl_product.l1 (k + d + 1) b y (i : Int) x a n (i : Int) b (b.length : Int) (j : Int) = impl_product.l0 k b y' a n ((i + 1 : Nat) : Int) ∧ (∀ q : Nat, rd y' (q : Int) = rd y (q : Int) + (if i + j ≤ q ∧ q < i + b.length then x * rd b ((q - i : Nat) : Int) else 0)) ∧ ∀ q : Nat, 0 ≤ rd y' (q : Int) ∧ rd y' (q : Int) ≤ 20000000000 * (i + 1)
  | 0, j, k, y, hj, hy, hb2 => by
    refine ⟨y, hy, ?_, fun q => ?_, fun q => ?_⟩
    · rw [impl_product.l1, if_neg (by omega), w64 (x := (i : Int) + 1) (by omega) (by omega)]; rfl
    · rw [if_neg (by omega), Int.add_zero]
    · have := hb2 q
      split at this <;> omega
  | d + 1, j, k, y, hj, hy, hb2 => by
    have hbj := sb j
    have h1 := hb2 (i + j)
    rw [if_neg (by omega)] at h1
    have hp : 0 ≤ x * rd b (j : Int) ∧ x * rd b (j : Int) ≤ 117649 * 117649 := ⟨Int.mul_nonneg hx.1 hbj.1, Int.mul_le_mul hx.2 hbj.2 hbj.1 (by omega)⟩
    have e1 : (i : Int) + (j : Int) = ((i + j : Nat) : Int) := by omega
    have hlt : i + j < y.length := by omega
    have hset : ∀ q : Nat, rd (y.set (i + j) (rd y ((i + j : Nat) : Int) + x * rd b (j : Int))) (q : Int) = if i + j = q then rd y ((i + j : Nat) : Int) + x * rd b (j : Int) else rd y (q : Int) := fun q => rd_set y (i + j) _ q hlt
    obtain ⟨y', l1, e, v, bd⟩ := prod_l1 a b hb sb x hx n i m hi hm d (j + 1) k (y.set (i + j) (rd y ((i + j : Nat) : Int) + x * rd b (j : Int))) (by omega) (by simp; omega) (fun q => by
      rw [hset q]
      by_cases hq : i + j = q
      · rw [if_pos hq, if_pos (by omega)]; omega
      · rw [if_neg hq]
        have := hb2 q
        by_cases h2 : q < i + j
        · rw [if_pos h2] at this; rw [if_pos (by omega)]; exact this
        · rw [if_neg h2] at this; rw [if_neg (by omega)]; exact this)
    refine ⟨y', l1, ?_, fun q => ?_, bd⟩
    · rw [show k + (d + 1) + 1 = (k + d + 1) + 1 by omega, impl_product.l1, if_pos (by omega), if_pos (by omega), if_pos (by omega), w64 (x := (i : Int) + (j : Int)) (by omega) (by omega), e1, if_pos (by omega), if_pos (by omega), Int.toNat_natCast, w64 (x := x * rd b (j : Int)) (by omega) (by omega), w64 (x := rd y ((i + j : Nat) : Int) + x * rd b (j : Int)) (by omega) (by omega), w64 (x := (j : Int) + 1) (by omega) (by omega), show ((j : Int) + 1) = ((j + 1 : Nat) : Int) from by omega]
      exact e
    · rw [v q, hset q]
      by_cases hq : i + j = q
      · subst hq
        rw [if_pos rfl, if_neg (by omega), if_pos (by omega), Int.add_zero, show i + j - i = j by omega]
      · rw [if_neg hq]
        by_cases h2 : i + j ≤ q ∧ q < i + b.length
        · rw [if_pos h2, if_pos (by omega)]
        · rw [if_neg h2, if_neg (by omega)]
def cvT (a b : List Int) (q p : Nat) : Int := if p ≤ q then rd a (p : Int) * rd b ((q - p : Nat) : Int) else 0
theorem prod_l0 (a b : List Int) (ha : a.length ≤ 7) (hb : b.length ≤ 7) (sa : Small a) (sb : Small b) (m : Nat) (hm : a.length + b.length ≤ m + 1) (hm2 : m ≤ 100) : ∀ (d i k : Nat) (y : List Int), i + d = a.length → y.length = m → 10 * d + 10 ≤ k → (∀ q : Nat, rd y (q : Int) = sumN (cvT a b q) i) → (∀ q : Nat, 0 ≤ rd y (q : Int) ∧ rd y (q : Int) ≤ 20000000000 * i) → ∃ y' : List Int, y'.length = m ∧ impl_product.l0 k b y a (a.length : Int) (i : Int) = some y' ∧ ∀ q : Nat, rd y' (q : Int) = sumN (cvT a b q) a.length
  | 0, i, k, y, hi, hy, hk, hv, hB => by
    obtain ⟨k, rfl⟩ : ∃ m, k = m + 1 := ⟨k - 1, by omega⟩
    refine ⟨y, hy, ?_, fun q => ?_⟩
    · rw [impl_product.l0, if_neg (by omega)]
    · rw [hv q, show i = a.length by omega]
  | d + 1, i, k, y, hi, hy, hk, hv, hB => by
    obtain ⟨k, rfl⟩ : ∃ q, k = (q + b.length + 1) + 1 := ⟨k - b.length - 2, by omega⟩
    have hai := sa i
    obtain ⟨y', l1, e, v, bd⟩ := prod_l1 a b hb sb (rd a (i : Int)) hai (a.length : Int) i m (by omega) (by omega) b.length 0 k y (by omega) hy (fun q => by
      have := hB q
      split <;> omega)
    rw [show ((0 : Nat) : Int) = 0 from rfl] at e
    have hv2 : ∀ q : Nat, rd y' (q : Int) = sumN (cvT a b q) (i + 1) := by
      intro q
      rw [v q, hv q, sumN]
      congr 1
      unfold cvT
      rw [Nat.add_zero]
      by_cases h1 : i ≤ q
      · by_cases h2 : q < i + b.length
        · rw [if_pos ⟨h1, h2⟩, if_pos h1]
        · rw [if_neg (fun x => h2 x.2), if_pos h1, rd_out b (q - i) (by omega), Int.mul_zero]
      · rw [if_neg (fun x => h1 x.1), if_neg h1]
    obtain ⟨z, h1, h2, h3⟩ := prod_l0 a b ha hb sa sb m hm hm2 d (i + 1) k y' (by omega) l1 (by omega) hv2 (fun q => by have := bd q; omega)
    refine ⟨z, h1, ?_, h3⟩
    rw [impl_product.l0, if_pos (by omega), if_pos (by omega), if_pos (by omega), e]
    exact h2
theorem i_product (k : Nat) (a b : List Int) (ha : 1 ≤ a.length ∧ a.length ≤ 7) (hb : 1 ≤ b.length ∧ b.length ≤ 7) (sa : Small a) (sb : Small b) (hk : 1000 ≤ k) : ∃ y, impl_product.f k a b = some y ∧ y.length = a.length + b.length - 1 ∧ ∀ q : Nat, rd y (q : Int) = sumN (cvT a b q) a.length := by
  unfold impl_product.f
  rw [w64 (x := (a.length : Int) + b.length) (by omega) (by omega), w64 (x := (a.length : Int) + b.length - 1) (by omega) (by omega), if_pos (by omega), if_pos (by omega), show ((a.length : Int) + b.length - 1).toNat = a.length + b.length - 1 by omega]
  have hz : ∀ q : Nat, rd (List.replicate (a.length + b.length - 1) (0 : Int)) (q : Int) = 0 := by
    intro q
    unfold rd
    simp only [List.getD, Int.toNat_natCast, List.getElem?_replicate]
    split <;> rfl
  obtain ⟨y, h1, h2, h3⟩ := prod_l0 a b ha.2 hb.2 sa sb (a.length + b.length - 1) (by omega) (by omega) a.length 0 k (List.replicate (a.length + b.length - 1) 0) (by omega) (by simp) (by omega) (fun q => by rw [hz q]; rfl) (fun q => by rw [hz q]; omega)
  exact ⟨y, h2, h1, h3⟩

theorem sumN_ext (f : Nat → Int) (a b : Nat) (h : a ≤ b) (hz : ∀ k, a ≤ k → f k = 0) : sumN f b = sumN f a := by
  obtain ⟨d, rfl⟩ : ∃ d, b = a + d := ⟨b - a, by omega⟩
  rw [sumN_split, sumN_congr (fun j => f (a + j)) (fun _ => 0) d (fun j _ => hz _ (by omega)), sumN_zero', Int.add_zero]
theorem nums_zI (r c : Int) (l : List Int) (h : Nice r c l) (k : Nat) : rd (numsL r c l) (k : Int) = zI c.toNat l 0 k := by
  by_cases hk : k < (min r c + 1).toNat
  · unfold numsL zI
    rw [HZ_rd _ _ k hk]
  · rw [rd_out _ k (by unfold numsL; rw [HZ_len]; omega)]
    unfold zI
    rw [List.count_eq_zero.2]; rfl
    intro hm
    have := Z_ltN r c l h k hm
    omega
theorem shl_bd (c c' : Nat) (h : c + c' ≤ 6) (m : Int) (hm : 0 ≤ m ∧ m ≤ 2 ^ c' - 1) : 0 ≤ shl .i64 m (c : Int) ∧ shl .i64 m (c : Int) ≤ 2 ^ (c + c') - 1 := by
  have key : ∀ c c' : Fin 7, c.val + c'.val ≤ 6 → ∀ m : Fin 64, (m.val : Int) ≤ 2 ^ c'.val - 1 → 0 ≤ shl .i64 (m.val : Int) (c.val : Int) ∧ shl .i64 (m.val : Int) (c.val : Int) ≤ 2 ^ (c.val + c'.val) - 1 := by decide +kernel
  have h64 : m < 64 := by
    have : ∀ c : Fin 7, (2 : Int) ^ c.val ≤ 64 := by decide +kernel
    have := this ⟨c', by omega⟩
    simp only at this
    omega
  obtain ⟨m, rfl⟩ := fin_of m 64 hm.1 h64
  exact key ⟨c, by omega⟩ ⟨c', by omega⟩ h m hm.2
theorem stack_nums (r c : Int) (l : List Int) (r' c' : Int) (l' : List Int) (g : GoodB r c l) (g' : GoodB r' c' l') (hr : r + r' ≤ 6) (hc : c + c' ≤ 6) (q : Nat) (gs : GoodB (r + r') (c + c') (l ++ l'.map fun m => shl .i64 m c)) : rd (numsL (r + r') (c + c') (l ++ l'.map fun m => shl .i64 m c)) (q : Int) = sumN (cvT (numsL r c l) (numsL r' c' l') q) (numsL r c l).length := by
  have g2 := g.2.1
  have g2' := g'.2.1
  rw [nums_zI _ _ _ (nice_of gs) q]
  have h := zI_stack c.toNat c'.toNat (by omega) l' (fun x hx => g'.2.2.2 x hx) l (fun x hx => g.2.2.2 x hx) 0 q (by omega)
  rw [show ((c.toNat : Nat) : Int) = c by omega, show c.toNat + c'.toNat = (c + c').toNat by omega, Int.zero_emod, Int.zero_ediv] at h
  rw [h]
  have e1 : sumN (fun j => zI c.toNat l 0 j * zI c'.toNat l' 0 (q - j)) (q + 1) = sumN (cvT (numsL r c l) (numsL r' c' l') q) (q + 1) := by
    apply sumN_congr
    intro j hj
    unfold cvT
    rw [if_pos (by omega), nums_zI r c l (nice_of g) j, nums_zI r' c' l' (nice_of g') (q - j)]
  rw [e1]
  have z1 : ∀ k, q + 1 ≤ k → cvT (numsL r c l) (numsL r' c' l') q k = 0 := fun k hk => by unfold cvT; rw [if_neg (by omega)]
  have z2 : ∀ k, (numsL r c l).length ≤ k → cvT (numsL r c l) (numsL r' c' l') q k = 0 := fun k hk => by
    unfold cvT
    rw [rd_out _ k hk, Int.zero_mul]
    split <;> rfl
  rw [← sumN_ext _ (q + 1) (q + 1 + (numsL r c l).length) (by omega) z1, ← sumN_ext _ (numsL r c l).length (q + 1 + (numsL r c l).length) (by omega) z2]
theorem nums_Small (r c : Int) (l : List Int) (g : GoodB r c l) : Small (numsL r c l) := by
  intro k
  by_cases h : k < (numsL r c l).length
  · exact nums_small r c l g k h
  · rw [rd_out _ k (by omega)]; omega

theorem wr_shift (a q : Int) : wrap64 (a - 18446744073709551616 * q) = wrap64 a := by unfold wrap64; omega
theorem wr_eq (a : Int) : ∃ q, wrap64 a = a - 18446744073709551616 * q := ⟨(a + 9223372036854775808) / 18446744073709551616, by unfold wrap64; omega⟩
theorem wr_wr (a : Int) : wrap64 (wrap64 a) = wrap64 a := by unfold wrap64; omega
theorem wr_addl (a b : Int) : wrap64 (wrap64 a + b) = wrap64 (a + b) := by unfold wrap64; omega
theorem wr_addr (a b : Int) : wrap64 (a + wrap64 b) = wrap64 (a + b) := by unfold wrap64; omega
theorem wr_mull (a b : Int) : wrap64 (wrap64 a * b) = wrap64 (a * b) := by
  obtain ⟨q, e⟩ := wr_eq a
  rw [e, Int.sub_mul, Int.mul_assoc, wr_shift]
theorem wr_mulr (a b : Int) : wrap64 (a * wrap64 b) = wrap64 (a * b) := by rw [Int.mul_comm, wr_mull, Int.mul_comm]

theorem rSame_l0 (a b : List Int) (hl : a.length ≤ 2000000) (hab : a.length = b.length) : ∀ (d i k : Nat), i + d = a.length → d < k → laws_rSame.l0 k a b (a.length : Int) (i : Int) = some (decide (a.drop i = b.drop i)) := by
  intro d
  induction d with
  | zero =>
    intro i k hi hk
    obtain ⟨k, rfl⟩ : ∃ m, k = m + 1 := ⟨k - 1, by omega⟩
    rw [laws_rSame.l0, if_neg (by omega), List.drop_of_length_le (by omega), List.drop_of_length_le (by omega)]; simp
  | succ d ih =>
    intro i k hi hk
    obtain ⟨k, rfl⟩ : ∃ m, k = m + 1 := ⟨k - 1, by omega⟩
    have h1 : i < a.length := by omega
    have h2 : i < b.length := by omega
    rw [laws_rSame.l0, if_pos (by omega), if_pos (by omega), if_pos (by omega), if_pos (by omega), w64 (by omega) (by omega), show ((i : Int) + 1) = ((i + 1 : Nat) : Int) from by omega, rd_nat a i h1, rd_nat b i h2, List.drop_eq_getElem_cons h1, List.drop_eq_getElem_cons h2]
    by_cases e : a[i] = b[i]
    · rw [if_pos e, ih (i + 1) k (by omega) (by omega), e]; simp only [List.cons.injEq, true_and]
    · rw [if_neg e]; simp only [List.cons.injEq, e, false_and, decide_false]
theorem rSame_eq (k : Nat) (a b : List Int) (hl : a.length ≤ 1000000) (hk : a.length < k) : laws_rSame.f k a b = some (decide (a = b)) := by
  unfold laws_rSame.f
  by_cases h : a.length = b.length
  · rw [if_pos (by omega)]
    have := rSame_l0 a b (by omega) h a.length 0 k (by omega) hk
    rw [List.drop_zero, List.drop_zero] at this
    exact this
  · rw [if_neg (by omega), decide_eq_false (fun e => h (by rw [e]))]
theorem rSame_self (k : Nat) (a : List Int) (hl : a.length ≤ 1000000) (hk : a.length < k) : laws_rSame.f k a a = some true := by
  rw [rSame_eq k a a hl hk, decide_eq_true rfl]

theorem wu64 (n : Int) : IntKind.u64.wrap n = n % 18446744073709551616 := by simp [IntKind.wrap, IntKind.bits, IntKind.signed]
theorem and255 (x : Int) (h0 : 0 ≤ x) (h1 : x < 18446744073709551616) : Go.bits .and .u64 x 255 = x % 256 := by
  have := Go.bits_mask .u64 64 (by decide) (fun n h0 h1 => by rw [wu64]; exact Int.emod_eq_of_lt h0 (by simpa using h1)) 8 (by decide) x h0 (by simpa using h1)
  simpa using this
theorem and255w (n : Int) : 0 ≤ wrap64 (Go.bits .and .u64 (IntKind.u64.wrap n / 1099511627776) 255) ∧ wrap64 (Go.bits .and .u64 (IntKind.u64.wrap n / 1099511627776) 255) ≤ 255 := by
  rw [and255 _ (by rw [wu64]; omega) (by rw [wu64]; omega), w64 (by omega) (by omega)]
  omega
def CodeOK (code : List Int) : Prop := code.length ≤ 1048576 ∧ ∀ x ∈ code, 0 ≤ x ∧ x ≤ 255
theorem code_ok (code : List Int) (h : code.length ≤ 1048576) (hw : ∀ x ∈ code, (Lit.int .u8 x).wf = true) : CodeOK code := by
  refine ⟨h, fun x hx => ?_⟩
  have := hw x hx
  simp only [Lit.wf, Bool.and_eq_true, decide_eq_true_eq] at this
  have h1 : IntKind.u8.min = 0 := rfl
  have h2 : IntKind.u8.max = 255 := rfl
  rw [h1, h2] at this
  exact this
/-- A place of the bytes that a draw may have come to. -/
def PL (n i : Int) : Prop := 0 ≤ i ∧ i ≤ n
theorem d_next (code : List Int) (hc : CodeOK code) (i u : Int) (hi : 0 ≤ i ∧ i ≤ 1000000000) : ∃ v u', spec_l1Cur_next.f code i u = some (v, i + 1, u') ∧ 0 ≤ v ∧ v ≤ 255 := by
  have hl := hc.1
  unfold spec_l1Cur_next.f
  rw [w64 (x := i + 1) (by omega) (by omega)]
  by_cases h : i < (code.length : Int)
  · rw [if_pos h, if_pos hi.1, if_pos (show i + 1 ≤ (code.length : Int) by omega)]
    refine ⟨_, _, rfl, ?_⟩
    obtain ⟨j, rfl⟩ := Int.eq_ofNat_of_zero_le hi.1
    have hj : j < code.length := by omega
    rw [rd_nat code j hj]
    have := hc.2 _ (List.getElem_mem hj)
    rw [w64 (by omega) (by omega)]
    exact this
  · rw [if_neg h, if_neg (show ¬ i + 1 ≤ (code.length : Int) by omega)]
    exact ⟨_, _, rfl, and255w _⟩
theorem d_pick (code : List Int) (hc : CodeOK code) (i u n : Int) (N : Int) (hi : PL N i) (hN : N ≤ 100000000) : ∃ v i' u', spec_l1Cur_pick.f code i u n = some (v, i', u') ∧ PL (N + 2) i' ∧ 0 ≤ v ∧ (1 ≤ n → v < n) := by
  unfold PL at hi ⊢
  unfold spec_l1Cur_pick.f
  by_cases h : n ≤ 1
  · rw [if_pos h]
    exact ⟨_, _, _, rfl, by omega, by omega, by omega⟩
  · rw [if_neg h]
    obtain ⟨v, u', e, h0, h1⟩ := d_next code hc i u (by omega)
    rw [e, Option.bind_some]
    by_cases h2 : n > 200
    · obtain ⟨v2, u2, e2, h3, h4⟩ := d_next code hc (i + 1) u' (by omega)
      rw [if_pos h2]
      simp only
      rw [e2, Option.bind_some, if_neg (show ¬ n = 0 by omega)]
      refine ⟨_, _, _, rfl, by simp only; omega, ?_⟩
      rw [w64 (x := v * 256) (by omega) (by omega), w64 (by omega) (by omega), Int.tmod_eq_emod_of_nonneg (by omega)]
      exact ⟨Int.emod_nonneg _ (by omega), fun _ => Int.emod_lt_of_pos _ (by omega)⟩
    · rw [if_neg h2, if_neg (show ¬ n = 0 by omega)]
      refine ⟨_, _, _, rfl, by simp only; omega, ?_⟩
      simp only
      rw [Int.tmod_eq_emod_of_nonneg (by omega)]
      exact ⟨Int.emod_nonneg _ (by omega), fun _ => Int.emod_lt_of_pos _ (by omega)⟩

theorem d_one (code : List Int) (hc : CodeOK code) (i u n : Int) (N : Int) (hi : PL N i) (hN : N ≤ 100000000) : ∃ v i' u', spec_l1Cur_one.f code i u n = some (v, i', u') ∧ PL (N + 2) i' := by
  unfold spec_l1Cur_one.f
  obtain ⟨v, i', u', e, h, _⟩ := d_pick code hc i u n N hi hN
  rw [e]
  exact ⟨_, _, _, rfl, h⟩

theorem d_boardOf_l0 (code : List Int) (hc : CodeOK code) (R C : Int) (hC : 0 ≤ C ∧ C ≤ 60) : ∀ (d j k : Nat) (i u : Int) (l : List Int) (N : Int), j + d = l.length → d < k → PL N i → N + 6 * d ≤ 10000000 → l.length ≤ 1000 → ∃ l' i' u', spec_l1Cur_boardOf.l0 k C (l.length : Int) (j : Int) code i u R C l = some (R, C, l', i', u') ∧ l'.length = l.length ∧ PL (N + 6 * d) i' := by
  intro d
  induction d with
  | zero =>
    intro j k i u l N hj hk hi hN hl
    obtain ⟨k, rfl⟩ : ∃ m, k = m + 1 := ⟨k - 1, by omega⟩
    rw [spec_l1Cur_boardOf.l0, if_neg (by omega)]
    exact ⟨_, _, _, rfl, rfl, by simpa using hi⟩
  | succ d ih =>
    intro j k i u l N hj hk hi hN hl
    obtain ⟨k, rfl⟩ : ∃ m, k = m + 1 := ⟨k - 1, by omega⟩
    rw [spec_l1Cur_boardOf.l0, if_pos (by omega), if_pos hC.1]
    obtain ⟨v1, i1, u1, e1, h1, _⟩ := d_pick code hc i u (shl .i64 1 C) N hi (by omega)
    rw [e1, Option.bind_some, if_pos (by omega), if_pos (by omega), Option.bind_some]
    obtain ⟨v2, i2, u2, e2, h2⟩ := d_one code hc i1 u1 3 (N + 2) h1 (by omega)
    simp only
    rw [e2, Option.bind_some, w64 (x := (j : Int) + 1) (by omega) (by omega), show ((j : Int) + 1) = ((j + 1 : Nat) : Int) from by omega]
    by_cases hb : v2 = true
    · rw [if_pos hb]
      obtain ⟨v3, i3, u3, e3, h3, h4, _⟩ := d_pick code hc i2 u2 (wrap64 (C + 1)) (N + 2 + 2) h2 (by omega)
      simp only
      rw [e3, Option.bind_some, if_pos h4]
      have := ih (j + 1) k i3 u3 ((l.set (j : Int).toNat v1).set (j : Int).toNat (wrap64 (shl .i64 1 v3 - 1))) (N + 2 + 2 + 2) (by simp; omega) (by omega) h3 (by omega) (by simp; omega)
      simp only [List.length_set] at this
      obtain ⟨l', i', u', e, h5, h6⟩ := this
      exact ⟨l', i', u', e, h5, by rw [show N + 6 * ((d + 1 : Nat) : Int) = N + 2 + 2 + 2 + 6 * d by omega]; exact h6⟩
    · rw [if_neg hb]
      have := ih (j + 1) k i2 u2 (l.set (j : Int).toNat v1) (N + 2 + 2) (by simp; omega) (by omega) h2 (by omega) (by simp; omega)
      simp only [List.length_set] at this
      obtain ⟨l', i', u', e, h5, h6⟩ := this
      exact ⟨l', i', u', e, h5, by unfold PL at h6 ⊢; omega⟩
theorem d_boardOf (k : Nat) (code : List Int) (hc : CodeOK code) (i u : Int) (N : Int) (R C : Int) (hR : 0 ≤ R ∧ R ≤ 100) (hC : 0 ≤ C ∧ C ≤ 60) (hi : PL N i) (hN : N ≤ 1000000) (hk : 1000 ≤ k) : ∃ l' i' u', spec_l1Cur_boardOf.f k code i u R C = some (R, C, l', i', u') ∧ (l'.length : Int) = R ∧ PL (N + 600) i' := by
  unfold spec_l1Cur_boardOf.f spec_boEmpty.f
  rw [if_pos hR.1, if_pos (by omega), Option.bind_some]
  simp only
  obtain ⟨l', i', u', e, h1, h2⟩ := d_boardOf_l0 code hc R C hC R.toNat 0 k i u (List.replicate R.toNat 0) N (by simp) (by omega) hi (by omega) (by simp; omega)
  rw [show ((0 : Nat) : Int) = 0 from rfl] at e
  refine ⟨l', i', u', e, by rw [h1]; simp; omega, by unfold PL at h2 ⊢; omega⟩

theorem d_sides (code : List Int) (hc : CodeOK code) (i u : Int) (N : Int) (hi : PL N i) (hN : N ≤ 10000000) : ∃ v i' u', spec_l1Cur_sides.f code i u = some (v, i', u') ∧ PL (N + 4) i' ∧ 1 ≤ v ∧ v ≤ 6 := by
  unfold spec_l1Cur_sides.f
  obtain ⟨b, i1, u1, e, h⟩ := d_one code hc i u 8 N hi (by omega)
  rw [e, Option.bind_some]
  by_cases hb : b = true
  · rw [if_pos hb]
    exact ⟨_, _, _, rfl, by unfold PL at h ⊢; simp only; omega, by omega, by omega⟩
  · rw [if_neg hb]
    obtain ⟨v, i2, u2, e2, h2, h3, h4⟩ := d_pick code hc i1 u1 5 (N + 2) h (by omega)
    have h5 := h4 (by omega)
    rw [e2]
    refine ⟨_, _, _, rfl, by rw [show N + 4 = N + 2 + 2 by omega]; exact h2, ?_⟩
    simp only
    rw [w64 (by omega) (by omega)]; omega

theorem rd_in (l : List Int) (i : Int) (h0 : 0 ≤ i) (h1 : i < (l.length : Int)) : rd l i ∈ l := by
  obtain ⟨j, rfl⟩ := Int.eq_ofNat_of_zero_le h0
  have hj : j < l.length := by omega
  rw [rd_nat l j hj]
  exact List.getElem_mem hj
theorem d_among (code : List Int) (hc : CodeOK code) (i u : Int) (l : List Int) (N : Int) (hl : l ≠ []) (hi : PL N i) (hN : N ≤ 100000000) : ∃ v i' u', spec_l1Cur_among.f code i u l = some (v, i', u') ∧ PL (N + 2) i' ∧ v ∈ l := by
  unfold spec_l1Cur_among.f
  have hp : 0 < l.length := by cases l with | nil => exact absurd rfl hl | cons a t => simp
  obtain ⟨v, i', u', e, h, h0, h1⟩ := d_pick code hc i u (l.length : Int) N hi hN
  have h2 := h1 (by omega)
  rw [e, Option.bind_some, if_pos h0, if_pos h2]
  exact ⟨_, _, _, rfl, h, rd_in l v h0 h2⟩

theorem d_board (k : Nat) (code : List Int) (hc : CodeOK code) (i u : Int) (N : Int) (hi : PL N i) (hN : N ≤ 100000) (hk : 1000 ≤ k) : ∃ r c l i' u', spec_l1Cur_board.f k code i u = some (r, c, l, i', u') ∧ 1 ≤ l.length ∧ l.length ≤ 7 ∧ PL (N + 1000) i' := by
  unfold spec_l1Cur_board.f
  obtain ⟨r, i1, u1, e1, h1, r1, r2⟩ := d_sides code hc i u N hi (by omega)
  rw [e1, Option.bind_some]
  simp only
  obtain ⟨c, i2, u2, e2, h2, c1, c2⟩ := d_sides code hc i1 u1 (N + 4) h1 (by omega)
  rw [e2, Option.bind_some]
  simp only
  obtain ⟨l, i3, u3, e3, h3, h4⟩ := d_boardOf k code hc i2 u2 (N + 4 + 4) r c (by omega) (by omega) h2 (by omega) hk
  rw [e3, Option.bind_some]
  simp only
  obtain ⟨v, i4, u4, e4, h5, _⟩ := d_pick code hc i3 u3 18 (N + 4 + 4 + 600) h4 (by omega)
  rw [e4, Option.bind_some]
  simp only
  split
  · obtain ⟨v5, i5, u5, e5, h6, _⟩ := d_among code hc i4 u4 [-1, 0, wrap64 (r + 1), 7] (N + 4 + 4 + 600 + 2) (by simp) h5 (by omega)
    rw [e5, Option.bind_some]
    exact ⟨_, _, _, _, _, rfl, by omega, by omega, by unfold PL at h6 ⊢; simp only; omega⟩
  · split
    · obtain ⟨v5, i5, u5, e5, h6, _⟩ := d_among code hc i4 u4 [-1, 0, 7, 4611686018427387904] (N + 4 + 4 + 600 + 2) (by simp) h5 (by omega)
      rw [e5, Option.bind_some]
      exact ⟨_, _, _, _, _, rfl, by omega, by omega, by unfold PL at h6 ⊢; simp only; omega⟩
    · split
      · obtain ⟨v5, i5, u5, e5, h6, h7, h8⟩ := d_pick code hc i4 u4 (l.length : Int) (N + 4 + 4 + 600 + 2) h5 (by omega)
        rw [e5, Option.bind_some]
        simp only
        obtain ⟨v6, i6, u6, e6, h9, _⟩ := d_among code hc i5 u5 [-1, 64, 4611686018427387904] (N + 4 + 4 + 600 + 2 + 2) (by simp) h6 (by omega)
        rw [e6, Option.bind_some, if_pos h7, if_pos (h8 (by omega))]
        exact ⟨_, _, _, _, _, rfl, by simp; omega, by simp; omega, by unfold PL at h9 ⊢; simp only; omega⟩
      · split
        · rw [if_pos (by omega)]
          exact ⟨_, _, _, _, _, rfl, by simp, by simp; omega, by unfold PL at h5 ⊢; omega⟩
        · exact ⟨_, _, _, _, _, rfl, by omega, by omega, by unfold PL at h5 ⊢; omega⟩

theorem d_square (k : Nat) (code : List Int) (hc : CodeOK code) (i u : Int) (N : Int) (hi : PL N i) (hN : N ≤ 10000) (hk : 1000 ≤ k) : ∃ r c l i' u', spec_l1Cur_square.f k code i u = some (r, c, l, i', u') ∧ 1 ≤ l.length ∧ l.length ≤ 7 ∧ PL (N + 2000) i' := by
  unfold spec_l1Cur_square.f
  obtain ⟨b, i1, u1, e1, h1⟩ := d_one code hc i u 8 N hi (by omega)
  rw [e1, Option.bind_some]
  simp only
  by_cases hb : b = true
  · rw [if_pos hb]
    obtain ⟨r, c, l, i2, u2, e2, h2, h3, h4⟩ := d_board k code hc i1 u1 (N + 2) h1 (by omega) hk
    rw [e2]
    exact ⟨_, _, _, _, _, rfl, h2, h3, by unfold PL at h4 ⊢; simp only; omega⟩
  · rw [if_neg hb]
    obtain ⟨r, i2, u2, e2, h2, r1, r2⟩ := d_sides code hc i1 u1 (N + 2) h1 (by omega)
    rw [e2, Option.bind_some]
    simp only
    obtain ⟨l, i3, u3, e3, h3, h4⟩ := d_boardOf k code hc i2 u2 (N + 2 + 4) r r (by omega) (by omega) h2 (by omega) hk
    rw [e3]
    exact ⟨_, _, _, _, _, rfl, by simp only; omega, by simp only; omega, by unfold PL at h4 ⊢; simp only; omega⟩

def numsOut (r c : Int) (l : List Int) : List Int × Bool := if GoodB r c l then (numsL r c l, true) else ([], false)
theorem numsOut_len (r c : Int) (l : List Int) : (numsOut r c l).1.length ≤ 7 := by
  unfold numsOut
  split
  case isTrue h => exact numsL_len r c l h
  case isFalse => simp
theorem i_RookNumbers (r c : Int) (l : List Int) : impl_RookNumbers.f r c l = some (numsOut r c l) := by
  unfold impl_RookNumbers.f numsOut
  rw [i_IsBoard]
  simp only [Option.bind_some]
  by_cases h : GoodB r c l
  · rw [if_pos h, if_pos (decide_eq_true h), i_numbers r c l h]; rfl
  · rw [if_neg h, if_neg (by simpa using h)]

theorem eqI_l0 (a b : List Int) (hl : a.length ≤ 2000000) (hab : a.length = b.length) : ∀ (d i k : Nat), i + d = a.length → d < k → slices_Equal_int_int.l0 k a b (a.length : Int) (i : Int) = some (decide (a.drop i = b.drop i)) := by
  intro d
  induction d with
  | zero =>
    intro i k hi hk
    obtain ⟨k, rfl⟩ : ∃ m, k = m + 1 := ⟨k - 1, by omega⟩
    rw [slices_Equal_int_int.l0, if_neg (by omega), List.drop_of_length_le (by omega), List.drop_of_length_le (by omega)]; simp
  | succ d ih =>
    intro i k hi hk
    obtain ⟨k, rfl⟩ : ∃ m, k = m + 1 := ⟨k - 1, by omega⟩
    have h1 : i < a.length := by omega
    have h2 : i < b.length := by omega
    have c1 : (i : Int) < (a.length : Int) := by omega
    have c2 : 0 ≤ (i : Int) := by omega
    have c3 : (i : Int) < (b.length : Int) := by omega
    rw [slices_Equal_int_int.l0]
    simp only [if_pos c1, if_pos c2, if_pos c3]
    rw [w64 (x := (i : Int) + 1) (by omega) (by omega), show ((i : Int) + 1) = ((i + 1 : Nat) : Int) from by omega, rd_nat a i h1, rd_nat b i h2, List.drop_eq_getElem_cons h1, List.drop_eq_getElem_cons h2]
    by_cases e : a[i] = b[i]
    · rw [if_pos e, ih (i + 1) k (by omega) (by omega), e]; simp only [List.cons.injEq, true_and]
    · rw [if_neg e]; simp only [List.cons.injEq, e, false_and, decide_false]
theorem i_Equal (k : Nat) (a b : List Int) (hl : a.length ≤ 1000000) (hk : a.length < k) : slices_Equal_int_int.f k a b = some (decide (a = b)) := by
  unfold slices_Equal_int_int.f
  by_cases h : a.length = b.length
  · rw [if_pos (by omega)]
    have := eqI_l0 a b (by omega) h a.length 0 k (by omega) hk
    rw [List.drop_zero, List.drop_zero] at this
    exact this
  · rw [if_neg (by omega), decide_eq_false (fun e => h (by rw [e]))]

def trL (l : List Int) : List Int := l.take (trN l l.length)
def alOut (r c : Int) (l : List Int) (r' c' : Int) (l' : List Int) : Bool × Bool := if GoodB r c l ∧ GoodB r' c' l' then (decide (trL (numsL r c l) = trL (numsL r' c' l')), true) else (false, false)
theorem i_AreAlike (k : Nat) (r c : Int) (l : List Int) (r' c' : Int) (l' : List Int) (hk : 10000 ≤ k) : impl_AreAlike.f k r c l r' c' l' = some (alOut r c l r' c' l') := by
  unfold impl_AreAlike.f
  obtain ⟨k, rfl⟩ : ∃ m, k = m + 1 := ⟨k - 1, by omega⟩
  rw [i_IsBoard, Option.bind_some]
  rw [i_IsBoard, Option.bind_some]
  rw [impl_AreAlike.j0, impl_AreAlike.j0]
  by_cases h : GoodB r c l
  · by_cases h' : GoodB r' c' l'
    · have hn := numsL_len r c l h
      have hn' := numsL_len r' c' l' h'
      have e : alOut r c l r' c' l' = (decide (trL (numsL r c l) = trL (numsL r' c' l')), true) := by unfold alOut; rw [if_pos ⟨h, h'⟩]
      rw [decide_eq_true h, decide_eq_true h', e]
      simp only [Bool.not_true, Bool.false_eq_true, if_false, if_true]
      rw [i_numbers r c l h, i_numbers r' c' l' h']
      simp only [Option.bind_some]
      rw [i_trimmed k _ (by omega) (by omega), i_trimmed k _ (by omega) (by omega)]
      simp only [Option.bind_some]
      rw [i_Equal k _ _ (by rw [List.length_take]; omega) (by rw [List.length_take]; omega)]
      rfl
    · have e : alOut r c l r' c' l' = (false, false) := by unfold alOut; rw [if_neg (fun x => h' x.2)]
      rw [decide_eq_true h, decide_eq_false h', e]
      simp only [Bool.not_false, if_true]
  · have e : alOut r c l r' c' l' = (false, false) := by unfold alOut; rw [if_neg (fun x => h x.1)]
    rw [decide_eq_false h, e]
    simp only [Bool.false_eq_true, if_false, if_true]

theorem d_stack (k : Nat) (code : List Int) (hc : CodeOK code) (hk : 2000 ≤ k) : ∃ r c l r' c' l', spec_DrawStackBoards.f k code = some (r, c, l, r', c', l') ∧ l.length ≤ 7 ∧ l'.length ≤ 7 := by
  unfold spec_DrawStackBoards.f
  obtain ⟨v1, i1, u1, e1, h1⟩ := d_one code hc 0 0 5 0 (by unfold PL; omega) (by omega)
  rw [e1, Option.bind_some]
  simp only
  by_cases hv : v1 = true
  · rw [if_pos hv]
    obtain ⟨r, c, l, i2, u2, e2, h2, h3, h4⟩ := d_board k code hc i1 u1 _ h1 (by omega) (by omega)
    rw [e2, Option.bind_some]
    simp only
    obtain ⟨r', c', l', i3, u3, e3, h5, h6, h7⟩ := d_board k code hc i2 u2 _ h4 (by omega) (by omega)
    rw [e3, Option.bind_some]
    exact ⟨_, _, _, _, _, _, rfl, h3, h6⟩
  · rw [if_neg hv]
    obtain ⟨a, i2, u2, e2, h2, a0, a1⟩ := d_pick code hc i1 u1 3 _ h1 (by omega)
    rw [e2, Option.bind_some]
    simp only
    obtain ⟨b, i3, u3, e3, h3, b0, b1⟩ := d_pick code hc i2 u2 3 _ h2 (by omega)
    rw [e3, Option.bind_some]
    simp only
    have a1 := a1 (by omega)
    have b1 := b1 (by omega)
    rw [w64 (x := 1 + a) (by omega) (by omega), w64 (x := 1 + b) (by omega) (by omega)]
    obtain ⟨l, i4, u4, e4, h4, h5⟩ := d_boardOf k code hc i3 u3 _ (1 + a) (1 + b) (by omega) (by omega) h3 (by omega) (by omega)
    rw [e4, Option.bind_some]
    simp only
    obtain ⟨a', i5, u5, e5, h6, a0', a1'⟩ := d_pick code hc i4 u4 3 _ h5 (by omega)
    rw [e5, Option.bind_some]
    simp only
    obtain ⟨b', i6, u6, e6, h7, b0', b1'⟩ := d_pick code hc i5 u5 3 _ h6 (by omega)
    rw [e6, Option.bind_some]
    simp only
    have a1' := a1' (by omega)
    have b1' := b1' (by omega)
    rw [w64 (x := 1 + a') (by omega) (by omega), w64 (x := 1 + b') (by omega) (by omega)]
    obtain ⟨l', i7, u7, e7, h8, h9⟩ := d_boardOf k code hc i6 u6 _ (1 + a') (1 + b') (by omega) (by omega) h7 (by omega) (by omega)
    rw [e7, Option.bind_some]
    exact ⟨_, _, _, _, _, _, rfl, by show l.length ≤ 7; omega, by show l'.length ≤ 7; omega⟩

theorem sh_valF : ∀ c v : Fin 7, v.val ≤ c.val → 0 ≤ wrap64 (shl .i64 1 (v.val : Int) - 1) ∧ wrap64 (shl .i64 1 (v.val : Int) - 1) ≤ 2 ^ c.val - 1 := by decide +kernel
theorem sh_powF : ∀ c : Fin 7, shl .i64 1 (c.val : Int) = 2 ^ c.val ∧ (1 : Int) ≤ 2 ^ c.val := by decide +kernel
theorem d_boardOfB_l0 (code : List Int) (hc : CodeOK code) (R C : Int) (hC : 1 ≤ C ∧ C ≤ 6) : ∀ (d j k : Nat) (i u : Int) (l : List Int) (N : Int), j + d = l.length → d < k → PL N i → N + 6 * d ≤ 10000000 → l.length ≤ 1000 → (∀ x ∈ l, 0 ≤ x ∧ x ≤ 2 ^ C.toNat - 1) → ∃ l' i' u', spec_l1Cur_boardOf.l0 k C (l.length : Int) (j : Int) code i u R C l = some (R, C, l', i', u') ∧ l'.length = l.length ∧ PL (N + 6 * d) i' ∧ ∀ x ∈ l', 0 ≤ x ∧ x ≤ 2 ^ C.toNat - 1 := by
  intro d
  have hs := sh_powF ⟨C.toNat, by omega⟩
  simp only at hs
  rw [show ((C.toNat : Nat) : Int) = C by omega] at hs
  induction d with
  | zero =>
    intro j k i u l N hj hk hi hN hl hb
    obtain ⟨k, rfl⟩ : ∃ m, k = m + 1 := ⟨k - 1, by omega⟩
    rw [spec_l1Cur_boardOf.l0, if_neg (by omega)]
    exact ⟨_, _, _, rfl, rfl, by simpa using hi, hb⟩
  | succ d ih =>
    intro j k i u l N hj hk hi hN hl hb
    obtain ⟨k, rfl⟩ : ∃ m, k = m + 1 := ⟨k - 1, by omega⟩
    rw [spec_l1Cur_boardOf.l0, if_pos (by omega), if_pos (by omega)]
    obtain ⟨v1, i1, u1, e1, h1, v10, v11⟩ := d_pick code hc i u (shl .i64 1 C) N hi (by omega)
    have v1b : 0 ≤ v1 ∧ v1 ≤ 2 ^ C.toNat - 1 := by have := v11 (by omega); omega
    rw [e1, Option.bind_some, if_pos (by omega), if_pos (by omega), Option.bind_some]
    obtain ⟨v2, i2, u2, e2, h2⟩ := d_one code hc i1 u1 3 (N + 2) h1 (by omega)
    simp only
    rw [e2, Option.bind_some, w64 (x := (j : Int) + 1) (by omega) (by omega), show ((j : Int) + 1) = ((j + 1 : Nat) : Int) from by omega]
    have hset : ∀ x ∈ l.set (j : Int).toNat v1, 0 ≤ x ∧ x ≤ 2 ^ C.toNat - 1 := by
      intro x hx
      rcases List.mem_or_eq_of_mem_set hx with h | h
      · exact hb x h
      · rw [h]; exact v1b
    by_cases hbv : v2 = true
    · rw [if_pos hbv]
      obtain ⟨v3, i3, u3, e3, h3, h4, h5⟩ := d_pick code hc i2 u2 (wrap64 (C + 1)) (N + 2 + 2) h2 (by omega)
      rw [w64 (x := C + 1) (by omega) (by omega)] at e3 h5
      have h5 := h5 (by omega)
      simp only
      rw [w64 (x := C + 1) (by omega) (by omega), e3, Option.bind_some, if_pos h4]
      have hv := sh_valF ⟨C.toNat, by omega⟩ ⟨v3.toNat, by omega⟩ (by show v3.toNat ≤ C.toNat; omega)
      simp only at hv
      rw [show ((v3.toNat : Nat) : Int) = v3 by omega] at hv
      have := ih (j + 1) k i3 u3 ((l.set (j : Int).toNat v1).set (j : Int).toNat (wrap64 (shl .i64 1 v3 - 1))) (N + 2 + 2 + 2) (by simp; omega) (by omega) h3 (by omega) (by simp; omega) (fun x hx => by
        rcases List.mem_or_eq_of_mem_set hx with h | h
        · exact hset x h
        · rw [h]; exact hv)
      simp only [List.length_set] at this
      obtain ⟨l', i', u', e, h5, h6, h7⟩ := this
      exact ⟨l', i', u', e, h5, by unfold PL at h6 ⊢; omega, h7⟩
    · rw [if_neg hbv]
      have := ih (j + 1) k i2 u2 (l.set (j : Int).toNat v1) (N + 2 + 2) (by simp; omega) (by omega) h2 (by omega) (by simp; omega) hset
      simp only [List.length_set] at this
      obtain ⟨l', i', u', e, h5, h6, h7⟩ := this
      exact ⟨l', i', u', e, h5, by unfold PL at h6 ⊢; omega, h7⟩
theorem d_boardOfB (k : Nat) (code : List Int) (hc : CodeOK code) (i u : Int) (N : Int) (R C : Int) (hR : 1 ≤ R ∧ R ≤ 6) (hC : 1 ≤ C ∧ C ≤ 6) (hi : PL N i) (hN : N ≤ 1000000) (hk : 1000 ≤ k) : ∃ l' i' u', spec_l1Cur_boardOf.f k code i u R C = some (R, C, l', i', u') ∧ GoodB R C l' ∧ PL (N + 600) i' := by
  unfold spec_l1Cur_boardOf.f spec_boEmpty.f
  rw [if_pos (by omega), if_pos (by omega), Option.bind_some]
  simp only
  have hp := pow_le C hC
  obtain ⟨l', i', u', e, h1, h2, h3⟩ := d_boardOfB_l0 code hc R C hC R.toNat 0 k i u (List.replicate R.toNat 0) N (by simp) (by omega) hi (by omega) (by simp; omega) (fun x hx => by rw [List.eq_of_mem_replicate hx]; omega)
  rw [show ((0 : Nat) : Int) = 0 from rfl] at e
  exact ⟨l', i', u', e, ⟨hR, hC, by rw [h1]; simp; omega, h3⟩, by unfold PL at h2 ⊢; omega⟩

theorem d_mult (k : Nat) (code : List Int) (hc : CodeOK code) (hk : 2000 ≤ k) : ∃ a b, spec_DrawMultiplyNumbers.f k code = some (a, b) := by
  unfold spec_DrawMultiplyNumbers.f
  obtain ⟨a, i2, u2, e2, h2, a0, a1⟩ := d_pick code hc 0 0 4 0 (by unfold PL; omega) (by omega)
  rw [e2, Option.bind_some]
  simp only
  obtain ⟨b, i3, u3, e3, h3, b0, b1⟩ := d_pick code hc i2 u2 4 _ h2 (by omega)
  rw [e3, Option.bind_some]
  simp only
  have a1 := a1 (by omega)
  have b1 := b1 (by omega)
  rw [w64 (x := 1 + a) (by omega) (by omega), w64 (x := 1 + b) (by omega) (by omega)]
  obtain ⟨l, i4, u4, e4, g, h5⟩ := d_boardOfB k code hc i3 u3 _ (1 + a) (1 + b) (by omega) (by omega) h3 (by omega) (by omega)
  rw [e4, Option.bind_some]
  simp only
  rw [e_roNumbers k _ _ l g (by omega), Option.bind_some]
  obtain ⟨a', i5, u5, e5, h6, a0', a1'⟩ := d_pick code hc i4 u4 4 _ h5 (by omega)
  rw [e5, Option.bind_some]
  simp only
  obtain ⟨b', i6, u6, e6, h7, b0', b1'⟩ := d_pick code hc i5 u5 4 _ h6 (by omega)
  rw [e6, Option.bind_some]
  simp only
  have a1' := a1' (by omega)
  have b1' := b1' (by omega)
  rw [w64 (x := 1 + a') (by omega) (by omega), w64 (x := 1 + b') (by omega) (by omega)]
  obtain ⟨l', i7, u7, e7, g', h9⟩ := d_boardOfB k code hc i6 u6 _ (1 + a') (1 + b') (by omega) (by omega) h7 (by omega) (by omega)
  rw [e7, Option.bind_some]
  simp only
  rw [e_roNumbers k _ _ l' g' (by omega), Option.bind_some]
  obtain ⟨v, i8, u8, e8, h10, _⟩ := d_pick code hc i7 u7 12 _ h9 (by omega)
  rw [e8, Option.bind_some]
  simp only
  have hn : 1 ≤ (numsL (1 + a) (1 + b) l).length := by unfold numsL; rw [HZ_len]; omega
  split
  · obtain ⟨w, i9, u9, e9, h11, _⟩ := d_among code hc i8 u8 [-1, 0, 100000, 100001] _ (by simp) h10 (by omega)
    rw [e9, Option.bind_some, if_pos (by omega)]
    exact ⟨_, _, rfl⟩
  · split
    · exact ⟨_, _, rfl⟩
    · split
      · obtain ⟨w, i9, u9, e9, h11, w0, w1⟩ := d_pick code hc i8 u8 2 _ h10 (by omega)
        have w1 := w1 (by omega)
        rw [e9, Option.bind_some]
        simp only
        rw [w64 (x := 7 + w) (by omega) (by omega), if_pos (by omega), if_pos (by omega)]
        exact ⟨_, _, rfl⟩
      · exact ⟨_, _, rfl⟩

theorem d_fit_l0 (code : List Int) (i u r c : Int) (l : List Int) (R C : Int) : ∀ (d j k : Nat) (y : List Int), j + d = y.length → y.length = l.length → y.length ≤ 100 → d < k → ∃ y', y'.length = y.length ∧ spec_l1Cur_fittingBoards.l0 k (y.length : Int) (j : Int) code i u r c l R C y = some (r, c, l, R, C, y', i, u)
  | 0, j, k, y, hj, hy, hl, hk => by
    obtain ⟨k, rfl⟩ : ∃ m, k = m + 1 := ⟨k - 1, by omega⟩
    rw [spec_l1Cur_fittingBoards.l0, if_neg (by omega)]
    exact ⟨y, rfl, rfl⟩
  | d + 1, j, k, y, hj, hy, hl, hk => by
    obtain ⟨k, rfl⟩ : ∃ m, k = m + 1 := ⟨k - 1, by omega⟩
    rw [spec_l1Cur_fittingBoards.l0, if_pos (by omega), if_pos (by omega), if_pos (by omega), if_pos (by omega), w64 (x := (j : Int) + 1) (by omega) (by omega), show ((j : Int) + 1) = ((j + 1 : Nat) : Int) from by omega]
    obtain ⟨y', h1, h2⟩ := d_fit_l0 code i u r c l R C d (j + 1) k (y.set (j : Int).toNat (Go.bits .or .i64 (rd y (j : Int)) (rd l (j : Int)))) (by simp; omega) (by simpa using hy) (by simpa using hl) (by omega)
    rw [List.length_set] at h1 h2
    exact ⟨y', h1, h2⟩
theorem d_fit (k : Nat) (code : List Int) (hc : CodeOK code) (i u : Int) (N : Int) (hi : PL N i) (hN : N ≤ 10000) (hk : 2000 ≤ k) : ∃ r c l r' c' l' i' u', spec_l1Cur_fittingBoards.f k code i u = some (r, c, l, r', c', l', i', u') ∧ l.length ≤ 7 ∧ l'.length ≤ 7 ∧ PL (N + 3000) i' := by
  unfold spec_l1Cur_fittingBoards.f
  obtain ⟨r, c, l, i1, u1, e1, h1, h2, h3⟩ := d_board k code hc i u N hi (by omega) (by omega)
  obtain ⟨K, rfl⟩ : ∃ m, k = m + 1 := ⟨k - 1, by omega⟩
  have hj : ∀ i2 u2 : Int, PL (N + 1002) i2 → ∃ r' c' l' i' u', spec_l1Cur_fittingBoards.j0 (K + 1) true code i2 u2 r c l = some (r, c, l, r', c', l', i', u') ∧ l'.length ≤ 7 ∧ PL (N + 3000) i' := by
    intro i2 u2 h
    rw [spec_l1Cur_fittingBoards.j0, if_pos rfl]
    obtain ⟨r', c', l', i3, u3, e3, h4, h5, h6⟩ := d_board K code hc i2 u2 (N + 1002) h (by omega) (by omega)
    rw [e3]
    exact ⟨r', c', l', i3, u3, rfl, h5, by unfold PL at h6 ⊢; omega⟩
  rw [e1, Option.bind_some]
  simp only
  rw [e_boGood _ r c l (by omega) (by omega), Option.bind_some]
  by_cases g : GoodB r c l
  · have g1 := g.1; have g2 := g.2.1; have g3 := g.2.2.1
    rw [if_pos (decide_eq_true g)]
    obtain ⟨v2, i2, u2, e2, h4⟩ := d_one code hc i1 u1 6 (N + 1000) h3 (by omega)
    rw [e2, Option.bind_some]
    simp only
    by_cases hv : v2 = true
    · rw [hv]
      obtain ⟨r', c', l', i', u', e3, h5, h6⟩ := hj i2 u2 (by unfold PL at h4 ⊢; omega)
      exact ⟨r, c, l, r', c', l', i', u', e3, h2, h5, h6⟩
    · rw [Bool.eq_false_iff.mpr hv, spec_l1Cur_fittingBoards.j0, if_neg (by decide)]
      obtain ⟨l', i3, u3, e3, h5, h6⟩ := d_boardOf K code hc i2 u2 (N + 1002) r c (by omega) (by omega) (by unfold PL at h4 ⊢; omega) (by omega) (by omega)
      rw [e3, Option.bind_some]
      simp only
      obtain ⟨v4, i4, u4, e4, h7⟩ := d_one code hc i3 u3 3 (N + 1002 + 600) h6 (by omega)
      rw [e4, Option.bind_some]
      simp only
      by_cases hv4 : v4 = true
      · rw [if_pos hv4]
        obtain ⟨y', h8, h9⟩ := d_fit_l0 code i4 u4 r c l r c l'.length 0 K l' (by omega) (by omega) (by omega) (by omega)
        rw [show ((0 : Nat) : Int) = 0 from rfl] at h9
        exact ⟨_, _, _, _, _, _, _, _, h9, h2, by omega, by unfold PL at h7 ⊢; omega⟩
      · rw [if_neg hv4]
        exact ⟨_, _, _, _, _, _, _, _, rfl, h2, by omega, by unfold PL at h7 ⊢; omega⟩
  · rw [if_neg (by simpa using g)]
    obtain ⟨r', c', l', i', u', e3, h5, h6⟩ := hj i1 u1 (by unfold PL at h3 ⊢; omega)
    exact ⟨r, c, l, r', c', l', i', u', e3, h2, h5, h6⟩

/-- The cells of a row from a column on. -/
def rowC (m i : Int) : Nat → Nat → List (List Int)
  | 0, _ => []
  | d + 1, j => (if cell m (j : Int) = true then [[i, (j : Int)]] else []) ++ rowC m i d (j + 1)
/-- The cells of rows. -/
def cellsC (c : Nat) : List Int → Int → List (List Int)
  | [], _ => []
  | m :: r, i => rowC m i c 0 ++ cellsC c r (i + 1)
theorem rowC_len (m i : Int) : ∀ d j, (rowC m i d j).length ≤ d
  | 0, _ => Nat.le_refl _
  | d + 1, j => by
    have := rowC_len m i d (j + 1)
    simp only [rowC, List.length_append]
    split <;> simp <;> omega
theorem cellsC_len (c : Nat) : ∀ l i, (cellsC c l i).length ≤ l.length * c
  | [], _ => by simp [cellsC]
  | m :: r, i => by
    have := cellsC_len c r (i + 1); have := rowC_len m i c 0
    simp only [cellsC, List.length_append, List.length_cons, Nat.add_mul]
    omega
theorem place_nat {r c : Int} {i j : Nat} (hi : (i : Int) < r) (hj : (j : Int) < c) : Place r c (i : Int) (j : Int) := ⟨⟨by omega, by omega⟩, by omega, by omega⟩

theorem rdL (l : List (List Int)) (i : Nat) (h : i < l.length) : rd_L2 l (i : Int) = l[i] := by
  unfold rd_L2; simp [List.getD, h]
theorem rd_set_self (l : List Int) (i : Nat) (v : Int) (h : i < l.length) : rd (l.set i v) (i : Int) = v := by
  rw [rd_nat _ i (by simpa using h)]; simp
theorem rowC_mem (m i : Int) : ∀ d j x, x ∈ rowC m i d j → ∃ c : Nat, x = [i, (c : Int)] ∧ j ≤ c ∧ c < j + d
  | 0, _, x, h => by simp [rowC] at h
  | d + 1, j, x, h => by
    simp only [rowC, List.mem_append] at h
    rcases h with h | h
    · split at h
      · simp at h; exact ⟨j, h, Nat.le_refl _, by omega⟩
      · simp at h
    · obtain ⟨c, e, h1, h2⟩ := rowC_mem m i d (j + 1) x h
      exact ⟨c, e, by omega, by omega⟩
theorem cellsC_mem (c : Nat) : ∀ (l : List Int) (i : Nat) x, x ∈ cellsC c l (i : Int) → ∃ a b : Nat, x = [(a : Int), (b : Int)] ∧ i ≤ a ∧ a < i + l.length ∧ b < c
  | [], _, x, h => by simp [cellsC] at h
  | m :: t, i, x, h => by
    simp only [cellsC, List.mem_append] at h
    rcases h with h | h
    · obtain ⟨b, e, _, h2⟩ := rowC_mem _ _ _ _ x h
      exact ⟨i, b, e, Nat.le_refl _, by simp, by omega⟩
    · rw [show ((i : Int) + 1) = ((i + 1 : Nat) : Int) from by omega] at h
      obtain ⟨a, b, e, h1, h2, h3⟩ := cellsC_mem c t (i + 1) x h
      exact ⟨a, b, e, by omega, by simp; omega, h3⟩

/-- Each cell changes the number of its column by its row. -/
def foldCol (f : Int → Int → Int) : List (List Int) → List Int → List Int
  | [], out => out
  | x :: t, out => foldCol f t (out.set (rd x 1).toNat (f (rd out (rd x 1)) (rd x 0)))
theorem foldCol_app (f : Int → Int → Int) : ∀ a b out, foldCol f (a ++ b) out = foldCol f b (foldCol f a out)
  | [], _, _ => rfl
  | x :: t, b, out => by simp only [List.cons_append, foldCol, foldCol_app f t b]
theorem foldCol_len (f : Int → Int → Int) : ∀ cs out, (foldCol f cs out).length = out.length
  | [], _ => rfl
  | x :: t, out => by simp only [foldCol, foldCol_len f t, List.length_set]
/-- Numbers below 2 to i from a column on. -/
def Low (i : Nat) (j : Nat) (out : List Int) : Prop := ∀ b (h : b < out.length), 0 ≤ out[b] ∧ out[b] < (if j ≤ b then 2 ^ i else 2 ^ (i + 1))
theorem foldCol_row (f g : Int → Int → Int) (hfg : ∀ (v : Int) (a : Nat), 0 ≤ v → v < 2 ^ a → a ≤ 5 → f v a = g v a ∧ 0 ≤ f v a ∧ f v a < 2 ^ (a + 1)) (m : Int) (i : Nat) (hi : i ≤ 5) :
    ∀ (d j : Nat) (out : List Int), j + d ≤ out.length → Low i j out → foldCol f (rowC m (i : Int) d j) out = foldCol g (rowC m (i : Int) d j) out ∧ Low i (j + d) (foldCol f (rowC m (i : Int) d j) out)
  | 0, j, out, _, hl => ⟨rfl, hl⟩
  | d + 1, j, out, hd, hl => by
    simp only [rowC, foldCol_app]
    have hlt : j < out.length := by omega
    have hj := hl j hlt
    rw [if_pos (Nat.le_refl j)] at hj
    have hf := hfg out[j] i hj.1 hj.2 hi
    by_cases hc : cell m (j : Int) = true
    · simp only [hc, if_true, foldCol]
      have e0 : rd [(i : Int), (j : Int)] 0 = (i : Int) := rfl
      have e1 : rd [(i : Int), (j : Int)] 1 = (j : Int) := rfl
      rw [e0, e1, Int.toNat_natCast, rd_nat out j hlt, ← hf.1]
      have hl' : Low i (j + 1) (out.set j (f out[j] i)) := by
        intro b hb
        rw [List.length_set] at hb
        by_cases hjb : j = b
        · subst hjb
          rw [List.getElem_set_self, if_neg (by omega)]; exact hf.2
        · rw [List.getElem_set_ne hjb]
          have := hl b hb
          by_cases h1 : j ≤ b
          · rw [if_pos h1] at this; rw [if_pos (by omega)]; exact this
          · rw [if_neg h1] at this; rw [if_neg (by omega)]; exact this
      have := foldCol_row f g hfg m i hi d (j + 1) _ (by simpa using (by omega : j + 1 + d ≤ out.length)) hl'
      rw [show j + (d + 1) = j + 1 + d from by omega]; exact this
    · simp only [hc, Bool.false_eq_true, if_false, foldCol]
      have hl' : Low i (j + 1) out := by
        intro b hb
        have := hl b hb
        by_cases h1 : j + 1 ≤ b
        · rw [if_pos (by omega)] at this; rw [if_pos h1]; exact this
        · rw [if_neg h1]
          by_cases h2 : j ≤ b
          · rw [if_pos h2] at this
            have : (2 : Int) ^ i ≤ 2 ^ (i + 1) := by rw [Int.pow_succ]; have : (0 : Int) < 2 ^ i := Int.pow_pos (by omega); omega
            omega
          · rw [if_neg h2] at this; exact this
      have := foldCol_row f g hfg m i hi d (j + 1) out (by omega) hl'
      rw [show j + (d + 1) = j + 1 + d from by omega]; exact this
theorem foldCol_cells (f g : Int → Int → Int) (hfg : ∀ (v : Int) (a : Nat), 0 ≤ v → v < 2 ^ a → a ≤ 5 → f v a = g v a ∧ 0 ≤ f v a ∧ f v a < 2 ^ (a + 1)) (c : Nat) :
    ∀ (l : List Int) (i : Nat) (out : List Int), i + l.length ≤ 6 → out.length = c → Low i 0 out → foldCol f (cellsC c l (i : Int)) out = foldCol g (cellsC c l (i : Int)) out
  | [], _, _, _, _, _ => rfl
  | m :: t, i, out, hi, hc, hl => by
    simp only [List.length_cons] at hi
    simp only [cellsC, foldCol_app]
    have := foldCol_row f g hfg m i (by omega) c 0 out (by omega) hl
    rw [← this.1, show ((i : Int) + 1) = ((i + 1 : Nat) : Int) from by omega]
    refine foldCol_cells f g hfg c t (i + 1) _ (by omega) (by rw [foldCol_len, hc]) ?_
    intro b hb
    have h2 := this.2 b hb
    rw [foldCol_len] at hb
    rw [if_neg (by omega)] at h2
    rw [if_pos (Nat.zero_le b)]; exact h2
theorem low_zero (n : Nat) : Low 0 0 (List.replicate n 0) := by
  intro b hb
  rw [if_pos (Nat.zero_le b)]; simp
def addT (v a : Int) : Int := wrap64 (v + shl .i64 1 a)
def orT (v a : Int) : Int := Go.bits .or .i64 v (shl .i64 1 a)
theorem add_or (v : Int) (a : Nat) (h0 : 0 ≤ v) (h1 : v < 2 ^ a) (ha : a ≤ 5) : addT v a = orT v a ∧ 0 ≤ addT v a ∧ addT v a < 2 ^ (a + 1) := by
  have key : ∀ a : Fin 6, ∀ v : Fin 32, (v.val : Int) < 2 ^ a.val → addT (v.val : Int) (a.val : Int) = orT (v.val : Int) (a.val : Int) ∧ 0 ≤ addT (v.val : Int) (a.val : Int) ∧ addT (v.val : Int) (a.val : Int) < 2 ^ (a.val + 1) := by decide +kernel
  have hp : (2 : Int) ^ a ≤ 32 := by
    have : ∀ a : Fin 6, (2 : Int) ^ a.val ≤ 32 := by decide +kernel
    exact this ⟨a, by omega⟩
  obtain ⟨i, rfl⟩ := fin_of v 32 h0 (by omega)
  exact key ⟨a, by omega⟩ i h1

theorem boCells_l1 (r c : Int) (l : List Int) (g : GoodB r c l) (i : Nat) (hi : i < l.length) : ∀ (d j k : Nat) (acc : List (List Int)), (j : Int) + d = c → acc.length + d ≤ 1000 →
    spec_boCells.l1 (k + d + 1) acc (i : Int) (j : Int) r c l = spec_boCells.l0 k (acc ++ rowC l[i] (i : Int) d j) ((i + 1 : Nat) : Int) r c l := by
  have hr := g.2.2.1; have hc := g.2.1; have hn := goodB_len g
  intro d
  induction d with
  | zero =>
    intro j k acc hj ha
    simp only [Nat.add_zero, spec_boCells.l1]
    rw [if_neg (by omega), w64 (by omega) (by omega)]; simp [rowC]
  | succ d ih =>
    intro j k acc hj ha
    obtain ⟨K, hK⟩ : ∃ K, K = k + d + 1 := ⟨_, rfl⟩
    rw [show k + (d + 1) + 1 = K + 1 from by omega]
    simp only [spec_boCells.l1]
    rw [if_pos (by omega), e_boHas r c l _ _ g (place_nat (by omega) (by omega)), rd_nat l i hi, w64 (by omega) (by omega), show ((j : Int) + 1) = ((j + 1 : Nat) : Int) from by omega]
    simp only [Option.bind_some]
    by_cases h : cell l[i] (j : Int) = true
    · rw [if_pos h, if_pos (by omega), hK, ih (j + 1) k _ (by omega) (by simp; omega)]
      simp only [rowC, h, if_true, List.append_assoc]
    · rw [if_neg h, hK, ih (j + 1) k _ (by omega) (by omega)]
      simp only [rowC, h, if_false, List.nil_append, Bool.false_eq_true]
theorem boCells_l0 (r c : Int) (l : List Int) (g : GoodB r c l) (C : Nat) (hC : (C : Int) = c) : ∀ (d i k : Nat) (acc : List (List Int)), i + d = l.length → acc.length + d * C ≤ 900 → d * (C + 2) < k →
    spec_boCells.l0 k acc (i : Int) r c l = some (acc ++ cellsC C (l.drop i) (i : Int)) := by
  have hr := g.2.2.1; have hc := g.2.1; have hn := goodB_len g
  intro d
  induction d with
  | zero =>
    intro i k acc hi ha hk
    obtain ⟨k, rfl⟩ : ∃ m, k = m + 1 := ⟨k - 1, by omega⟩
    simp only [spec_boCells.l0]
    rw [if_neg (by omega), List.drop_eq_nil_of_le (by omega)]; simp [cellsC]
  | succ d ih =>
    intro i k acc hi ha hk
    rw [Nat.add_mul] at ha hk
    obtain ⟨k, rfl⟩ : ∃ m, k = (m + C + 1) + 1 := ⟨k - C - 2, by omega⟩
    have hlt : i < l.length := by omega
    simp only [spec_boCells.l0]
    have := boCells_l1 r c l g i hlt C 0 k acc (by omega) (by omega)
    rw [if_pos (by omega), show (0 : Int) = ((0 : Nat) : Int) from rfl, this]
    have hl := rowC_len l[i] (i : Int) C 0
    rw [ih (i + 1) k _ (by omega) (by rw [List.length_append]; omega) (by omega), List.drop_eq_getElem_cons hlt]
    simp only [cellsC, List.append_assoc]
    rw [show ((i : Int) + 1) = ((i + 1 : Nat) : Int) from by omega]
theorem e_boCells (k : Nat) (r c : Int) (l : List Int) (g : GoodB r c l) (hk : 100 ≤ k) : spec_boCells.f k r c l = some (cellsC c.toNat l 0) := by
  unfold spec_boCells.f
  have hr := g.2.2.1; have hc := g.2.1; have hn := goodB_len g
  have hb : l.length * c.toNat ≤ 6 * 6 := Nat.mul_le_mul (by omega) (by omega)
  have hb2 : l.length * (c.toNat + 2) ≤ 6 * 8 := Nat.mul_le_mul (by omega) (by omega)
  have := boCells_l0 r c l g c.toNat (by omega) l.length 0 k [] (by omega) (by simp; omega) (by omega)
  simpa using this

theorem e_boEmpty (r c : Int) (h : 0 ≤ r ∧ r ≤ 6) : spec_boEmpty.f r c = some (r, c, List.replicate r.toNat 0) := by
  unfold spec_boEmpty.f; rw [if_pos (by omega), if_pos (by omega)]

theorem boTurn_l0 (cs : List (List Int)) (hl : cs.length ≤ 1000) (n : Nat) (hx : ∀ x ∈ cs, ∃ a b : Nat, x = [(a : Int), (b : Int)] ∧ b < n) (R C : Int) : ∀ (d i k : Nat) (out : List Int), out.length = n → i + d = cs.length → d < k →
    spec_boTurn.l0 k cs (cs.length : Int) (i : Int) R C out = some (R, C, foldCol addT (cs.drop i) out) := by
  intro d
  induction d with
  | zero =>
    intro i k out ho hi hk
    obtain ⟨k, rfl⟩ : ∃ m, k = m + 1 := ⟨k - 1, by omega⟩
    simp only [spec_boTurn.l0]; rw [if_neg (by omega), List.drop_eq_nil_of_le (by omega)]; rfl
  | succ d ih =>
    intro i k out ho hi hk
    obtain ⟨k, rfl⟩ : ∃ m, k = m + 1 := ⟨k - 1, by omega⟩
    have hlt : i < cs.length := by omega
    obtain ⟨a, b, e, hb⟩ := hx cs[i] (List.getElem_mem _)
    simp only [spec_boTurn.l0]
    rw [rdL cs i hlt, List.drop_eq_getElem_cons hlt]
    simp only [foldCol]
    rw [e]
    have e0 : rd [(a : Int), (b : Int)] 0 = (a : Int) := rfl
    have e1 : rd [(a : Int), (b : Int)] 1 = (b : Int) := rfl
    rw [e0, e1, if_pos (by omega), if_pos (by omega), if_pos (by omega), if_pos (by simp), if_pos (by omega), if_pos (by omega), if_pos (by simp), if_pos (by omega), w64 (x := (i : Int) + 1) (by omega) (by omega), show ((i : Int) + 1) = ((i + 1 : Nat) : Int) from by omega]
    exact ih (i + 1) k _ (by simpa using ho) (by omega) (by omega)
/-- The numbers of a turned board. -/
def turnL (r c : Int) (l : List Int) : List Int := foldCol addT (cellsC c.toNat l 0) (List.replicate c.toNat 0)
theorem turnL_len (r c : Int) (l : List Int) : (turnL r c l).length = c.toNat := by unfold turnL; rw [foldCol_len]; simp
theorem e_boTurn (k : Nat) (r c : Int) (l : List Int) (g : GoodB r c l) (hk : 1000 ≤ k) : spec_boTurn.f k r c l = some (c, r, turnL r c l) := by
  unfold spec_boTurn.f turnL
  have h1 := g.1; have h2 := g.2.1; have hn := goodB_len g; have h3 := g.2.2.1
  rw [e_boEmpty c r (by omega), e_boCells k r c l g (by omega)]
  simp only [Option.bind_some]
  have hb := cellsC_len c.toNat l 0
  have hb2 : l.length * c.toNat ≤ 6 * 6 := Nat.mul_le_mul (by omega) (by omega)
  have := boTurn_l0 (cellsC c.toNat l 0) (by omega) c.toNat (fun x hx => by
    obtain ⟨a, b, e, _, _, h6⟩ := cellsC_mem c.toNat l 0 x hx
    exact ⟨a, b, e, by omega⟩) c r (cellsC c.toNat l 0).length 0 k (List.replicate c.toNat 0) (by simp) (by omega) (by omega)
  simpa using this

theorem d_alike (k : Nat) (code : List Int) (hc : CodeOK code) (hk : 2000 ≤ k) : ∃ r c l r' c' l', spec_DrawAreAlike.f k code = some (r, c, l, r', c', l') ∧ l.length ≤ 7 ∧ l'.length ≤ 7 := by
  unfold spec_DrawAreAlike.f
  obtain ⟨r, c, l, r', c', l', i1, u1, e1, h1, h2, h3⟩ := d_fit k code hc 0 0 0 (by unfold PL; omega) (by omega) hk
  rw [e1, Option.bind_some]
  simp only
  rw [e_boGood k r c l (by omega) (by omega), Option.bind_some]
  by_cases g : GoodB r c l
  · rw [if_pos (decide_eq_true g)]
    obtain ⟨v, i2, u2, e2, h4⟩ := d_one code hc i1 u1 2 _ h3 (by omega)
    rw [e2, Option.bind_some]
    simp only
    split
    · rw [e_boTurn k r c l g (by omega), Option.bind_some]
      exact ⟨_, _, _, _, _, _, rfl, h1, by have := turnL_len r c l; have := g.2.1; show (turnL r c l).length ≤ 7; omega⟩
    · exact ⟨_, _, _, _, _, _, rfl, h1, h2⟩
  · rw [if_neg (by simpa using g)]
    exact ⟨_, _, _, _, _, _, rfl, h1, h2⟩

theorem l_short0 (l : List Int) (hl : l.length ≤ 1000) : ∀ n k, n ≤ l.length → n < k → laws_rShort.l0 k l (n : Int) = some (l.take (trN l n))
  | 0, k, _, hk => by
    obtain ⟨k, rfl⟩ : ∃ m, k = m + 1 := ⟨k - 1, by omega⟩
    rw [laws_rShort.l0, if_neg (by omega), if_pos (by omega), if_pos (by omega)]; rfl
  | n + 1, k, hn, hk => by
    obtain ⟨k, rfl⟩ : ∃ m, k = m + 1 := ⟨k - 1, by omega⟩
    rw [laws_rShort.l0, if_pos (by omega), w64 (by omega) (by omega), show ((n + 1 : Nat) : Int) - 1 = (n : Int) from by omega, if_pos (by omega), if_pos (by omega)]
    by_cases h : rd l (n : Int) = 0
    · rw [if_pos h, l_short0 l hl n k (by omega) (by omega)]; simp only [trN, if_pos h]
    · rw [if_neg h, if_pos (by omega), if_pos (by omega)]; simp only [trN, if_neg h, Int.toNat_natCast]
theorem l_rShort (k : Nat) (l : List Int) (hl : l.length ≤ 1000) (hk : 1000 < k) : laws_rShort.f k l = some (l.take (trN l l.length)) := by
  unfold laws_rShort.f
  exact l_short0 l hl l.length k (Nat.le_refl _) (by omega)

theorem mul_in (b : List Int) (hb : b.length ≤ 7) (v : List Int) (x7 n : Int) (i m : Nat) (hm : i + b.length ≤ m) (hm2 : m ≤ 100) : ∀ (d j k k' : Nat) (y : List Int), j + d = b.length → y.length = m → ∃ y' : List Int, y'.length = m ∧ spec_roTimes.l1 (k + (d + 1)) b y (i : Int) x7 v n (i : Int) b (b.length : Int) (j : Int) = spec_roTimes.l0 k b y' v n ((i + 1 : Nat) : Int) ∧ impl_product.l1 (k' + (d + 1)) b y (i : Int) x7 v n (i : Int) b (b.length : Int) (j : Int) = impl_product.l0 k' b y' v n ((i + 1 : Nat) : Int) := by
  intro d
  induction d with
  | zero =>
    intro j k k' y hj hy
    rw [show k + (0 + 1) = k + 1 from rfl, show k' + (0 + 1) = k' + 1 from rfl, spec_roTimes.l1, impl_product.l1, if_neg (by omega), if_neg (by omega), w64 (x := (i : Int) + 1) (by omega) (by omega)]
    exact ⟨y, hy, rfl, rfl⟩
  | succ d ih =>
    intro j k k' y hj hy
    have c1 : (j : Int) < (b.length : Int) := by omega
    have c2 : 0 ≤ (j : Int) := by omega
    have e1 : wrap64 ((i : Int) + (j : Int)) = ((i + j : Nat) : Int) := by rw [w64 (by omega) (by omega)]; omega
    have c3 : 0 ≤ ((i + j : Nat) : Int) := by omega
    have c4 : ((i + j : Nat) : Int) < (y.length : Int) := by omega
    have e2 : wrap64 ((j : Int) + 1) = ((j + 1 : Nat) : Int) := by rw [w64 (by omega) (by omega)]; omega
    rw [show k + (d + 1 + 1) = (k + (d + 1)) + 1 from rfl, show k' + (d + 1 + 1) = (k' + (d + 1)) + 1 from rfl, spec_roTimes.l1, impl_product.l1]
    simp only [if_pos c1, if_pos c2, e1, if_pos c3, if_pos c4, e2]
    exact ih (j + 1) k k' _ (by omega) (by simpa using hy)
theorem mul_out (a b : List Int) (ha : a.length ≤ 7) (hb : b.length ≤ 7) (m : Nat) (hm : a.length + b.length ≤ m + 1) (hm2 : m ≤ 100) : ∀ (d i k k' : Nat) (y : List Int), i + d = a.length → y.length = m → 10 * d + 10 ≤ k → 10 * d + 10 ≤ k' → ∃ y' : List Int, y'.length = m ∧ spec_roTimes.l0 k b y a (a.length : Int) (i : Int) = some y' ∧ impl_product.l0 k' b y a (a.length : Int) (i : Int) = some y' := by
  intro d
  induction d with
  | zero =>
    intro i k k' y hi hy hk hk'
    obtain ⟨k, rfl⟩ : ∃ m, k = m + 1 := ⟨k - 1, by omega⟩
    obtain ⟨k', rfl⟩ : ∃ m, k' = m + 1 := ⟨k' - 1, by omega⟩
    rw [spec_roTimes.l0, impl_product.l0, if_neg (by omega), if_neg (by omega)]
    exact ⟨y, hy, rfl, rfl⟩
  | succ d ih =>
    intro i k k' y hi hy hk hk'
    obtain ⟨k, rfl⟩ : ∃ m, k = m + (b.length + 1) + 1 := ⟨k - (b.length + 2), by omega⟩
    obtain ⟨k', rfl⟩ : ∃ m, k' = m + (b.length + 1) + 1 := ⟨k' - (b.length + 2), by omega⟩
    have c1 : (i : Int) < (a.length : Int) := by omega
    have c2 : 0 ≤ (i : Int) := by omega
    rw [spec_roTimes.l0, impl_product.l0]
    simp only [if_pos c1, if_pos c2]
    obtain ⟨y1, hy1, h1, h2⟩ := mul_in b hb a (rd a (i : Int)) (a.length : Int) i m (by omega) hm2 b.length 0 k k' y (by omega) hy
    rw [show ((0 : Nat) : Int) = 0 from rfl] at h1 h2
    rw [h1, h2]
    exact ih (i + 1) k k' y1 (by omega) hy1 (by omega) (by omega)
theorem mul_both (a b : List Int) (ha : 1 ≤ a.length ∧ a.length ≤ 7) (hb : 1 ≤ b.length ∧ b.length ≤ 7) (k k' : Nat) (hk : 1000 ≤ k) (hk' : 1000 ≤ k') : ∃ o : List Int, o.length ≤ 13 ∧ spec_roTimes.f k a b = some o ∧ impl_product.f k' a b = some o := by
  unfold spec_roTimes.f impl_product.f
  have e : wrap64 (wrap64 ((a.length : Int) + (b.length : Int)) - 1) = ((a.length + b.length - 1 : Nat) : Int) := by
    rw [w64 (x := (a.length : Int) + (b.length : Int)) (by omega) (by omega), w64 (by omega) (by omega)]; omega
  have c1 : (0 : Int) ≤ ((a.length + b.length - 1 : Nat) : Int) := by omega
  have c2 : ((a.length + b.length - 1 : Nat) : Int).toNat ≤ 35184372088832 := by omega
  rw [e]
  simp only [if_pos c1, if_pos c2]
  obtain ⟨o, h0, h1, h2⟩ := mul_out a b ha.2 hb.2 (a.length + b.length - 1) (by omega) (by omega) a.length 0 k k' (List.replicate ((a.length + b.length - 1 : Nat) : Int).toNat 0) (by omega) (by simp) (by omega) (by omega)
  exact ⟨o, by omega, h1, h2⟩
theorem e_roFactors (k : Nat) (l : List Int) (hk : 100 ≤ k) : spec_roFactors.f k l = some (okM l) := by
  unfold spec_roFactors.f okM
  rw [e_l1In]
  simp only [Option.bind_some]
  by_cases h : 1 ≤ (l.length : Int) ∧ (l.length : Int) ≤ 7
  · rw [if_pos (decide_eq_true h), e_l1All k l 0 100000 (by omega) (by omega), decide_eq_true h]
    simp only [Option.bind_some, Bool.true_and]
    congr 1
    rw [Bool.eq_iff_iff]
    simp [badM, List.any_eq_false]
  · rw [if_neg (by simpa using h), decide_eq_false h]; rfl
theorem okM_len {l : List Int} (h : okM l = true) : 1 ≤ l.length ∧ l.length ≤ 7 := by
  unfold okM at h
  simp only [Bool.and_eq_true, decide_eq_true_eq] at h
  omega
theorem both_MultiplyNumbers (a b : List Int) : ∃ o : List Int × Bool, o.1.length ≤ 13 ∧ ∀ k, 2000 ≤ k → spec_MultiplyNumbers.f k a b = some o ∧ impl_MultiplyNumbers.f k a b = some o := by
  unfold spec_MultiplyNumbers.f impl_MultiplyNumbers.f
  by_cases ha : okM a = true
  · by_cases hb : okM b = true
    · obtain ⟨K, hK⟩ : ∃ K : Nat, K = 2000 := ⟨_, rfl⟩
      obtain ⟨o, h0, h1, h2⟩ := mul_both a b (okM_len ha) (okM_len hb) K K (by omega) (by omega)
      refine ⟨(o, true), h0, fun k hk => ?_⟩
      obtain ⟨o1, _, a1, a2⟩ := mul_both a b (okM_len ha) (okM_len hb) k K (by omega) (by omega)
      obtain ⟨o2, _, b1, b2⟩ := mul_both a b (okM_len ha) (okM_len hb) K k (by omega) (by omega)
      rw [h2] at a2
      rw [h1] at b1
      obtain rfl := Option.some.inj a2
      obtain rfl := Option.some.inj b1
      rw [e_roFactors k a (by omega), e_roFactors k b (by omega), ha, hb]
      rw [Option.bind_some, if_pos rfl, Option.bind_some, if_pos rfl, if_pos rfl, if_pos rfl, a1, b2, Option.bind_some]
      exact ⟨rfl, rfl⟩
    · refine ⟨([], false), by simp, fun k hk => ?_⟩
      rw [e_roFactors k a (by omega), e_roFactors k b (by omega), ha, Bool.eq_false_iff.2 hb]
      exact ⟨rfl, rfl⟩
  · refine ⟨([], false), by simp, fun k hk => ?_⟩
    rw [e_roFactors k a (by omega), Bool.eq_false_iff.2 ha]
    exact ⟨rfl, rfl⟩

theorem e_isSide (a : Int) : impl_isSide.f a = some (decide (1 ≤ a ∧ a ≤ 6)) := by
  unfold impl_isSide.f; rw [e_within]; rfl

theorem st_impl (p : List Int) (c r : Int) (l : List Int) (hp : p.length ≤ 100) (hc : 0 ≤ c) (R C : Int) : ∀ (d i k : Nat) (acc : List Int), i + d = p.length → d < k → acc.length + d ≤ 1000 → impl_StackBoards.l0 k p (p.length : Int) (i : Int) r c l R C acc = some (R, C, acc ++ (p.drop i).map (fun m => shl .i64 m c), true) := by
  intro d
  induction d with
  | zero =>
    intro i k acc hi hk ha
    obtain ⟨k, rfl⟩ : ∃ m, k = m + 1 := ⟨k - 1, by omega⟩
    rw [impl_StackBoards.l0, if_neg (by omega), List.drop_eq_nil_of_le (by omega)]; simp
  | succ d ih =>
    intro i k acc hi hk ha
    obtain ⟨k, rfl⟩ : ∃ m, k = m + 1 := ⟨k - 1, by omega⟩
    have hlt : i < p.length := by omega
    rw [impl_StackBoards.l0, if_pos (by omega), if_pos (by omega), if_pos (by omega), if_pos hc, if_pos (by omega), w64 (x := (i : Int) + 1) (by omega) (by omega), show ((i : Int) + 1) = ((i + 1 : Nat) : Int) from by omega, rd_nat p i hlt, ih (i + 1) k _ (by omega) (by omega) (by simp; omega), List.drop_eq_getElem_cons hlt, List.map_cons, List.append_assoc]
    rfl
def stOut (r c : Int) (l : List Int) (r' c' : Int) (l' : List Int) : Int × Int × List Int × Bool := if (GoodB r c l ∧ GoodB r' c' l') ∧ r + r' ≤ 6 ∧ c + c' ≤ 6 then (r + r', c + c', l ++ l'.map (fun m => shl .i64 m c), true) else (0, 0, [], false)
theorem stOut_len (r c : Int) (l : List Int) (r' c' : Int) (l' : List Int) : (stOut r c l r' c' l').2.2.1.length ≤ 12 := by
  unfold stOut
  split
  · rename_i h; have := goodB_len h.1.1; have := goodB_len h.1.2; simp only [List.length_append, List.length_map]; omega
  · simp
theorem impl_no (k : Nat) (r c : Int) (l : List Int) (r' c' : Int) (l' : List Int) (hk : 1 ≤ k) : impl_StackBoards.j0 k true r c l r' c' l' = some (0, 0, [], false) := by
  obtain ⟨k, rfl⟩ : ∃ m, k = m + 1 := ⟨k - 1, by omega⟩
  rw [impl_StackBoards.j0, if_pos rfl]
theorem i_StackBoards (k : Nat) (r c : Int) (l : List Int) (r' c' : Int) (l' : List Int) (hk2 : 200 ≤ k) : impl_StackBoards.f k r c l r' c' l' = some (stOut r c l r' c' l') := by
  unfold impl_StackBoards.f stOut
  rw [i_IsBoard, i_IsBoard, e_isSide, e_isSide]
  simp only [Option.bind_some, decide_eq_true_eq]
  have hno := impl_no k r c l r' c' l' (by omega)
  by_cases g : GoodB r c l
  · by_cases g' : GoodB r' c' l'
    · have h1 := g.1; have h2 := g.2.1; have h1' := g'.1; have h2' := g'.2.1
      have h3 := goodB_len g; have h4 := goodB_len g'
      rw [if_pos g, if_pos g', w64 (x := r + r') (by omega) (by omega), w64 (x := c + c') (by omega) (by omega)]
      by_cases hr : r + r' ≤ 6
      · rw [if_pos (by omega)]
        by_cases hc : c + c' ≤ 6
        · rw [if_pos ⟨⟨g, g'⟩, hr, hc⟩, decide_eq_true (show 1 ≤ c + c' ∧ c + c' ≤ 6 by omega)]
          obtain ⟨k, rfl⟩ : ∃ m, k = m + 1 := ⟨k - 1, by omega⟩
          rw [impl_StackBoards.j0, if_neg (by decide)]
          unfold slices_Clone_int_int.f
          rw [if_pos (by omega), Option.bind_some, w64 (x := r + r') (by omega) (by omega), w64 (x := c + c') (by omega) (by omega)]
          have := st_impl l' c r l (by omega) (by omega) (r + r') (c + c') l'.length 0 k l (by omega) (by omega) (by omega)
          rw [show ((0 : Nat) : Int) = 0 from rfl, List.drop_zero] at this
          exact this
        · rw [if_neg (fun x => hc x.2.2), decide_eq_false (show ¬ (1 ≤ c + c' ∧ c + c' ≤ 6) by omega)]; exact hno
      · rw [if_neg (by omega), if_neg (fun x => hr x.2.1)]; exact hno
    · rw [if_pos g, if_neg g', if_neg (fun x => g' x.1.2)]; exact hno
  · rw [if_neg g, if_neg (fun x => g x.1.1)]; exact hno

theorem e_short0 (l : List Int) (hl : l.length ≤ 1000) : ∀ n k, n ≤ l.length → n < k → spec_roShort.l0 k l (n : Int) = some (l.take (trN l n))
  | 0, k, _, hk => by
    obtain ⟨k, rfl⟩ : ∃ m, k = m + 1 := ⟨k - 1, by omega⟩
    rw [spec_roShort.l0, if_neg (by omega), if_pos (by omega), if_pos (by omega)]; rfl
  | n + 1, k, hn, hk => by
    obtain ⟨k, rfl⟩ : ∃ m, k = m + 1 := ⟨k - 1, by omega⟩
    rw [spec_roShort.l0, if_pos (by omega), w64 (by omega) (by omega), show ((n + 1 : Nat) : Int) - 1 = (n : Int) from by omega, if_pos (by omega), if_pos (by omega)]
    by_cases h : rd l (n : Int) = 0
    · rw [if_pos h, e_short0 l hl n k (by omega) (by omega)]; simp only [trN, if_pos h]
    · rw [if_neg h, if_pos (by omega), if_pos (by omega)]; simp only [trN, if_neg h, Int.toNat_natCast]
theorem e_roShort (k : Nat) (l : List Int) (hl : l.length ≤ 1000) (hk : 1000 < k) : spec_roShort.f k l = some (l.take (trN l l.length)) := by
  unfold spec_roShort.f
  exact e_short0 l hl l.length k (Nat.le_refl _) (by omega)

theorem same_loop (a b : List Int) (hab : a.length = b.length) (ha : a.length ≤ 1000000) : ∀ (d i k k' : Nat), i + d = a.length → d < k → d < k' → ∃ v, spec_l1Same.l0 k a b (a.length : Int) (i : Int) = some v ∧ slices_Equal_int_int.l0 k' a b (a.length : Int) (i : Int) = some v := by
  intro d
  induction d with
  | zero =>
    intro i k k' hi hk hk'
    obtain ⟨k, rfl⟩ : ∃ m, k = m + 1 := ⟨k - 1, by omega⟩
    obtain ⟨k', rfl⟩ : ∃ m, k' = m + 1 := ⟨k' - 1, by omega⟩
    rw [spec_l1Same.l0, slices_Equal_int_int.l0, if_neg (by omega), if_neg (by omega)]
    exact ⟨_, rfl, rfl⟩
  | succ d ih =>
    intro i k k' hi hk hk'
    obtain ⟨k, rfl⟩ : ∃ m, k = m + 1 := ⟨k - 1, by omega⟩
    obtain ⟨k', rfl⟩ : ∃ m, k' = m + 1 := ⟨k' - 1, by omega⟩
    have c1 : (i : Int) < (a.length : Int) := by omega
    have c2 : 0 ≤ (i : Int) := by omega
    have c3 : (i : Int) < (b.length : Int) := by omega
    rw [spec_l1Same.l0, slices_Equal_int_int.l0]
    simp only [if_pos c1, if_pos c2, if_pos c3]
    rw [w64 (x := (i : Int) + 1) (by omega) (by omega), show ((i : Int) + 1) = ((i + 1 : Nat) : Int) from by omega]
    by_cases h : rd a (i : Int) = rd b (i : Int)
    · rw [if_pos h, if_pos h]
      exact ih (i + 1) k k' (by omega) (by omega) (by omega)
    · rw [if_neg h, if_neg h]
      exact ⟨_, rfl, rfl⟩
theorem same_both (a b : List Int) (k k' : Nat) (ha : a.length ≤ 1000000) (hk : 1000010 ≤ k) (hk' : 1000010 ≤ k') : ∃ v, spec_l1Same.f k a b = some v ∧ slices_Equal_int_int.f k' a b = some v := by
  unfold spec_l1Same.f slices_Equal_int_int.f
  by_cases h : (a.length : Int) = (b.length : Int)
  · rw [if_pos h, if_pos h]
    exact same_loop a b (by omega) ha a.length 0 k k' (by omega) (by omega) (by omega)
  · rw [if_neg h, if_neg h]
    exact ⟨_, rfl, rfl⟩

theorem both_AreAlike (k k' : Nat) (r c : Int) (l : List Int) (r' c' : Int) (l' : List Int) (hk : 2000000 ≤ k) (hk' : 2000000 ≤ k') (hl : l.length ≤ 1048576) (hl' : l'.length ≤ 1048576) : ∃ o, spec_AreAlike.f k r c l r' c' l' = some o ∧ impl_AreAlike.f k' r c l r' c' l' = some o := by
  unfold spec_AreAlike.f impl_AreAlike.f
  rw [e_boGood k r c l (by omega) (by omega), i_IsBoard]
  simp only [Option.bind_some]
  rw [e_boGood k r' c' l' (by omega) (by omega), i_IsBoard]
  simp only [Option.bind_some]
  obtain ⟨k, rfl⟩ : ∃ m, k = m + 1 := ⟨k - 1, by omega⟩
  obtain ⟨k', rfl⟩ : ∃ m, k' = m + 1 := ⟨k' - 1, by omega⟩
  rw [spec_AreAlike.j0, impl_AreAlike.j0, spec_AreAlike.j0, impl_AreAlike.j0]
  by_cases h : GoodB r c l
  · rw [decide_eq_true h]
    simp only [if_true]
    by_cases h' : GoodB r' c' l'
    · have hn := numsL_len r c l h
      have hn' := numsL_len r' c' l' h'
      rw [decide_eq_true h']
      simp only [Bool.not_true, Bool.false_eq_true, if_false]
      rw [e_roNumbers k r c l h (by omega), i_numbers r c l h, e_roNumbers k r' c' l' h' (by omega), i_numbers r' c' l' h']
      simp only [Option.bind_some]
      rw [e_roShort k _ (by omega) (by omega), i_trimmed k' _ (by omega) (by omega), e_roShort k _ (by omega) (by omega), i_trimmed k' _ (by omega) (by omega)]
      simp only [Option.bind_some]
      obtain ⟨v, h1, h2⟩ := same_both ((numsL r c l).take (trN (numsL r c l) (numsL r c l).length)) ((numsL r' c' l').take (trN (numsL r' c' l') (numsL r' c' l').length)) k k' (by rw [List.length_take]; omega) (by omega) (by omega)
      rw [h1, h2]
      exact ⟨_, rfl, rfl⟩
    · rw [decide_eq_false h']
      simp only [Bool.not_false, if_true]
      exact ⟨_, rfl, rfl⟩
  · rw [decide_eq_false h]
    simp only [Bool.false_eq_true, if_false, if_true]
    exact ⟨_, rfl, rfl⟩

theorem nums_le5 (r c : Int) (l : List Int) (g : GoodB r c l) (hr : r ≤ 5) : ∀ x ∈ numsL r c l, 0 ≤ x ∧ x ≤ 100000 := by
  intro x hx
  obtain ⟨j, hj, rfl⟩ := List.mem_iff_getElem.1 hx
  have g2 := g.2.1; have g3 := g.2.2.1
  rw [← rd_nat _ j hj]
  unfold numsL at hj ⊢
  rw [HZ_len] at hj
  rw [HZ_rd _ _ j hj]
  have h1 := Z_length c.toNat (by omega) l 0
  have h2 : 7 ^ l.length ≤ 7 ^ 5 := Nat.pow_le_pow_right (by omega) (by omega)
  have h3 := List.count_le_length (a := j) (l := Z c.toNat l 0)
  omega
theorem okM_nums (r c : Int) (l : List Int) (g : GoodB r c l) (hr : r ≤ 5) : okM (numsL r c l) = true := by
  have h1 := numsL_len r c l g
  have h2 : 1 ≤ (numsL r c l).length := by have := g.1; have := g.2.1; unfold numsL; rw [HZ_len]; omega
  have h3 := nums_le5 r c l g hr
  unfold okM
  simp only [Bool.and_eq_true, decide_eq_true_eq, Bool.not_eq_true', List.any_eq_false]
  refine ⟨by omega, fun x hx => ?_⟩
  have := h3 x hx
  unfold badM
  simp only [decide_eq_true this, Bool.not_true, Bool.false_eq_true, not_false_eq_true]
theorem i_Mult (k : Nat) (r c : Int) (l : List Int) (r' c' : Int) (l' : List Int) (g : GoodB r c l) (g' : GoodB r' c' l') (hr : r ≤ 5) (hr' : r' ≤ 5) (hk : 1000 ≤ k) : ∃ y, impl_MultiplyNumbers.f k (numsL r c l) (numsL r' c' l') = some (y, true) ∧ y.length ≤ 13 ∧ ∀ q : Nat, rd y (q : Int) = sumN (cvT (numsL r c l) (numsL r' c' l') q) (numsL r c l).length := by
  have o1 := okM_nums r c l g hr
  have o2 := okM_nums r' c' l' g' hr'
  obtain ⟨y, h1, h2, h3⟩ := i_product k _ _ (okM_len o1) (okM_len o2) (nums_Small r c l g) (nums_Small r' c' l' g') hk
  have := okM_len o1; have := okM_len o2
  refine ⟨y, ?_, by omega, h3⟩
  unfold impl_MultiplyNumbers.f
  rw [if_pos o1, if_pos o2, h1]; rfl
theorem st_bdF : ∀ c c' : Fin 7, c.val + c'.val ≤ 6 → ∀ m : Fin 64, ((m.val : Int) ≤ 2 ^ c'.val - 1 → 0 ≤ shl .i64 (m.val : Int) (c.val : Int) ∧ shl .i64 (m.val : Int) (c.val : Int) ≤ 2 ^ (c.val + c'.val) - 1) ∧ ((m.val : Int) ≤ 2 ^ c.val - 1 → (m.val : Int) ≤ 2 ^ (c.val + c'.val) - 1) := by decide +kernel
theorem fin64 (m : Int) (c : Int) (hc : 1 ≤ c ∧ c ≤ 6) (h : 0 ≤ m ∧ m ≤ 2 ^ c.toNat - 1) : ∃ f : Fin 64, m = (f.val : Int) := fin_of m 64 h.1 (by have := pow_le c hc; omega)
theorem st_good (r c : Int) (l : List Int) (r' c' : Int) (l' : List Int) (g : GoodB r c l) (g' : GoodB r' c' l') (hr : r + r' ≤ 6) (hc : c + c' ≤ 6) : GoodB (r + r') (c + c') (l ++ l'.map fun m => shl .i64 m c) := by
  have g1 := g.1; have g2 := g.2.1; have g3 := g.2.2.1; have k1 := g'.1; have k2 := g'.2.1; have k3 := g'.2.2.1
  refine ⟨by omega, by omega, by simp; omega, ?_⟩
  intro x hx
  have key := st_bdF ⟨c.toNat, by omega⟩ ⟨c'.toNat, by omega⟩ (by show c.toNat + c'.toNat ≤ 6; omega)
  rw [show (c + c').toNat = c.toNat + c'.toNat by omega]
  rcases List.mem_append.1 hx with hx | hx
  · have hb := g.2.2.2 x hx
    obtain ⟨f, rfl⟩ := fin64 x c g2 hb
    exact ⟨hb.1, (key f).2 hb.2⟩
  · obtain ⟨m, hm, rfl⟩ := List.mem_map.1 hx
    have hb := g'.2.2.2 m hm
    obtain ⟨f, rfl⟩ := fin64 m c' k2 hb
    have := (key f).1 hb.2
    simp only at this
    rw [show ((c.toNat : Nat) : Int) = c by omega] at this
    exact this
theorem cm_factF : ∀ c : Fin 7, ∀ m : Fin 64, (m.val : Int) ≤ 2 ^ c.val - 1 → (0 ≤ cmE (c.val : Int) (m.val : Int) ∧ cmE (c.val : Int) (m.val : Int) ≤ 2 ^ c.val - 1) ∧ ∀ j : Fin 6, j.val < c.val → cell (cmE (c.val : Int) (m.val : Int)) (j.val : Int) = !cell (m.val : Int) (j.val : Int) := by decide +kernel
theorem cm_fact (c : Int) (hc : 1 ≤ c ∧ c ≤ 6) (m : Int) (hm : 0 ≤ m ∧ m ≤ 2 ^ c.toNat - 1) : (0 ≤ cmE c m ∧ cmE c m ≤ 2 ^ c.toNat - 1) ∧ ∀ j : Nat, j < c.toNat → cell (cmE c m) (j : Int) = !cell m (j : Int) := by
  obtain ⟨f, rfl⟩ := fin64 m c hc hm
  have key := cm_factF ⟨c.toNat, by omega⟩ f hm.2
  simp only at key
  rw [show ((c.toNat : Nat) : Int) = c by omega] at key
  exact ⟨key.1, fun j hj => key.2 ⟨j, by omega⟩ hj⟩
theorem cm_good (r c : Int) (l : List Int) (g : GoodB r c l) : GoodB r c (l.map (cmE c)) := by
  refine ⟨g.1, g.2.1, by rw [List.length_map]; exact g.2.2.1, fun x hx => ?_⟩
  obtain ⟨m, hm, rfl⟩ := List.mem_map.1 hx
  exact (cm_fact c g.2.1 m (g.2.2.2 m hm)).1
theorem e_Alike (k : Nat) (r c : Int) (l : List Int) (r' c' : Int) (l' : List Int) (hk : 2000000 ≤ k) (hl : l.length ≤ 1048576) (hl' : l'.length ≤ 1048576) : spec_AreAlike.f k r c l r' c' l' = some (alOut r c l r' c' l') := by
  obtain ⟨o, h1, h2⟩ := both_AreAlike k k r c l r' c' l' hk hk hl hl'
  rw [i_AreAlike k r c l r' c' l' (by omega)] at h2
  rw [h1, h2]
theorem law_j3 (k : Nat) (x : List Int) (hc : CodeOK x) (hk : 2000010 ≤ k) : laws_FnRookNumbersMultiply.j3 k x = some true := by
  obtain ⟨k, rfl⟩ : ∃ m, k = m + 2 := ⟨k - 2, by omega⟩
  rw [laws_FnRookNumbersMultiply.j3]
  obtain ⟨r, c, l, r', c', l', e, h1, h2⟩ := d_alike (k + 1) x hc (by omega)
  rw [e, Option.bind_some]
  simp only
  rw [i_AreAlike _ r c l r' c' l' (by omega), Option.bind_some, e_Alike _ r c l r' c' l' (by omega) (by omega) (by omega), Option.bind_some, bne_self_eq_false, if_neg (by decide), bne_self_eq_false, laws_FnRookNumbersMultiply.j4, if_neg (by decide)]
  by_cases g : GoodB r c l ∧ GoodB r' c' l'
  · have e1 : alOut r c l r' c' l' = (decide (trL (numsL r c l) = trL (numsL r' c' l')), true) := by unfold alOut; rw [if_pos g]
    have e2 : numsOut r c l = (numsL r c l, true) := by unfold numsOut; rw [if_pos g.1]
    have e3 : numsOut r' c' l' = (numsL r' c' l', true) := by unfold numsOut; rw [if_pos g.2]
    have n1 := numsL_len r c l g.1
    have n2 := numsL_len r' c' l' g.2
    rw [e1, if_pos rfl, i_RookNumbers, Option.bind_some, i_RookNumbers, Option.bind_some, e2, e3, if_pos rfl, if_pos rfl, l_rShort _ _ (by simp only; omega) (by omega), Option.bind_some, l_rShort _ _ (by simp only; omega) (by omega), Option.bind_some, rSame_eq _ _ _ (by rw [List.length_take]; simp only; omega) (by rw [List.length_take]; simp only; omega), Option.bind_some]
    have hd : ∀ (p : Prop) (i1 i2 : Decidable p), (@decide p i1 == @decide p i2) = true := fun p i1 i2 => by rw [Subsingleton.elim i1 i2]; exact beq_self_eq_true _
    exact congrArg some (hd _ _ _)
  · have e1 : alOut r c l r' c' l' = (false, false) := by unfold alOut; rw [if_neg g]
    rw [e1, if_neg (by decide)]
theorem law_j1 (k : Nat) (x y : List Int) (hx : CodeOK x) (hy : CodeOK y) (hk : 2000020 ≤ k) : laws_FnRookNumbersMultiply.j1 k x y false = some true := by
  obtain ⟨k, rfl⟩ : ∃ m, k = m + 2 := ⟨k - 2, by omega⟩
  rw [laws_FnRookNumbersMultiply.j1, if_neg (by decide)]
  unfold spec_DrawNumbersOfComplement.f spec_DrawPermanentOf.f
  obtain ⟨r, c, l, i1, u1, e1, h3, h4, h5⟩ := d_square (k + 1) y hy 0 0 0 (by unfold PL; omega) (by omega) (by omega)
  rw [e1, Option.bind_some, Option.bind_some, Option.bind_some]
  simp only
  rw [i_NumbersOfComplement _ r c l (by omega) (by omega), Option.bind_some, e_NumbersOfComplement _ r c l (by omega) (by omega), Option.bind_some, bne_self_eq_false, if_neg (by decide)]
  by_cases g : GoodB r c l ∧ r = c
  · obtain ⟨g, rfl⟩ := g
    have g1 := g.1
    have eo : ncOut r r l = ((List.range (r.toNat + 1)).map (ncL (numsL r r l) r.toNat), true) := by unfold ncOut; rw [if_pos ⟨g, rfl⟩]
    have ec : impl_ComplementOf.f r r l = some (r, r, l.map (cmE r), true) := by unfold impl_ComplementOf.f; rw [if_pos g]
    have en : numsOut r r (l.map (cmE r)) = (numsL r r (l.map (cmE r)), true) := by unfold numsOut; rw [if_pos (cm_good r r l g)]
    have hn := nc_numsL r l g (cmE r) (fun m hm j hj => (cm_fact r g1 m (g.2.2.2 m hm)).2 j hj)
    rw [eo]
    simp only
    rw [rSame_self _ _ (by simp; omega) (by simp; omega), Option.bind_some, laws_FnRookNumbersMultiply.j2, if_neg (by decide), if_pos rfl, ec, Option.bind_some, i_RookNumbers, Option.bind_some, en]
    simp only [if_true]
    rw [hn, rSame_self _ _ (by simp; omega) (by simp; omega), Option.bind_some, if_pos rfl]
    exact law_j3 k x hx (by omega)
  · have eo : ncOut r c l = ([], false) := by unfold ncOut; rw [if_neg g]
    rw [eo, rSame_self _ _ (by simp) (by simp), Option.bind_some, laws_FnRookNumbersMultiply.j2, if_neg (by decide), if_neg (by decide)]
    exact law_j3 k x hx (by omega)
theorem law_j0 (k : Nat) (x y : List Int) (hx : CodeOK x) (hy : CodeOK y) (hk : 2000030 ≤ k) : laws_FnRookNumbersMultiply.j0 k x y = some true := by
  obtain ⟨k, rfl⟩ : ∃ m, k = m + 1 := ⟨k - 1, by omega⟩
  rw [laws_FnRookNumbersMultiply.j0]
  obtain ⟨a, b, e⟩ := d_mult k y hy (by omega)
  obtain ⟨o, hl, ho⟩ := both_MultiplyNumbers a b
  obtain ⟨o1, o2⟩ := ho k (by omega)
  rw [e, Option.bind_some]
  simp only
  rw [o2, Option.bind_some, o1, Option.bind_some, bne_self_eq_false, if_neg (by decide), rSame_self _ _ (by omega) (by omega), Option.bind_some]
  exact law_j1 k x y hx hy (by omega)
theorem FnRookNumbersMultiply : laws_FnRookNumbersMultiply.Pure := by
  intro a b _ ha _ hb
  refine ⟨3000000, ?_⟩
  unfold laws_FnRookNumbersMultiply.f laws_big.f
  by_cases h : (a.length : Int) > 1048576
  · rw [if_pos h]; rfl
  · rw [if_neg h, Option.bind_some, w64 (by omega) (by omega)]
    by_cases h2 : (b.length : Int) > 1048576 - a.length
    · rw [decide_eq_true h2, if_pos rfl]
    · have hca := code_ok a (by omega) ha
      have hcb := code_ok b (by omega) hb
      rw [decide_eq_false h2, if_neg (by decide)]
      obtain ⟨r, c, l, r', c', l', e, h3, h4⟩ := d_stack 3000000 a hca (by omega)
      rw [e, Option.bind_some]
      simp only
      rw [i_StackBoards _ r c l r' c' l' (by omega), Option.bind_some]
      by_cases h5 : (GoodB r c l ∧ GoodB r' c' l') ∧ r + r' ≤ 6 ∧ c + c' ≤ 6
      · obtain ⟨⟨g, g'⟩, hr, hc⟩ := h5
        have g1 := g.1; have g1' := g'.1
        have gs := st_good r c l r' c' l' g g' hr hc
        have eo : stOut r c l r' c' l' = (r + r', c + c', l ++ l'.map (fun m => shl .i64 m c), true) := by unfold stOut; rw [if_pos ⟨⟨g, g'⟩, hr, hc⟩]
        have e1 : numsOut r c l = (numsL r c l, true) := by unfold numsOut; rw [if_pos g]
        have e2 : numsOut r' c' l' = (numsL r' c' l', true) := by unfold numsOut; rw [if_pos g']
        have e3 : numsOut (r + r') (c + c') (l ++ l'.map (fun m => shl .i64 m c)) = (numsL (r + r') (c + c') (l ++ l'.map (fun m => shl .i64 m c)), true) := by unfold numsOut; rw [if_pos gs]
        obtain ⟨y, m1, m2, m3⟩ := i_Mult 3000000 r c l r' c' l' g g' (by omega) (by omega) (by omega)
        have n3 := numsL_len _ _ _ gs
        rw [eo]
        simp only [if_true]
        rw [i_RookNumbers, Option.bind_some, i_RookNumbers, Option.bind_some, i_RookNumbers, Option.bind_some, e1, e2, e3]
        simp only [if_true]
        rw [m1, Option.bind_some]
        simp only [if_true]
        rw [l_rShort _ _ (by omega) (by omega), Option.bind_some, l_rShort _ _ (by omega) (by omega), Option.bind_some, trim_eq y (numsL (r + r') (c + c') (l ++ l'.map (fun m => shl .i64 m c))) (fun q => by rw [m3 q, stack_nums r c l r' c' l' g g' hr hc q gs]), rSame_self _ _ (by rw [List.length_take]; omega) (by rw [List.length_take]; omega), Option.bind_some, if_pos rfl]
        exact law_j0 3000000 a b hca hcb (by omega)
      · have eo : stOut r c l r' c' l' = (0, 0, [], false) := by unfold stOut; rw [if_neg h5]
        rw [eo, if_neg (by decide)]
        exact law_j0 3000000 a b hca hcb (by omega)

end Go.Proofs.Ytllhofdgbpnkkaa.Pure
