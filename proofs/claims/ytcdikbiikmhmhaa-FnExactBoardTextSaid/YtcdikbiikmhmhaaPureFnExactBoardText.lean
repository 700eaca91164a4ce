/- BoardText: the law's function comes to true at every board. -/
import Derived.Test.YtcdikbiikmhmhaaPFnExactBoardTextx3
namespace Go.Proofs.Ytcdikbiikmhmhaa.Pure
open Go.RowKit Go.Proofs.Ytcdikbiikmhmhaa.PFnExactBoardText Go.Proofs.YtcdikbiikmhmhaaW.PrintWords Go.Proofs.YtcdikbiikmhmhaaW.PrintLast
set_option linter.unusedVariables false
set_option linter.unusedSimpArgs false

theorem w64 {x : Int} (h0 : -9223372036854775808 ≤ x) (h1 : x < 9223372036854775808) : wrap64 x = x := by
  unfold wrap64; omega
theorem rd_nat (l : List Int) (i : Nat) (h : i < l.length) : rd l (i : Int) = l[i] := by
  unfold rd; simp [List.getD, h]

theorem e_szIntS (l : List Int) (a : Int) (hl : l.length ≤ maxLen) (h0 : 0 ≤ a) (h1 : a ≤ 1048576) : laws_szIntS.f l a = some (if a - l.length < 0 then -1 else a - l.length) := by
  unfold laws_szIntS.f
  have : l.length ≤ 9223372036854775807 := hl
  rw [w64 (by omega) (by omega)]
  by_cases h : a - (l.length : Int) < 0
  · rw [if_pos h, if_pos h]
  · rw [if_neg h, if_neg h]

theorem e_szBoard (r c : Int) (l : List Int) (a : Int) (hl : l.length ≤ maxLen) (h0 : 0 ≤ a) (h1 : a ≤ 1048576) : laws_szBoard.f r c l a = some (if a - l.length < 0 then -1 else a - l.length) := by
  unfold laws_szBoard.f
  rw [e_szIntS l a hl h0 h1]
  simp only [Option.bind_some]
  by_cases h : a - (l.length : Int) < 0
  · rw [if_pos h]; rfl
  · rw [if_neg h, if_neg h]

theorem e_toIntS_l0 (l : List Int) (hl : l.length ≤ 2000000) : ∀ (d i k : Nat) (m : List Int), i + d = l.length → d < k → m.length = l.length → m.take i = l.take i →
    laws_toIntS.l0 k l m (i : Int) = some l := by
  intro d
  induction d with
  | zero =>
    intro i k m hi' hk hm ht
    obtain ⟨k, rfl⟩ : ∃ m, k = m + 1 := ⟨k - 1, by omega⟩
    simp only [laws_toIntS.l0]; rw [if_neg (by omega)]
    rw [List.take_of_length_le (by omega), List.take_of_length_le (by omega)] at ht; rw [ht]
  | succ d ih =>
    intro i k m hi' hk hm ht
    obtain ⟨k, rfl⟩ : ∃ m, k = m + 1 := ⟨k - 1, by omega⟩
    have hlt : i < l.length := by omega
    simp only [laws_toIntS.l0]
    rw [if_pos (by omega), if_pos (by omega), if_pos (by omega), rd_nat l i hlt, w64 (by omega) (by omega), show ((i : Int) + 1) = ((i + 1 : Nat) : Int) from by omega]
    refine ih (i + 1) k _ (by omega) (by omega) (by simpa using hm) ?_
    rw [Int.toNat_natCast, List.take_succ_eq_append_getElem (by simpa using (by omega : i < m.length)), List.take_succ_eq_append_getElem hlt]
    simp [List.take_set_of_le, ht]
theorem e_toIntS (k : Nat) (l : List Int) (hl : l.length ≤ 2000000) (hk : l.length < k) : laws_toIntS.f k l = some l := by
  unfold laws_toIntS.f
  rw [if_pos (by omega), if_pos (by omega)]
  exact e_toIntS_l0 l hl l.length 0 k _ (by omega) hk (by simp) (by simp)

theorem e_toBoard (k : Nat) (r c : Int) (l : List Int) (hl : l.length ≤ 2000000) (hk : l.length < k) : laws_toBoard.f k r c l = some (r, c, l) := by
  unfold laws_toBoard.f; rw [e_toIntS k l hl hk]; rfl

theorem e_eqIntS_l0 (a b : List Int) (hl : a.length ≤ 2000000) (hab : a.length = b.length) : ∀ (d i k : Nat), i + d = a.length → d < k →
    laws_eqIntS.l0 k a b (i : Int) = some (decide (a.drop i = b.drop i)) := by
  intro d
  induction d with
  | zero =>
    intro i k hi' hk
    obtain ⟨k, rfl⟩ : ∃ m, k = m + 1 := ⟨k - 1, by omega⟩
    simp only [laws_eqIntS.l0]; rw [if_neg (by omega), List.drop_eq_nil_of_le (by omega), List.drop_eq_nil_of_le (by omega)]; simp
  | succ d ih =>
    intro i k hi' hk
    obtain ⟨k, rfl⟩ : ∃ m, k = m + 1 := ⟨k - 1, by omega⟩
    have hlt : i < a.length := by omega
    have hlt2 : i < b.length := by omega
    simp only [laws_eqIntS.l0]
    rw [if_pos (by omega), if_pos (by omega), if_pos (by omega), rd_nat a i hlt, rd_nat b i hlt2, List.drop_eq_getElem_cons hlt, List.drop_eq_getElem_cons hlt2, w64 (by omega) (by omega), show ((i : Int) + 1) = ((i + 1 : Nat) : Int) from by omega, ih (i + 1) k (by omega) (by omega)]
    by_cases h : a[i] = b[i]
    · rw [if_pos h]; simp only [List.cons.injEq, h, true_and]
    · rw [if_neg h]; simp only [List.cons.injEq, h, false_and, decide_false]
theorem e_eqIntS (k : Nat) (a b : List Int) (hl : a.length ≤ 2000000) (hk : a.length < k) : laws_eqIntS.f k a b = some (decide (a = b)) := by
  unfold laws_eqIntS.f
  by_cases h : (a.length : Int) = (b.length : Int)
  · rw [if_pos h]; exact e_eqIntS_l0 a b hl (by omega) a.length 0 k (by omega) hk
  · rw [if_neg h]; simp; intro hc; rw [hc] at h; exact h rfl
theorem e_eqIntS_self (k : Nat) (a : List Int) (hl : a.length ≤ 2000000) (hk : a.length < k) : laws_eqIntS.f k a a = some true := by
  rw [e_eqIntS k a a hl hk]; simp

theorem e_eqBoard (k : Nat) (r c : Int) (l : List Int) (r' c' : Int) (l' : List Int) (hl : l.length ≤ 2000000) (hk : l.length < k) : laws_eqBoard.f k r c l r' c' l' = some (decide (r = r' ∧ c = c' ∧ l = l')) := by
  unfold laws_eqBoard.f
  by_cases h1 : r = r'
  · by_cases h2 : c = c'
    · rw [if_pos h1, if_pos h2, e_eqIntS k l l' hl hk]
      by_cases h3 : l = l' <;> simp [h1, h2, h3]
    · rw [if_pos h1, if_neg h2]; simp [h2]
  · rw [if_neg h1]; simp [h1]
theorem e_eqBoard_self (k : Nat) (r c : Int) (l : List Int) (hl : l.length ≤ 2000000) (hk : l.length < k) : laws_eqBoard.f k r c l r c l = some true := by
  rw [e_eqBoard k r c l r c l hl hk]; simp

theorem e_l1In (a b c : Int) : spec_l1In.f a b c = some (decide (b ≤ a ∧ a ≤ c)) := by
  unfold spec_l1In.f
  by_cases h : b ≤ a
  · rw [if_pos h]; simp [h]
  · rw [if_neg h]; simp [h]

theorem e_l1All_l0 (lo hi : Int) (l : List Int) (hl : l.length ≤ 2000000) : ∀ (d i k : Nat), i + d = l.length → d < k →
    spec_l1All.l0 k lo hi l (l.length : Int) (i : Int) = some (decide (∀ x ∈ l.drop i, lo ≤ x ∧ x ≤ hi)) := by
  intro d
  induction d with
  | zero =>
    intro i k hi' hk
    obtain ⟨k, rfl⟩ : ∃ m, k = m + 1 := ⟨k - 1, by omega⟩
    simp only [spec_l1All.l0]; rw [if_neg (by omega), List.drop_eq_nil_of_le (by omega)]; simp
  | succ d ih =>
    intro i k hi' hk
    obtain ⟨k, rfl⟩ : ∃ m, k = m + 1 := ⟨k - 1, by omega⟩
    have hlt : i < l.length := by omega
    simp only [spec_l1All.l0]
    rw [if_pos (by omega), if_pos (by omega), if_pos (by omega), e_l1In, rd_nat l i hlt, List.drop_eq_getElem_cons hlt, w64 (by omega) (by omega)]
    simp only [Option.bind_some, decide_eq_true_eq, List.forall_mem_cons]
    by_cases h : lo ≤ l[i] ∧ l[i] ≤ hi
    · rw [if_pos h]
      have := ih (i + 1) k (by omega) (by omega)
      rw [show ((i : Int) + 1) = ((i + 1 : Nat) : Int) from by omega, this]; simp [h]
    · rw [if_neg h]; simp [h]
theorem e_l1All (k : Nat) (l : List Int) (lo hi : Int) (hl : l.length ≤ 2000000) (hk : l.length < k) : spec_l1All.f k l lo hi = some (decide (∀ x ∈ l, lo ≤ x ∧ x ≤ hi)) := by
  unfold spec_l1All.f; exact e_l1All_l0 lo hi l hl l.length 0 k (by omega) hk

theorem e_boSide (a : Int) : spec_boSide.f a = some (decide (1 ≤ a ∧ a ≤ 6)) := by
  unfold spec_boSide.f; rw [e_l1In]; rfl

/-- Is there a cell in the column c of a row m? -/
def cell (m c : Int) : Bool := decide (m / 2 ^ c.toNat % 2 = 1)
theorem fin_of (m : Int) (n : Nat) (h0 : 0 ≤ m) (h1 : m < n) : ∃ i : Fin n, m = (i.val : Int) := ⟨⟨m.toNat, by omega⟩, by simp; omega⟩
theorem cell_spec (m c : Int) (hm : 0 ≤ m ∧ m ≤ 63) (hc : 0 ≤ c ∧ c ≤ 6) : (Int.tmod (shr .i64 m c) 2 == 1) = cell m c := by
  have h : ∀ m : Fin 64, ∀ c : Fin 7, (Int.tmod (shr .i64 (m.val : Int) (c.val : Int)) 2 == 1) = cell (m.val : Int) (c.val : Int) := by decide +kernel
  obtain ⟨i, rfl⟩ := fin_of m 64 hm.1 (by omega)
  obtain ⟨j, rfl⟩ := fin_of c 7 hc.1 (by omega)
  exact h i j
theorem cell_impl (m c : Int) (hm : 0 ≤ m ∧ m ≤ 63) (hc : 0 ≤ c ∧ c ≤ 6) : (Go.bits .and .i64 (shr .i64 m c) 1 == 1) = cell m c := by
  have h : ∀ m : Fin 64, ∀ c : Fin 7, (Go.bits .and .i64 (shr .i64 (m.val : Int) (c.val : Int)) 1 == 1) = cell (m.val : Int) (c.val : Int) := by decide +kernel
  obtain ⟨i, rfl⟩ := fin_of m 64 hm.1 (by omega)
  obtain ⟨j, rfl⟩ := fin_of c 7 hc.1 (by omega)
  exact h i j
theorem pow_le (a : Int) (h : 1 ≤ a ∧ a ≤ 6) : 2 ≤ (2 : Int) ^ a.toNat ∧ (2 : Int) ^ a.toNat ≤ 64 := by
  obtain ⟨h0, h1⟩ := h
  obtain h | h | h | h | h | h : a = 1 ∨ a = 2 ∨ a = 3 ∨ a = 4 ∨ a = 5 ∨ a = 6 := by omega
  all_goals (subst h; decide +kernel)
theorem rd_mem (l : List Int) (i : Int) (h0 : 0 ≤ i) (h1 : i < l.length) : rd l i ∈ l := by
  obtain ⟨n, rfl⟩ := Int.eq_ofNat_of_zero_le h0
  rw [rd_nat l n (by omega)]; exact List.getElem_mem _

theorem i_IsBoard (r c : Int) (l : List Int) : impl_IsBoard.f r c l = some (decide (GoodB r c l)) := rfl

theorem goodB_le {r c : Int} {l : List Int} (h : GoodB r c l) : ∀ x ∈ l, 0 ≤ x ∧ x ≤ 63 := by
  intro x hx
  have := h.2.2.2 x hx
  have := pow_le c h.2.1
  omega
theorem goodB_len {r c : Int} {l : List Int} (h : GoodB r c l) : l.length ≤ 6 := by
  have := h.1; have := h.2.2.1; omega
/-- Is it a place of a board? -/
def Place (r c i j : Int) : Prop := (0 ≤ i ∧ i ≤ r - 1) ∧ (0 ≤ j ∧ j ≤ c - 1)
instance (r c i j : Int) : Decidable (Place r c i j) := by unfold Place; exact inferInstance

theorem sh1 (a : Int) (h : 1 ≤ a ∧ a ≤ 6) : wrap64 (shl .i64 1 a - 1) = 2 ^ a.toNat - 1 := by
  obtain ⟨h0, h1⟩ := h
  obtain h | h | h | h | h | h : a = 1 ∨ a = 2 ∨ a = 3 ∨ a = 4 ∨ a = 5 ∨ a = 6 := by omega
  all_goals (subst h; decide +kernel)
theorem e_boGood (k : Nat) (r c : Int) (l : List Int) (hl : l.length ≤ 2000000) (hk : l.length < k) : spec_boGood.f k r c l = some (decide (GoodB r c l)) := by
  unfold spec_boGood.f
  rw [e_boSide, e_boSide]
  simp only [Option.bind_some, decide_eq_true_eq]
  by_cases h0 : 1 ≤ r ∧ r ≤ 6
  · by_cases h1 : 1 ≤ c ∧ c ≤ 6
    · by_cases h2 : (l.length : Int) = r
      · rw [if_pos h0, if_pos h1, if_pos h2, if_pos (by omega), sh1 c h1, e_l1All k l _ _ hl hk]
        simp [GoodB, h0, h1, h2]
      · rw [if_pos h0, if_pos h1, if_neg h2]; simp [GoodB, h2]
    · rw [if_pos h0, if_neg h1]; simp [GoodB, h1]
  · rw [if_neg h0]; simp [GoodB, h0]

/-- The byte of a cell. -/
def dig (m : Int) (j : Nat) : Int := if cell m (j : Int) = true then 49 else 48
/-- A row's text, from a column on. -/
def rowT (m : Int) : Nat → Nat → List Int
  | _, 0 => []
  | j, d + 1 => dig m j :: rowT m (j + 1) d
def rowB (m : Int) (C : Nat) : ByteArray := strOfNums (rowT m 0 C)
theorem son_app (a b : List Int) : strOfNums (a ++ b) = strOfNums a ++ strOfNums b := by
  apply ByteArray.ext; apply Array.toList_inj.1
  rw [ByteArray.data_append, Array.toList_append]
  simp [strOfNums]
theorem son_nil : strOfNums [] = (⟨#[]⟩ : ByteArray) := rfl
theorem ba_nil (b : ByteArray) : b ++ (⟨#[]⟩ : ByteArray) = b := ByteArray.append_empty
theorem ba_nil' (b : ByteArray) : (⟨#[]⟩ : ByteArray) ++ b = b := ByteArray.empty_append
theorem rowT_len (m : Int) : ∀ d j, (rowT m j d).length = d
  | 0, _ => rfl
  | d + 1, j => by simp [rowT, rowT_len m d]
theorem dig_spec (m : Int) (hm : 0 ≤ m ∧ m ≤ 63) (j : Nat) (hj : j ≤ 6) (k : Nat) : spec_l1Num.f (k + 1) (Int.tmod (shr .i64 m (j : Int)) 2) = some (strOfNums [dig m j]) := by
  have h : ∀ m : Fin 64, ∀ j : Fin 7, Int.tmod (shr .i64 (m.val : Int) (j.val : Int)) 2 = if cell (m.val : Int) (j.val : Int) = true then 1 else 0 := by decide +kernel
  obtain ⟨i, rfl⟩ := fin_of m 64 hm.1 (by omega)
  have := h i ⟨j, by omega⟩
  simp only at this
  rw [this, spec_l1Num.f]
  unfold dig
  by_cases h : cell (i.val : Int) (j : Int) = true
  · rw [if_pos h, if_pos h, if_pos (by decide), w64 (by omega) (by omega)]; rfl
  · rw [if_neg h, if_neg h, if_pos (by decide), w64 (by omega) (by omega)]; rfl
theorem boText_l1 (r c : Int) (l : List Int) (g : GoodB r c l) (i : Nat) (hi : i < l.length) : ∀ (d j k : Nat) (out : ByteArray), (j : Int) + d = c → out.size + d ≤ 1000 →
    spec_boText.l1 (k + d + 2) out (i : Int) (j : Int) r c l = spec_boText.l0 (k + 1) (out ++ strOfNums (rowT l[i] j d)) ((i + 1 : Nat) : Int) r c l := by
  have hr := g.2.2.1; have hc := g.2.1; have hn := goodB_len g
  intro d
  induction d with
  | zero =>
    intro j k out hj ho
    rw [show k + 0 + 2 = (k + 1) + 1 by omega]
    simp only [spec_boText.l1]
    rw [if_neg (by omega), w64 (by omega) (by omega), rowT, son_nil, ba_nil]; rfl
  | succ d ih =>
    intro j k out hj ho
    obtain ⟨K, hK⟩ : ∃ K, K = k + d + 2 := ⟨_, rfl⟩
    have h63 := goodB_le g _ (List.getElem_mem hi)
    rw [show k + (d + 1) + 2 = K + 1 from by omega]
    simp only [spec_boText.l1]
    rw [if_pos (show (j : Int) < c by omega), if_pos (show (0 : Int) ≤ (i : Int) by omega), if_pos (show (i : Int) < (l.length : Int) by omega), if_pos (show (0 : Int) ≤ (j : Int) by omega), rd_nat l i hi]
    rw [show K = (K - 1) + 1 by omega, dig_spec l[i] h63 j (by omega) (K - 1), ← show K = (K - 1) + 1 by omega, Option.bind_some, strOfNums_size, if_pos (by simp; omega), w64 (by omega) (by omega), show ((j : Int) + 1) = ((j + 1 : Nat) : Int) from by omega, hK, ih (j + 1) k _ (by omega) (by rw [ByteArray.size_append, strOfNums_size]; simp; omega), rowT, show dig l[i] j :: rowT l[i] (j + 1) d = [dig l[i] j] ++ rowT l[i] (j + 1) d from rfl, son_app, ByteArray.append_assoc]
def boxT (C : Nat) (out : ByteArray) : List Int → ByteArray
  | [] => out
  | m :: t => boxT C ((out ++ (⟨#[47]⟩ : ByteArray)) ++ rowB m C) t
theorem boText_l0 (r c : Int) (l : List Int) (g : GoodB r c l) (C : Nat) (hC : (C : Int) = c) : ∀ (d i k : Nat) (out : ByteArray), i + d = l.length → 0 < i → out.size + d * 10 ≤ 900 → d * (C + 10) < k →
    spec_boText.l0 k out (i : Int) r c l = some (boxT C out (l.drop i)) := by
  have hr := g.2.2.1; have hc := g.2.1; have hn := goodB_len g
  intro d
  induction d with
  | zero =>
    intro i k out hi _ ho hk
    obtain ⟨k, rfl⟩ : ∃ m, k = m + 1 := ⟨k - 1, by omega⟩
    simp only [spec_boText.l0]; rw [if_neg (by omega), List.drop_eq_nil_of_le (by omega)]; rfl
  | succ d ih =>
    intro i k out hi h0 ho hk
    rw [Nat.succ_mul] at hk
    obtain ⟨k, rfl⟩ : ∃ m, k = (m + C + 2) + 2 := ⟨k - C - 4, by omega⟩
    have hlt : i < l.length := by omega
    simp only [spec_boText.l0]
    rw [if_pos (by omega), if_pos (by omega), if_pos (by omega)]
    simp only [spec_boText.j1]
    have hs : (out ++ (⟨#[47]⟩ : ByteArray)).size = out.size + 1 := by rw [ByteArray.size_append]; rfl
    have := boText_l1 r c l g i hlt C 0 k (out ++ (⟨#[47]⟩ : ByteArray)) (by omega) (by omega)
    rw [show ((0 : Nat) : Int) = 0 from rfl] at this
    rw [this, ih (i + 1) (k + 1) _ (by omega) (by omega) (by rw [ByteArray.size_append, strOfNums_size, rowT_len]; omega) (by omega), List.drop_eq_getElem_cons hlt]
    rfl
def boardT (C : Nat) (l : List Int) : ByteArray := match l with | [] => ⟨#[]⟩ | m :: t => boxT C (rowB m C) t
theorem e_boText (k : Nat) (r c : Int) (l : List Int) (g : GoodB r c l) (hk : 200 ≤ k) : spec_boText.f k r c l = some (boardT c.toNat l) := by
  have hr := g.2.2.1; have hc := g.2.1; have hn := goodB_len g; have h1 := g.1
  unfold spec_boText.f
  obtain ⟨C, rfl⟩ := Int.eq_ofNat_of_zero_le (show 0 ≤ c by omega)
  obtain ⟨k, rfl⟩ : ∃ m, k = (m + C + 2) + 2 := ⟨k - C - 4, by omega⟩
  have hlt : 0 < l.length := by omega
  simp only [spec_boText.l0]
  rw [if_pos (by omega), if_neg (by omega)]
  simp only [spec_boText.j1]
  have := boText_l1 r C l g 0 hlt C 0 k (⟨#[]⟩ : ByteArray) (by omega) (by show 0 + C ≤ 1000; omega)
  rw [show ((0 : Nat) : Int) = 0 from rfl, ba_nil'] at this
  have hmul : (l.length - 1) * (C + 10) ≤ 5 * 16 := Nat.mul_le_mul (by omega) (by omega)
  rw [this, boText_l0 r C l g C rfl (l.length - 1) 1 (k + 1) _ (by omega) (by omega) (by rw [strOfNums_size, rowT_len]; omega) (by omega)]
  cases l with
  | nil => simp at hlt
  | cons m t => rfl
theorem boxT_fold (C : Nat) : ∀ (t : List Int) (out : ByteArray), boxT C out t = (t.map fun m => rowB m C).foldl (fun a y => a ++ (⟨#[47]⟩ : ByteArray) ++ y) out
  | [], _ => rfl
  | m :: t, out => by rw [boxT, boxT_fold C t]; rfl
theorem boxT_size (C : Nat) : ∀ (t : List Int) (out : ByteArray), (boxT C out t).size = out.size + t.length * (C + 1)
  | [], _ => by simp [boxT]
  | m :: t, out => by
    rw [boxT, boxT_size C t, ByteArray.size_append, ByteArray.size_append]
    have h1 : (⟨#[47]⟩ : ByteArray).size = 1 := rfl
    have h2 : (rowB m C).size = C := by unfold rowB; rw [strOfNums_size, rowT_len]
    rw [h1, h2, List.length_cons, Nat.succ_mul]; omega

theorem dig_impl (m : Int) (hm : 0 ≤ m ∧ m ≤ 63) (j : Nat) (hj : j ≤ 6) : (48 + (Go.bits .and .i64 (shr .i64 m (j : Int)) 1)) % 256 = dig m j := by
  have h : ∀ m : Fin 64, ∀ j : Fin 7, (48 + (Go.bits .and .i64 (shr .i64 (m.val : Int) (j.val : Int)) 1)) % 256 = dig (m.val : Int) j.val := by decide +kernel
  obtain ⟨i, rfl⟩ := fin_of m 64 hm.1 (by omega)
  exact h i ⟨j, by omega⟩
theorem iText_l1 (r c : Int) (l : List Int) (g : GoodB r c l) (x9 : Int) (rows : List ByteArray) (hrows : rows.length ≤ 100) (i : Nat) (hi : i < l.length) : ∀ (d j k : Nat) (row : List Int), (j : Int) + d = c → row.length + d ≤ 1000 →
    impl_Board_text.l1 (k + d + 1) rows (i : Int) row x9 (i : Int) c (j : Int) r c l = impl_Board_text.l0 k (rows ++ [strOfNums (row ++ rowT l[i] j d)]) x9 ((i + 1 : Nat) : Int) r c l := by
  have hr := g.2.2.1; have hc := g.2.1; have hn := goodB_len g
  intro d
  induction d with
  | zero =>
    intro j k row hj ho
    simp only [Nat.add_zero, impl_Board_text.l1]
    rw [if_neg (by omega), if_pos (by omega), w64 (by omega) (by omega), rowT, List.append_nil]; rfl
  | succ d ih =>
    intro j k row hj ho
    obtain ⟨K, hK⟩ : ∃ K, K = k + d + 1 := ⟨_, rfl⟩
    have h63 := goodB_le g _ (List.getElem_mem hi)
    rw [show k + (d + 1) + 1 = K + 1 from by omega]
    simp only [impl_Board_text.l1]
    rw [if_pos (show (j : Int) < c by omega), if_pos (show (0 : Int) ≤ (i : Int) by omega), if_pos (show (i : Int) < (l.length : Int) by omega), if_pos (show (0 : Int) ≤ (j : Int) by omega), rd_nat l i hi, dig_impl l[i] h63 j (by omega), if_pos (by omega), w64 (by omega) (by omega), show ((j : Int) + 1) = ((j + 1 : Nat) : Int) from by omega, hK, ih (j + 1) k _ (by omega) (by simp; omega), rowT, List.append_assoc]
    rfl
theorem iText_l0 (r c : Int) (l : List Int) (g : GoodB r c l) (C : Nat) (hC : (C : Int) = c) : ∀ (d i k : Nat) (rows : List ByteArray), i + d = l.length → rows.length = i → d * (C + 3) < k →
    impl_Board_text.l0 k rows r (i : Int) r c l = (strings_Join.f (rows ++ (l.drop i).map fun m => rowB m C) (⟨#[47]⟩ : ByteArray)).bind fun t => some t := by
  have hr := g.2.2.1; have hc := g.2.1; have hn := goodB_len g
  intro d
  induction d with
  | zero =>
    intro i k rows hi ho hk
    obtain ⟨k, rfl⟩ : ∃ m, k = m + 1 := ⟨k - 1, by omega⟩
    simp only [impl_Board_text.l0]; rw [if_neg (by omega), List.drop_eq_nil_of_le (by omega), List.map_nil, List.append_nil]
  | succ d ih =>
    intro i k rows hi ho hk
    rw [Nat.succ_mul] at hk
    obtain ⟨k, rfl⟩ : ∃ m, k = (m + C + 1) + 1 := ⟨k - C - 2, by omega⟩
    have hlt : i < l.length := by omega
    simp only [impl_Board_text.l0]
    rw [if_pos (by omega)]
    have := iText_l1 r c l g r rows (by omega) i hlt C 0 k [] (by omega) (by simp; omega)
    rw [show ((0 : Nat) : Int) = 0 from rfl, List.nil_append] at this
    rw [this, ih (i + 1) k _ (by omega) (by simp; omega) (by omega), List.drop_eq_getElem_cons hlt, List.map_cons, List.append_assoc]
    rfl
theorem i_text (k : Nat) (r c : Int) (l : List Int) (g : GoodB r c l) (hk : 200 ≤ k) : impl_Board_text.f k r c l = some (boardT c.toNat l) := by
  have hr := g.2.2.1; have hc := g.2.1; have hn := goodB_len g; have h1 := g.1
  unfold impl_Board_text.f
  obtain ⟨C, rfl⟩ := Int.eq_ofNat_of_zero_le (show 0 ≤ c by omega)
  have hmul : l.length * (C + 3) ≤ 6 * 9 := Nat.mul_le_mul (by omega) (by omega)
  have := iText_l0 r C l g C rfl l.length 0 k [] (by omega) rfl (by omega)
  rw [show ((0 : Nat) : Int) = 0 from rfl] at this
  rw [this, List.drop_zero, List.nil_append]
  have hj : joinB (⟨#[47]⟩ : ByteArray) (l.map fun m => rowB m C) = boardT C l := by
    cases l with
    | nil => rfl
    | cons m t => rw [List.map_cons, joinB, boardT, boxT_fold]
  have hsz : (boardT C l).size ≤ 1000 := by
    cases l with
    | nil => show 0 ≤ 1000; omega
    | cons m t =>
      rw [boardT, boxT_size]
      have h2 : (rowB m C).size = C := by unfold rowB; rw [strOfNums_size, rowT_len]
      have : t.length * (C + 1) ≤ 5 * 7 := Nat.mul_le_mul (by simp at hn; omega) (by omega)
      omega
  unfold strings_Join.f
  rw [hj, if_pos ⟨by simp; omega, by omega⟩]; rfl

def btOut (r c : Int) (l : List Int) : ByteArray × Bool := if GoodB r c l then (boardT c.toNat l, true) else (⟨#[]⟩, false)
theorem e_BoardText (k : Nat) (r c : Int) (l : List Int) (hl : l.length ≤ 2000000) (hk : l.length < k) (hk2 : 200 ≤ k) : spec_BoardText.f k r c l = some (btOut r c l) := by
  unfold spec_BoardText.f btOut
  rw [e_boGood k r c l hl hk]
  simp only [Option.bind_some, decide_eq_true_eq]
  by_cases g : GoodB r c l
  · rw [if_pos g, if_pos g, e_boText k r c l g hk2]; rfl
  · rw [if_neg g, if_neg g]
theorem i_BoardText (k : Nat) (r c : Int) (l : List Int) (hk2 : 200 ≤ k) : impl_BoardText.f k r c l = some (btOut r c l) := by
  unfold impl_BoardText.f btOut
  rw [i_IsBoard]
  simp only [Option.bind_some, decide_eq_true_eq]
  by_cases g : GoodB r c l
  · rw [if_pos g, if_pos g, i_text k r c l g hk2]; rfl
  · rw [if_neg g, if_neg g]
theorem FnExactBoardText : laws_FnExactBoardText.Pure := by
  intro r c l _ _ hm _
  refine ⟨2000010, ?_⟩
  unfold laws_FnExactBoardText.f
  rw [e_szBoard r c l 1048576 hm (by omega) (by omega)]
  simp only [Option.bind_some]
  by_cases h : (1048576 : Int) - l.length < 0
  · rw [if_pos h]; rfl
  · rw [if_neg h, if_neg h, e_toBoard _ r c l (by omega) (by omega)]
    simp only [Option.bind_some]
    rw [e_BoardText _ r c l (by omega) (by omega) (by omega), i_BoardText _ r c l (by omega)]
    generalize btOut r c l = o
    obtain ⟨o1, o2⟩ := o
    simp only [Option.bind_some, bne_self_eq_false, Bool.false_eq_true, if_false, if_true]
    rw [laws_FnExactBoardText.j0]
    simp only [Bool.false_eq_true, if_false]
    rw [e_toBoard _ r c l (by omega) (by omega)]
    simp only [Option.bind_some]
    rw [e_eqBoard_self _ r c l (by omega) (by omega)]
    rfl

end Go.Proofs.Ytcdikbiikmhmhaa.Pure
