/- ParseBoard: the law's function comes to true at every text. -/
import Derived.Test.YtcdikbiikmhmhaaDoorPFnExactParseBoardx5
namespace Go.Proofs.YtcdikbiikmhmhaaDoor.Pure
open Go.RowKit Go.Proofs.YtcdikbiikmhmhaaDoor.PFnExactParseBoard Go.Proofs.YtcdikbiikmhmhaaDoorW.PrintWords Go.Proofs.YtcdikbiikmhmhaaDoorW.PrintLast
set_option linter.unusedVariables false
set_option linter.unusedSimpArgs false

theorem w64 {x : Int} (h0 : -9223372036854775808 ≤ x) (h1 : x < 9223372036854775808) : wrap64 x = x := by
  unfold wrap64; omega
theorem rd_nat (l : List Int) (i : Nat) (h : i < l.length) : rd l (i : Int) = l[i] := by
  unfold rd; simp [List.getD, h]

theorem e_eqIntS_l0 (a b : List Int) (hl : a.length ≤ 2000000) (hab : a.length = b.length) : ∀ (d i k : Nat), i + d = a.length → d < k →
    laws_eqIntS.l0 k a b (i : Int) = some (decide (a.drop i = b.drop i)) := by
  intro d
  induction d with
  | zero =>
    intro i k hi' hk
    obtain ⟨k, rfl⟩ : ∃ m, k = m + 1 := ⟨k - 1, by omega⟩
    simp only [laws_eqIntS.l0]; rw [if_neg (by omega), List.drop_eq_nil_of_le (by omega), List.drop_eq_nil_of_le (by omega)]; simp
  | succ d ih =>
    intro i k hi' hk
    obtain ⟨k, rfl⟩ : ∃ m, k = m + 1 := ⟨k - 1, by omega⟩
    have hlt : i < a.length := by omega
    have hlt2 : i < b.length := by omega
    simp only [laws_eqIntS.l0]
    rw [if_pos (by omega), if_pos (by omega), if_pos (by omega), rd_nat a i hlt, rd_nat b i hlt2, List.drop_eq_getElem_cons hlt, List.drop_eq_getElem_cons hlt2, w64 (by omega) (by omega), show ((i : Int) + 1) = ((i + 1 : Nat) : Int) from by omega, ih (i + 1) k (by omega) (by omega)]
    by_cases h : a[i] = b[i]
    · rw [if_pos h]; simp only [List.cons.injEq, h, true_and]
    · rw [if_neg h]; simp only [List.cons.injEq, h, false_and, decide_false]
theorem e_eqIntS (k : Nat) (a b : List Int) (hl : a.length ≤ 2000000) (hk : a.length < k) : laws_eqIntS.f k a b = some (decide (a = b)) := by
  unfold laws_eqIntS.f
  by_cases h : (a.length : Int) = (b.length : Int)
  · rw [if_pos h]; exact e_eqIntS_l0 a b hl (by omega) a.length 0 k (by omega) hk
  · rw [if_neg h]; simp; intro hc; rw [hc] at h; exact h rfl
theorem e_eqIntS_self (k : Nat) (a : List Int) (hl : a.length ≤ 2000000) (hk : a.length < k) : laws_eqIntS.f k a a = some true := by
  rw [e_eqIntS k a a hl hk]; simp

theorem e_eqBoard (k : Nat) (r c : Int) (l : List Int) (r' c' : Int) (l' : List Int) (hl : l.length ≤ 2000000) (hk : l.length < k) : laws_eqBoard.f k r c l r' c' l' = some (decide (r = r' ∧ c = c' ∧ l = l')) := by
  unfold laws_eqBoard.f
  by_cases h1 : r = r'
  · by_cases h2 : c = c'
    · rw [if_pos h1, if_pos h2, e_eqIntS k l l' hl hk]
      by_cases h3 : l = l' <;> simp [h1, h2, h3]
    · rw [if_pos h1, if_neg h2]; simp [h2]
  · rw [if_neg h1]; simp [h1]
theorem e_eqBoard_self (k : Nat) (r c : Int) (l : List Int) (hl : l.length ≤ 2000000) (hk : l.length < k) : laws_eqBoard.f k r c l r c l = some true := by
  rw [e_eqBoard k r c l r c l hl hk]; simp

/-- The numbers from a on, n of them. -/
def marks : Int → Nat → List Int
  | _, 0 => []
  | a, n + 1 => a :: marks (a + 1) n
theorem marks_length : ∀ (n : Nat) (a : Int), (marks a n).length = n
  | 0, _ => rfl
  | n + 1, a => by simp [marks, marks_length n]
theorem marks_get : ∀ (n : Nat) (a : Int) (i : Nat) (h : i < (marks a n).length), (marks a n)[i] = a + i
  | 0, _, i, h => by simp [marks] at h
  | n + 1, a, 0, h => by simp [marks]
  | n + 1, a, i + 1, h => by
    simp only [marks, List.getElem_cons_succ]
    rw [marks_get n (a + 1) i]; omega

theorem e_markIntS_l0 (n : Nat) (hn : n ≤ 2000000) : ∀ (d i k : Nat) (l : List Int) (a : Int), l.length = n → i + d = n → d < k → 0 ≤ a → a + d ≤ 1000000000 →
    laws_markIntS.l0 k l a (i : Int) = some (a + d, l.take i ++ marks a d) := by
  intro d
  induction d with
  | zero =>
    intro i k l a hl hi hk h0 h1
    obtain ⟨k, rfl⟩ : ∃ m, k = m + 1 := ⟨k - 1, by omega⟩
    simp only [laws_markIntS.l0]; rw [if_neg (by omega), List.take_of_length_le (by omega)]; simp [marks]
  | succ d ih =>
    intro i k l a hl hi hk h0 h1
    obtain ⟨k, rfl⟩ : ∃ m, k = m + 1 := ⟨k - 1, by omega⟩
    have hlt : i < l.length := by omega
    simp only [laws_markIntS.l0]
    rw [if_pos (by omega), if_pos (by omega), w64 (by omega) (by omega), w64 (by omega) (by omega), show ((i : Int) + 1) = ((i + 1 : Nat) : Int) from by omega]
    rw [ih (i + 1) k _ (a + 1) (by simpa using hl) (by omega) (by omega) (by omega) (by omega)]
    rw [Int.toNat_natCast, List.take_succ_eq_append_getElem (by simpa using hlt)]
    simp only [List.getElem_set_self, List.take_set_of_le (Nat.le_refl i), List.append_assoc, List.singleton_append, marks]
    congr 2; omega
theorem e_markIntS (k : Nat) (l : List Int) (a : Int) (hl : l.length ≤ 2000000) (hk : l.length < k) (h0 : 0 ≤ a) (h1 : a + l.length ≤ 1000000000) : laws_markIntS.f k l a = some (a + l.length, marks a l.length) := by
  unfold laws_markIntS.f
  have := e_markIntS_l0 l.length hl l.length 0 k l a rfl (by omega) hk h0 h1
  simpa using this

theorem e_markBoard (k : Nat) (r c : Int) (l : List Int) (a : Int) (hl : l.length ≤ 2000000) (hk : l.length < k) (h0 : 0 ≤ a) (h1 : a + l.length ≤ 1000000000) : laws_markBoard.f k r c l a = some (a + l.length, marks a l.length) := by
  unfold laws_markBoard.f; rw [e_markIntS k l a hl hk h0 h1]; rfl

theorem e_heldIntS_l0 (b : Int) (n : Nat) (hn : n ≤ 2000000) (hb : 0 ≤ b) (hbn : b + n ≤ 1000000000) : ∀ (d i k : Nat), i + d = n → d < k →
    laws_heldIntS.l0 k (marks b n) (b + i) (i : Int) = some (b + n) := by
  intro d
  induction d with
  | zero =>
    intro i k hi hk
    obtain ⟨k, rfl⟩ : ∃ m, k = m + 1 := ⟨k - 1, by omega⟩
    simp only [laws_heldIntS.l0, marks_length]; rw [if_neg (by omega)]; congr 1; omega
  | succ d ih =>
    intro i k hi hk
    obtain ⟨k, rfl⟩ : ∃ m, k = m + 1 := ⟨k - 1, by omega⟩
    have hlt : i < (marks b n).length := by rw [marks_length]; omega
    simp only [laws_heldIntS.l0]
    rw [rd_nat _ i hlt, marks_get n b i hlt]
    simp only [marks_length]
    rw [if_pos (by omega), if_pos (by omega), if_pos trivial, w64 (by omega) (by omega), w64 (by omega) (by omega), show ((i : Int) + 1) = ((i + 1 : Nat) : Int) from by omega, show b + (i : Int) + 1 = b + ((i + 1 : Nat) : Int) from by omega]
    exact ih (i + 1) k (by omega) (by omega)
theorem e_heldIntS (k : Nat) (n : Nat) (b : Int) (hn : n ≤ 2000000) (hk : n < k) (hb : 0 ≤ b) (hbn : b + n ≤ 1000000000) : laws_heldIntS.f k (marks b n) b = some (b + n) := by
  unfold laws_heldIntS.f
  have := e_heldIntS_l0 b n hn hb hbn n 0 k (by omega) hk
  simpa using this

theorem e_heldBoard (k : Nat) (r c : Int) (n : Nat) (b : Int) (hn : n ≤ 2000000) (hk : n < k) (hb : 0 ≤ b) (hbn : b + n ≤ 1000000000) : laws_heldBoard.f k r c (marks b n) b = some (b + n) := by
  unfold laws_heldBoard.f; rw [e_heldIntS k n b hn hk hb hbn]; simp only [Option.bind_some]; rw [if_neg (by omega)]

/-- Is there a cell in the column c of a row m? -/
def cell (m c : Int) : Bool := decide (m / 2 ^ c.toNat % 2 = 1)
theorem fin_of (m : Int) (n : Nat) (h0 : 0 ≤ m) (h1 : m < n) : ∃ i : Fin n, m = (i.val : Int) := ⟨⟨m.toNat, by omega⟩, by simp; omega⟩
theorem cell_spec (m c : Int) (hm : 0 ≤ m ∧ m ≤ 63) (hc : 0 ≤ c ∧ c ≤ 6) : (Int.tmod (shr .i64 m c) 2 == 1) = cell m c := by
  have h : ∀ m : Fin 64, ∀ c : Fin 7, (Int.tmod (shr .i64 (m.val : Int) (c.val : Int)) 2 == 1) = cell (m.val : Int) (c.val : Int) := by decide +kernel
  obtain ⟨i, rfl⟩ := fin_of m 64 hm.1 (by omega)
  obtain ⟨j, rfl⟩ := fin_of c 7 hc.1 (by omega)
  exact h i j
theorem cell_impl (m c : Int) (hm : 0 ≤ m ∧ m ≤ 63) (hc : 0 ≤ c ∧ c ≤ 6) : (Go.bits .and .i64 (shr .i64 m c) 1 == 1) = cell m c := by
  have h : ∀ m : Fin 64, ∀ c : Fin 7, (Go.bits .and .i64 (shr .i64 (m.val : Int) (c.val : Int)) 1 == 1) = cell (m.val : Int) (c.val : Int) := by decide +kernel
  obtain ⟨i, rfl⟩ := fin_of m 64 hm.1 (by omega)
  obtain ⟨j, rfl⟩ := fin_of c 7 hc.1 (by omega)
  exact h i j
theorem pow_le (a : Int) (h : 1 ≤ a ∧ a ≤ 6) : 2 ≤ (2 : Int) ^ a.toNat ∧ (2 : Int) ^ a.toNat ≤ 64 := by
  obtain ⟨h0, h1⟩ := h
  obtain h | h | h | h | h | h : a = 1 ∨ a = 2 ∨ a = 3 ∨ a = 4 ∨ a = 5 ∨ a = 6 := by omega
  all_goals (subst h; decide +kernel)
theorem rd_mem (l : List Int) (i : Int) (h0 : 0 ≤ i) (h1 : i < l.length) : rd l i ∈ l := by
  obtain ⟨n, rfl⟩ := Int.eq_ofNat_of_zero_le h0
  rw [rd_nat l n (by omega)]; exact List.getElem_mem _

def GoodB (a0 a1 : Int) (l : List Int) : Prop := (1 ≤ a0 ∧ a0 ≤ 6) ∧ (1 ≤ a1 ∧ a1 ≤ 6) ∧ (l.length : Int) = a0 ∧ ∀ x ∈ l, 0 ≤ x ∧ x ≤ 2 ^ a1.toNat - 1
instance (a0 a1 : Int) (l : List Int) : Decidable (GoodB a0 a1 l) := by unfold GoodB; exact inferInstance

theorem goodB_le {r c : Int} {l : List Int} (h : GoodB r c l) : ∀ x ∈ l, 0 ≤ x ∧ x ≤ 63 := by
  intro x hx
  have := h.2.2.2 x hx
  have := pow_le c h.2.1
  omega
theorem goodB_len {r c : Int} {l : List Int} (h : GoodB r c l) : l.length ≤ 6 := by
  have := h.1; have := h.2.2.1; omega
/-- Is it a place of a board? -/
def Place (r c i j : Int) : Prop := (0 ≤ i ∧ i ≤ r - 1) ∧ (0 ≤ j ∧ j ≤ c - 1)
instance (r c i j : Int) : Decidable (Place r c i j) := by unfold Place; exact inferInstance

/-- The byte of a cell. -/
def dig (m : Int) (j : Nat) : Int := if cell m (j : Int) = true then 49 else 48
/-- A row's text, from a column on. -/
def rowT (m : Int) : Nat → Nat → List Int
  | _, 0 => []
  | j, d + 1 => dig m j :: rowT m (j + 1) d
def rowB (m : Int) (C : Nat) : ByteArray := strOfNums (rowT m 0 C)
theorem son_app (a b : List Int) : strOfNums (a ++ b) = strOfNums a ++ strOfNums b := by
  apply ByteArray.ext; apply Array.toList_inj.1
  rw [ByteArray.data_append, Array.toList_append]
  simp [strOfNums]
theorem son_nil : strOfNums [] = (⟨#[]⟩ : ByteArray) := rfl
theorem ba_nil (b : ByteArray) : b ++ (⟨#[]⟩ : ByteArray) = b := ByteArray.append_empty
theorem ba_nil' (b : ByteArray) : (⟨#[]⟩ : ByteArray) ++ b = b := ByteArray.empty_append
theorem rowT_len (m : Int) : ∀ d j, (rowT m j d).length = d
  | 0, _ => rfl
  | d + 1, j => by simp [rowT, rowT_len m d]
theorem dig_spec (m : Int) (hm : 0 ≤ m ∧ m ≤ 63) (j : Nat) (hj : j ≤ 6) (k : Nat) : spec_l1Num.f (k + 1) (Int.tmod (shr .i64 m (j : Int)) 2) = some (strOfNums [dig m j]) := by
  have h : ∀ m : Fin 64, ∀ j : Fin 7, Int.tmod (shr .i64 (m.val : Int) (j.val : Int)) 2 = if cell (m.val : Int) (j.val : Int) = true then 1 else 0 := by decide +kernel
  obtain ⟨i, rfl⟩ := fin_of m 64 hm.1 (by omega)
  have := h i ⟨j, by omega⟩
  simp only at this
  rw [this, spec_l1Num.f]
  unfold dig
  by_cases h : cell (i.val : Int) (j : Int) = true
  · rw [if_pos h, if_pos h, if_pos (by decide), w64 (by omega) (by omega)]; rfl
  · rw [if_neg h, if_neg h, if_pos (by decide), w64 (by omega) (by omega)]; rfl
theorem boText_l1 (r c : Int) (l : List Int) (g : GoodB r c l) (i : Nat) (hi : i < l.length) : ∀ (d j k : Nat) (out : ByteArray), (j : Int) + d = c → out.size + d ≤ 1000 →
    spec_boText.l1 (k + d + 2) out (i : Int) (j : Int) r c l = spec_boText.l0 (k + 1) (out ++ strOfNums (rowT l[i] j d)) ((i + 1 : Nat) : Int) r c l := by
  have hr := g.2.2.1; have hc := g.2.1; have hn := goodB_len g
  intro d
  induction d with
  | zero =>
    intro j k out hj ho
    rw [show k + 0 + 2 = (k + 1) + 1 by omega]
    simp only [spec_boText.l1]
    rw [if_neg (by omega), w64 (by omega) (by omega), rowT, son_nil, ba_nil]; rfl
  | succ d ih =>
    intro j k out hj ho
    obtain ⟨K, hK⟩ : ∃ K, K = k + d + 2 := ⟨_, rfl⟩
    have h63 := goodB_le g _ (List.getElem_mem hi)
    rw [show k + (d + 1) + 2 = K + 1 from by omega]
    simp only [spec_boText.l1]
    rw [if_pos (show (j : Int) < c by omega), if_pos (show (0 : Int) ≤ (i : Int) by omega), if_pos (show (i : Int) < (l.length : Int) by omega), if_pos (show (0 : Int) ≤ (j : Int) by omega), rd_nat l i hi]
    rw [show K = (K - 1) + 1 by omega, dig_spec l[i] h63 j (by omega) (K - 1), ← show K = (K - 1) + 1 by omega, Option.bind_some, strOfNums_size, if_pos (by simp; omega), w64 (by omega) (by omega), show ((j : Int) + 1) = ((j + 1 : Nat) : Int) from by omega, hK, ih (j + 1) k _ (by omega) (by rw [ByteArray.size_append, strOfNums_size]; simp; omega), rowT, show dig l[i] j :: rowT l[i] (j + 1) d = [dig l[i] j] ++ rowT l[i] (j + 1) d from rfl, son_app, ByteArray.append_assoc]
def boxT (C : Nat) (out : ByteArray) : List Int → ByteArray
  | [] => out
  | m :: t => boxT C ((out ++ (⟨#[47]⟩ : ByteArray)) ++ rowB m C) t
theorem boText_l0 (r c : Int) (l : List Int) (g : GoodB r c l) (C : Nat) (hC : (C : Int) = c) : ∀ (d i k : Nat) (out : ByteArray), i + d = l.length → 0 < i → out.size + d * 10 ≤ 900 → d * (C + 10) < k →
    spec_boText.l0 k out (i : Int) r c l = some (boxT C out (l.drop i)) := by
  have hr := g.2.2.1; have hc := g.2.1; have hn := goodB_len g
  intro d
  induction d with
  | zero =>
    intro i k out hi _ ho hk
    obtain ⟨k, rfl⟩ : ∃ m, k = m + 1 := ⟨k - 1, by omega⟩
    simp only [spec_boText.l0]; rw [if_neg (by omega), List.drop_eq_nil_of_le (by omega)]; rfl
  | succ d ih =>
    intro i k out hi h0 ho hk
    rw [Nat.succ_mul] at hk
    obtain ⟨k, rfl⟩ : ∃ m, k = (m + C + 2) + 2 := ⟨k - C - 4, by omega⟩
    have hlt : i < l.length := by omega
    simp only [spec_boText.l0]
    rw [if_pos (by omega), if_pos (by omega), if_pos (by omega)]
    simp only [spec_boText.j1]
    have hs : (out ++ (⟨#[47]⟩ : ByteArray)).size = out.size + 1 := by rw [ByteArray.size_append]; rfl
    have := boText_l1 r c l g i hlt C 0 k (out ++ (⟨#[47]⟩ : ByteArray)) (by omega) (by omega)
    rw [show ((0 : Nat) : Int) = 0 from rfl] at this
    rw [this, ih (i + 1) (k + 1) _ (by omega) (by omega) (by rw [ByteArray.size_append, strOfNums_size, rowT_len]; omega) (by omega), List.drop_eq_getElem_cons hlt]
    rfl
def boardT (C : Nat) (l : List Int) : ByteArray := match l with | [] => ⟨#[]⟩ | m :: t => boxT C (rowB m C) t
theorem e_boText (k : Nat) (r c : Int) (l : List Int) (g : GoodB r c l) (hk : 200 ≤ k) : spec_boText.f k r c l = some (boardT c.toNat l) := by
  have hr := g.2.2.1; have hc := g.2.1; have hn := goodB_len g; have h1 := g.1
  unfold spec_boText.f
  obtain ⟨C, rfl⟩ := Int.eq_ofNat_of_zero_le (show 0 ≤ c by omega)
  obtain ⟨k, rfl⟩ : ∃ m, k = (m + C + 2) + 2 := ⟨k - C - 4, by omega⟩
  have hlt : 0 < l.length := by omega
  simp only [spec_boText.l0]
  rw [if_pos (by omega), if_neg (by omega)]
  simp only [spec_boText.j1]
  have := boText_l1 r C l g 0 hlt C 0 k (⟨#[]⟩ : ByteArray) (by omega) (by show 0 + C ≤ 1000; omega)
  rw [show ((0 : Nat) : Int) = 0 from rfl, ba_nil'] at this
  have hmul : (l.length - 1) * (C + 10) ≤ 5 * 16 := Nat.mul_le_mul (by omega) (by omega)
  rw [this, boText_l0 r C l g C rfl (l.length - 1) 1 (k + 1) _ (by omega) (by omega) (by rw [strOfNums_size, rowT_len]; omega) (by omega)]
  cases l with
  | nil => simp at hlt
  | cons m t => rfl
theorem boxT_fold (C : Nat) : ∀ (t : List Int) (out : ByteArray), boxT C out t = (t.map fun m => rowB m C).foldl (fun a y => a ++ (⟨#[47]⟩ : ByteArray) ++ y) out
  | [], _ => rfl
  | m :: t, out => by rw [boxT, boxT_fold C t]; rfl
theorem boxT_size (C : Nat) : ∀ (t : List Int) (out : ByteArray), (boxT C out t).size = out.size + t.length * (C + 1)
  | [], _ => by simp [boxT]
  | m :: t, out => by
    rw [boxT, boxT_size C t, ByteArray.size_append, ByteArray.size_append]
    have h1 : (⟨#[47]⟩ : ByteArray).size = 1 := rfl
    have h2 : (rowB m C).size = C := by unfold rowB; rw [strOfNums_size, rowT_len]
    rw [h1, h2, List.length_cons, Nat.succ_mul]; omega

theorem i_newBoard (r c : Int) (h : 0 ≤ r ∧ r ≤ 6) : impl_newBoard.f r c = some (r, c, List.replicate r.toNat 0) := by
  unfold impl_newBoard.f; rw [if_pos (by omega), if_pos (by omega)]

theorem e_within (a b c : Int) : impl_within.f a b c = some (decide (b ≤ a ∧ a ≤ c)) := by
  unfold impl_within.f
  by_cases h : b ≤ a
  · rw [if_pos h]; simp [h]
  · rw [if_neg h]; simp [h]

theorem e_isSide (a : Int) : impl_isSide.f a = some (decide (1 ≤ a ∧ a ≤ 6)) := by
  unfold impl_isSide.f; rw [e_within]; rfl

theorem e_l1In (a b c : Int) : spec_l1In.f a b c = some (decide (b ≤ a ∧ a ≤ c)) := by
  unfold spec_l1In.f
  by_cases h : b ≤ a
  · rw [if_pos h]; simp [h]
  · rw [if_neg h]; simp [h]

theorem e_boSide (a : Int) : spec_boSide.f a = some (decide (1 ≤ a ∧ a ≤ 6)) := by
  unfold spec_boSide.f; rw [e_l1In]; rfl

theorem e_l1All_l0 (lo hi : Int) (l : List Int) (hl : l.length ≤ 2000000) : ∀ (d i k : Nat), i + d = l.length → d < k →
    spec_l1All.l0 k lo hi l (l.length : Int) (i : Int) = some (decide (∀ x ∈ l.drop i, lo ≤ x ∧ x ≤ hi)) := by
  intro d
  induction d with
  | zero =>
    intro i k hi' hk
    obtain ⟨k, rfl⟩ : ∃ m, k = m + 1 := ⟨k - 1, by omega⟩
    simp only [spec_l1All.l0]; rw [if_neg (by omega), List.drop_eq_nil_of_le (by omega)]; simp
  | succ d ih =>
    intro i k hi' hk
    obtain ⟨k, rfl⟩ : ∃ m, k = m + 1 := ⟨k - 1, by omega⟩
    have hlt : i < l.length := by omega
    simp only [spec_l1All.l0]
    rw [if_pos (by omega), if_pos (by omega), if_pos (by omega), e_l1In, rd_nat l i hlt, List.drop_eq_getElem_cons hlt, w64 (by omega) (by omega)]
    simp only [Option.bind_some, decide_eq_true_eq, List.forall_mem_cons]
    by_cases h : lo ≤ l[i] ∧ l[i] ≤ hi
    · rw [if_pos h]
      have := ih (i + 1) k (by omega) (by omega)
      rw [show ((i : Int) + 1) = ((i + 1 : Nat) : Int) from by omega, this]; simp [h]
    · rw [if_neg h]; simp [h]
theorem e_l1All (k : Nat) (l : List Int) (lo hi : Int) (hl : l.length ≤ 2000000) (hk : l.length < k) : spec_l1All.f k l lo hi = some (decide (∀ x ∈ l, lo ≤ x ∧ x ≤ hi)) := by
  unfold spec_l1All.f; exact e_l1All_l0 lo hi l hl l.length 0 k (by omega) hk

theorem sh1 (a : Int) (h : 1 ≤ a ∧ a ≤ 6) : wrap64 (shl .i64 1 a - 1) = 2 ^ a.toNat - 1 := by
  obtain ⟨h0, h1⟩ := h
  obtain h | h | h | h | h | h : a = 1 ∨ a = 2 ∨ a = 3 ∨ a = 4 ∨ a = 5 ∨ a = 6 := by omega
  all_goals (subst h; decide +kernel)
theorem e_boGood (k : Nat) (r c : Int) (l : List Int) (hl : l.length ≤ 2000000) (hk : l.length < k) : spec_boGood.f k r c l = some (decide (GoodB r c l)) := by
  unfold spec_boGood.f
  rw [e_boSide, e_boSide]
  simp only [Option.bind_some, decide_eq_true_eq]
  by_cases h0 : 1 ≤ r ∧ r ≤ 6
  · by_cases h1 : 1 ≤ c ∧ c ≤ 6
    · by_cases h2 : (l.length : Int) = r
      · rw [if_pos h0, if_pos h1, if_pos h2, if_pos (by omega), sh1 c h1, e_l1All k l _ _ hl hk]
        simp [GoodB, h0, h1, h2]
      · rw [if_pos h0, if_pos h1, if_neg h2]; simp [GoodB, h2]
    · rw [if_pos h0, if_neg h1]; simp [GoodB, h1]
  · rw [if_neg h0]; simp [GoodB, h0]

def mkB (l : List UInt8) : ByteArray := ⟨l.toArray⟩
theorem mkB_data (s : ByteArray) : mkB s.data.toList = s := rfl
theorem mkB_toList (l : List UInt8) : (mkB l).data.toList = l := rfl
theorem spl_eq (s : ByteArray) : spl s = (splitL s.data.toList).map mkB := rfl
theorem ba_size (s : ByteArray) : s.size = s.data.toList.length := by simp
theorem bt_get (s : ByteArray) (i : Nat) (h : i < s.data.toList.length) : bt s (i : Int) = ((s.data.toList[i]).toNat : Int) := by
  have h2 : i < s.size := by rw [ba_size]; exact h
  unfold bt
  rw [dif_pos (by simpa using h2)]
  rfl
theorem rdOf_nat (l : List ByteArray) (i : Nat) (h : i < l.length) : rdOf ByteArray.empty l (i : Int) = l[i] := by
  unfold rdOf; simp [List.getD, h]
theorem spl_none : ∀ (L : List UInt8), 47 ∉ L → splitL L = [L]
  | [], _ => rfl
  | b :: t, h => by
    simp only [List.mem_cons, not_or] at h
    rw [splitL, if_neg (fun e => h.1 e.symm), spl_none t h.2]
theorem spl_cut : ∀ (A B : List UInt8), 47 ∉ A → splitL (A ++ 47 :: B) = A :: splitL B
  | [], B, _ => by rw [List.nil_append, splitL, if_pos rfl]
  | b :: A, B, h => by
    simp only [List.mem_cons, not_or] at h
    rw [List.cons_append, splitL, if_neg (fun e => h.1 e.symm), spl_cut A B h.2]
theorem splitL_len : ∀ L : List UInt8, 1 ≤ (splitL L).length ∧ (splitL L).length ≤ L.length + 1
  | [] => by simp [splitL]
  | b :: t => by
    have := splitL_len t
    rw [splitL]
    split
    · simp; omega
    · split
      · simp
      · rename_i h r e; rw [e] at this; simp at this ⊢; omega
theorem splitL_ne (L : List UInt8) : splitL L ≠ [] := by intro h; have := (splitL_len L).1; rw [h] at this; simp at this
theorem splitL_part : ∀ (L : List UInt8), ∀ w ∈ splitL L, w.length ≤ L.length ∧ 47 ∉ w
  | [], w, h => by simp [splitL] at h; subst h; simp
  | b :: t, w, h => by
    rw [splitL] at h
    split at h
    · rcases List.mem_cons.1 h with rfl | h
      · simp
      · have := splitL_part t w h; exact ⟨by simp; omega, this.2⟩
    · rename_i hb
      split at h
      · rename_i e; exact absurd e (splitL_ne t)
      · rename_i hh r e
        rcases List.mem_cons.1 h with rfl | h
        · have := splitL_part t hh (by rw [e]; simp)
          exact ⟨by simp; omega, by simp only [List.mem_cons, not_or]; exact ⟨fun x => hb x.symm, this.2⟩⟩
        · have := splitL_part t w (by rw [e]; simp [h]); exact ⟨by simp; omega, this.2⟩
theorem extr (s : ByteArray) (a b : Nat) : s.extract a b = mkB ((s.data.toList.drop a).take (b - a)) := by
  apply ByteArray.ext; apply Array.toList_inj.1
  rw [ByteArray.data_extract, Array.toList_extract, List.extract_eq_take_drop]; rfl
theorem split_l0 (s : ByteArray) (hs : s.size ≤ 1000) : ∀ (d i a k : Nat) (out : List ByteArray), i + d = s.data.toList.length → a ≤ i → d < k → out.length ≤ i → (∀ j (h : j < s.data.toList.length), a ≤ j → j < i → s.data.toList[j] ≠ 47) →
    spec_l1Split.l0 k s 47 out (a : Int) (i : Int) = some (out ++ (splitL (s.data.toList.drop a)).map mkB) := by
  have hsz := ba_size s
  intro d
  induction d with
  | zero =>
    intro i a k out hi ha hk ho hno
    obtain ⟨k, rfl⟩ : ∃ m, k = m + 1 := ⟨k - 1, by omega⟩
    simp only [spec_l1Split.l0]
    rw [if_neg (by omega), if_pos (by omega), if_pos (by omega), if_pos (by omega), Int.toNat_natCast, extr, spl_none]
    · rw [List.take_of_length_le (by rw [List.length_drop]; omega)]; rfl
    · intro hm
      obtain ⟨j, hj, e⟩ := List.getElem_of_mem hm
      rw [List.length_drop] at hj
      rw [List.getElem_drop] at e
      exact hno (a + j) (by omega) (by omega) (by omega) e
  | succ d ih =>
    intro i a k out hi ha hk ho hno
    obtain ⟨k, rfl⟩ : ∃ m, k = m + 1 := ⟨k - 1, by omega⟩
    have hlt : i < s.data.toList.length := by omega
    simp only [spec_l1Split.l0]
    rw [if_pos (show (i : Int) < (s.size : Int) by omega), if_pos (show (0 : Int) ≤ (i : Int) by omega), bt_get s i hlt, w64 (by omega) (by omega), show ((i : Int) + 1) = ((i + 1 : Nat) : Int) from by omega]
    by_cases e : s.data.toList[i] = 47
    · rw [if_pos (by rw [e]; rfl), if_pos (show (0 : Int) ≤ (a : Int) by omega), if_pos (show (a : Int) ≤ (i : Int) by omega), if_pos (show (i : Int) ≤ (s.size : Int) by omega), if_pos (by omega), Int.toNat_natCast, Int.toNat_natCast, ih (i + 1) (i + 1) k _ (by omega) (by omega) (by omega) (by simp; omega) (fun j _ h1 h2 => by omega), extr]
      have hcut : s.data.toList.drop a = (s.data.toList.drop a).take (i - a) ++ 47 :: s.data.toList.drop (i + 1) := by
        conv => lhs; rw [← List.take_append_drop (i - a) (s.data.toList.drop a)]
        rw [List.drop_drop, show a + (i - a) = i by omega, List.drop_eq_getElem_cons hlt, e]
      conv => rhs; rw [hcut]
      rw [spl_cut]
      · rw [List.map_cons, List.append_assoc]; rfl
      · intro hm
        obtain ⟨j, hj, e2⟩ := List.getElem_of_mem hm
        simp only [List.length_take, List.length_drop] at hj
        rw [List.getElem_take, List.getElem_drop] at e2
        exact hno (a + j) (by omega) (by omega) (by omega) e2
    · rw [if_neg (by intro h; exact e (by
        have := UInt8.toNat_inj (a := s.data.toList[i]) (b := 47)
        exact this.1 (by have h3 : (s.data.toList[i]).toNat = 47 := by omega
                         rw [h3]; rfl))), ih (i + 1) a k out (by omega) (by omega) (by omega) (by omega) (fun j hj h1 h2 => by
        by_cases h3 : j = i
        · subst h3; exact e
        · exact hno j hj h1 (by omega))]
theorem e_l1Split (k : Nat) (s : ByteArray) (hs : s.size ≤ 1000) (hk : s.size < k) : spec_l1Split.f k s 47 = some (spl s) := by
  unfold spec_l1Split.f
  have := split_l0 s hs s.data.toList.length 0 0 k [] (by omega) (by omega) (by rw [← ba_size]; omega) (by simp) (fun j _ _ h => by omega)
  rw [List.drop_zero, List.nil_append] at this
  simpa [spl_eq] using this
/-- What a row's bytes say, from a column on. -/
def evL : List UInt8 → Nat → Int
  | [], _ => 0
  | b :: t, c => (if b = 49 then 2 ^ c else 0) + evL t (c + 1)
def okD (t : List UInt8) : Bool := t.all fun b => b == 48 || b == 49
theorem evL_bd : ∀ (t : List UInt8) (c : Nat), 0 ≤ evL t c ∧ evL t c ≤ 2 ^ (c + t.length) - 2 ^ c
  | [], c => by simp [evL]
  | b :: t, c => by
    have := evL_bd t (c + 1)
    have hp : (2 : Int) ^ (c + 1) = 2 * 2 ^ c := by rw [Int.pow_succ]; omega
    have h0 : (0 : Int) < 2 ^ c := Int.pow_pos (by decide)
    rw [evL, List.length_cons, show c + (t.length + 1) = c + 1 + t.length by omega]
    split <;> omega
theorem shl_pow2 (c : Nat) (h : c ≤ 61) : shl .i64 1 (c : Int) = 2 ^ c := by
  have : ∀ c : Fin 62, shl .i64 1 (c.val : Int) = 2 ^ c.val := by decide +kernel
  exact this ⟨c, by omega⟩
theorem pow_61 (c : Nat) (h : c ≤ 61) : (2 : Int) ^ c ≤ 2305843009213693952 := by
  have : ∀ c : Fin 62, (2 : Int) ^ c.val ≤ 2305843009213693952 := by decide +kernel
  exact this ⟨c, by omega⟩
theorem u8_ne (b : UInt8) (n : Nat) (hn : n < 256) (h : b ≠ UInt8.ofNat n) : ((b.toNat : Int)) ≠ (n : Int) := by
  intro e
  apply h
  have h1 : b.toNat = n := by omega
  rw [← h1]; simp
theorem pars_l1 (s w : ByteArray) (parts : List ByteArray) (n i : Int) (R C : Int) (m : List Int) (hw : w.size ≤ 60) (hm : m.length ≤ 1000) : ∀ (t : List UInt8) (c k : Nat) (v : Int), w.data.toList.drop c = t → c + t.length = w.data.toList.length → 0 ≤ v → v < 2 ^ c →
    spec_boParse.l1 (k + t.length + 1) s w v (c : Int) parts n i R C m = spec_boParse.l0 k s parts n (wrap64 (i + 1)) R (w.size : Int) (m ++ [v + evL t c]) := by
  have hsz := ba_size w
  intro t
  induction t with
  | nil =>
    intro c k v ht hc h0 h1
    simp only [List.length_nil, Nat.add_zero] at hc ⊢
    simp only [spec_boParse.l1]
    rw [if_neg (by omega), if_pos (by omega), evL, Int.add_zero]
  | cons b t ih =>
    intro c k v ht hc h0 h1
    simp only [List.length_cons] at hc ⊢
    have hlt : c < w.data.toList.length := by omega
    have hd := List.drop_eq_getElem_cons hlt
    rw [ht] at hd
    injection hd with e1 e2
    have hp := pow_61 (c + 1) (by omega)
    have hp2 : (2 : Int) ^ (c + 1) = 2 * 2 ^ c := by rw [Int.pow_succ]; omega
    have h2c : (0 : Int) < 2 ^ c := Int.pow_pos (by decide)
    obtain ⟨K, hK⟩ : ∃ K, K = k + t.length + 1 := ⟨_, rfl⟩
    rw [show k + (t.length + 1) + 1 = K + 1 by omega]
    simp only [spec_boParse.l1]
    rw [hK]
    rw [if_pos (show (c : Int) < (w.size : Int) by omega), if_pos (show (0 : Int) ≤ (c : Int) by omega), bt_get w c hlt, ← e1]
    rw [w64 (x := (c : Int) + 1) (by omega) (by omega), show ((c : Int) + 1) = ((c + 1 : Nat) : Int) from by omega]
    by_cases e : b = 49
    · subst e
      rw [if_pos (show (((49 : UInt8).toNat : Nat) : Int) = 49 from rfl), shl_pow2 c (by omega), w64 (by omega) (by omega), ih (c + 1) k _ e2.symm (by omega) (by omega) (by omega), evL, if_pos rfl, Int.add_assoc]
    · rw [if_neg (show ¬ ((b.toNat : Int) = 49) from u8_ne b 49 (by decide) e), ih (c + 1) k v e2.symm (by omega) h0 (by omega), evL, if_neg e, Int.zero_add]
def lastC (C : Int) : List ByteArray → Int
  | [] => C
  | w :: t => lastC (w.size : Int) t
def spTail (s : ByteArray) (m : List Int) (C : Int) : Int × Int × List Int × Bool := if GoodB (m.length : Int) C m ∧ boardT C.toNat m = s then ((m.length : Int), C, m, true) else (0, 0, [], false)
theorem pars_l0 (s : ByteArray) (parts : List ByteArray) (hp : parts.length ≤ 100) (hw : ∀ w ∈ parts, w.size ≤ 60) : ∀ (t : List ByteArray) (i k : Nat) (R C : Int) (m : List Int), parts.drop i = t → i + t.length = parts.length → t.length * 62 + 1000 < k → m.length = i →
    spec_boParse.l0 k s parts (parts.length : Int) (i : Int) R C m = some (spTail s (m ++ t.map fun w => evL w.data.toList 0) (lastC C t)) := by
  intro t
  induction t with
  | nil =>
    intro i k R C m ht hi hk hm
    obtain ⟨k, rfl⟩ : ∃ m, k = m + 1 := ⟨k - 1, by omega⟩
    simp only [List.length_nil, Nat.zero_mul] at hi hk
    simp only [spec_boParse.l0]
    rw [if_neg (by omega), e_boGood k _ _ _ (by omega) (by omega), List.map_nil, List.append_nil]
    simp only [Option.bind_some, decide_eq_true_eq, lastC]
    unfold spTail
    by_cases g : GoodB (m.length : Int) C m
    · rw [if_pos g, e_boText k _ _ _ g (by omega), Option.bind_some]
      by_cases e : boardT C.toNat m = s
      · rw [if_pos (by rw [e]), if_pos ⟨g, e⟩]
      · rw [if_neg (by
          intro h; apply e
          apply ByteArray.ext; apply Array.toList_inj.1
          rw [ByteArray.toList_eq, ByteArray.toList_eq] at h; exact h), if_neg (fun h => e h.2)]
    · rw [if_neg g, if_neg (fun h => g h.1)]
  | cons w t ih =>
    intro i k R C m ht hi hk hm
    simp only [List.length_cons, Nat.succ_mul] at hi hk
    have hlt : i < parts.length := by omega
    have hd := List.drop_eq_getElem_cons hlt
    rw [ht] at hd
    injection hd with e1 e2
    have hws : w.size ≤ 60 := hw w (by rw [e1]; exact List.getElem_mem hlt)
    have hsz := ba_size w
    obtain ⟨k, rfl⟩ : ∃ j, k = (j + w.data.toList.length + 1) + 1 := ⟨k - w.data.toList.length - 2, by omega⟩
    simp only [spec_boParse.l0]
    rw [if_pos (by omega), if_pos (by omega), if_pos (by omega), rdOf_nat parts i hlt, ← e1]
    have := pars_l1 s w parts (parts.length : Int) (i : Int) R C m hws (by omega) w.data.toList 0 k 0 (by simp) (by omega) (by omega) (by decide)
    rw [show ((0 : Nat) : Int) = 0 from rfl] at this
    rw [this, w64 (by omega) (by omega), show ((i : Int) + 1) = ((i + 1 : Nat) : Int) from by omega, ih (i + 1) k _ _ _ e2.symm (by omega) (by omega) (by simp; omega), List.map_cons, lastC, List.append_assoc, Int.zero_add]
    rfl
/-! ### the program's way -/
theorem add_or2 (v : Int) (c : Nat) (h0 : 0 ≤ v) (h1 : v < 2 ^ c) (hc : c ≤ 5) : Go.bits .or .i64 v (shl .i64 1 (c : Int)) = v + 2 ^ c := by
  have h : ∀ v : Fin 32, ∀ c : Fin 6, (v.val : Int) < 2 ^ c.val → Go.bits .or .i64 (v.val : Int) (shl .i64 1 (c.val : Int)) = (v.val : Int) + 2 ^ c.val := by decide +kernel
  have h32 : v < 32 := by
    have : ∀ c : Fin 6, (2 : Int) ^ c.val ≤ 32 := by decide +kernel
    have := this ⟨c, by omega⟩
    simp only at this
    omega
  obtain ⟨i, rfl⟩ := fin_of v 32 h0 (by omega)
  exact h i ⟨c, by omega⟩ h1
theorem iPar_l1 (i : Nat) (w : ByteArray) (parts : List ByteArray) (n : Int) (R C : Int) (hw : w.size ≤ 6) : ∀ (t : List UInt8) (c k : Nat) (m : List Int) (hi : i < m.length), w.data.toList.drop c = t → c + t.length = w.data.toList.length → 0 ≤ m[i] → m[i] < 2 ^ c → i ≤ 1000 →
    impl_ParseBoard.l1 (k + t.length + 1) (i : Int) w parts n (i : Int) (w.size : Int) (c : Int) R C m = if okD t = true then impl_ParseBoard.l0 k parts n ((i + 1 : Nat) : Int) R C (m.set i (m[i] + evL t c)) else some (0, 0, [], false) := by
  have hsz := ba_size w
  intro t
  induction t with
  | nil =>
    intro c k m hi ht hc h0 h1 h2
    simp only [List.length_nil, Nat.add_zero] at hc ⊢
    simp only [impl_ParseBoard.l1]
    rw [if_neg (by omega), w64 (by omega) (by omega), if_pos (by rfl), evL, Int.add_zero, List.set_getElem_self]; rfl
  | cons b t ih =>
    intro c k m hi ht hc h0 h1 h2
    simp only [List.length_cons] at hc ⊢
    have hlt : c < w.data.toList.length := by omega
    have hd := List.drop_eq_getElem_cons hlt
    rw [ht] at hd
    injection hd with e1 e2
    have hp2 : (2 : Int) ^ (c + 1) = 2 * 2 ^ c := by rw [Int.pow_succ]; omega
    have h2c : (0 : Int) < 2 ^ c := Int.pow_pos (by decide)
    obtain ⟨K, hK⟩ : ∃ K, K = k + t.length + 1 := ⟨_, rfl⟩
    rw [show k + (t.length + 1) + 1 = K + 1 by omega]
    simp only [impl_ParseBoard.l1]
    rw [hK, if_pos (show (c : Int) < (w.size : Int) by omega), if_pos (show (0 : Int) ≤ (c : Int) by omega)]
    rw [bt_get w c hlt, ← e1, w64 (x := (c : Int) + 1) (by omega) (by omega), show ((c : Int) + 1) = ((c + 1 : Nat) : Int) from by omega]
    have hok : okD (b :: t) = ((b == 48 || b == 49) && okD t) := rfl
    by_cases e : b = 49
    · subst e
      have hs1 : i < (m.set i (m[i] + 2 ^ c)).length := by simpa using hi
      have hs2 : (m.set i (m[i] + 2 ^ c))[i]'hs1 = m[i] + 2 ^ c := by simp
      have := ih (c + 1) k (m.set i (m[i] + 2 ^ c)) hs1 e2.symm (by omega) (by rw [hs2]; omega) (by rw [hs2]; omega) h2
      rw [hs2, List.set_set] at this
      simp only [show (((49 : UInt8).toNat : Nat) : Int) = 49 from rfl, if_true]
      simp only [show (c : Int) < (w.size : Int) by omega, show (0 : Int) ≤ (c : Int) by omega, show (0 : Int) ≤ (i : Int) by omega, show (i : Int) < (m.length : Int) by omega, if_true]
      rw [rd_nat m i hi, add_or2 m[i] c h0 h1 (by omega), Int.toNat_natCast, this, hok, evL, if_pos rfl, Int.add_assoc]
      rfl
    · have hn49 : ¬ ((b.toNat : Int) = 49) := u8_ne b 49 (by decide) e
      by_cases e0 : b = 48
      · subst e0
        have := ih (c + 1) k m hi e2.symm (by omega) h0 (by omega) h2
        simp only [show ¬ ((((48 : UInt8).toNat : Nat) : Int) = 49) from by decide, show (((48 : UInt8).toNat : Nat) : Int) = 48 from rfl, if_true, if_false, show (c : Int) < (w.size : Int) by omega, show (0 : Int) ≤ (c : Int) by omega]
        simp only [show ¬ ((48 : Int) = 49) by decide, if_false]
        rw [this, hok, evL, if_neg (show ¬ ((48 : UInt8) = 49) by decide), Int.zero_add]
        rfl
      · have hn48 : ¬ ((b.toNat : Int) = 48) := u8_ne b 48 (by decide) e0
        simp only [hn49, hn48, if_false, show (c : Int) < (w.size : Int) by omega, show (0 : Int) ≤ (c : Int) by omega, if_true]
        rw [hok, if_neg (by simp [e, e0])]
def rowOK (C : Int) (w : ByteArray) : Bool := decide ((w.size : Int) = C) && okD w.data.toList
theorem iPar_l0 (parts : List ByteArray) (hp : parts.length ≤ 6) (R C : Int) (hC : 0 ≤ C ∧ C ≤ 6) : ∀ (t : List ByteArray) (i k : Nat) (acc : List Int), parts.drop i = t → i + t.length = parts.length → acc.length = i → t.length * 9 < k →
    impl_ParseBoard.l0 k parts (parts.length : Int) (i : Int) R C (acc ++ List.replicate t.length 0) = some (if t.all (rowOK C) = true then (R, C, acc ++ t.map fun w => evL w.data.toList 0, true) else (0, 0, [], false)) := by
  intro t
  induction t with
  | nil =>
    intro i k acc ht hi ha hk
    obtain ⟨k, rfl⟩ : ∃ m, k = m + 1 := ⟨k - 1, by omega⟩
    simp only [List.length_nil] at hi
    simp only [impl_ParseBoard.l0]
    rw [if_neg (by omega)]; simp
  | cons w t ih =>
    intro i k acc ht hi ha hk
    simp only [List.length_cons, Nat.succ_mul] at hi hk
    have hlt : i < parts.length := by omega
    have hd := List.drop_eq_getElem_cons hlt
    rw [ht] at hd
    injection hd with e1 e2
    have hsz := ba_size w
    obtain ⟨k, rfl⟩ : ∃ m, k = m + 1 := ⟨k - 1, by omega⟩
    simp only [impl_ParseBoard.l0]
    rw [if_pos (show (i : Int) < (parts.length : Int) by omega), if_pos (show (0 : Int) ≤ (i : Int) by omega), if_pos (show (i : Int) < (parts.length : Int) by omega), rdOf_nat parts i hlt, ← e1]
    by_cases hw : (w.size : Int) = C
    · obtain ⟨k, rfl⟩ : ∃ j, k = j + w.data.toList.length + 1 := ⟨k - w.data.toList.length - 1, by omega⟩
      have hm : i < (acc ++ List.replicate (t.length + 1) (0 : Int)).length := by simp; omega
      have hv : (acc ++ List.replicate (t.length + 1) (0 : Int))[i]'hm = 0 := by
        rw [List.getElem_append_right (by omega)]; simp
      have := iPar_l1 i w parts (parts.length : Int) R C (by omega) w.data.toList 0 k _ hm (by simp) (by omega) (by rw [hv]; omega) (by rw [hv]; decide) (by omega)
      rw [if_pos hw, List.length_cons, show (0 : Int) = ((0 : Nat) : Int) from rfl]
      rw [show ((0 : Nat) : Int) = 0 from rfl] at this ⊢
      rw [this, hv, Int.zero_add]
      have hset : (acc ++ List.replicate (t.length + 1) (0 : Int)).set i (evL w.data.toList 0) = (acc ++ [evL w.data.toList 0]) ++ List.replicate t.length 0 := by
        rw [List.set_append_right _ _ (by omega), show i - acc.length = 0 by omega, List.replicate_succ, List.set_cons_zero, List.append_assoc]; rfl
      rw [hset, ih (i + 1) k (acc ++ [evL w.data.toList 0]) e2.symm (by omega) (by simp; omega) (by omega)]
      have hr : rowOK C w = okD w.data.toList := by unfold rowOK; rw [decide_eq_true hw, Bool.true_and]
      rw [List.all_cons, hr]
      cases okD w.data.toList with
      | true => simp
      | false => simp
    · rw [if_neg hw, List.all_cons]
      have hr : rowOK C w = false := by unfold rowOK; rw [decide_eq_false hw, Bool.false_and]
      rw [hr]; rfl
def prOut (s : ByteArray) : Int × Int × List Int × Bool := if 42 < s.size then (0, 0, [], false) else if (1 ≤ ((spl s).length : Int) ∧ ((spl s).length : Int) ≤ 6) ∧ (1 ≤ (((spl s).getD 0 ByteArray.empty).size : Int) ∧ (((spl s).getD 0 ByteArray.empty).size : Int) ≤ 6) ∧ (spl s).all (rowOK (((spl s).getD 0 ByteArray.empty).size : Int)) = true then (((spl s).length : Int), (((spl s).getD 0 ByteArray.empty).size : Int), (spl s).map (fun w => evL w.data.toList 0), true) else (0, 0, [], false)
theorem spl_pos (s : ByteArray) : 1 ≤ (spl s).length := by rw [spl_eq, List.length_map]; exact (splitL_len _).1
theorem i_ParseBoard (k : Nat) (s : ByteArray) (hk : 1000 ≤ k) : impl_ParseBoard.f k s = some (prOut s) := by
  unfold impl_ParseBoard.f prOut
  by_cases h42 : (s.size : Int) > 42
  · rw [if_pos h42, if_pos (by omega)]
  · rw [if_neg h42, if_neg (by omega)]
    have hp := spl_pos s
    unfold strings_Split.f
    rw [if_pos ⟨rfl, by omega⟩, Option.bind_some, e_isSide, Option.bind_some]
    obtain ⟨k, rfl⟩ : ∃ m, k = m + 1 := ⟨k - 1, by omega⟩
    have hr : rdOf ByteArray.empty (spl s) 0 = (spl s).getD 0 ByteArray.empty := rfl
    rw [hr]
    by_cases h6 : 1 ≤ ((spl s).length : Int) ∧ ((spl s).length : Int) ≤ 6
    · rw [decide_eq_true h6, if_pos rfl, if_pos (by omega), e_isSide, Option.bind_some]
      by_cases hc : 1 ≤ (((spl s).getD 0 ByteArray.empty).size : Int) ∧ (((spl s).getD 0 ByteArray.empty).size : Int) ≤ 6
      · rw [decide_eq_true hc]
        simp only [impl_ParseBoard.j0]
        rw [if_neg (by decide), if_pos (by omega), hr, i_newBoard _ _ (by omega), Option.bind_some, Int.toNat_natCast]
        have := iPar_l0 (spl s) (by omega) ((spl s).length : Int) (((spl s).getD 0 ByteArray.empty).size : Int) (by omega) (spl s) 0 k [] (by simp) (by omega) rfl (by omega)
        rw [List.nil_append, List.nil_append] at this
        rw [show ((0 : Nat) : Int) = 0 from rfl] at this
        simp only
        rw [this]
        by_cases ha : (spl s).all (rowOK (((spl s).getD 0 ByteArray.empty).size : Int)) = true
        · rw [if_pos ha, if_pos ⟨h6, hc, ha⟩]
        · rw [if_neg ha, if_neg (fun h => ha h.2.2)]
      · rw [decide_eq_false hc]
        simp only [impl_ParseBoard.j0]
        rw [if_pos (show (!false) = true from rfl), if_neg (show ¬ ((1 ≤ ((spl s).length : Int) ∧ ((spl s).length : Int) ≤ 6) ∧ (1 ≤ (((spl s).getD 0 ByteArray.empty).size : Int) ∧ (((spl s).getD 0 ByteArray.empty).size : Int) ≤ 6) ∧ (spl s).all (rowOK (((spl s).getD 0 ByteArray.empty).size : Int)) = true) from fun h => hc h.2.1)]
    · rw [decide_eq_false h6, if_neg (by decide)]
      simp only [impl_ParseBoard.j0]
      rw [if_pos (show True from trivial), if_neg (show ¬ ((1 ≤ ((spl s).length : Int) ∧ ((spl s).length : Int) ≤ 6) ∧ (1 ≤ (((spl s).getD 0 ByteArray.empty).size : Int) ∧ (((spl s).getD 0 ByteArray.empty).size : Int) ≤ 6) ∧ (spl s).all (rowOK (((spl s).getD 0 ByteArray.empty).size : Int)) = true) from fun h => h6 h.1)]
theorem e_ParseBoard (k : Nat) (s : ByteArray) (hk : 10000 ≤ k) : spec_ParseBoard.f k s = some (if 60 < s.size then (0, 0, [], false) else spTail s ((spl s).map fun w => evL w.data.toList 0) (lastC 0 (spl s))) := by
  unfold spec_ParseBoard.f spec_boParse.f
  by_cases h60 : (s.size : Int) > 60
  · rw [if_pos h60, if_pos (by omega)]; rfl
  · rw [if_neg h60, if_neg (by omega), e_l1Split k s (by omega) (by omega), Option.bind_some]
    have hsz := ba_size s
    have hl := (splitL_len s.data.toList).2
    have hln : (spl s).length ≤ 61 := by rw [spl_eq, List.length_map]; omega
    have hw : ∀ w ∈ spl s, w.size ≤ 60 := by
      intro w hw
      rw [spl_eq] at hw
      obtain ⟨x, hx, rfl⟩ := List.mem_map.1 hw
      have := (splitL_part _ x hx).1
      rw [ba_size, mkB_toList]; omega
    have := pars_l0 s (spl s) (by omega) hw (spl s) 0 k 0 0 [] (by simp) (by omega) (by omega) rfl
    rw [List.nil_append, show ((0 : Nat) : Int) = 0 from rfl] at this
    rw [this, Option.bind_some]
/-! ### the two ways are one -/
def digB (m : Int) (j : Nat) : UInt8 := if cell m (j : Int) = true then 49 else 48
def rowL (m : Int) : Nat → Nat → List UInt8
  | _, 0 => []
  | j, d + 1 => digB m j :: rowL m (j + 1) d
theorem rowT_L (m : Int) : ∀ d j, (rowT m j d).map (fun n => UInt8.ofNat n.toNat) = rowL m j d
  | 0, _ => rfl
  | d + 1, j => by
    rw [rowT, List.map_cons, rowT_L m d, rowL]
    congr 1
    unfold dig digB
    split <;> rfl
theorem rowB_L (m : Int) (C : Nat) : (rowB m C).data.toList = rowL m 0 C := by rw [rowB, strOfNums_data, rowT_L]
theorem rowL_len (m : Int) : ∀ d j, (rowL m j d).length = d
  | 0, _ => rfl
  | d + 1, j => by simp [rowL, rowL_len m d]
theorem rowL_ok (m : Int) : ∀ d j, okD (rowL m j d) = true
  | 0, _ => rfl
  | d + 1, j => by
    have := rowL_ok m d (j + 1)
    unfold okD at this ⊢
    rw [rowL, List.all_cons, this]
    unfold digB
    split <;> rfl
theorem okD_no : ∀ (w : List UInt8), okD w = true → 47 ∉ w := by
  intro w h hm
  unfold okD at h
  have := List.all_eq_true.1 h 47 hm
  revert this; decide
def joinL : List (List UInt8) → List UInt8
  | [] => []
  | a :: t => a ++ t.flatMap fun x => 47 :: x
theorem join_split : ∀ L : List UInt8, joinL (splitL L) = L
  | [] => rfl
  | b :: t => by
    have ih := join_split t
    rw [splitL]
    split
    · rename_i e
      subst e
      cases h : splitL t with
      | nil => exact absurd h (splitL_ne t)
      | cons a r => rw [h] at ih; simp only [joinL] at ih ⊢; rw [List.flatMap_cons, List.nil_append, List.cons_append, ih]
    · cases h : splitL t with
      | nil => exact absurd h (splitL_ne t)
      | cons a r => rw [h] at ih; simp only [joinL] at ih ⊢; rw [List.cons_append, ih]
theorem split_join : ∀ (t : List (List UInt8)) (a : List UInt8), (∀ w ∈ a :: t, 47 ∉ w) → splitL (joinL (a :: t)) = a :: t
  | [], a, h => by simp only [joinL, List.flatMap_nil, List.append_nil]; exact spl_none a (h a (by simp))
  | b :: r, a, h => by
    have ih := split_join r b (fun w hw => h w (by simp [hw]))
    simp only [joinL] at ih ⊢
    rw [List.flatMap_cons, List.cons_append, spl_cut _ _ (h a (by simp)), ih]
theorem boxT_L (C : Nat) : ∀ (t : List Int) (out : ByteArray), (boxT C out t).data.toList = out.data.toList ++ (t.map fun m => rowL m 0 C).flatMap fun x => 47 :: x
  | [], out => by simp [boxT]
  | m :: t, out => by
    rw [boxT, boxT_L C t, ByteArray.data_append, Array.toList_append, ByteArray.data_append, Array.toList_append, rowB_L, List.map_cons, List.flatMap_cons]
    simp
theorem boardT_L (C : Nat) (l : List Int) : (boardT C l).data.toList = joinL (l.map fun m => rowL m 0 C) := by
  cases l with
  | nil => rfl
  | cons m t => rw [boardT, boxT_L, rowB_L, List.map_cons, joinL]
theorem ba_inj {a b : ByteArray} (h : a.data.toList = b.data.toList) : a = b := ByteArray.ext (Array.toList_inj.1 h)
def bins : Nat → List (List UInt8)
  | 0 => [[]]
  | n + 1 => (bins n).flatMap fun t => [48 :: t, 49 :: t]
theorem bins_mem : ∀ (w : List UInt8), okD w = true → w ∈ bins w.length
  | [], _ => by simp [bins]
  | b :: t, h => by
    have h' : (b == 48 || b == 49) = true ∧ okD t = true := by
      have h2 : okD (b :: t) = ((b == 48 || b == 49) && okD t) := rfl
      rw [h2, Bool.and_eq_true] at h; exact h
    have := bins_mem t h'.2
    rw [List.length_cons, bins, List.mem_flatMap]
    refine ⟨t, this, ?_⟩
    rcases Bool.or_eq_true _ _ ▸ h'.1 with e | e
    · rw [beq_iff_eq] at e; subst e; simp
    · rw [beq_iff_eq] at e; subst e; simp
theorem rowL_ev (w : List UInt8) (h : okD w = true) (hl : w.length ≤ 6) : rowL (evL w 0) 0 w.length = w := by
  have : ∀ n : Fin 7, ∀ w ∈ bins n.val, rowL (evL w 0) 0 n.val = w := by decide +kernel
  exact this ⟨w.length, by omega⟩ w (bins_mem w h)
theorem ev_rowL (m : Int) (C : Nat) (hC : C ≤ 6) (hm : 0 ≤ m) (h2 : m ≤ 2 ^ C - 1) : evL (rowL m 0 C) 0 = m := by
  have : ∀ C : Fin 7, ∀ m : Fin 64, (m.val : Int) ≤ 2 ^ C.val - 1 → evL (rowL (m.val : Int) 0 C.val) 0 = (m.val : Int) := by decide +kernel
  have h64 : m < 64 := by
    have : ∀ C : Fin 7, (2 : Int) ^ C.val ≤ 64 := by decide +kernel
    have := this ⟨C, by omega⟩
    simp only at this
    omega
  obtain ⟨i, rfl⟩ := fin_of m 64 hm h64
  exact this ⟨C, by omega⟩ i h2
theorem lastC_all (C : Int) : ∀ (l : List ByteArray) (c : Int), l ≠ [] → (∀ w ∈ l, (w.size : Int) = C) → lastC c l = C
  | [], _, h, _ => absurd rfl h
  | [w], c, _, h => by rw [lastC, lastC]; exact h w (by simp)
  | w :: x :: t, c, _, h => by rw [lastC]; exact lastC_all C (x :: t) _ (by simp) (fun y hy => h y (by simp [hy]))
def PQ (s : ByteArray) : Prop := (1 ≤ ((spl s).length : Int) ∧ ((spl s).length : Int) ≤ 6) ∧ (1 ≤ (((spl s).getD 0 ByteArray.empty).size : Int) ∧ (((spl s).getD 0 ByteArray.empty).size : Int) ≤ 6) ∧ (spl s).all (rowOK (((spl s).getD 0 ByteArray.empty).size : Int)) = true
instance (s : ByteArray) : Decidable (PQ s) := by unfold PQ; exact inferInstance
theorem pq_to (s : ByteArray) (q : PQ s) : (GoodB (((spl s).map fun w => evL w.data.toList 0).length : Int) (lastC 0 (spl s)) ((spl s).map fun w => evL w.data.toList 0) ∧ boardT (lastC 0 (spl s)).toNat ((spl s).map fun w => evL w.data.toList 0) = s) ∧ lastC 0 (spl s) = (((spl s).getD 0 ByteArray.empty).size : Int) := by
  obtain ⟨q1, q2, q3⟩ := q
  have hall : ∀ w ∈ spl s, (w.size : Int) = (((spl s).getD 0 ByteArray.empty).size : Int) ∧ okD w.data.toList = true := by
    intro w hw
    have := List.all_eq_true.1 q3 w hw
    unfold rowOK at this
    rw [Bool.and_eq_true, decide_eq_true_eq] at this
    exact this
  have hne : spl s ≠ [] := by intro h; have := spl_pos s; rw [h] at this; simp at this
  have hC := lastC_all _ (spl s) 0 hne (fun w hw => (hall w hw).1)
  generalize (((spl s).getD 0 ByteArray.empty).size : Int) = C at q2 hall hC
  refine ⟨⟨?_, ?_⟩, hC⟩
  · rw [hC, List.length_map]
    refine ⟨q1, q2, by rw [List.length_map], ?_⟩
    intro x hx
    obtain ⟨w, hw, rfl⟩ := List.mem_map.1 hx
    have h1 := (hall w hw).1
    have h2 := evL_bd w.data.toList 0
    have hsz := ba_size w
    rw [show C.toNat = w.data.toList.length by omega]
    rw [show (2 : Int) ^ 0 = 1 from rfl, Nat.zero_add] at h2
    exact h2
  · rw [hC]
    apply ba_inj
    rw [boardT_L, List.map_map]
    have : (spl s).map ((fun m => rowL m 0 C.toNat) ∘ fun w => evL w.data.toList 0) = splitL s.data.toList := by
      have h1 : (spl s).map ((fun m => rowL m 0 C.toNat) ∘ fun w => evL w.data.toList 0) = (spl s).map fun w => w.data.toList := by
        apply List.map_congr_left
        intro w hw
        have h1 := hall w hw
        have hsz := ba_size w
        show rowL (evL w.data.toList 0) 0 C.toNat = w.data.toList
        rw [show C.toNat = w.data.toList.length by omega]
        exact rowL_ev _ h1.2 (by omega)
      rw [h1, spl_eq, List.map_map]
      conv => rhs; rw [← List.map_id (splitL s.data.toList)]
      apply List.map_congr_left
      intro w _
      rfl
    rw [this, join_split]
theorem pq_of (s : ByteArray) (C : Int) (l : List Int) (g : GoodB (l.length : Int) C l) (h : boardT C.toNat l = s) : s.size ≤ 42 ∧ PQ s := by
  obtain ⟨g1, g2, _, g4⟩ := g
  have hs : s.data.toList = joinL (l.map fun m => rowL m 0 C.toNat) := by rw [← h, boardT_L]
  have hne : l ≠ [] := by intro e; rw [e] at g1; simp at g1
  have hsp : splitL s.data.toList = l.map fun m => rowL m 0 C.toNat := by
    rw [hs]
    cases l with
    | nil => exact absurd rfl hne
    | cons m t =>
      rw [List.map_cons]
      apply split_join
      intro w hw
      rw [← List.map_cons (f := fun m => rowL m 0 C.toNat)] at hw
      obtain ⟨x, _, rfl⟩ := List.mem_map.1 hw
      exact okD_no _ (rowL_ok _ _ _)
  have hspl : spl s = l.map fun m => mkB (rowL m 0 C.toNat) := by rw [spl_eq, hsp, List.map_map]; rfl
  have hsz : ∀ w ∈ spl s, (w.size : Int) = C ∧ okD w.data.toList = true := by
    intro w hw
    rw [hspl] at hw
    obtain ⟨x, _, rfl⟩ := List.mem_map.1 hw
    refine ⟨?_, ?_⟩
    · rw [ba_size, mkB_toList, rowL_len]; omega
    · rw [mkB_toList]; exact rowL_ok _ _ _
  have hlen : (spl s).length = l.length := by rw [hspl, List.length_map]
  have h0 : (((spl s).getD 0 ByteArray.empty).size : Int) = C := by
    have hp := spl_pos s
    rw [List.getD_eq_getElem?_getD, List.getElem?_eq_getElem (by omega), Option.getD_some]
    exact (hsz _ (List.getElem_mem _)).1
  refine ⟨?_, ?_, ?_, ?_⟩
  · rw [← h]
    cases l with
    | nil => exact absurd rfl hne
    | cons m t =>
      rw [boardT, boxT_size]
      have h2 : (rowB m C.toNat).size = C.toNat := by unfold rowB; rw [strOfNums_size, rowT_len]
      rw [h2]
      simp only [List.length_cons] at g1
      have := Nat.mul_le_mul (show t.length ≤ 5 by omega) (show C.toNat + 1 ≤ 7 by omega)
      omega
  · rw [hlen]; exact g1
  · rw [h0]; exact g2
  · rw [h0, List.all_eq_true]
    intro w hw
    have := hsz w hw
    unfold rowOK
    rw [decide_eq_true this.1, this.2]; rfl
theorem prEq (s : ByteArray) : (if 60 < s.size then (0, 0, [], false) else spTail s ((spl s).map fun w => evL w.data.toList 0) (lastC 0 (spl s))) = prOut s := by
  unfold prOut spTail
  by_cases q : PQ s
  · have h := pq_to s q
    have h42 := (pq_of s _ _ h.1.1 h.1.2).1
    rw [if_neg (show ¬ (60 < s.size) by omega), if_neg (show ¬ (42 < s.size) by omega), if_pos h.1, if_pos (show _ ∧ _ ∧ _ from q), h.2, List.length_map]
  · have hn : ¬ (GoodB (((spl s).map fun w => evL w.data.toList 0).length : Int) (lastC 0 (spl s)) ((spl s).map fun w => evL w.data.toList 0) ∧ boardT (lastC 0 (spl s)).toNat ((spl s).map fun w => evL w.data.toList 0) = s) := fun h => q (pq_of s _ _ h.1 h.2).2
    rw [if_neg hn, if_neg (show ¬ (_ ∧ _ ∧ _) from q), ite_self, ite_self]
theorem prOut_len (s : ByteArray) : (prOut s).2.2.1.length ≤ 6 := by
  unfold prOut
  split
  · simp
  · split
    · rename_i h; simp only [List.length_map]; omega
    · simp

theorem FnExactParseBoard : laws_FnExactParseBoard.Pure := by
  intro s _
  refine ⟨2000010, ?_⟩
  unfold laws_FnExactParseBoard.f
  by_cases h : (s.size : Int) > 1048576
  · rw [if_pos h]
  · rw [if_neg h, e_ParseBoard _ s (by omega), prEq, i_ParseBoard _ s (by omega)]
    have hI : ∀ k, 1000 ≤ k → impl_ParseBoard.f k s = some (prOut s) := fun k hk => i_ParseBoard k s hk
    have hlen := prOut_len s
    generalize prOut s = o at hI hlen
    obtain ⟨o1, o2, o3, o4⟩ := o
    simp only at hlen
    repeat (first
      | (simp only [Option.bind_some, bne_self_eq_false, Bool.false_eq_true, if_false, if_true, Bool.not_true, Bool.not_false])
      | (rw [e_eqBoard_self _ _ _ _ (by omega) (by omega)])
      | (rw [e_eqIntS_self _ _ (by omega) (by omega)])
      | (rw [e_markBoard _ _ _ _ _ (by omega) (by omega) (by omega) (by omega)])
      | (rw [e_heldBoard _ _ _ _ _ (by omega) (by omega) (by omega) (by omega)])
      | (rw [e_markIntS _ _ _ (by omega) (by omega) (by omega) (by omega)])
      | (rw [e_heldIntS _ _ _ (by omega) (by omega) (by omega) (by omega)])
      | (rw [hI _ (by omega)])
      | (rw [laws_FnExactParseBoard.j0])
      | (rw [laws_FnExactParseBoard.j1])
      | (rw [if_neg (show ¬ (_ : Int) < 0 by omega)])
      | (rw [if_pos (show (_ : Int) = _ from rfl)])
      | (rfl))

end Go.Proofs.YtcdikbiikmhmhaaDoor.Pure
