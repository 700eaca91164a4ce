/- CountRooks: the law's function comes to true at every list. -/
import Derived.Test.YtmnkloghenjmoaaPFnExactCountRooksx2
namespace Go.Proofs.Ytmnkloghenjmoaa.Pure
open Go.RowKit Go.Proofs.Ytmnkloghenjmoaa.PFnExactCountRooks Go.Proofs.YtmnkloghenjmoaaW.PrintWords Go.Proofs.YtmnkloghenjmoaaW.PrintLast
set_option linter.unusedVariables false
set_option linter.unusedSimpArgs false

theorem w64 {x : Int} (h0 : -9223372036854775808 ≤ x) (h1 : x < 9223372036854775808) : wrap64 x = x := by
  unfold wrap64; omega
theorem rd_nat (l : List Int) (i : Nat) (h : i < l.length) : rd l (i : Int) = l[i] := by
  unfold rd; simp [List.getD, h]

theorem e_toIntS_l0 (l : List Int) (hl : l.length ≤ 2000000) : ∀ (d i k : Nat) (m : List Int), i + d = l.length → d < k → m.length = l.length → m.take i = l.take i →
    laws_toIntS.l0 k l m (i : Int) = some l := by
  intro d
  induction d with
  | zero =>
    intro i k m hi' hk hm ht
    obtain ⟨k, rfl⟩ : ∃ m, k = m + 1 := ⟨k - 1, by omega⟩
    simp only [laws_toIntS.l0]; rw [if_neg (by omega)]
    rw [List.take_of_length_le (by omega), List.take_of_length_le (by omega)] at ht; rw [ht]
  | succ d ih =>
    intro i k m hi' hk hm ht
    obtain ⟨k, rfl⟩ : ∃ m, k = m + 1 := ⟨k - 1, by omega⟩
    have hlt : i < l.length := by omega
    simp only [laws_toIntS.l0]
    rw [if_pos (by omega), if_pos (by omega), if_pos (by omega), rd_nat l i hlt, w64 (by omega) (by omega), show ((i : Int) + 1) = ((i + 1 : Nat) : Int) from by omega]
    refine ih (i + 1) k _ (by omega) (by omega) (by simpa using hm) ?_
    rw [Int.toNat_natCast, List.take_succ_eq_append_getElem (by simpa using (by omega : i < m.length)), List.take_succ_eq_append_getElem hlt]
    simp [List.take_set_of_le, ht]
theorem e_toIntS (k : Nat) (l : List Int) (hl : l.length ≤ 2000000) (hk : l.length < k) : laws_toIntS.f k l = some l := by
  unfold laws_toIntS.f
  rw [if_pos (by omega), if_pos (by omega)]
  exact e_toIntS_l0 l hl l.length 0 k _ (by omega) hk (by simp) (by simp)

theorem e_eqIntS_l0 (a b : List Int) (hl : a.length ≤ 2000000) (hab : a.length = b.length) : ∀ (d i k : Nat), i + d = a.length → d < k →
    laws_eqIntS.l0 k a b (i : Int) = some (decide (a.drop i = b.drop i)) := by
  intro d
  induction d with
  | zero =>
    intro i k hi' hk
    obtain ⟨k, rfl⟩ : ∃ m, k = m + 1 := ⟨k - 1, by omega⟩
    simp only [laws_eqIntS.l0]; rw [if_neg (by omega), List.drop_eq_nil_of_le (by omega), List.drop_eq_nil_of_le (by omega)]; simp
  | succ d ih =>
    intro i k hi' hk
    obtain ⟨k, rfl⟩ : ∃ m, k = m + 1 := ⟨k - 1, by omega⟩
    have hlt : i < a.length := by omega
    have hlt2 : i < b.length := by omega
    simp only [laws_eqIntS.l0]
    rw [if_pos (by omega), if_pos (by omega), if_pos (by omega), rd_nat a i hlt, rd_nat b i hlt2, List.drop_eq_getElem_cons hlt, List.drop_eq_getElem_cons hlt2, w64 (by omega) (by omega), show ((i : Int) + 1) = ((i + 1 : Nat) : Int) from by omega, ih (i + 1) k (by omega) (by omega)]
    by_cases h : a[i] = b[i]
    · rw [if_pos h]; simp only [List.cons.injEq, h, true_and]
    · rw [if_neg h]; simp only [List.cons.injEq, h, false_and, decide_false]
theorem e_eqIntS (k : Nat) (a b : List Int) (hl : a.length ≤ 2000000) (hk : a.length < k) : laws_eqIntS.f k a b = some (decide (a = b)) := by
  unfold laws_eqIntS.f
  by_cases h : (a.length : Int) = (b.length : Int)
  · rw [if_pos h]; exact e_eqIntS_l0 a b hl (by omega) a.length 0 k (by omega) hk
  · rw [if_neg h]; simp; intro hc; rw [hc] at h; exact h rfl

theorem e_roCount_l0 (l : List Int) (hl : l.length ≤ 2000000) (hx : ∀ x ∈ l, -1 ≤ x) : ∀ (d i k : Nat) (a : Int), i + d = l.length → d < k → 0 ≤ a → a ≤ i →
    spec_roCount.l0 k a l (l.length : Int) (i : Int) = some (a + cntR (l.drop i)) := by
  intro d
  induction d with
  | zero =>
    intro i k a hi hk h0 h1
    obtain ⟨k, rfl⟩ : ∃ m, k = m + 1 := ⟨k - 1, by omega⟩
    simp only [spec_roCount.l0]; rw [if_neg (by omega), List.drop_eq_nil_of_le (by omega)]; simp [cntR]
  | succ d ih =>
    intro i k a hi hk h0 h1
    obtain ⟨k, rfl⟩ : ∃ m, k = m + 1 := ⟨k - 1, by omega⟩
    have hlt : i < l.length := by omega
    have hg := hx l[i] (List.getElem_mem _)
    simp only [spec_roCount.l0]
    rw [if_pos (by omega), if_pos (by omega), if_pos (by omega), rd_nat l i hlt, List.drop_eq_getElem_cons hlt,
      w64 (x := (i : Int) + 1) (by omega) (by omega), show ((i : Int) + 1) = ((i + 1 : Nat) : Int) from by omega, w64 (by omega) (by omega)]
    by_cases h : l[i] ≥ 0
    · rw [if_pos h, ih (i + 1) k (a + 1) (by omega) (by omega) (by omega) (by omega)]
      have : l[i] ≠ -1 := by omega
      simp only [cntR, this, if_false]; congr 1; omega
    · rw [if_neg h, ih (i + 1) k a (by omega) (by omega) h0 (by omega)]
      have : l[i] = -1 := by omega
      simp [cntR, this]
theorem e_roCount (k : Nat) (l : List Int) (hl : l.length ≤ 2000000) (hk : l.length < k) (hx : ∀ x ∈ l, -1 ≤ x) : spec_roCount.f k l = some (cntR l) := by
  unfold spec_roCount.f
  have := e_roCount_l0 l hl hx l.length 0 k 0 (by omega) hk (by omega) (by omega)
  simpa using this

theorem e_l1In (a b c : Int) : spec_l1In.f a b c = some (decide (b ≤ a ∧ a ≤ c)) := by
  unfold spec_l1In.f
  by_cases h : b ≤ a
  · rw [if_pos h]; simp [h]
  · rw [if_neg h]; simp [h]

theorem e_l1All_l0 (lo hi : Int) (l : List Int) (hl : l.length ≤ 2000000) : ∀ (d i k : Nat), i + d = l.length → d < k →
    spec_l1All.l0 k lo hi l (l.length : Int) (i : Int) = some (decide (∀ x ∈ l.drop i, lo ≤ x ∧ x ≤ hi)) := by
  intro d
  induction d with
  | zero =>
    intro i k hi' hk
    obtain ⟨k, rfl⟩ : ∃ m, k = m + 1 := ⟨k - 1, by omega⟩
    simp only [spec_l1All.l0]; rw [if_neg (by omega), List.drop_eq_nil_of_le (by omega)]; simp
  | succ d ih =>
    intro i k hi' hk
    obtain ⟨k, rfl⟩ : ∃ m, k = m + 1 := ⟨k - 1, by omega⟩
    have hlt : i < l.length := by omega
    simp only [spec_l1All.l0]
    rw [if_pos (by omega), if_pos (by omega), if_pos (by omega), e_l1In, rd_nat l i hlt, List.drop_eq_getElem_cons hlt, w64 (by omega) (by omega)]
    simp only [Option.bind_some, decide_eq_true_eq, List.forall_mem_cons]
    by_cases h : lo ≤ l[i] ∧ l[i] ≤ hi
    · rw [if_pos h]
      have := ih (i + 1) k (by omega) (by omega)
      rw [show ((i : Int) + 1) = ((i + 1 : Nat) : Int) from by omega, this]; simp [h]
    · rw [if_neg h]; simp [h]
theorem e_l1All (k : Nat) (l : List Int) (lo hi : Int) (hl : l.length ≤ 2000000) (hk : l.length < k) : spec_l1All.f k l lo hi = some (decide (∀ x ∈ l, lo ≤ x ∧ x ≤ hi)) := by
  unfold spec_l1All.f; exact e_l1All_l0 lo hi l hl l.length 0 k (by omega) hk

theorem e_CountRooks (k : Nat) (l : List Int) (hl : l.length ≤ 2000000) (hk : l.length < k) : spec_CountRooks.f k l = some (if GoodR l then (cntR l, true) else (0, false)) := by
  unfold spec_CountRooks.f
  by_cases h : (l.length : Int) > 6
  · rw [if_pos h, if_neg]
    intro g; have := g.1; omega
  · rw [if_neg h, e_l1All k l _ _ hl hk]
    simp only [Option.bind_some, decide_eq_true_eq]
    by_cases h2 : ∀ x ∈ l, -1 ≤ x ∧ x ≤ 5
    · rw [if_pos h2, if_pos ⟨by omega, h2⟩, e_roCount k l hl hk (fun x hx => (h2 x hx).1)]; rfl
    · rw [if_neg h2, if_neg (fun g => h2 g.2)]
theorem i_CountRooks (l : List Int) : impl_CountRooks.f l = some (if GoodR l then (cntR l, true) else (0, false)) := rfl

theorem FnExactCountRooks : laws_FnExactCountRooks.Pure := by
  intro l _ _
  refine ⟨2000010, ?_⟩
  unfold laws_FnExactCountRooks.f
  by_cases h : (l.length : Int) > 1048576
  · rw [if_pos h]
  · rw [if_neg h, e_toIntS _ l (by omega) (by omega)]
    simp only [Option.bind_some]
    rw [e_CountRooks _ l (by omega) (by omega), i_CountRooks]
    generalize (if GoodR l then (cntR l, true) else (0, false)) = r
    obtain ⟨r, b⟩ := r
    simp only [Option.bind_some, if_true, bne_self_eq_false]
    rw [laws_FnExactCountRooks.j0]
    simp only [Bool.false_eq_true, if_false]
    rw [e_toIntS _ l (by omega) (by omega)]
    simp only [Option.bind_some]
    rw [e_eqIntS _ l l (by omega) (by omega)]
    simp

end Go.Proofs.Ytmnkloghenjmoaa.Pure
