/- FullBoard: the law's function comes to true at all two whole numbers. -/
import Derived.Test.YtmnkloghenjmoaaPFnExactFullBoardx3
namespace Go.Proofs.Ytmnkloghenjmoaa.Pure
open Go.RowKit Go.Proofs.Ytmnkloghenjmoaa.PFnExactFullBoard Go.Proofs.YtmnkloghenjmoaaW.PrintWords Go.Proofs.YtmnkloghenjmoaaW.PrintLast

theorem p_l1In (a b c : Int) : spec_l1In.f a b c = some (decide (b ≤ a ∧ a ≤ c)) := by
  unfold spec_l1In.f
  by_cases h : b ≤ a
  · rw [if_pos h]; simp [h]
  · rw [if_neg h]; simp [h]
theorem p_boSide (a : Int) : spec_boSide.f a = some (decide (1 ≤ a ∧ a ≤ 6)) := by
  unfold spec_boSide.f; rw [p_l1In]; rfl
theorem p_within (a b c : Int) : impl_within.f a b c = some (decide (b ≤ a ∧ a ≤ c)) := by
  unfold impl_within.f
  by_cases h : b ≤ a
  · rw [if_pos h]; simp [h]
  · rw [if_neg h]; simp [h]
theorem p_isSide (a : Int) : impl_isSide.f a = some (decide (1 ≤ a ∧ a ≤ 6)) := by
  unfold impl_isSide.f; rw [p_within]; rfl

theorem fb_out (a0 a1 : Int) (h : ¬ ((1 ≤ a0 ∧ a0 ≤ 6) ∧ (1 ≤ a1 ∧ a1 ≤ 6))) : laws_FnExactFullBoard.f 10 a0 a1 = some true := by
  have hs : spec_FullBoard.f 10 a0 a1 = some (0, 0, [], false) := by
    unfold spec_FullBoard.f; rw [p_boSide, p_boSide]
    by_cases h0 : 1 ≤ a0 ∧ a0 ≤ 6
    · have h1 : ¬ (1 ≤ a1 ∧ a1 ≤ 6) := fun x => h ⟨h0, x⟩
      simp [h0, h1]
    · simp [h0]
  have hi : ∀ k, 5 ≤ k → impl_FullBoard.f k a0 a1 = some (0, 0, [], false) := by
    intro k hk
    obtain ⟨k, rfl⟩ : ∃ m, k = m + 1 := ⟨k - 1, by omega⟩
    unfold impl_FullBoard.f; rw [p_isSide, p_isSide]
    by_cases h0 : 1 ≤ a0 ∧ a0 ≤ 6
    · have h1 : ¬ (1 ≤ a1 ∧ a1 ≤ 6) := fun x => h ⟨h0, x⟩
      simp [h0, h1, impl_FullBoard.j0]
    · simp [h0, impl_FullBoard.j0]
  unfold laws_FnExactFullBoard.f
  rw [hs, hi 10 (by omega)]
  simp only [Option.bind_some]
  rw [show laws_eqBoard.f 10 0 0 [] 0 0 [] = some true from by decide +kernel]
  simp only [Option.bind_some, if_true, bne_self_eq_false]
  rw [laws_FnExactFullBoard.j0]
  simp only [Bool.false_eq_true, if_false]
  rw [show laws_markBoard.f 9 0 0 [] 1 = some (1, []) from by decide +kernel]
  simp only [Option.bind_some]
  rw [show laws_heldBoard.f 9 0 0 [] 1 = some 1 from by decide +kernel]
  simp only [Option.bind_some]
  rw [if_neg (by omega), if_pos trivial, hi 9 (by omega)]
  simp only [Option.bind_some]
  rw [show laws_eqBoard.f 9 0 0 [] 0 0 [] = some true from by decide +kernel]
  decide +kernel

theorem FnExactFullBoard : laws_FnExactFullBoard.Pure := by
  intro a0 a1 _ _
  by_cases h : (1 ≤ a0 ∧ a0 ≤ 6) ∧ (1 ≤ a1 ∧ a1 ≤ 6)
  · refine ⟨30, ?_⟩
    obtain ⟨⟨h0, h1⟩, h2, h3⟩ := h
    obtain h | h | h | h | h | h : a0 = 1 ∨ a0 = 2 ∨ a0 = 3 ∨ a0 = 4 ∨ a0 = 5 ∨ a0 = 6 := by omega
    all_goals
      obtain g | g | g | g | g | g : a1 = 1 ∨ a1 = 2 ∨ a1 = 3 ∨ a1 = 4 ∨ a1 = 5 ∨ a1 = 6 := by omega
      all_goals (subst h; subst g; decide +kernel)
  · exact ⟨10, fb_out a0 a1 h⟩

end Go.Proofs.Ytmnkloghenjmoaa.Pure
