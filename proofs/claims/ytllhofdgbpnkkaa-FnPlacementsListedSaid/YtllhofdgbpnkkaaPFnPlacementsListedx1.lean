-- Printed for this claim by wip/pp.py over the kit's printer; Lean checks it.
import Derived.Test.YtllhofdgbpnkkaaPFnPlacementsListedx0
namespace Go.Proofs.Ytllhofdgbpnkkaa.PFnPlacementsListed
open Go.RowKit Go.Proofs.YtllhofdgbpnkkaaW.PrintWords Go.Proofs.YtllhofdgbpnkkaaW.PrintLast Go.Proofs.YtllhofdgbpnkkaaW.PrintMore
attribute [local go_sem] max2_int min2_int max_two min_two max_three min_three max_four min_four   -- for this text's walks alone
set_option linter.unusedVariables false
set_option linter.unusedSimpArgs false

/-! ### laws_big: function 6 -/
def laws_big.f (l0 : List Int) (l1 : List Int) : Option (Bool) := if (l0.length : Int) > 1048576 then (some true) else (some (decide ((l1.length : Int) > (wrap64 (1048576 - (l0.length : Int))))))
set_option maxHeartbeats 8000000 in
set_option maxRecDepth 100000 in
theorem laws_big.calls (A0 : Option Addr) (c0 : Nat) (l0 : List Int) (A1 : Option Addr) (c1 : Nat) (l1 : List Int) (r : Bool) (w : World) (hr0 : Kd.C (Kd.int .u8) w A0 l0.length l0) (hc0 : l0.length ≤ c0) (hr1 : Kd.C (Kd.int .u8) w A1 l1.length l1) (hc1 : l1.length ≤ c1) (h : laws_big.f l0 l1 = some r) :
  Calls Try.prog 6 #[.slice A0 l0.length c0, .slice A1 l1.length c1] w fun e w' => e = .returned (.bool r) ∧ Drawn0 w w' := by
 have HR0 := Aside0.mk hr0
 have HC0 := Aside0.mk hc0
 clear hr0 hc0
 have HR1 := Aside0.mk hr1
 have HC1 := Aside0.mk hc1
 clear hr1 hc1
 have H : (if (l0.length : Int) > 1048576 then (some true) else (some (decide ((l1.length : Int) > (wrap64 (1048576 - (l0.length : Int))))))) = some r := h
 clear h
 by_cases c3 : (l0.length : Int) > 1048576
 ·
  rw [if_pos c3] at H
  have c3b0 : decide (1048576 < (l0.length : Int)) = true := decide_eq_true c3
  have c3b1 : decide (1048576 < l0.length) = true := decide_eq_true (by omega)
  clear c3
  obtain rfl := Option.some.inj H
  go_enter Try.func6, Try.ntmps6
  go_wp2
  go_ret
  exact ⟨Q3, Q4⟩
 ·
  rw [if_neg c3] at H
  have c3b0 : decide (1048576 < (l0.length : Int)) = false := decide_eq_false c3
  have c3b1 : decide (1048576 < l0.length) = false := decide_eq_false (by omega)
  clear c3
  obtain rfl := Option.some.inj H
  go_enter Try.func6, Try.ntmps6
  go_wp2
  go_ret
  exact ⟨Q3, Q4⟩

/-! ### impl_within: function 79 -/
def impl_within.f (a0 : Int) (a1 : Int) (a2 : Int) : Option (Bool) := if a1 ≤ a0 then (some (decide (a0 ≤ a2))) else (some false)
set_option maxHeartbeats 8000000 in
set_option maxRecDepth 100000 in
theorem impl_within.calls (a0 : Int) (a1 : Int) (a2 : Int) (r : Bool) (w : World) (h : impl_within.f a0 a1 a2 = some r) :
  Calls Try.prog 79 #[.int .i64 a0, .int .i64 a1, .int .i64 a2] w fun e w' => e = .returned (.bool r) ∧ Drawn0 w w' := by
 have H : (if a1 ≤ a0 then (some (decide (a0 ≤ a2))) else (some false)) = some r := h
 clear h
 by_cases c4 : a1 ≤ a0
 ·
  rw [if_pos c4] at H
  have c4b0 : decide (a1 ≤ a0) = true := decide_eq_true c4
  clear c4
  obtain rfl := Option.some.inj H
  go_enter Try.func79, Try.ntmps79
  go_wp2
  go_ret
  exact ⟨Q3, Q4⟩
 ·
  rw [if_neg c4] at H
  have c4b0 : decide (a1 ≤ a0) = false := decide_eq_false c4
  clear c4
  obtain rfl := Option.some.inj H
  go_enter Try.func79, Try.ntmps79
  go_wp2
  go_ret
  exact ⟨Q3, Q4⟩

/-! ### impl_isSide: function 74 -/
def impl_isSide.f (a0 : Int) : Option (Bool) := (impl_within.f a0 1 6).bind fun t101 => (some t101)
set_option maxHeartbeats 8000000 in
set_option maxRecDepth 100000 in
theorem impl_isSide.calls (a0 : Int) (r : Bool) (w : World) (h : impl_isSide.f a0 = some r) :
  Calls Try.prog 74 #[.int .i64 a0] w fun e w' => e = .returned (.bool r) ∧ Drawn0 w w' := by
 have H : ((impl_within.f a0 1 6).bind fun t101 => (some t101)) = some r := h
 clear h
 replace H := qE H
 obtain ⟨t101, A2, H⟩ := H
 replace H : (some t101) = some r := H
 obtain rfl := Option.some.inj H
 go_enter Try.func74, Try.ntmps74
 go_wp2_with (first | ((with_reducible refine gate_callee (f := 79) rfl ?_); refine qg (some 4) Try.func79 #[.int .i64 a0, .int .i64 1, .int .i64 6] ?_; (with_reducible refine (impl_within.calls a0 1 6 t101 _ A2.out).mono ?_); rintro e w' ⟨rfl, ⟨nd, rfl⟩⟩; refine ⟨_, rfl, ?_⟩))
 go_ret
 exact ⟨Q3, Q4⟩

/-! ### slices_IndexFunc_int_int_127: function 127 (by hand) -/
/-- The first index at which a test says yes, or -1. -/
def idxB {α : Type} (p : α → Bool) (l : List α) : Int := if l.any p then (l.findIdx p : Int) else -1
theorem idxB_hit {α : Type} [Inhabited α] (p : α → Bool) (l : List α) (i : Nat) (hi : i < l.length) (hp : p l[i] = true) (hn : ∀ j (h : j < l.length), j < i → p l[j] = false) : idxB p l = i := by
 unfold idxB
 have ha : l.any p = true := List.any_eq_true.2 ⟨l[i], List.getElem_mem _, hp⟩
 rw [if_pos ha]
 have h1 : l.findIdx p = i := by
  rw [List.findIdx_eq hi]
  exact ⟨hp, fun j hj => hn j (by omega) hj⟩
 rw [h1]
theorem idxB_miss {α : Type} (p : α → Bool) (l : List α) (hn : ∀ j (h : j < l.length), p l[j] = false) : idxB p l = -1 := by
 unfold idxB
 rw [if_neg]
 intro ha
 obtain ⟨x, hx, hp⟩ := List.any_eq_true.1 ha
 obtain ⟨j, hj, rfl⟩ := List.getElem_of_mem hx
 rw [hn j hj] at hp; cases hp
-- (walk)
set_option maxHeartbeats 400000 in
theorem indexFunc (fid : FuncId) (caps : Array Value) (p : Int → Bool) (A : Option Addr) (c : Nat) (l : List Int) (w : World) (hr : Kd.C (Kd.int .i64) w A l.length l) (hc : l.length ≤ c) (hlen : l.length ≤ 2000000)
  (hcall : ∀ (args : Array Value) (W : World), Sem.run Try.prog (callFunc fid args) W = .ok (.enter fid args) W)
  (hF : ∀ n m, Calls Try.prog fid (#[.int .i64 m] ++ caps) (w.drewN n) fun e w' => e = .returned (.bool (p m)) ∧ Drawn0 (w.drewN n) w') :
  Calls Try.prog 127 #[.slice A l.length c, .func (.func fid) #[] caps] w fun e w' => e = .returned (.int .i64 (idxB p l)) ∧ Drawn0 w w' := by
 have HR := Aside0.mk hr
 have HF := Aside0.mk hF
 clear hr hF
 go_enter Try.func127, Try.ntmps127
 go_wp2
 go_loopw [8] (fun v8 w' => ∃ i : Nat, i ≤ l.length ∧ v8 = .int .i64 i ∧ Aside0 (∀ j (h : j < l.length), j < i → p l[j] = false) ∧ Drawn0 w w') (fun v8 _ => l.length - (intOf v8).toNat)
 case atStart => exact ⟨0, Nat.zero_le _, rfl, ⟨fun j h hj => absurd hj (Nat.not_lt_zero _)⟩, Drawn0.refl _⟩
 case round =>
  obtain ⟨i, hi, rfl, HN, ⟨m1, rfl⟩⟩ := hrel
  by_cases hlt : i < l.length
  ·
   obtain ⟨ad, e, hx⟩ := Kd.at_int HR.out (i : Int) (by omega) (by omega)
   cases e
   rw [Int.toNat_natCast, show rd l (i : Int) = l[i] from by unfold rd; simp [List.getD, hlt]] at hx
   by_cases hp : p l[i] = true
   ·
    have HP := Aside0.mk hp
    clear hp
    have HC := am (fun n => HF.out n l[i])
    go_wp2_with ((with_reducible refine (HC.out _).mono ?_); rintro e w' ⟨rfl, ⟨nd, rfl⟩⟩; rw [HP.out])
    go_ret
    exact ⟨by rw [idxB_hit p l i hlt HP.out HN.out]; rfl, Q4⟩
   ·
    have HP := am (Bool.eq_false_iff.2 hp)
    clear hp
    have HC := am (fun n => HF.out n l[i])
    go_wp2_with ((with_reducible refine (HC.out _).mono ?_); rintro e w' ⟨rfl, ⟨nd, rfl⟩⟩; rw [HP.out])
    go_roundw
    case rel => exact ⟨i + 1, by omega, by go_num, ⟨fun j h hj => by
      rcases Nat.lt_succ_iff_lt_or_eq.1 hj with hj | rfl
      ·
       exact HN.out j h hj
      ·
       exact HP.out⟩, Q4⟩
    case measure => simp [intOf]; omega
  ·
   go_wp2
   go_ret
   exact ⟨by rw [idxB_miss p l (fun j h => HN.out j h (by omega))]; rfl, Q4⟩

/-! ### slices_ContainsFunc_int_int: function 80 (by hand) -/
-- (walk)
set_option maxHeartbeats 400000 in
theorem containsFunc (fid : FuncId) (caps : Array Value) (p : Int → Bool) (A : Option Addr) (c : Nat) (l : List Int) (w : World) (hr : Kd.C (Kd.int .i64) w A l.length l) (hc : l.length ≤ c) (hlen : l.length ≤ 2000000)
  (hcall : ∀ (args : Array Value) (W : World), Sem.run Try.prog (callFunc fid args) W = .ok (.enter fid args) W)
  (hF : ∀ n m, Calls Try.prog fid (#[.int .i64 m] ++ caps) (w.drewN n) fun e w' => e = .returned (.bool (p m)) ∧ Drawn0 (w.drewN n) w') :
  Calls Try.prog 80 #[.slice A l.length c, .func (.func fid) #[] caps] w fun e w' => e = .returned (.bool (l.any p)) ∧ Drawn0 w w' := by
 have HX := am (indexFunc fid caps p A c l w hr hc hlen hcall hF)
 clear hr hF hcall
 go_enter Try.func80, Try.ntmps80
 go_wp2_with (go_at_call 127; refine HX.out.mono ?_; rintro e w' ⟨rfl, ⟨nd, rfl⟩⟩)
 go_ret
 exact ⟨by unfold idxB; by_cases h : l.any p = true <;> simp [h] <;> rfl, Q4⟩

/-! ### impl_IsBoard: function 66 (by hand) -/
/-- A row that is no number below 2 to the columns. -/
def offB (a1 m : Int) : Bool := !(decide (0 ≤ m ∧ m ≤ 2 ^ a1.toNat - 1))
/-- Is it a board: rows, columns, one number a row, each below 2 to the columns. -/
def GoodB (a0 a1 : Int) (l : List Int) : Prop := (1 ≤ a0 ∧ a0 ≤ 6) ∧ (1 ≤ a1 ∧ a1 ≤ 6) ∧ (l.length : Int) = a0 ∧ ∀ x ∈ l, 0 ≤ x ∧ x ≤ 2 ^ a1.toNat - 1
instance (a0 a1 : Int) (l : List Int) : Decidable (GoodB a0 a1 l) := by unfold GoodB; exact inferInstance
def impl_IsBoard.f (a0_0 : Int) (a0_1 : Int) (l0_2 : List Int) : Option (Bool) := some (decide (GoodB a0_0 a0_1 l0_2))
-- (walk)
set_option maxHeartbeats 400000 in
theorem clos (g : Nat) (m a0 a1 : Int) (v2 : Value) (w : World) (hb : w.heap[g]? = some (.cells #[.int .i64 a0, .int .i64 a1, v2] 26 (0, 0))) (h1 : 1 ≤ a1) (h2 : a1 ≤ 6) :
  Calls Try.prog 123 #[.int .i64 m, .pointer (some ⟨g, 0, none⟩)] w fun e w' => e = .returned (.bool (offB a1 m)) ∧ Drawn0 w w' := by
 have hcell := blk_cell hb 1
 have hw : impl_within.f m 0 (wrap64 (wrap64 (2 ^ a1.toNat) - 1)) = some (decide (0 ≤ m ∧ m ≤ 2 ^ a1.toNat - 1)) := by
  have e : wrap64 (wrap64 (2 ^ a1.toNat) - 1) = 2 ^ a1.toNat - 1 := by
   obtain h | h | h | h | h | h : a1 = 1 ∨ a1 = 2 ∨ a1 = 3 ∨ a1 = 4 ∨ a1 = 5 ∨ a1 = 6 := by omega
   all_goals (subst h; decide +kernel)
  rw [e]; unfold impl_within.f
  by_cases h : 0 ≤ m
  ·
   rw [if_pos h]; simp [h]
  ·
   rw [if_neg h]; simp [h]
 have HW := Aside0.mk hw
 clear hw
 go_enter Try.func123, Try.ntmps123
 go_wp2_with (first | (go_at_call 79; refine (impl_within.calls _ _ _ _ _ HW.out).mono ?_; rintro e w' ⟨rfl, ⟨nd, rfl⟩⟩))
 go_ret
 exact ⟨by unfold offB; simp [Bool.decide_and], Q4⟩
theorem isSide_eq (a : Int) : impl_isSide.f a = some (decide (1 ≤ a ∧ a ≤ 6)) := by
 unfold impl_isSide.f impl_within.f
 by_cases h : 1 ≤ a
 ·
  rw [if_pos h]; simp [h]
 ·
  rw [if_neg h]; simp [h]
theorem isSide_yes (a : Int) (w : World) (h : 1 ≤ a ∧ a ≤ 6) : Calls Try.prog 74 #[.int .i64 a] w fun e w' => e = .returned (.bool true) ∧ Drawn0 w w' :=
 impl_isSide.calls a true w ((isSide_eq a).trans (congrArg some (decide_eq_true h)))
theorem isSide_no (a : Int) (w : World) (h : ¬ (1 ≤ a ∧ a ≤ 6)) : Calls Try.prog 74 #[.int .i64 a] w fun e w' => e = .returned (.bool false) ∧ Drawn0 w w' :=
 impl_isSide.calls a false w ((isSide_eq a).trans (congrArg some (decide_eq_false h)))
theorem goodB_any (a0 a1 : Int) (l : List Int) (h0 : 1 ≤ a0 ∧ a0 ≤ 6) (h1 : 1 ≤ a1 ∧ a1 ≤ 6) (hl : (l.length : Int) = a0) : (!(l.any (offB a1))) = decide (GoodB a0 a1 l) := by
 rw [Bool.eq_iff_iff]
 simp only [GoodB, h0, h1, hl, true_and, decide_eq_true_eq, Bool.not_eq_true', List.any_eq_false]
 simp [offB]
set_option maxHeartbeats 1000000 in
theorem impl_IsBoard.calls (a0_0 : Int) (a0_1 : Int) (A0_2 : Option Addr) (c0_2 : Nat) (l0_2 : List Int) (r : Bool) (w : World) (hr0_2 : Kd.C (Kd.int .i64) w A0_2 l0_2.length l0_2) (hc0_2 : l0_2.length ≤ c0_2) (h : impl_IsBoard.f a0_0 a0_1 l0_2 = some r) :
  Calls Try.prog 66 #[.agg #[.int .i64 a0_0, .int .i64 a0_1, .slice A0_2 l0_2.length c0_2]] w fun e w' => e = .returned (.bool r) ∧ Below w.heap.size w w' := by
 have hu30 := Try.underlying26
 have HH := Aside0.mk h
 have HR := Aside0.mk hr0_2
 clear h hr0_2
 by_cases h0 : 1 ≤ a0_0 ∧ a0_0 ≤ 6
 ·
  by_cases h1 : 1 ≤ a0_1 ∧ a0_1 ≤ 6
  ·
   by_cases hl : (l0_2.length : Int) = a0_0
   ·
    have hne : ((l0_2.length : Int) != a0_0) = false := by simpa using hl
    have HL := Aside0.mk hl
    clear hl
    have HG := am (goodB_any a0_0 a0_1 l0_2 h0 h1 HL.out)
    have HW := am ((Below.refl w.heap.size w).alloc (Nat.le_refl _) (Obj.cells #[.int .i64 a0_0, .int .i64 a0_1, .slice A0_2 l0_2.length c0_2] 26 (0, 0)))
    go_enter Try.func66, Try.ntmps66
    go_wp2_with (go_at_call 74; refine (isSide_yes _ _ (by omega)).mono ?_; rintro e w' ⟨rfl, ⟨nd, rfl⟩⟩)
    refine (containsFunc 123 #[.pointer (some ⟨w.heap.size, 0, none⟩)] (offB a0_1) _ _ l0_2 _ ?c1 (by omega) (by have := HL.out; omega) Try.call123 ?c2).mono ?_
    case c1 => (repeat (first | exact HR.out | apply Kd.C_drewN | apply Kd.C_drew | apply Kd.C_alloc))
    case c2 => exact fun n m => clos _ m a0_0 a0_1 _ _ (by (repeat (first | refine blk_drewN ?_ _ | refine blk_drew ?_)); simpa using heap_alloc_new w _) (by omega) (by omega)
    rintro e w' ⟨rfl, ⟨nd, rfl⟩⟩
    go_wp2
    go_ret
    exact ⟨by have := HH.out; unfold impl_IsBoard.f at this; rw [← HG.out] at this; rw [← Option.some.inj this]; rfl, Q63⟩
   ·
    have hne : ((l0_2.length : Int) != a0_0) = true := by simpa using hl
    have hg : ¬ GoodB a0_0 a0_1 l0_2 := fun g => hl g.2.2.1
    obtain rfl : false = r := by have := HH.out; unfold impl_IsBoard.f at this; rw [decide_eq_false hg] at this; injection this
    have HW := am ((Below.refl w.heap.size w).alloc (Nat.le_refl _) (Obj.cells #[.int .i64 a0_0, .int .i64 a0_1, .slice A0_2 l0_2.length c0_2] 26 (0, 0)))
    clear hl hg
    go_enter Try.func66, Try.ntmps66
    go_wp2_with (go_at_call 74; refine (isSide_yes _ _ (by omega)).mono ?_; rintro e w' ⟨rfl, ⟨nd, rfl⟩⟩)
    go_ret
    exact ⟨rfl, Q63⟩
  ·
   have hg : ¬ GoodB a0_0 a0_1 l0_2 := fun g => h1 g.2.1
   obtain rfl : false = r := by have := HH.out; unfold impl_IsBoard.f at this; rw [decide_eq_false hg] at this; injection this
   have HW := am ((Below.refl w.heap.size w).alloc (Nat.le_refl _) (Obj.cells #[.int .i64 a0_0, .int .i64 a0_1, .slice A0_2 l0_2.length c0_2] 26 (0, 0)))
   have H0 := Aside0.mk h0
   have H1 := Aside0.mk h1
   clear h1 hg h0
   go_enter Try.func66, Try.ntmps66
   go_wp2_with fail
   refine (isSide_yes _ _ H0.out).mono ?_
   rintro e w' ⟨rfl, ⟨nd, rfl⟩⟩
   go_wp2_with fail
   refine (isSide_no _ _ H1.out).mono ?_
   rintro e w' ⟨rfl, ⟨nd, rfl⟩⟩
   go_wp2_with fail
   go_ret
   exact ⟨rfl, Q63⟩
 ·
  have hg : ¬ GoodB a0_0 a0_1 l0_2 := fun g => h0 g.1
  obtain rfl : false = r := by have := HH.out; unfold impl_IsBoard.f at this; rw [decide_eq_false hg] at this; injection this
  have HW := am ((Below.refl w.heap.size w).alloc (Nat.le_refl _) (Obj.cells #[.int .i64 a0_0, .int .i64 a0_1, .slice A0_2 l0_2.length c0_2] 26 (0, 0)))
  have H0 := Aside0.mk h0
  clear hg h0
  go_enter Try.func66, Try.ntmps66
  go_wp2_with fail
  refine (isSide_no _ _ H0.out).mono ?_
  rintro e w' ⟨rfl, ⟨nd, rfl⟩⟩
  go_wp2_with fail
  go_ret
  exact ⟨rfl, Q63⟩

/-! ### impl_rooks: function 107 (by hand) -/
/-- How many numbers of a list are not -1. -/
def cntR : List Int → Int
 | [] => 0
 | x :: r => (if x = -1 then 0 else 1) + cntR r
theorem cntR_le : ∀ l : List Int, 0 ≤ cntR l ∧ cntR l ≤ l.length
 | [] => ⟨Int.le_refl _, Int.le_refl _⟩
 | x :: r => by
  have := cntR_le r
  simp only [cntR, List.length_cons]
  split <;> omega
def impl_rooks.f (l0 : List Int) : Option (Int) := if l0.length ≤ 2000000 then some (cntR l0) else none
-- (walk)
theorem cntR_step (l : List Int) (i : Nat) (h : i < l.length) : cntR (l.take (i + 1)) = cntR (l.take i) + (if l[i] = -1 then 0 else 1) := by
 have app : ∀ a b : List Int, cntR (a ++ b) = cntR a + cntR b := by
  intro a
  induction a with
  | nil => intro b; simp [cntR]
  | cons x a ih => intro b; simp only [List.cons_append, cntR, ih]; omega
 rw [List.take_succ_eq_append_getElem h, app]; simp [cntR]
set_option maxHeartbeats 1000000 in
theorem impl_rooks.calls (A0 : Option Addr) (c0 : Nat) (l0 : List Int) (r : Int) (w : World) (hr0 : Kd.C (Kd.int .i64) w A0 l0.length l0) (hc0 : l0.length ≤ c0) (h : impl_rooks.f l0 = some r) :
  Calls Try.prog 107 #[.slice A0 l0.length c0] w fun e w' => e = .returned (.int .i64 r) ∧ Drawn0 w w' := by
 have HR := Aside0.mk hr0
 clear hr0
 unfold impl_rooks.f at h
 by_cases hlen : l0.length ≤ 2000000
 ·
  rw [if_pos hlen] at h
  obtain rfl := Option.some.inj h
  clear h
  go_enter Try.func107, Try.ntmps107
  go_wp2
  go_loopw [3, 8] (fun v3 v8 w' => ∃ i : Nat, i ≤ l0.length ∧ v8 = .int .i64 i ∧ v3 = .int .i64 (cntR (l0.take i)) ∧ Drawn0 w w') (fun _ v8 _ => l0.length - (intOf v8).toNat)
  case atStart => exact ⟨0, Nat.zero_le _, rfl, rfl, Drawn0.refl _⟩
  case round =>
   obtain ⟨i, hi, rfl, rfl, ⟨m1, rfl⟩⟩ := hrel
   have hb := cntR_le (l0.take i)
   have hl : (l0.take i).length ≤ 2000000 := by rw [List.length_take]; omega
   by_cases hlt : i < l0.length
   ·
    obtain ⟨ad, e, hx⟩ := Kd.at_int HR.out (i : Int) (by omega) (by omega)
    cases e
    rw [Int.toNat_natCast, show rd l0 (i : Int) = l0[i] from by unfold rd; simp [List.getD, hlt]] at hx
    have HS := am (cntR_step l0 i hlt)
    by_cases hp : l0[i] = -1
    ·
     have hb0 : (l0[i] != -1) = false := by simp [hp]
     have HP := Aside0.mk hp
     clear hp
     go_wp2
     go_roundw
     case rel => exact ⟨i + 1, by omega, by go_num, by rw [HS.out, if_pos HP.out, Int.add_zero], Q4⟩
     case measure => simp [intOf]; omega
    ·
     have hb0 : (l0[i] != -1) = true := by simp [hp]
     have HP := Aside0.mk hp
     clear hp
     go_wp2
     go_roundw
     case rel => exact ⟨i + 1, by omega, by go_num, by rw [HS.out, if_neg HP.out], Q4⟩
     case measure => simp [intOf]; omega
   ·
    have he : l0.take i = l0 := List.take_of_length_le (by omega)
    have HE := Aside0.mk he
    clear he
    go_wp2
    go_ret
    exact ⟨by rw [HE.out]; rfl, Q4⟩
 ·
  rw [if_neg hlen] at h; exact absurd h (by simp)

/-! ### impl_Board_has: function 120 -/
def impl_Board_has.f (a0_0 : Int) (a0_1 : Int) (l0_2 : List Int) (a1 : Int) (a2 : Int) : Option (Bool) := if 0 ≤ a1 then (if a1 < (l0_2.length : Int) then (if 0 ≤ a2 then (some ((Go.bits .and .i64 (shr .i64 (rd l0_2 a1) a2) 1) == 1)) else (none)) else (none)) else (none)
set_option maxHeartbeats 8000000 in
set_option maxRecDepth 100000 in
theorem impl_Board_has.calls (a0_0 : Int) (a0_1 : Int) (A0_2 : Option Addr) (c0_2 : Nat) (l0_2 : List Int) (a1 : Int) (a2 : Int) (r : Bool) (w : World) (hr0_2 : Kd.C (Kd.int .i64) w A0_2 l0_2.length l0_2) (hc0_2 : l0_2.length ≤ c0_2) (h : impl_Board_has.f a0_0 a0_1 l0_2 a1 a2 = some r) :
  Calls Try.prog 120 #[.agg #[.int .i64 a0_0, .int .i64 a0_1, .slice A0_2 l0_2.length c0_2], .int .i64 a1, .int .i64 a2] w fun e w' => e = .returned (.bool r) ∧ Below w.heap.size w w' := by
 have hu26 := Try.underlying26
 have HR0_2 := Aside0.mk hr0_2
 have HC0_2 := Aside0.mk hc0_2
 clear hr0_2 hc0_2
 have HB := am (Below.refl w.heap.size w)
 have H : (if 0 ≤ a1 then (if a1 < (l0_2.length : Int) then (if 0 ≤ a2 then (some ((Go.bits .and .i64 (shr .i64 (rd l0_2 a1) a2) 1) == 1)) else (none)) else (none)) else (none)) = some r := h
 clear h
 by_cases c4 : 0 ≤ a1
 ·
  rw [if_pos c4] at H
  have c4b0 : decide (0 ≤ a1) = true := decide_eq_true c4
  clear c4
  by_cases c5 : a1 < (l0_2.length : Int)
  ·
   rw [if_pos c5] at H
   have c5b0 : decide (a1 < (l0_2.length : Int)) = true := decide_eq_true c5
   clear c5
   by_cases c6 : 0 ≤ a2
   ·
    rw [if_pos c6] at H
    have c6b0 := eq_true c6
    have c6b1 : decide (0 ≤ a2) = true := decide_eq_true c6
    clear c6
    obtain ⟨ji7, hji7⟩ : ∃ j_ : Int, (shr .i64 (rd l0_2 a1) a2) = j_ := ⟨_, rfl⟩
    replace H : (some ((Go.bits .and .i64 (ji7) 1) == 1)) = some r := by first | (rw [hji7] at H; exact H) | (simp only [hji7] at H ⊢; exact H)
    have hji7_ : ((rd l0_2 a1) / 2 ^ min a2.toNat 64) = ji7 := hji7
    have hji7z : a2 ≤ 64 → ((rd l0_2 a1) / 2 ^ a2.toNat) = ji7 := shr_small hji7
    obtain rfl := Option.some.inj H
    go_enter Try.func120, Try.ntmps120
    go_wp2_with (first | ((with_reducible refine gate_dst (N := 3) rfl ?_); refine qv 3 #[.int .i64 a0_0, .int .i64 a0_1, .slice A0_2 l0_2.length c0_2] 26 ?_; intro gb102 hg w8 hbox hb; have BK102 := am hbox; have GW102 := qw hg; have GE102 := qw hg; replace HB := qs hb; clear hb hbox hg; obtain ⟨zq9, zq10, zq11, fq9, fq10, fq11⟩ := qd BK102; have p103 : 0 ≤ (a1 : Int) := of_decide_eq_true Q1; have q103 : a1 < (l0_2.length : Int) := of_decide_eq_true Q1; obtain ⟨ad103, e103, hx103_0⟩ := Kd.at_int HR0_2.out a1 p103 q103; cases e103; replace hx103_0 := (HB.out.cell (World.block_lt_of_cell? w _ hx103_0)).trans hx103_0; replace p103 := eq_true p103; replace q103 := eq_true q103))
    go_ret
    exact ⟨Q55, qb⟩
   ·
    rw [if_neg c6] at H
    exact absurd H (by simp)
  ·
   rw [if_neg c5] at H
   exact absurd H (by simp)
 ·
  rw [if_neg c4] at H
  exact absurd H (by simp)

/-! ### impl_Board_walk: function 125 (by hand) -/
/-- May a rook stand in a column of a row, other columns being taken? -/
def okC (m taken : Int) (j : Nat) : Bool := (Go.bits .and .i64 (shr .i64 m (j : Int)) 1 == 1) && !(Go.bits .and .i64 (shr .i64 taken (j : Int)) 1 == 1)
/-- The columns taken, with one more. -/
def orC (taken : Int) (j : Nat) : Int := Go.bits .or .i64 taken (shl .i64 1 (j : Int))
/-- All placements in order: rows that are left, columns taken, what stands before. -/
def plc (C : Nat) : List Int → Int → List Int → List (List Int)
 | [], _, acc => [acc]
 | m :: t, taken, acc => (List.range (C + 1)).flatMap fun i => if i = 0 then plc C t taken (acc ++ [-1]) else if okC m taken (i - 1) then plc C t (orC taken (i - 1)) (acc ++ [((i - 1 : Nat) : Int)]) else []
theorem plc_len (C : Nat) (hC : C ≤ 6) : ∀ (l : List Int) (taken : Int) (acc : List Int), (plc C l taken acc).length ≤ 7 ^ l.length := by
 intro l
 induction l with
 | nil => intro taken acc; simp [plc]
 | cons m t ih =>
  intro taken acc
  have key : ∀ (n : Nat) (f : Nat → List (List Int)), (∀ i, (f i).length ≤ 7 ^ t.length) → ((List.range n).flatMap f).length ≤ n * 7 ^ t.length := by
   intro n f hf
   induction n with
   | zero => simp
   | succ n ihn => rw [List.range_succ, List.flatMap_append, List.length_append, Nat.succ_mul]; simp only [List.flatMap_cons, List.flatMap_nil, List.append_nil]; have := hf n; omega
  unfold plc
  refine Nat.le_trans (key (C + 1) _ (fun i => ?_)) ?_
  ·
   split
   ·
    exact ih _ _
   ·
    split
    ·
     exact ih _ _
    ·
     simp
  ·
   rw [List.length_cons, Nat.pow_succ, Nat.mul_comm]
   exact Nat.mul_le_mul_left _ (by omega)
-- (walk)
/-- A walk's variables in memory. -/
def WkB (w : World) (gb gd gp gq gg gr R C cq cp : Nat) (A : Option Addr) (l : List Int) (fid : FuncId) (caps : Array Value) : Prop :=
 w.heap[gb]? = some (.cells #[.int .i64 R, .int .i64 C, .slice A l.length cp] 26 (0, 0)) ∧
 w.heap[gd]? = some (.cells #[.func (.func fid) #[] caps] 86 (0, 0)) ∧
 w.heap[gp]? = some (.cells #[.slice (some ⟨gq, 0, none⟩) R cq] 24 (0, 0)) ∧
 w.heap[gg]? = some (.cells #[.bool true] 4 (0, 0)) ∧
 w.heap[gr]? = some (.cells #[.func (.func 137) #[] #[.pointer (some ⟨gb, 0, none⟩), .pointer (some ⟨gd, 0, none⟩), .pointer (some ⟨gp, 0, none⟩), .pointer (some ⟨gg, 0, none⟩), .pointer (some ⟨gr, 0, none⟩)]] 105 (0, 0))
/-- What a walk keeps, and what it calls. -/
structure WalkJ (σ : Type) (ok : σ → List Int → Prop) (J : σ → List Int → World → Prop) (step : σ → List Int → σ) (gb gd gp gq gg gr R C cq cp : Nat) (A : Option Addr) (l : List Int) (fid : FuncId) (caps : Array Value) : Prop where
 blk : ∀ s q w, J s q w → WkB w gb gd gp gq gg gr R C cq cp A l fid caps
 len : ∀ s q w, J s q w → q.length = R
 came : ∀ s q w, J s q w → Kd.C (Kd.int .i64) w A l.length l
 cell : ∀ s q w, J s q w → ∀ i, i < R → (∃ v, w.cell? ⟨gq, i, none⟩ = some v) ∧ w.frozen? ⟨gq, i, none⟩ = false
 set : ∀ s q w, J s q w → ∀ i (v : Int), i < R → J s (q.set i v) (w.setCell ⟨gq, i, none⟩ (.int .i64 v))
 going : ∀ s q w, J s q w → J s q (w.setCell ⟨gg, 0, none⟩ (.bool true))
 below : ∀ s q w w', J s q w → Below w.heap.size w w' → J s q w'
 call : ∀ s q w, J s q w → ok s q → Calls Try.prog fid (#[.slice (some ⟨gq, 0, none⟩) R cq] ++ caps) w fun e w' => e = .returned (.bool true) ∧ J (step s q) q w'
theorem shr_nat (x : Int) (j : Nat) (h : j ≤ 64) : shr .i64 x (j : Int) = x / 2 ^ j := by
 unfold shr
 rw [Int.toNat_natCast, Nat.min_eq_left (show j ≤ IntKind.i64.bits from h)]
theorem orC_eq (x : Int) (j : Nat) (h : j ≤ 64) : Go.bits .or .i64 x (wrap64 (2 ^ j)) = orC x j := by
 unfold orC shl
 rw [Int.toNat_natCast, Nat.min_eq_left (show j ≤ IntKind.i64.bits from h), Int.one_mul, i64_w]
theorem take_set_snoc (q acc : List Int) (r : Nat) (v : Int) (h : q.take r = acc) (hr : r < q.length) : (q.set r v).take (r + 1) = acc ++ [v] := by
 rw [List.take_succ_eq_append_getElem (by simpa using hr), List.take_set_of_le (Nat.le_refl r), h]; simp
theorem take_of_snoc (q acc : List Int) (r : Nat) (v : Int) (h : q.take (r + 1) = acc ++ [v]) (hr : r < q.length) : q.take r = acc := by
 rw [List.take_succ_eq_append_getElem hr] at h
 exact (List.append_inj' h rfl).1
set_option maxHeartbeats 1000000 in
set_option maxRecDepth 2000 in
theorem wk_row {σ : Type} {ok : σ → List Int → Prop} {J : σ → List Int → World → Prop} {step : σ → List Int → σ} {gb gd gp gq gg gr R C cq cp : Nat} {A : Option Addr} {l : List Int} {fid : FuncId} {caps : Array Value}
  (hJ : WalkJ σ ok J step gb gd gp gq gg gr R C cq cp A l fid caps) (hcall : ∀ (args : Array Value) (W : World), Sem.run Try.prog (callFunc fid args) W = .ok (.enter fid args) W) (hlR : l.length = R) (hR : R ≤ 6) (hC : C ≤ 6) (hcp : l.length ≤ cp) :
  ∀ (d r : Nat) (taken : Int) (acc q : List Int) (s : σ) (w : World), r + d = R → q.take r = acc → (∀ L1 q' L2, plc C (l.drop r) taken acc = L1 ++ q' :: L2 → ok (L1.foldl step s) q') → J s q w →
  Calls Try.prog 137 #[.int .i64 r, .int .i64 taken, .pointer (some ⟨gb, 0, none⟩), .pointer (some ⟨gd, 0, none⟩), .pointer (some ⟨gp, 0, none⟩), .pointer (some ⟨gg, 0, none⟩), .pointer (some ⟨gr, 0, none⟩)] w
   fun e w' => e = .returned (.tuple #[]) ∧ ∃ q', q'.take r = acc ∧ J ((plc C (l.drop r) taken acc).foldl step s) q' w' := by
 have HJ := Aside0.mk hJ
 have HLR := Aside0.mk hlR
 clear hJ hlR
 intro d
 induction d with
 | zero =>
  intro r taken acc q s w hr ht hok hw
  have HOK := am (show ok s q from by
   have e1 : l.drop r = [] := List.drop_eq_nil_of_le (by have := HLR.out; omega)
   rw [e1] at hok
   have e2 := hok [] acc [] (by simp [plc])
   simp only [List.foldl_nil] at e2
   rwa [← ht, List.take_of_length_le (by rw [HJ.out.len s q w hw]; omega)] at e2)
  clear hok
  obtain rfl : r = R := hr
  have hb := HJ.out.blk s q w hw
  obtain ⟨b1, b2, b3, b4, b5⟩ := hb
  have c1 := blk_cell b1 0
  have c2 := blk_cell b2 0
  have c3 := blk_cell b3 0
  have HW := Aside0.mk hw
  have HT := Aside0.mk ht
  clear hw ht
  go_enter Try.func137, Try.ntmps137
  go_wp2_with fail
  refine (HJ.out.call s q w HW.out HOK.out).mono ?_
  rintro e w1 ⟨rfl, hw1⟩
  have d4 := (HJ.out.blk _ _ _ hw1).2.2.2.1
  have e4 := blk_cell d4 0
  have f4 := blk_frozen d4 0
  have HW1 := am (HJ.out.going _ _ _ hw1)
  have HL := am (HJ.out.len _ _ _ hw1)
  clear hw1 d4
  go_wp2
  first | go_end0 | ((try simp only [Exit.inBlock, Exit.then]); refine bodyPost_ret (results_none rfl _ _ _) rfl ?_)
  refine ⟨rfl, q, HT.out, ?_⟩
  rw [List.drop_eq_nil_of_le (by have := HLR.out; omega)]
  simp only [plc, List.foldl_cons, List.foldl_nil]
  rw [← HT.out, List.take_of_length_le (by rw [HL.out]; exact Nat.le_refl _)]
  exact HW1.out
 | succ d ih =>
  intro r taken acc q s w hr ht hok hw
  have hlt : r < R := by omega
  have hltl : r < l.length := by have := HLR.out; omega
  have HIH := Aside0.mk ih
  clear ih
  obtain ⟨cand, hcand⟩ : ∃ cand : Nat → List (List Int), cand = fun i => if i = 0 then plc C (l.drop (r + 1)) taken (acc ++ [-1]) else if okC l[r] taken (i - 1) then plc C (l.drop (r + 1)) (orC taken (i - 1)) (acc ++ [((i - 1 : Nat) : Int)]) else [] := ⟨_, rfl⟩
  have HPL := am (show plc C (l.drop r) taken acc = (List.range (C + 1)).flatMap cand by rw [List.drop_eq_getElem_cons hltl, hcand]; rfl)
  have HOK := am (show ∀ i, i ≤ C → ∀ L1 q' L2, cand i = L1 ++ q' :: L2 → ok (L1.foldl step (((List.range i).flatMap cand).foldl step s)) q' from fun i hi L1 q' L2 hx => by
   have e1 := hok ((List.range i).flatMap cand ++ L1) q' (L2 ++ ((List.range (C + 1)).drop (i + 1)).flatMap cand) (by
    rw [HPL.out, List.append_assoc, ← List.cons_append, ← List.append_assoc L1, ← hx]
    conv => lhs; rw [← List.take_append_drop i (List.range (C + 1))]
    rw [List.take_range, Nat.min_eq_left (by omega), List.drop_eq_getElem_cons (by rw [List.length_range]; omega), List.getElem_range, List.flatMap_append, List.flatMap_cons])
   rwa [List.foldl_append] at e1)
  clear hok
  have HC := Aside0.mk hcand
  clear hcand
  obtain ⟨b1, b2, b3, b4, b5⟩ := HJ.out.blk s q w hw
  have c1 := blk_cell b1 0
  have hne : ((r : Int) == (R : Int)) = false := by simp; omega
  have HW := Aside0.mk hw
  have HT := Aside0.mk ht
  clear hw ht b1 b2 b3 b4 b5
  go_enter Try.func137, Try.ntmps137
  go_wp2_with fail
  clear c1
  go_loopw [9] (fun v9 w' => ∃ (i : Nat) (q' : List Int), i ≤ C + 1 ∧ v9 = .int .i64 ((i : Int) - 1) ∧ Aside0 (q'.take r = acc) ∧ Aside0 (J (((List.range i).flatMap cand).foldl step s) q' w')) (fun v9 _ => ((C : Int) - intOf v9).toNat)
  case atStart => exact ⟨0, q, by omega, rfl, HT, HW⟩
  case round =>
   clear HW HT
   obtain ⟨i, q', hi, rfl, HT, HW⟩ := hrel
   obtain ⟨b1, b2, b3, b4, b5⟩ := HJ.out.blk _ _ _ HW.out
   have c1 := blk_cell b1 1
   have c4 := blk_cell b4 0
   by_cases hiC : i ≤ C
   ·
    have hlt2 : decide (((i : Int) - 1) < (C : Int)) = true := decide_eq_true (by omega)
    rcases i with _ | j
    ·
     rw [show ((0 : Nat) : Int) - 1 = -1 from rfl] at *
     have c3 := blk_cell b3 0
     obtain ⟨⟨v0, hv0⟩, hf0⟩ := HJ.out.cell _ _ _ HW.out r hlt
     have hw2 := HJ.out.set _ _ _ HW.out r (-1) hlt
     have e5 := blk_cell (HJ.out.blk _ _ _ hw2).2.2.2.2 0
     have HW2 := Aside0.mk hw2
     clear hw2 b1 b2 b3 b4 b5
     have HC0 := am (show ((List.range 1).flatMap cand).foldl step s = (plc C (l.drop (r + 1)) taken (acc ++ [-1])).foldl step (((List.range 0).flatMap cand).foldl step s) by rw [HC.out]; simp [List.range_succ])
     have HT2 := am (take_set_snoc q' acc r (-1) HT.out (by rw [HJ.out.len _ _ _ HW.out]; exact hlt))
     go_wp2_with fail
     rw [show ((r : Int) + 1) = ((r + 1 : Nat) : Int) from by omega]
     refine (HIH.out (r + 1) taken (acc ++ [-1]) (q'.set r (-1)) _ _ (by omega) HT2.out (by have := HOK.out 0 (by omega); rwa [show cand 0 = plc C (l.drop (r + 1)) taken (acc ++ [-1]) from by rw [HC.out]; rfl] at this) HW2.out).mono ?_
     rintro e w3 ⟨rfl, q3, ht3, hw3⟩
     rw [← HC0.out] at hw3
     have HW3 := Aside0.mk hw3
     have HT3 := am (take_of_snoc q3 acc r (-1) ht3 (by have := HJ.out.len _ _ _ hw3; omega))
     clear hw3 ht3
     go_wp2
     go_roundw
     case rel => exact ⟨1, q3, by omega, rfl, HT3, HW3⟩
     case measure => simp [intOf]
    ·
     rw [show ((j + 1 : Nat) : Int) - 1 = (j : Int) from by omega] at *
     have hge : decide ((0 : Int) ≤ (j : Int)) = true := decide_eq_true (by omega)
     have hjC : j < C := by omega
     have HS := am (show ((List.range (j + 1 + 1)).flatMap cand).foldl step s = (if okC l[r] taken j then plc C (l.drop (r + 1)) (orC taken j) (acc ++ [(j : Int)]) else []).foldl step (((List.range (j + 1)).flatMap cand).foldl step s) by
      rw [List.range_succ, List.flatMap_append, List.foldl_append, HC.out]; simp)
     have hh : impl_Board_has.f (R : Int) (C : Int) l (r : Int) (j : Int) = some (Go.bits .and .i64 (shr .i64 l[r] (j : Int)) 1 == 1) := by
      unfold impl_Board_has.f
      rw [if_pos (by omega), if_pos (by omega), if_pos (by omega), show rd l (r : Int) = l[r] from by unfold rd; simp [List.getD, hltl]]
     have HH := Aside0.mk hh
     clear hh
     have HCC := am (HJ.out.came _ _ _ HW.out)
     have c10 := blk_cell b1 0
     have c12 := blk_cell b1 2
     clear b1 b2 b4
     by_cases hhas : (Go.bits .and .i64 (shr .i64 l[r] (j : Int)) 1 == 1) = true
     ·
      rw [hhas] at HH
      have HHas := Aside0.mk hhas
      clear hhas
      go_wp2_with fail
      refine (impl_Board_has.calls _ _ _ _ l _ _ _ _ HCC.out hcp HH.out).mono ?_
      rintro e w2 ⟨rfl, hb2⟩
      have HW2 := am (HJ.out.below _ _ _ _ HW.out hb2)
      clear hb2
      have hw2 := HW2.out
      obtain ⟨b1, b2, b3, b4, b5⟩ := HJ.out.blk _ _ _ hw2
      by_cases htk : (Go.bits .and .i64 (taken / 2 ^ j) 1 == 1) = true
      ·
       have HO := am (show okC l[r] taken j = false by unfold okC; rw [shr_nat taken j (by omega), htk, HHas.out]; rfl)
       clear b1 b2 b3 b4 b5 hw2
       go_wp2
       go_roundw
       case rel => exact ⟨j + 1 + 1, q', by omega, by go_num, HT, ⟨by rw [HS.out, HO.out]; exact HW2.out⟩⟩
       case measure => simp [intOf]; omega
      ·
       have htk2 := Bool.eq_false_iff.2 htk
       have HO := am (show okC l[r] taken j = true by unfold okC; rw [shr_nat taken j (by omega), htk2, HHas.out]; rfl)
       clear htk
       have c3 := blk_cell b3 0
       obtain ⟨⟨v0, hv0⟩, hf0⟩ := HJ.out.cell _ _ _ hw2 r hlt
       have hw4 := HJ.out.set _ _ _ hw2 r (j : Int) hlt
       have e5 := blk_cell (HJ.out.blk _ _ _ hw4).2.2.2.2 0
       have HW4 := Aside0.mk hw4
       have HT2 := am (take_set_snoc q' acc r (j : Int) HT.out (by rw [HJ.out.len _ _ _ HW.out]; exact hlt))
       clear hw2 hw4 b1 b2 b3 b4 b5
       go_wp2_with fail
       rw [show ((r : Int) + 1) = ((r + 1 : Nat) : Int) from by omega, orC_eq taken j (by omega)]
       refine (HIH.out (r + 1) (orC taken j) (acc ++ [(j : Int)]) (q'.set r (j : Int)) _ _ (by omega) HT2.out (by have := HOK.out (j + 1) (by omega); rwa [show cand (j + 1) = plc C (l.drop (r + 1)) (orC taken j) (acc ++ [(j : Int)]) from by rw [HC.out]; simp only [Nat.add_one_ne_zero, if_false, Nat.add_sub_cancel, HO.out, if_true]] at this) HW4.out).mono ?_
       rintro e w3 ⟨rfl, q3, ht3, hw3⟩
       have HW3 := am (show J (((List.range (j + 1 + 1)).flatMap cand).foldl step s) q3 w3 by rw [HS.out, HO.out]; exact hw3)
       have HT3 := am (take_of_snoc q3 acc r (j : Int) ht3 (by have := HJ.out.len _ _ _ hw3; omega))
       clear hw3 ht3
       go_wp2
       go_roundw
       case rel => exact ⟨j + 1 + 1, q3, by omega, by go_num, HT3, HW3⟩
       case measure => simp [intOf]; omega
     ·
      rw [Bool.eq_false_iff.2 hhas] at HH
      have HO := am (show okC l[r] taken j = false by unfold okC; rw [Bool.eq_false_iff.2 hhas]; rfl)
      clear hhas
      go_wp2_with fail
      refine (impl_Board_has.calls _ _ _ _ l _ _ _ _ HCC.out hcp HH.out).mono ?_
      rintro e w2 ⟨rfl, hb2⟩
      have HW2 := am (HJ.out.below _ _ _ _ HW.out hb2)
      clear hb2
      go_wp2
      go_roundw
      case rel => exact ⟨j + 1 + 1, q', by omega, by go_num, HT, ⟨by rw [HS.out, HO.out]; exact HW2.out⟩⟩
      case measure => simp [intOf]; omega
   ·
    obtain rfl : i = C + 1 := by omega
    rw [show ((C + 1 : Nat) : Int) - 1 = (C : Int) from by omega] at *
    clear b1 b2 b3 b4 b5
    go_wp2
    first | go_end0 | ((try simp only [Exit.inBlock, Exit.then]); refine bodyPost_ret (results_none rfl _ _ _) rfl ?_)
    refine ⟨rfl, q', HT.out, ?_⟩
    rw [HPL.out]
    exact HW.out
/-- A walk's invariant, from its caller's. -/
def WkJ {σ : Type} (S : Nat → σ → World → Prop) (N0 N1 gb gd gp gq gg gr R C cq cp : Nat) (A : Option Addr) (l : List Int) (fid : FuncId) (caps : Array Value) (s : σ) (q : List Int) (w : World) : Prop :=
 WkB w gb gd gp gq gg gr R C cq cp A l fid caps ∧ q.length = R ∧ N1 ≤ w.heap.size ∧ Kd.R (Kd.int .i64) 3 w N0 (fun k => N0 ≤ k ∧ k < N1) (.slice (some ⟨gq, 0, none⟩) R cq) q ∧ S N1 s w
theorem wk_own {w : World} {N0 N1 gq R cq : Nat} {q : List Int} (h : Kd.R (Kd.int .i64) 3 w N0 (fun k => N0 ≤ k ∧ k < N1) (.slice (some ⟨gq, 0, none⟩) R cq) q) (hR : 0 < R) : (N0 ≤ gq ∧ gq < N1) ∧ ∃ cells, w.heap[gq]? = some (.cells cells 3 (0, 0)) := by
 have hl := (Kd.R_reads' h).1
 obtain ⟨g, cap, e, _, _, hc⟩ := Kd.R_form h (by omega)
 injection e with e _ _
 injection e with e
 injection e with e _ _
 subst e
 exact ⟨h.1 gq (by simp [Value.ownBlock]), hc⟩
theorem blk_ty {w : World} {g g' : Nat} {t t' : TypeId} {cs cs' : Array Value} (h : w.heap[g]? = some (.cells cs t (0, 0))) (h' : w.heap[g']? = some (.cells cs' t' (0, 0))) (hne : t ≠ t') : g ≠ g' := blk_ne h h' hne
theorem wk_J {σ : Type} {ok : σ → List Int → Prop} {S : Nat → σ → World → Prop} {step : σ → List Int → σ} {N0 N1 gb gd gp gq gg gr R C cq cp : Nat} {A : Option Addr} {l : List Int} {fid : FuncId} {caps : Array Value} (hR : 0 < R) (h01 : N0 ≤ N1) (hg : (N0 ≤ gb ∧ gb < N1) ∧ (N0 ≤ gd ∧ gd < N1) ∧ (N0 ≤ gp ∧ gp < N1) ∧ (N0 ≤ gg ∧ gg < N1) ∧ (N0 ≤ gr ∧ gr < N1))
  (stab : ∀ N1 s w1 w2, S N1 s w1 → Below N0 w1 w2 → (∀ k, N1 ≤ k → k < w1.heap.size → w2.heap[k]? = w1.heap[k]?) → S N1 s w2)
  (came : ∀ N1 s w1, S N1 s w1 → Kd.C (Kd.int .i64) w1 A l.length l)
  (call : ∀ N1 s q w1 gq cq, S N1 s w1 → N1 ≤ w1.heap.size → N0 ≤ N1 → q.length = R → ok s q → Kd.C (Kd.int .i64) w1 (some ⟨gq, 0, none⟩) q.length q → q.length ≤ cq → Calls Try.prog fid (#[.slice (some ⟨gq, 0, none⟩) R cq] ++ caps) w1 fun e w2 => e = .returned (.bool true) ∧ S N1 (step s q) w2 ∧ w1.heap.size ≤ w2.heap.size ∧ ∀ k, N0 ≤ k → k < N1 → w2.heap[k]? = w1.heap[k]?) :
  WalkJ σ ok (WkJ S N0 N1 gb gd gp gq gg gr R C cq cp A l fid caps) step gb gd gp gq gg gr R C cq cp A l fid caps := by
 constructor
 ·
  exact fun s q w h => h.1
 ·
  exact fun s q w h => h.2.1
 ·
  exact fun s q w h => came _ _ _ h.2.2.2.2
 ·
  intro s q w h i hi
  obtain ⟨h1, h2⟩ := Kd.R_celln 0 h.2.2.2.1 (i : Int) (by omega) (by omega)
  rw [Int.toNat_natCast] at h1 h2
  exact ⟨⟨_, h1⟩, h2⟩
 ·
  intro s q w h i v hi
  obtain ⟨hb, hl, hN, hq, hS⟩ := h
  obtain ⟨hgq, cells, hc⟩ := wk_own hq hR
  have hp := Kd.R_putn hq (i : Int) v
  rw [Int.toNat_natCast] at hp
  obtain ⟨b1, b2, b3, b4, b5⟩ := hb
  refine ⟨⟨blk_far b1 (p := ⟨gq, i, none⟩) (blk_ty b1 hc (by decide)) _, blk_far b2 (p := ⟨gq, i, none⟩) (blk_ty b2 hc (by decide)) _, blk_far b3 (p := ⟨gq, i, none⟩) (blk_ty b3 hc (by decide)) _, blk_far b4 (p := ⟨gq, i, none⟩) (blk_ty b4 hc (by decide)) _, blk_far b5 (p := ⟨gq, i, none⟩) (blk_ty b5 hc (by decide)) _⟩, by rw [List.length_set]; exact hl, ?_, hp, ?_⟩
  ·
   exact Nat.le_trans hN ((Below.refl N0 w).setCell (p := ⟨gq, i, none⟩) hgq.1 _).size
  ·
   exact stab _ _ _ _ hS ((Below.refl N0 w).setCell (p := ⟨gq, i, none⟩) hgq.1 _) (fun k hk _ => Below.heap_setCell w ⟨gq, i, none⟩ _ k (by have := hgq.2; show k ≠ gq; omega))
 ·
  intro s q w h
  obtain ⟨hb, hl, hN, hq, hS⟩ := h
  obtain ⟨b1, b2, b3, b4, b5⟩ := hb
  obtain ⟨hgq, cells, hc⟩ := wk_own hq hR
  refine ⟨⟨blk_far b1 (p := ⟨gg, 0, none⟩) (blk_ty b1 b4 (by decide)) _, blk_far b2 (p := ⟨gg, 0, none⟩) (blk_ty b2 b4 (by decide)) _, blk_far b3 (p := ⟨gg, 0, none⟩) (blk_ty b3 b4 (by decide)) _, blk_put b4 0 _ (by simp), blk_far b5 (p := ⟨gg, 0, none⟩) (blk_ty b5 b4 (by decide)) _⟩, hl, ?_, ?_, ?_⟩
  ·
   exact Nat.le_trans hN ((Below.refl N0 w).setCell (p := ⟨gg, 0, none⟩) hg.2.2.2.1.1 _).size
  ·
   exact Kd.R_set hq b4 Q61 0 _
  ·
   exact stab _ _ _ _ hS ((Below.refl N0 w).setCell (p := ⟨gg, 0, none⟩) hg.2.2.2.1.1 _) (fun k hk _ => Below.heap_setCell w ⟨gg, 0, none⟩ _ k (by have := hg.2.2.2.1.2; show k ≠ gg; omega))
 ·
  intro s q w w' h hbl
  obtain ⟨hb, hl, hN, hq, hS⟩ := h
  obtain ⟨b1, b2, b3, b4, b5⟩ := hb
  exact ⟨⟨blk_below b1 hbl, blk_below b2 hbl, blk_below b3 hbl, blk_below b4 hbl, blk_below b5 hbl⟩, hl, Nat.le_trans hN hbl.size, Kd.R_below hq hbl, stab _ _ _ _ hS ⟨hbl.os, hbl.tape, hbl.output, hbl.size, fun k hk => hbl.block k (by omega)⟩ (fun k _ hk => hbl.block k hk)⟩
 ·
  intro s q w h hok
  obtain ⟨hb, hl, hN, hq, hS⟩ := h
  have hrd := Kd.R_reads' hq
  refine (call N1 s q w gq cq hS hN h01 hl hok hrd.2.2 (by omega)).mono ?_
  rintro e w2 ⟨rfl, h2, h3, h4⟩
  obtain ⟨b1, b2, b3, b4, b5⟩ := hb
  have keep : ∀ {g : Nat} {o : Obj}, w.heap[g]? = some o → (N0 ≤ g ∧ g < N1) → w2.heap[g]? = some o := fun hb hg => (h4 _ hg.1 hg.2).trans hb
  exact ⟨rfl, ⟨keep b1 hg.1, keep b2 hg.2.1, keep b3 hg.2.2.1, keep b4 hg.2.2.2.1, keep b5 hg.2.2.2.2⟩, hl, Nat.le_trans hN h3, Kd.R_step hq (fun k hk _ => h4 k hk.1 hk.2), h2⟩
set_option maxHeartbeats 1000000 in
set_option maxRecDepth 2000 in
theorem wk_all {σ : Type} {ok : σ → List Int → Prop} {S : Nat → σ → World → Prop} {step : σ → List Int → σ} {s0 : σ} {R C cp : Nat} {A : Option Addr} {l : List Int} {fid : FuncId} {caps : Array Value} {w : World} (hR : 0 < R) (hR6 : R ≤ 6) (hC6 : C ≤ 6) (hlR : l.length = R) (hcp : l.length ≤ cp) (hok : ∀ L1 q' L2, plc C l 0 [] = L1 ++ q' :: L2 → ok (L1.foldl step s0) q')
  (hcall : ∀ (args : Array Value) (W : World), Sem.run Try.prog (callFunc fid args) W = .ok (.enter fid args) W)
  (start : ∀ w1, Below w.heap.size w w1 → S w1.heap.size s0 w1)
  (stab : ∀ N1 s w1 w2, S N1 s w1 → Below w.heap.size w1 w2 → (∀ k, N1 ≤ k → k < w1.heap.size → w2.heap[k]? = w1.heap[k]?) → S N1 s w2)
  (came : ∀ N1 s w1, S N1 s w1 → Kd.C (Kd.int .i64) w1 A l.length l)
  (call : ∀ N1 s q w1 gq cq, S N1 s w1 → N1 ≤ w1.heap.size → w.heap.size ≤ N1 → q.length = R → ok s q → Kd.C (Kd.int .i64) w1 (some ⟨gq, 0, none⟩) q.length q → q.length ≤ cq → Calls Try.prog fid (#[.slice (some ⟨gq, 0, none⟩) R cq] ++ caps) w1 fun e w2 => e = .returned (.bool true) ∧ S N1 (step s q) w2 ∧ w1.heap.size ≤ w2.heap.size ∧ ∀ k, w.heap.size ≤ k → k < N1 → w2.heap[k]? = w1.heap[k]?) :
  Calls Try.prog 125 #[.agg #[.int .i64 R, .int .i64 C, .slice A l.length cp], .func (.func fid) #[] caps] w fun e w' => e = .returned (.tuple #[]) ∧ ∃ N1, w.heap.size ≤ N1 ∧ S N1 ((plc C l 0 []).foldl step s0) w' := by
 have START := Aside0.mk start
 have STAB := Aside0.mk stab
 have CAME := Aside0.mk came
 have CALL := Aside0.mk call
 have HLR := Aside0.mk hlR
 have HOK := Aside0.mk hok
 have HCF := Aside0.mk hcall
 have HB := am (Below.refl w.heap.size w)
 have info3 := info3
 clear start stab came call hlR hcall hok
 have e0 : decide ((0 : Int) ≤ (R : Int)) = true := decide_eq_true (by omega)
 go_enter Try.func125, Try.ntmps125
 go_wp2_with (first
  | ((with_reducible refine gate_dst (N := 2) rfl ?_); refine qv 2 #[.int .i64 R, .int .i64 C, .slice A l.length cp] 26 ?_; intro gb hgb w1 bb hb1; have GB := Aside0.mk hgb; have BB := Aside0.mk bb; have HB1 := Aside0.mk hb1; clear hgb bb hb1)
  | ((with_reducible refine gate_dst (N := 3) rfl ?_); refine qv 3 #[.func (.func fid) #[] caps] 86 ?_; intro gd hgd w2 bd hb2; have GD := Aside0.mk hgd; have BD := Aside0.mk bd; have bb0 := BB.out; have cb := blk_cell (blk_below bb0 hb2) 0; have HB2 := Aside0.mk hb2; clear hgd bd hb2 bb0)
  | ((with_reducible refine gate_dst (N := 9) rfl ?_); refine Kd.R_make (Kd.int .i64) (w0 := w2) w2.heap.size 3 rfl (N := 9) rfl 24 _ _ rfl (R : Int) rfl rfl Try.underlying24 (.int .i64 0) 8 info3 rfl (by decide) (by omega) 0 (ok := fun _ => True) (okp := fun _ => True) rfl (fun _ hk => hk) trivial (by omega) (by omega) (Below.refl _ _) (Nat.le_refl _) ?_; intro v1 w3 ho hb3 hgr3 hnw3; rw [Int.toNat_natCast] at ho; obtain ⟨gq, cq, ev, hq1, hq2, hq3⟩ := Kd.R_form ho (by rw [List.length_replicate]; exact hR); rw [List.length_replicate] at ev; subst ev; have HQ1 := Aside0.mk hq1; have HQ2 := Aside0.mk hq2; clear hq1 hq2 hq3; have HO := Aside0.mk ho; have HB3 := Aside0.mk hb3; clear ho hb3 hgr3 hnw3 cb)
  | ((with_reducible refine gate_dst (N := 4) rfl ?_); refine qv 4 #[.slice none 0 0] 24 ?_; intro gp hgp w4 bp hb4; have GP := Aside0.mk hgp; have BP := Aside0.mk bp; have HB4 := Aside0.mk hb4; clear hgp bp hb4)
  | ((with_reducible refine gate_dst (N := 5) rfl ?_); refine qv 5 #[.bool false] 4 ?_; intro gg hgg w5 bg hb5; have GG := Aside0.mk hgg; have BG := Aside0.mk bg; have HB5 := Aside0.mk hb5; have cp0 := blk_cell (blk_below BP.out hb5) 0; have fp0 := blk_frozen (blk_below BP.out hb5) 0; have cg0 := blk_cell (blk_far bg (p := ⟨gp, 0, none⟩) (blk_ne bg (blk_below BP.out hb5) (by decide)) (.slice (some ⟨gq, 0, none⟩) R cq)) 0; have fg0 := blk_frozen (blk_far bg (p := ⟨gp, 0, none⟩) (blk_ne bg (blk_below BP.out hb5) (by decide)) (.slice (some ⟨gq, 0, none⟩) R cq)) 0; clear hgg bg hb5)
  | ((with_reducible refine gate_dst (N := 6) rfl ?_); clear cp0 fp0 cg0 fg0; refine qv 6 #[.nilFunc] 105 ?_; intro gr hgr w7 br hb7; have GR := Aside0.mk hgr; have BR := Aside0.mk br; have HB7 := Aside0.mk hb7; have cr0 : w7.cell? ⟨gr, 0, none⟩ = some .nilFunc := (blk_cell br 0).trans rfl; have fr0 := blk_frozen br 0; have cr1 := blk_cell (blk_put (cs' := #[.func (.func 137) #[] #[.pointer (some ⟨gb, 0, none⟩), .pointer (some ⟨gd, 0, none⟩), .pointer (some ⟨gp, 0, none⟩), .pointer (some ⟨gg, 0, none⟩), .pointer (some ⟨gr, 0, none⟩)]]) br 0 (.func (.func 137) #[] #[.pointer (some ⟨gb, 0, none⟩), .pointer (some ⟨gd, 0, none⟩), .pointer (some ⟨gp, 0, none⟩), .pointer (some ⟨gg, 0, none⟩), .pointer (some ⟨gr, 0, none⟩)]) rfl) 0;  clear hgr br hb7)
  )
 clear cr0 fr0 cr1
 obtain ⟨V, hV⟩ : ∃ V : Value, V = .func (.func 137) #[] #[.pointer (some ⟨gb, 0, none⟩), .pointer (some ⟨gd, 0, none⟩), .pointer (some ⟨gp, 0, none⟩), .pointer (some ⟨gg, 0, none⟩), .pointer (some ⟨gr, 0, none⟩)] := ⟨_, rfl⟩
 obtain ⟨W6, hW6⟩ : ∃ W6 : World, W6 = (w5.setCell ⟨gp, 0, none⟩ (.slice (some ⟨gq, 0, none⟩) R cq)).setCell ⟨gg, 0, none⟩ (.bool true) := ⟨_, rfl⟩
 obtain ⟨W9, hW9⟩ : ∃ W9 : World, W9 = w7.setCell ⟨gr, 0, none⟩ V := ⟨_, rfl⟩
 rw [← hV, ← hW9]
 have hB1 := HB1.out
 have hB2 := HB2.out
 have hB3 := HB3.out
 have hB4 := HB4.out
 have hB5 := HB5.out
 have hB7 := HB7.out
 rw [← hW6] at hB7
 have hgb := GB.out
 have hgd := GD.out
 have hgp := GP.out
 have hgg := GG.out
 have hgr := GR.out
 rw [← hW6] at hgr
 have s1 := hB1.size
 have s2 := hB2.size
 have s3 := hB3.size
 have s4 := hB4.size
 have s5 := hB5.size
 have T5 : Below w.heap.size w w5 := below_step (below_step (below_step (below_step hB1 hB2) hB3) hB4) hB5
 have T6 : Below w.heap.size w W6 := by rw [hW6]; exact below_set (below_set T5 (by omega)) (by omega)
 have s6 := T6.size
 have T7 : Below w.heap.size w w7 := below_step T6 hB7
 have T9 : Below w.heap.size w W9 := by rw [hW9]; exact below_set T7 (by omega)
 have bgp5 := blk_below BP.out hB5
 have bgg5 := BG.out
 have bgp6 : W6.heap[gp]? = some (.cells #[.slice (some ⟨gq, 0, none⟩) R cq] 24 (0, 0)) := by
  rw [hW6]; exact blk_far (p := ⟨gg, 0, none⟩) (blk_put bgp5 0 _ rfl) (blk_ne bgp5 bgg5 (by decide)) _
 have bgg6 : W6.heap[gg]? = some (.cells #[.bool true] 4 (0, 0)) := by
  rw [hW6]; exact blk_put (blk_far (p := ⟨gp, 0, none⟩) bgg5 (blk_ne bgg5 bgp5 (by decide)) _) 0 _ rfl
 have bgr7 := BR.out
 have c56 : ∀ {g : Nat} {t : TypeId} {cs : Array Value}, w5.heap[g]? = some (.cells cs t (0, 0)) → t ≠ 24 → t ≠ 4 → W6.heap[g]? = some (.cells cs t (0, 0)) := by
  intro g t cs h h1 h2
  rw [hW6]
  exact blk_far (p := ⟨gg, 0, none⟩) (blk_far (p := ⟨gp, 0, none⟩) h (blk_ne h bgp5 h1) _) (blk_ne h bgg5 h2) _
 have c69 : ∀ {g : Nat} {t : TypeId} {cs : Array Value}, W6.heap[g]? = some (.cells cs t (0, 0)) → t ≠ 105 → W9.heap[g]? = some (.cells cs t (0, 0)) := by
  intro g t cs h h1
  rw [hW9]
  exact blk_far (p := ⟨gr, 0, none⟩) (blk_below h hB7) (blk_ne (blk_below h hB7) bgr7 h1) _
 have B1 := c69 (c56 (blk_below (blk_below (blk_below (blk_below BB.out hB2) hB3) hB4) hB5) (by decide) (by decide)) (by decide)
 have B2 := c69 (c56 (blk_below (blk_below (blk_below BD.out hB3) hB4) hB5) (by decide) (by decide)) (by decide)
 have B3 := c69 bgp6 (by decide)
 have B4 := c69 bgg6 (by decide)
 have B5 : W9.heap[gr]? = some (.cells #[V] 105 (0, 0)) := by rw [hW9]; exact blk_put bgr7 0 _ rfl
 have R5 := Kd.R_below (Kd.R_below HO.out hB4) hB5
 have R6 : Kd.R (Kd.int .i64) 3 W6 w2.heap.size (fun _ => True) (.slice (some ⟨gq, 0, none⟩) R cq) (List.replicate R 0) := by
  rw [hW6]
  exact Kd.R_set (Kd.R_set R5 bgp5 Q61 0 _) (blk_far (p := ⟨gp, 0, none⟩) bgg5 (blk_ne bgg5 bgp5 (by decide)) _) Q61 0 _
 have R9 : Kd.R (Kd.int .i64) 3 W9 w2.heap.size (fun _ => True) (.slice (some ⟨gq, 0, none⟩) R cq) (List.replicate R 0) := by
  rw [hW9]
  exact Kd.R_set (Kd.R_below R6 hB7) bgr7 Q61 0 _
 have R10 := Kd.R_mono (ok' := fun k => w.heap.size ≤ k ∧ k < W9.heap.size) (Kd.R_bound (Kd.R_lower R9 (show w.heap.size ≤ w2.heap.size by omega))) (fun k hk => ⟨hk.2.1, hk.2.2.1⟩)
 have l1 := blk_lt B1
 have l2 := blk_lt B2
 have l3 := blk_lt B3
 have l4 := blk_lt B4
 have l5 := blk_lt B5
 have HJ := wk_J (R := R) (C := C) (cp := cp) (cq := cq) (gq := gq) (fid := fid) (caps := caps) hR T9.size (gb := gb) (gd := gd) (gp := gp) (gg := gg) (gr := gr) ⟨⟨by omega, l1⟩, ⟨by omega, l2⟩, ⟨by omega, l3⟩, ⟨by omega, l4⟩, ⟨by omega, l5⟩⟩ STAB.out CAME.out CALL.out
 have hrow := wk_row HJ HCF.out HLR.out hR6 hC6 hcp R 0 0 [] (List.replicate R 0) s0 W9 (by omega) rfl HOK.out ⟨⟨B1, B2, B3, B4, by rw [← hV]; exact B5⟩, List.length_replicate, Nat.le_refl _, R10, START.out W9 T9⟩
 refine hrow.mono ?_
 rintro e w10 ⟨rfl, q', -, hj⟩
 have HS := Aside0.mk hj.2.2.2.2
 have HN := Aside0.mk T9.size
 clear hj hrow HJ R10 R9 R6 R5 B1 B2 B3 B4 B5 c69 c56 l1 l2 l3 l4 l5 bgp5 bgg5 bgp6 bgg6 bgr7 T5 T6 T7 T9
 go_wp2
 first | go_end0 | ((try simp only [Exit.inBlock, Exit.then]); refine bodyPost_ret (results_none rfl _ _ _) rfl ?_)
 exact ⟨rfl, _, HN.out, HS.out⟩

/-! ### impl_Board_numbers: function 78 (by hand) -/
/-- One placement more is counted. -/
def bumpN (s q : List Int) : List Int := s.set (cntR q).toNat (wrap64 (rd s (cntR q) + 1))
def impl_Board_numbers.f (a0_0 a0_1 : Int) (l0_2 : List Int) : Option (List Int) := if 0 < a0_0 ∧ a0_0 ≤ 6 ∧ 0 ≤ a0_1 ∧ a0_1 ≤ 6 ∧ (l0_2.length : Int) = a0_0 ∧ ((plc a0_1.toNat l0_2 0 []).all fun x => decide (cntR x ≤ min a0_0 a0_1)) = true then some ((plc a0_1.toNat l0_2 0 []).foldl bumpN (List.replicate (min a0_0 a0_1 + 1).toNat 0)) else none
-- (walk)
set_option maxHeartbeats 1000000 in
set_option maxRecDepth 2000 in
theorem nb_one {gv go gq R cq M co base : Nat} {okp : Nat → Prop} {out q : List Int} {w : World} (hv : w.heap[gv]? = some (.cells #[.slice (some ⟨go, 0, none⟩) M co] 24 (0, 0))) (ho : Kd.R (Kd.int .i64) 3 w base okp (.slice (some ⟨go, 0, none⟩) M co) out)
  (hq : Kd.C (Kd.int .i64) w (some ⟨gq, 0, none⟩) q.length q) (hqR : q.length = R) (hcq : q.length ≤ cq) (h6 : R ≤ 6) (hM : cntR q < M) :
  Calls Try.prog 126 #[.slice (some ⟨gq, 0, none⟩) R cq, .pointer (some ⟨gv, 0, none⟩)] w fun e w2 => e = .returned (.bool true) ∧ ∃ n, w2 = (w.drewN n).setCell ⟨go, (cntR q).toNat, none⟩ (.int .i64 (wrap64 (rd out (cntR q) + 1))) := by
 subst hqR
 have c1 := blk_cell hv 0
 have hb := cntR_le q
 have hf : impl_rooks.f q = some (cntR q) := by unfold impl_rooks.f; rw [if_pos (by omega)]
 have hc := Kd.R_celln (0 : Int) ho (cntR q) hb.1 (by omega)
 have h0 : decide (0 ≤ cntR q) = true := decide_eq_true hb.1
 have h1 : decide (cntR q < (M : Int)) = true := decide_eq_true hM
 obtain ⟨k1, k2⟩ := hc
 have HQ := Aside0.mk hq
 have HF := Aside0.mk hf
 clear hq hf hv ho
 go_enter Try.func126, Try.ntmps126
 go_wp2
 go_region_with (go_at_call 107; (refine (impl_rooks.calls _ _ q (cntR q) _ ?side1 hcq HF.out).mono ?_); (case side1 => exact Q41); rintro e w' ⟨rfl, ⟨nd, rfl⟩⟩)
 all_goals (simp only [Exit.then]; go_wp2; go_ret; exact ⟨rfl, _, by rw [i64_w]; rfl⟩)
set_option maxHeartbeats 1000000 in
set_option maxRecDepth 4000 in
theorem nb_walk {R C cp M gv go co : Nat} {A : Option Addr} {l s0 : List Int} {w0 w : World} (hR : 0 < R) (hR6 : R ≤ 6) (hC6 : C ≤ 6) (hlR : l.length = R) (hcp : l.length ≤ cp) (hM : 0 < M) (hok : ∀ x ∈ plc C l 0 [], cntR x < M)
  (B0 : Below w0.heap.size w0 w) (hv : w.heap[gv]? = some (.cells #[.slice (some ⟨go, 0, none⟩) M co] 24 (0, 0))) (hgv : w0.heap.size ≤ gv) (ho : Kd.R (Kd.int .i64) 3 w w0.heap.size (fun _ => True) (.slice (some ⟨go, 0, none⟩) M co) s0) (hA : Kd.C (Kd.int .i64) w0 A l.length l) :
  Calls Try.prog 125 #[.agg #[.int .i64 R, .int .i64 C, .slice A l.length cp], .func (.func 126) #[] #[.pointer (some ⟨gv, 0, none⟩)]] w fun e w' => e = .returned (.tuple #[]) ∧ w'.heap[gv]? = some (.cells #[.slice (some ⟨go, 0, none⟩) M co] 24 (0, 0)) ∧ Kd.R (Kd.int .i64) 3 w' w0.heap.size (fun _ => True) (.slice (some ⟨go, 0, none⟩) M co) ((plc C l 0 []).foldl bumpN s0) ∧ Below w0.heap.size w0 w' := by
 have hB := B0.size
 have hlv := blk_lt hv
 have hmain := wk_all (σ := List Int) (ok := fun _ q => cntR q < M) (S := fun N1 s w1 => s.length = M ∧ w1.heap[gv]? = some (.cells #[.slice (some ⟨go, 0, none⟩) M co] 24 (0, 0)) ∧ Kd.R (Kd.int .i64) 3 w1 w0.heap.size (fun k => w0.heap.size ≤ k ∧ k < w.heap.size) (.slice (some ⟨go, 0, none⟩) M co) s ∧ Below w0.heap.size w0 w1)
  (step := bumpN) (s0 := s0) (A := A) (l := l) (cp := cp) (R := R) (C := C) (fid := 126) (caps := #[.pointer (some ⟨gv, 0, none⟩)]) (w := w) hR hR6 hC6 hlR hcp (fun L1 q' L2 he => hok q' (by rw [he]; simp)) (fun _ _ => by kernel_rfl)
  (fun w1 hb => ⟨(Kd.R_reads' ho).1.symm, blk_below hv hb, Kd.R_below (Kd.R_mono (Kd.R_bound ho) (fun k hk => ⟨hk.2.1, hk.2.2.1⟩)) hb, below_step B0 hb⟩)
  (fun N1 s w1 w2 hs hb _ => ⟨hs.1, (hb.block gv hlv).trans hs.2.1, Kd.R_step hs.2.2.1 (fun k hk _ => hb.block k hk.2), below_weaken hs.2.2.2 hB hb⟩)
  (fun N1 s w1 hs => Kd.C_below hA hs.2.2.2)
  (fun N1 s q w1 gq cq hs hN1 hN hq hoq hc hcq => by
   obtain ⟨hl, hv1, ho1, hb1⟩ := hs
   obtain ⟨hgo, cells, hcells⟩ := wk_own ho1 hM
   refine (nb_one hv1 ho1 hc hq hcq hR6 hoq).mono ?_
   rintro e w2 ⟨rfl, n, rfl⟩
   have hp := Kd.R_putn (Kd.R_drewN ho1 n) (cntR q) (wrap64 (rd s (cntR q) + 1))
   have hcd : (w1.drewN n).heap[go]? = some (.cells cells 3 (0, 0)) := hcells
   refine ⟨rfl, ⟨by unfold bumpN; rw [List.length_set]; exact hl, blk_far (p := ⟨go, (cntR q).toNat, none⟩) (blk_drewN hv1 n) (blk_ne (blk_drewN hv1 n) hcd (by decide)) _, hp, below_set (pw_below_drewN hb1 n) hgo.1⟩, ?_, ?_⟩
   ·
    exact ((Below.refl w0.heap.size (w1.drewN n)).setCell (p := ⟨go, (cntR q).toNat, none⟩) hgo.1 _).size
   ·
    intro k hk1 hk2
    exact Below.heap_setCell (w1.drewN n) ⟨go, (cntR q).toNat, none⟩ _ k (by have := hgo.2; show k ≠ go; omega))
 refine hmain.mono ?_
 rintro e w' ⟨rfl, N1, _, h1, h2, h3, h4⟩
 exact ⟨rfl, h2, Kd.R_mono h3 (fun _ _ => trivial), h4⟩
set_option maxHeartbeats 1000000 in
set_option maxRecDepth 2000 in
theorem impl_Board_numbers.calls (a0_0 : Int) (a0_1 : Int) (A0_2 : Option Addr) (c0_2 : Nat) (l0_2 : List Int) (r : List Int) (w : World) (hr0_2 : Kd.C (Kd.int .i64) w A0_2 l0_2.length l0_2) (hc0_2 : l0_2.length ≤ c0_2) (h : impl_Board_numbers.f a0_0 a0_1 l0_2 = some r) :
  Calls Try.prog 78 #[.agg #[.int .i64 a0_0, .int .i64 a0_1, .slice A0_2 l0_2.length c0_2]] w fun e w' => ∃ v0_ : Value, e = .returned (v0_) ∧ Kd.R (Kd.int .i64) 3 w' w.heap.size (fun _ => True) v0_ r ∧ Below w.heap.size w w' := by
 have info3 := info3
 unfold impl_Board_numbers.f at h
 by_cases hc : 0 < a0_0 ∧ a0_0 ≤ 6 ∧ 0 ≤ a0_1 ∧ a0_1 ≤ 6 ∧ (l0_2.length : Int) = a0_0 ∧ ((plc a0_1.toNat l0_2 0 []).all fun x => decide (cntR x ≤ min a0_0 a0_1)) = true
 case neg => rw [if_neg hc] at h; exact absurd h (by simp)
 rw [if_pos hc] at h
 obtain ⟨h1, h2, h3, h4, h5, h6⟩ := hc
 have HRes := am (Option.some.inj h)
 clear h
 obtain ⟨C, rfl⟩ := Int.eq_ofNat_of_zero_le h3
 obtain ⟨R, rfl⟩ := Int.eq_ofNat_of_zero_le (Int.le_of_lt h1)
 obtain ⟨M, hM⟩ : ∃ M : Nat, M = min R C + 1 := ⟨_, rfl⟩
 have hmin : (min (R : Int) (C : Int)) = ((min R C : Nat) : Int) := by omega
 rw [Int.toNat_natCast] at HRes h6
 rw [hmin] at HRes h6
 have HALL := am (show ∀ x ∈ plc C l0_2 0 [], cntR x < M from fun x hx => by
  have := List.all_eq_true.1 h6 x hx
  have := of_decide_eq_true this
  omega)
 have hRl : l0_2.length = R := by omega
 have HR0 := Aside0.mk hr0_2
 have HRL := Aside0.mk hRl
 have HM := Aside0.mk hM
 clear hr0_2 h6 hRl h5 hM hmin
 by_cases hRC : C < R
 all_goals
  go_enter Try.func78, Try.ntmps78
  go_wp2_with (first
   | ((with_reducible refine gate_dst (N := 1) rfl ?_); refine qv 1 #[.int .i64 R, .int .i64 C, .slice A0_2 l0_2.length c0_2] 26 ?_; intro gb hgb w1 bb hb1; have GB := Aside0.mk hgb; have BB := Aside0.mk bb; have HB1 := Aside0.mk hb1; have c10 := blk_cell bb 0; have c11 := blk_cell bb 1; clear hgb bb hb1)
   | ((with_reducible refine gate_dst (N := 10) rfl ?_); refine Kd.R_make (Kd.int .i64) (w0 := w1) w1.heap.size 3 rfl (N := 10) rfl 24 _ _ rfl _ rfl rfl Try.underlying24 (.int .i64 0) 8 info3 rfl (by decide) (by omega) 0 (ok := fun _ => True) (okp := fun _ => True) rfl (fun _ hk => hk) trivial (by omega) (by omega) (Below.refl _ _) (Nat.le_refl _) ?_; intro v1 w3 ho hb3 hgr3 hnw3; (first | rw [show ((R : Int) + 1).toNat = M from by have := HM.out; omega] at ho | rw [show ((C : Int) + 1).toNat = M from by have := HM.out; omega] at ho); obtain ⟨go, co, ev, hq1, hq2, hq3⟩ := Kd.R_form ho (by rw [List.length_replicate]; have := HM.out; omega); rw [List.length_replicate] at ev; subst ev; have HQ1 := Aside0.mk hq1; have HQ2 := Aside0.mk hq2; clear hq1 hq2 hq3; have HO := Aside0.mk ho; have HB3 := Aside0.mk hb3; clear ho hb3 hgr3 hnw3 c10 c11)
   | ((with_reducible refine gate_dst (N := 3) rfl ?_); refine qv 3 #[.slice none 0 0] 24 ?_; intro gv hgv w4 bv hb4; have cv0 := blk_cell bv 0; have fv0 := blk_frozen bv 0; have bb4 := blk_far (p := ⟨gv, 0, none⟩) (blk_below (blk_below BB.out HB3.out) hb4) (blk_ne (blk_below (blk_below BB.out HB3.out) hb4) bv (by decide)) (.slice (some ⟨go, 0, none⟩) M co); have c20 := blk_cell bb4 0; have c21 := blk_cell bb4 1; have c22 := blk_cell bb4 2; have GV := Aside0.mk hgv; have BV := Aside0.mk bv; have HB4 := Aside0.mk hb4; clear bb4 hgv bv hb4)
   )
 all_goals
  have hB1 := HB1.out
  have hB3 := HB3.out
  have hB4 := HB4.out
  have hgv := GV.out
  have T4 : Below w.heap.size w w4 := below_step (below_step hB1 hB3) hB4
  have s1 := hB1.size
  have s3 := hB3.size
  have T5 : Below w.heap.size w (w4.setCell ⟨gv, 0, none⟩ (.slice (some ⟨go, 0, none⟩) M co)) := below_set T4 (by omega)
  have O4 := Kd.R_set (Kd.R_below HO.out hB4) BV.out Q61 0 (.slice (some ⟨go, 0, none⟩) M co)
  have HW := nb_walk (R := R) (C := C) (cp := c0_2) (A := A0_2) (l := l0_2) (by omega) (by omega) (by omega) HRL.out hc0_2 (by have := HM.out; omega) HALL.out T5 (blk_put BV.out 0 _ rfl) (by omega) (Kd.R_lower O4 s1) HR0.out
  clear T4 T5 O4 cv0 fv0 c20 c21 c22 s1 s3 hgv hB1 hB3 hB4
  refine HW.mono ?_
  rintro e w6 ⟨rfl, hv6, ho6, hb6⟩
  have cv6 := blk_cell hv6 0
  have Oq1 := Aside0.mk ho6
  have HB6 := Aside0.mk hb6
  clear HW hv6 ho6 hb6
  go_wp2
  go_ret
  exact ⟨_, rfl, by rw [← HRes.out, show (((min R C : Nat) : Int) + 1).toNat = M from by have := HM.out; omega]; exact Oq1.out, HB6.out⟩

/-! ### impl_RookNumbers: function 23 -/
def impl_RookNumbers.f (a0_0 : Int) (a0_1 : Int) (l0_2 : List Int) : Option (List Int × Bool) := (impl_IsBoard.f a0_0 a0_1 l0_2).bind fun t105 => (if t105 = true then ((impl_Board_numbers.f a0_0 a0_1 l0_2).bind fun t106 => (some (t106, true))) else (some (([] : List Int), false)))
set_option maxHeartbeats 8000000 in
set_option maxRecDepth 100000 in
theorem impl_RookNumbers.calls (a0_0 : Int) (a0_1 : Int) (A0_2 : Option Addr) (c0_2 : Nat) (l0_2 : List Int) (r1 : List Int) (r2 : Bool) (w : World) (hr0_2 : Kd.C (Kd.int .i64) w A0_2 l0_2.length l0_2) (hc0_2 : l0_2.length ≤ c0_2) (h : impl_RookNumbers.f a0_0 a0_1 l0_2 = some (r1, r2)) :
  Calls Try.prog 23 #[.agg #[.int .i64 a0_0, .int .i64 a0_1, .slice A0_2 l0_2.length c0_2]] w fun e w' => ∃ v0_ : Value, e = .returned (.tuple #[v0_, .bool r2]) ∧ Kd.R (Kd.int .i64) 3 w' w.heap.size (fun _ => True) v0_ r1 ∧ Below w.heap.size w w' := by
 have hu26 := Try.underlying26
 have HR0_2 := Aside0.mk hr0_2
 have HC0_2 := Aside0.mk hc0_2
 clear hr0_2 hc0_2
 have HB := am (Below.refl w.heap.size w)
 have H : ((impl_IsBoard.f a0_0 a0_1 l0_2).bind fun t105 => (if t105 = true then ((impl_Board_numbers.f a0_0 a0_1 l0_2).bind fun t106 => (some (t106, true))) else (some (([] : List Int), false)))) = some (r1, r2) := h
 clear h
 replace H := qE H
 obtain ⟨t105, A2, H⟩ := H
 replace H : (if t105 = true then ((impl_Board_numbers.f a0_0 a0_1 l0_2).bind fun t106 => (some (t106, true))) else (some (([] : List Int), false))) = some (r1, r2) := H
 by_cases c3 : t105 = true
 ·
  subst c3
  have H1 : ((impl_Board_numbers.f a0_0 a0_1 l0_2).bind fun t106 => (some (t106, true))) = some (r1, r2) := by first | (rw [if_pos rfl] at H; exact H) | rfl
  clear H
  have H := H1
  clear H1
  replace H := qE H
  obtain ⟨t106, A4, H⟩ := H
  replace H : (some (t106, true)) = some (r1, r2) := H
  simp only [Option.some.injEq, Prod.mk.injEq] at H
  obtain ⟨rfl, rfl⟩ := H
  go_enter Try.func23, Try.ntmps23
  go_wp2_with (first | ((with_reducible refine gate_dst (N := 1) rfl ?_); refine qv 1 #[.int .i64 a0_0, .int .i64 a0_1, .slice A0_2 l0_2.length c0_2] 26 ?_; intro gb104 hg w5 hbox hb; have BK104 := am hbox; have GW104 := qw hg; have GE104 := qw hg; replace HB := qs hb; clear hb hbox hg; obtain ⟨zq3, zq4, zq5, fq3, fq4, fq5⟩ := qd BK104) | ((with_reducible refine gate_callee (f := 66) rfl ?_); refine qg (some 5) Try.func66 #[.agg #[.int .i64 a0_0, .int .i64 a0_1, .slice A0_2 l0_2.length c0_2]] ?_; (with_reducible refine (impl_IsBoard.calls a0_0 a0_1 _ _ l0_2 true _ ?side1 HC0_2.out A2.out).mono ?_); (case side1 => exact Q0); rintro e w7 ⟨rfl, hb⟩; refine ⟨_, rfl, ?_⟩; replace BK104 := sqB BK104 hb; replace HB := qs hb; (try clear hb); obtain ⟨zq6, zq7, zq8, fq6, fq7, fq8⟩ := qd BK104) | ((with_reducible refine gate_callee (f := 78) rfl ?_); refine qg (some 8) Try.func78 #[.agg #[.int .i64 a0_0, .int .i64 a0_1, .slice A0_2 l0_2.length c0_2]] ?_; (with_reducible refine (impl_Board_numbers.calls a0_0 a0_1 _ _ l0_2 t106 _ ?side1 HC0_2.out A4.out).mono ?_); (case side1 => exact Q0); rintro e w9 ⟨v107, rfl, ho0, hb⟩; refine ⟨_, rfl, ?_⟩; have Oq0 := ql ho0; replace BK104 := sqB BK104 hb; replace HB := qs hb; (try clear hb ho0)))
  go_ret2
  exact ⟨_, Q2, Q62, qb⟩
 ·
  replace c3 := Bool.eq_false_iff.mpr c3
  subst c3
  have H1 : (some (([] : List Int), false)) = some (r1, r2) := by first | (rw [if_neg (show ¬ (false = true) by decide)] at H; exact H) | rfl
  clear H
  have H := H1
  clear H1
  simp only [Option.some.injEq, Prod.mk.injEq] at H
  obtain ⟨rfl, rfl⟩ := H
  go_enter Try.func23, Try.ntmps23
  go_wp2_with (first | ((with_reducible refine gate_dst (N := 1) rfl ?_); refine qv 1 #[.int .i64 a0_0, .int .i64 a0_1, .slice A0_2 l0_2.length c0_2] 26 ?_; intro gb104 hg w10 hbox hb; have BK104 := am hbox; have GW104 := qw hg; have GE104 := qw hg; replace HB := qs hb; clear hb hbox hg; obtain ⟨zq0, zq1, zq2, fq0, fq1, fq2⟩ := qd BK104) | ((with_reducible refine gate_callee (f := 66) rfl ?_); refine qg (some 5) Try.func66 #[.agg #[.int .i64 a0_0, .int .i64 a0_1, .slice A0_2 l0_2.length c0_2]] ?_; (with_reducible refine (impl_IsBoard.calls a0_0 a0_1 _ _ l0_2 false _ ?side1 HC0_2.out A2.out).mono ?_); (case side1 => exact Q0); rintro e w12 ⟨rfl, hb⟩; refine ⟨_, rfl, ?_⟩; replace BK104 := sqB BK104 hb; replace HB := qs hb; (try clear hb)))
  go_ret2
  exact ⟨_, Q2, Q14, qb⟩

end Go.Proofs.Ytllhofdgbpnkkaa.PFnPlacementsListed
