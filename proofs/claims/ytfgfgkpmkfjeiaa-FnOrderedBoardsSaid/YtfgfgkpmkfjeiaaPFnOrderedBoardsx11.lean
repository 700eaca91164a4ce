-- Printed for this claim by wip/pp.py over the kit's printer; Lean checks it.
import Derived.Test.YtfgfgkpmkfjeiaaPFnOrderedBoardsx0
import Derived.Test.YtfgfgkpmkfjeiaaPFnOrderedBoardsx1
import Derived.Test.YtfgfgkpmkfjeiaaPFnOrderedBoardsx8
import Derived.Test.YtfgfgkpmkfjeiaaPFnOrderedBoardsx9
namespace Go.Proofs.Ytfgfgkpmkfjeiaa.PFnOrderedBoards
open Go.RowKit Go.Proofs.YtfgfgkpmkfjeiaaW.PrintWords Go.Proofs.YtfgfgkpmkfjeiaaW.PrintLast Go.Proofs.YtfgfgkpmkfjeiaaW.PrintMore
attribute [local go_sem] max2_int min2_int max_two min_two max_three min_three max_four min_four   -- for this text's walks alone
set_option linter.unusedVariables false
set_option linter.unusedSimpArgs false

/-! ### impl_OrderOf: function 102 (by hand) -/
/-- The numbers of a list's places, by what stands there: those of 0, then those of 1, .. -/
def ordK (L : List Int) : Nat → List Int
 | 0 => ((List.range L.length).filter fun i => decide ((L.getD i 0).toNat = 0)).map fun i : Nat => (i : Int)
 | m + 1 => ordK L m ++ ((List.range L.length).filter fun i => decide ((L.getD i 0).toNat = m + 1)).map fun i : Nat => (i : Int)
def impl_OrderOf.f (k : Nat) (a0_0 : Int) (a0_1 : Int) (l0_2 : List Int) : Option (List Int × Bool) := (impl_isSquare.f a0_0 a0_1 l0_2).bind fun t => if t = true then (impl_Board_lengths.f k a0_0 a0_1 l0_2).bind fun b => if b.2 = true then (if 0 < b.1.length ∧ b.1.length ≤ 6 ∧ (b.1.length : Int) = a0_0 ∧ (b.1.all fun x => decide (0 ≤ x ∧ x ≤ 6)) = true then some (ordK b.1 6, true) else none) else some ([], false) else some ([], false)
-- (walk)
section
open Go.Lib Go.Shelf Go.Sort
theorem oo_cmp {gl cl : Nat} {ad : Addr} {L : List Int} {W : World} (c0 : W.cell? ⟨gl, 0, none⟩ = some (.slice (some ad) L.length cl)) (hx : ∀ i, i < L.length → W.cell? (ad.add i) = some (.int .i64 (L.getD i 0))) (hb : ∀ i, i < L.length → 0 ≤ L.getD i 0 ∧ L.getD i 0 ≤ 6) (x y : Nat) (h1 : x < L.length) (h2 : y < L.length) :
  Calls Try.prog 192 #[.int .i64 x, .int .i64 y, .pointer (some ⟨gl, 0, none⟩)] W fun e w' => e = .returned (.int .i64 (L.getD x 0 - L.getD y 0)) ∧ ∃ q, w' = W.drewN q := by
 have e1 := hx x h1
 have e2 := hx y h2
 have b1 := hb x h1
 have b2 := hb y h2
 clear hx hb
 have hlt : decide ((x : Int) < (L.length : Int)) = true := decide_eq_true (by omega)
 have hge : decide ((0 : Int) ≤ (x : Int)) = true := decide_eq_true (by omega)
 have hlt2 : decide ((y : Int) < (L.length : Int)) = true := decide_eq_true (by omega)
 have hge2 : decide ((0 : Int) ≤ (y : Int)) = true := decide_eq_true (by omega)
 generalize L.getD x 0 = p at e1 b1 ⊢
 generalize L.getD y 0 = r at e2 b2 ⊢
 go_enter Try.func192, Try.ntmps192
 go_wp2
 go_quiet (fail)
 go_wp2
 go_ret
 exact ⟨rfl, _, rfl⟩
/-! ### the order, in lists -/
def grpK {α : Type} (key : α → Nat) : Nat → List α → List α
 | 0, P => P.filter fun x => decide (key x = 0)
 | m + 1, P => grpK key m P ++ P.filter fun x => decide (key x = m + 1)
theorem grpK_le {α : Type} (key : α → Nat) : ∀ (M : Nat) (P : List α), ∀ a ∈ grpK key M P, key a ≤ M
 | 0, P, a, h => by have := (List.mem_filter.1 h).2; simp at this; omega
 | m + 1, P, a, h => by
  rcases List.mem_append.1 h with h | h
  ·
   have := grpK_le key m P a h; omega
  ·
   have := (List.mem_filter.1 h).2; simp at this; omega
theorem grpK_lt {α : Type} (key : α → Nat) (x : α) : ∀ (M : Nat) (P : List α), M < key x → grpK key M (P ++ [x]) = grpK key M P
 | 0, P, h => by simp [grpK, List.filter_append]; omega
 | m + 1, P, h => by rw [grpK, grpK, grpK_lt key x m P (by omega), List.filter_append]; simp; omega
theorem grpK_snoc {α : Type} (key : α → Nat) (x : α) : ∀ (M : Nat) (P : List α), key x ≤ M → ∃ A B, grpK key M P = A ++ B ∧ grpK key M (P ++ [x]) = A ++ x :: B ∧ (∀ a ∈ A, key a ≤ key x) ∧ (∀ b ∈ B, key x < key b)
 | 0, P, h => by
  refine ⟨grpK key 0 P, [], by simp, ?_, fun a ha => by have := grpK_le key 0 P a ha; omega, by simp⟩
  simp [grpK, List.filter_append]; omega
 | m + 1, P, h => by
  by_cases e : key x = m + 1
  ·
   refine ⟨grpK key (m + 1) P, [], by simp, ?_, fun a ha => by have := grpK_le key (m + 1) P a ha; omega, by simp⟩
   rw [grpK, grpK_lt key x m P (by omega), List.filter_append, grpK]; simp [e]
  ·
   obtain ⟨A, B, h1, h2, h3, h4⟩ := grpK_snoc key x m P (by omega)
   refine ⟨A, B ++ P.filter fun x => decide (key x = m + 1), ?_, ?_, h3, ?_⟩
   ·
    rw [grpK, h1, List.append_assoc]
   ·
    rw [grpK, h2, List.filter_append]; simp [e]
   ·
    intro b hb
    rcases List.mem_append.1 hb with hb | hb
    ·
     exact h4 b hb
    ·
     have := (List.mem_filter.1 hb).2; simp at this; omega
theorem ins_inner {α : Type} [Inhabited α] (lt : α → α → Bool) (x : α) (A : List α) (hA : ∀ a ∈ A, lt x a = false) : ∀ (m : Nat) (B S : List α), B.length = m → (∀ b ∈ B, lt x b = true) → (Sort.insInner lt 0 (A.length + m) (A ++ B ++ x :: S).toArray).toList = A ++ x :: (B ++ S)
 | 0, B, S, hm, hB => by
  obtain rfl := List.eq_nil_of_length_eq_zero hm
  cases hn : A.length with
  | zero => simp [Sort.insInner]
  | succ j =>
   have e1 : ((A ++ [] ++ x :: S).toArray)[j + 1]! = x := by
    rw [List.getElem!_toArray, List.append_nil, List.getElem!_eq_getElem?_getD, List.getElem?_append_right (by omega)]; simp [hn]
   have e2 : ((A ++ [] ++ x :: S).toArray)[j]! ∈ A := by
    rw [List.getElem!_toArray, List.append_nil, List.getElem!_eq_getElem?_getD, List.getElem?_append_left (by omega), List.getElem?_eq_getElem (by omega)]; exact List.getElem_mem _
   rw [Nat.add_zero, Sort.insInner, e1, hA _ e2]
   simp
 | m + 1, B, S, hm, hB => by
  obtain ⟨B', b, rfl⟩ : ∃ B' b, B = B' ++ [b] := by
   have := List.dropLast_concat_getLast (l := B) (by intro h; simp [h] at hm)
   exact ⟨_, _, this.symm⟩
  simp only [List.length_append, List.length_singleton] at hm
  have e1 : ((A ++ (B' ++ [b]) ++ x :: S).toArray)[A.length + m + 1]! = x := by
   rw [List.getElem!_toArray, List.getElem!_eq_getElem?_getD, List.getElem?_append_right (by simp; omega)]
   simp only [List.length_append, List.length_singleton]
   rw [show A.length + m + 1 - (A.length + (B'.length + 1)) = 0 by omega]; rfl
  have e2 : ((A ++ (B' ++ [b]) ++ x :: S).toArray)[A.length + m]! = b := by
   rw [List.getElem!_toArray, List.getElem!_eq_getElem?_getD, List.getElem?_append_left (by simp; omega), ← List.append_assoc, List.getElem?_append_right (by simp; omega)]
   simp only [List.length_append]
   rw [show A.length + m - (A.length + B'.length) = 0 by omega]; rfl
  have e3 : Sort.swp (A ++ (B' ++ [b]) ++ x :: S).toArray (A.length + m + 1) (A.length + m) = (A ++ B' ++ x :: (b :: S)).toArray := by
   unfold Sort.swp
   rw [e1, e2, List.setIfInBounds_toArray, List.setIfInBounds_toArray]
   congr 1
   rw [show A ++ (B' ++ [b]) ++ x :: S = (A ++ B') ++ (b :: x :: S) by simp, List.set_append_right _ _ (by simp; omega), List.set_append_right _ _ (by simp; omega)]
   simp only [List.length_append]
   rw [show A.length + m + 1 - (A.length + B'.length) = 1 by omega, show A.length + m - (A.length + B'.length) = 0 by omega]
   simp
  rw [show A.length + (m + 1) = A.length + m + 1 by omega, Sort.insInner, e1, e2, hB b (by simp), e3]
  simp only [Nat.zero_lt_succ, decide_true, Bool.and_true, if_true, gt_iff_lt]
  rw [ins_inner lt x A hA m B' (b :: S) (by omega) (fun y hy => hB y (by simp [hy]))]
  simp
theorem ins_outer {α : Type} [Inhabited α] (lt : α → α → Bool) (key : α → Nat) (M : Nat) (hlt : ∀ x y, lt x y = decide (key x < key y)) (hM : ∀ x, key x ≤ M) : ∀ (S P : List α), (grpK key M P).length = P.length → (Sort.insOuter lt 0 (P.length + S.length) P.length (grpK key M P ++ S).toArray).toList = grpK key M (P ++ S)
 | [], P, _ => by rw [Sort.insOuter, if_neg (by simp)]; simp
 | x :: S, P, h => by
  obtain ⟨A, B, h1, h2, h3, h4⟩ := grpK_snoc key x M P (hM x)
  rw [Sort.insOuter, if_pos (by simp)]
  have hl : P.length = A.length + B.length := by rw [← h, h1]; simp
  have hi := ins_inner lt x A (fun a ha => by rw [hlt]; simpa using h3 a ha) B.length B S rfl (fun b hb => by rw [hlt]; simpa using h4 b hb)
  rw [← hl, ← h1] at hi
  have hi2 : Sort.insInner lt 0 P.length (grpK key M P ++ x :: S).toArray = (grpK key M (P ++ [x]) ++ S).toArray := by
   apply Array.toList_inj.1
   rw [hi, h2]; simp
  have := ins_outer lt key M hlt hM S (P ++ [x]) (by rw [h2]; simp; omega)
  rw [List.length_append, List.length_singleton, List.append_assoc] at this
  rw [hi2, List.length_cons, show P.length + (S.length + 1) = P.length + 1 + S.length by omega]
  exact this
theorem ins_all {α : Type} [Inhabited α] (lt : α → α → Bool) (key : α → Nat) (M : Nat) (hlt : ∀ x y, lt x y = decide (key x < key y)) (hM : ∀ x, key x ≤ M) (S : List α) (hS : S ≠ []) : (Sort.insertionSort lt S.toArray 0 S.length).toList = grpK key M S := by
 have h0 : grpK key M ([] : List α) = [] := by
  clear hM
  induction M with
  | zero => rfl
  | succ m ih => rw [grpK, ih]; rfl
 have := ins_outer lt key M hlt hM S [] (by rw [h0])
 rw [h0] at this
 simp only [List.length_nil, Nat.zero_add, List.nil_append] at this
 rw [← this]
 unfold Sort.insertionSort
 have hp : 0 < S.length := by cases S with | nil => exact absurd rfl hS | cons a t => simp
 conv => rhs; rw [Sort.insOuter, if_pos hp]
 rfl
def oo_ren : Go.Shelf.Ren := ⟨fun | 20 => 222 | n => n, fun | 24 => 3 | 22 => 24 | 3 => 3 | 25 => 85 | 4 => 4 | 0 => 0 | n => n, fun | n => n⟩
theorem oo_lays : Go.Proofs.SlLaysF.n20 Try.prog oo_ren := {
 mixed := by kernel_rfl
 f20 := ⟨Try.f222.name, by decide, Try.func222.trans (congrArg some (by kernel_rfl))⟩
 t0 := Try.underlying0
 a0 := Try.isAgg0
 z0 := Try.sizeOf0
 v0 := Try.zeroValue0
 t3 := Try.underlying3
 a3 := Try.isAgg3
 z3 := Try.sizeOf3
 v3 := Try.zeroValue3
 t4 := Try.underlying4
 a4 := Try.isAgg4
 z4 := Try.sizeOf4
 v4 := Try.zeroValue4
 t22 := Try.underlying24
 a22 := Try.isAgg24
 z22 := Try.sizeOf24
 v22 := Try.zeroValue24
 a24 := Try.isAgg3
 z24 := Try.sizeOf3
 t25 := Try.underlying85
 a25 := Try.isAgg85
 z25 := Try.sizeOf85
 v25 := Try.zeroValue85 }
theorem range_fin (n : Nat) : (List.finRange n).map (fun x : Fin n => x.val) = List.range n := by
 apply List.ext_getElem
 ·
  simp
 ·
  intro i h1 h2; simp
theorem ordK_grp (L : List Int) : ∀ m, ordK L m = (grpK (fun x : Fin L.length => (L.getD x.val 0).toNat) m (List.finRange L.length)).map fun x => (x.val : Int)
 | 0 => by rw [ordK, grpK, ← range_fin, List.filter_map, List.map_map]; rfl
 | m + 1 => by
  rw [ordK, grpK, ordK_grp L m, List.map_append]
  congr 1
  rw [← range_fin, List.filter_map, List.map_map]; rfl
theorem grpK_len {α : Type} (key : α → Nat) (M : Nat) (hM : ∀ x, key x ≤ M) (P : List α) : (grpK key M P).length = P.length := by
 have h0 : grpK key M ([] : List α) = [] := by
  clear hM
  induction M with
  | zero => rfl
  | succ m ih => rw [grpK, ih]; rfl
 have : ∀ (n : Nat) (P : List α), P.length = n → (grpK key M P).length = n := by
  intro n
  induction n with
  | zero => intro P hP; rw [List.eq_nil_of_length_eq_zero hP, h0]; rfl
  | succ n ih =>
   intro P hP
   have e := List.dropLast_concat_getLast (l := P) (by intro h; simp [h] at hP)
   obtain ⟨A, B, h1, h2, _, _⟩ := grpK_snoc key (P.getLast (by intro h; simp [h] at hP)) M P.dropLast (hM _)
   rw [← e, h2]
   have := ih P.dropLast (by simp; omega)
   rw [h1] at this
   simp at this ⊢
   omega
 exact this _ P rfl
set_option maxHeartbeats 1000000 in
theorem oo_ins {gl cl g cap base : Nat} {ad : Addr} {L : List Int} {ok : Nat → Prop} {w : World} (hn : 0 < L.length) (hn6 : L.length ≤ 6) (hb : ∀ i, i < L.length → 0 ≤ L.getD i 0 ∧ L.getD i 0 ≤ 6) (c0 : w.cell? ⟨gl, 0, none⟩ = some (.slice (some ad) L.length cl)) (hx : ∀ i, i < L.length → w.cell? (ad.add i) = some (.int .i64 (L.getD i 0)))
  (hgl : gl ≠ g) (hls : gl < w.heap.size) (hag : ad.block ≠ g) (has : ad.block < w.heap.size) (ho : Kd.R (Kd.int .i64) 3 w base ok (.slice (some ⟨g, 0, none⟩) L.length cap) ((List.range L.length).map fun i : Nat => (i : Int))) :
  Calls Try.prog 222 #[.slice (some ⟨g, 0, none⟩) L.length cap, .int .i64 0, .int .i64 L.length, .func (.func 192) #[] #[.pointer (some ⟨gl, 0, none⟩)]] w fun e w' => e = .returned (.tuple #[]) ∧ ∃ q, w' = (w.setCells g 0 ((ordK L 6).map (Value.int .i64))).drewN q := by
 have inst : Inhabited (Fin L.length) := ⟨⟨0, hn⟩⟩
 have hsz : (List.finRange L.length).toArray.size = L.length := by simp
 have hH : Holds (fun x : Fin L.length => Value.int .i64 (x.val : Int)) w g 0 (List.finRange L.length).toArray := by
  intro j hj
  rw [hsz] at hj
  obtain ⟨c, hc1, hM, hc2, hf⟩ := Kd.R_elem ho 0 (j : Int) (by omega) (by omega)
  rw [Int.toNat_natCast] at hM hc2 hf
  have e1 : c = [.int .i64 (((List.range L.length).map fun i : Nat => (i : Int)).getD j 0)] := hM
  subst e1
  have h3 := hc2 0 _ rfl
  have h4 := hf 0
  rw [show j * (Kd.int .i64).sz + 0 = 0 + j by simp [Kd.int, Kd.scalar]] at h3 h4
  refine ⟨?_, h4⟩
  rw [h3, getElem!_pos _ j (by simpa using hj)]
  simp [List.getD, hj]
 have hD := Any.insertionSortCmpFunc_one oo_lays (fun x : Fin L.length => Value.int .i64 (x.val : Int)) (fun _ => rfl) (fun x y => L.getD x.val 0 - L.getD y.val 0) 192 #[.pointer (some ⟨gl, 0, none⟩)] g 0 cap 0 L.length (List.finRange L.length).toArray w (fun _ _ => by kernel_rfl) (by
   intro m os dk hdk x y
   rw [hsz] at hdk
   have e1 : ∀ a : Addr, a.block ≠ g → a.block < w.heap.size → (sortWorld (fun x : Fin L.length => Value.int .i64 (x.val : Int)) w g 0 m dk os).cell? a = w.cell? a := by
    intro a h1 h2
    unfold sortWorld
    rw [cell?_grow _ _ _ (by rw [size_putRow]; exact h2), cell?_putRow_other _ _ g 0 dk a (Or.inl h1)]
    rfl
   exact oo_cmp (by rw [e1 _ hgl hls]; exact c0) (fun i hi => by rw [e1 _ (by rw [add_block]; exact hag) (by rw [add_block]; exact has)]; exact hx i hi) hb x.val y.val x.isLt y.isLt)
  hH (Nat.zero_le _) (by rw [hsz]; exact Nat.le_refl _) (by rw [hsz]; omega)
 rw [hsz] at hD
 refine (show Calls Try.prog 222 #[.slice (some ⟨g, 0, none⟩) L.length cap, .int .i64 0, .int .i64 L.length, .func (.func 192) #[] #[.pointer (some ⟨gl, 0, none⟩)]] w _ from hD).mono ?_
 rintro e w' ⟨rfl, q, rfl⟩
 refine ⟨rfl, q, ?_⟩
 have hK : ∀ x : Fin L.length, (L.getD x.val 0).toNat ≤ 6 := fun x => by have := hb x.val x.isLt; omega
 have hA := ins_all (ltOf fun x y : Fin L.length => L.getD x.val 0 - L.getD y.val 0) (fun x => (L.getD x.val 0).toNat) 6 (fun x y => by
  have h1 := hb x.val x.isLt; have h2 := hb y.val y.isLt
  show decide (L.getD x.val 0 - L.getD y.val 0 < 0) = decide ((L.getD x.val 0).toNat < (L.getD y.val 0).toNat)
  congr 1; apply propext; constructor <;> intro h <;> omega) hK (List.finRange L.length) (by intro h; have := congrArg List.length h; rw [List.length_finRange, List.length_nil] at this; omega)
 rw [List.length_finRange] at hA
 have hp := Lib.putRow_eq_setCells (fun x : Fin L.length => Value.int .i64 (x.val : Int)) w g 0 (List.finRange L.length).toArray (grpK (fun x : Fin L.length => (L.getD x.val 0).toNat) 6 (List.finRange L.length)) 0 hH (by rw [hsz, grpK_len _ 6 hK]; simp)
 have e2 : Sort.insertionSort (ltOf fun x y : Fin L.length => L.getD x.val 0 - L.getD y.val 0) (List.finRange L.length).toArray 0 L.length = (grpK (fun x : Fin L.length => (L.getD x.val 0).toNat) 6 (List.finRange L.length)).toArray := by
  apply Array.toList_inj.1; rw [hA]
 rw [e2, ordK_grp L 6, List.map_map]
 exact congrArg (fun W => World.drewN W q) hp
def OoPost (L : List Int) (w : World) (g : Nat) (e : Ending) (w' : World) : Prop := e = .returned (.tuple #[]) ∧ ∃ q, w' = (w.setCells g 0 ((ordK L 6).map (Value.int .i64))).drewN q
set_option maxHeartbeats 1000000 in
set_option maxRecDepth 4000 in
theorem oo_sort {gl n g cap : Nat} {L : List Int} {w : World} (hn : n = L.length) (hn6 : n ≤ 6)
  (HI : Calls Try.prog 222 #[.slice (some ⟨g, 0, none⟩) n cap, .int .i64 0, .int .i64 n, .func (.func 192) #[] #[.pointer (some ⟨gl, 0, none⟩)]] w (OoPost L w g)) :
  Calls Try.prog 191 #[.slice (some ⟨g, 0, none⟩) n cap, .func (.func 192) #[] #[.pointer (some ⟨gl, 0, none⟩)]] w (OoPost L w g) := by
 have HI := Aside0.mk HI
 have HN := Aside0.mk hn
 clear hn
 have HS : Calls Try.prog 215 #[.slice (some ⟨g, 0, none⟩) n cap, .int .i64 n, .func (.func 192) #[] #[.pointer (some ⟨gl, 0, none⟩)]] w (OoPost L w g) := by
  have d1 : decide ((20 : Int) ≤ (n : Int)) = false := decide_eq_false (by omega)
  have d2 : decide ((20 : Int) < (n : Int)) = false := decide_eq_false (by omega)
  have d3 : decide (20 ≤ n) = false := decide_eq_false (by omega)
  have d4 : decide (20 < n) = false := decide_eq_false (by omega)
  go_enter Try.func215, Try.ntmps215
  go_wp2_with fail
  refine wp_loop_rounds 1 ?_
  rw [rounds_succ]
  go_wp2_with (go_at_call 222; refine HI.out.mono ?_; rintro e w1 ⟨rfl, q, rfl⟩)
  go_wp2_with fail
  refine wp_loop_rounds 1 ?_
  rw [rounds_succ]
  go_wp2
  first | go_end0 | ((try simp only [Exit.inBlock, Exit.then]); refine bodyPost_ret (results_none rfl _ _ _) rfl ?_)
  exact ⟨rfl, q, rfl⟩
 have HS := Aside0.mk HS
 clear HI
 go_enter Try.func191, Try.ntmps191
 go_wp2_with (go_at_call 215; refine HS.out.mono ?_; rintro e w1 ⟨rfl, q, rfl⟩)
 first | go_end0 | ((try simp only [Exit.inBlock, Exit.then]); refine bodyPost_ret (results_none rfl _ _ _) rfl ?_)
 exact ⟨rfl, q, rfl⟩
theorem oo_cells {g n cap base e : Nat} {ok : Nat → Prop} : ∀ (vs : List Int) (o : Nat) (W : World) (xs : List Int), Kd.R (Kd.int .i64) e W base ok (.slice (some ⟨g, 0, none⟩) n cap) xs → o + vs.length ≤ xs.length →
  Kd.R (Kd.int .i64) e (W.setCells g o (vs.map (Value.int .i64))) base ok (.slice (some ⟨g, 0, none⟩) n cap) (xs.take o ++ vs ++ xs.drop (o + vs.length))
 | [], o, W, xs, h, _ => by simpa [World.setCells] using h
 | v :: vs, o, W, xs, h, hl => by
  simp only [List.length_cons] at hl
  have h1 := Kd.R_putn h (o : Int) v
  rw [Int.toNat_natCast] at h1
  have h2 := oo_cells vs (o + 1) _ _ h1 (by simp; omega)
  rw [List.map_cons, World.setCells]
  have e1 : (xs.set o v).take (o + 1) ++ vs ++ (xs.set o v).drop (o + 1 + vs.length) = xs.take o ++ (v :: vs) ++ xs.drop (o + (v :: vs).length) := by
   rw [List.take_succ_eq_append_getElem (by simp; omega), List.take_set_of_le (Nat.le_refl _), List.getElem_set_self, List.drop_set, if_pos (by omega), List.length_cons]
   simp [Nat.add_comm, Nat.add_left_comm]
  rwa [e1] at h2
theorem oo_below {w0 : World} {g : Nat} (hg : w0.heap.size ≤ g) : ∀ (vs : List Value) (o : Nat) (W : World), Below w0.heap.size w0 W → Below w0.heap.size w0 (W.setCells g o vs)
 | [], _, _, h => h
 | v :: vs, o, W, h => by rw [World.setCells]; exact oo_below hg vs (o + 1) _ (below_set h hg)
theorem ordK_len (L : List Int) (hb : ∀ i, i < L.length → 0 ≤ L.getD i 0 ∧ L.getD i 0 ≤ 6) : (ordK L 6).length = L.length := by
 rw [ordK_grp, List.length_map, grpK_len _ 6 (fun x => by have := hb x.val x.isLt; omega), List.length_finRange]
theorem impl_OrderOf.mono : ∀ a0 a1 a2 k, LeO (impl_OrderOf.f k a0 a1 a2) (impl_OrderOf.f (k + 1) a0 a1 a2) := by
 intro a0 a1 a2 k
 unfold impl_OrderOf.f
 exact LeO.bind (LeO.refl _) (fun t => LeO.ite (LeO.bind (impl_Board_lengths.mono _ _ _ _) (fun b => LeO.refl _)) (LeO.refl _))
set_option maxHeartbeats 2000000 in
set_option maxRecDepth 4000 in
theorem impl_OrderOf.calls (k : Nat) (a0_0 : Int) (a0_1 : Int) (A0_2 : Option Addr) (c0_2 : Nat) (l0_2 : List Int) (r1 : List Int) (r2 : Bool) (w : World) (hr0_2 : Kd.C (Kd.int .i64) w A0_2 l0_2.length l0_2) (hc0_2 : l0_2.length ≤ c0_2) (h : impl_OrderOf.f k a0_0 a0_1 l0_2 = some (r1, r2)) :
  Calls Try.prog 102 #[.agg #[.int .i64 a0_0, .int .i64 a0_1, .slice A0_2 l0_2.length c0_2]] w fun e w' => ∃ v0_ : Value, e = .returned (.tuple #[v0_, .bool r2]) ∧ Kd.R (Kd.int .i64) 3 w' w.heap.size (fun _ => True) v0_ r1 ∧ Below w.heap.size w w' := by
 unfold impl_OrderOf.f at h
 obtain ⟨t, A1, h⟩ := Option.bind_eq_some_iff.1 h
 have HQ := Aside0.mk A1
 have HR0 := Aside0.mk hr0_2
 have HC0 := Aside0.mk hc0_2
 clear A1 hr0_2 hc0_2
 cases t with
 | false =>
  simp only [Bool.false_eq_true, if_false, Option.some.injEq, Prod.mk.injEq] at h
  obtain ⟨rfl, rfl⟩ := h
  go_enter Try.func102, Try.ntmps102
  go_wp2_with ((with_reducible refine gate_dst (N := 1) rfl ?_); refine box_event ?hg (N := 1) ?hd (cs := #[.int .i64 a0_0, .int .i64 a0_1, .slice A0_2 l0_2.length c0_2]) (t := 34) ?hr ?_; (case hd => rfl); (case hg => rfl); (case hr => first | (go_simp; done) | (go_simp; rfl)); intro gb hgb W1 bb hbb; have BB := Aside0.mk bb; have B1 := Aside0.mk hbb; have cx0 := blk_cell bb 0; have cx1 := blk_cell bb 1; have cx2 := blk_cell bb 2; clear hgb bb hbb)
  clear cx0 cx1 cx2
  go_at_call 122
  refine (impl_isSquare.calls a0_0 a0_1 _ _ l0_2 false _ (Kd.C_below HR0.out B1.out) HC0.out HQ.out).mono ?_
  rintro e W2 ⟨rfl, hb2⟩
  have B2 := am (below_step B1.out hb2)
  clear hb2
  go_wp2
  go_ret2
  exact ⟨_, rfl, Kd.R_nil _ _ _ _ _, B2.out⟩
 | true =>
 simp only [if_true] at h
 obtain ⟨⟨L, ok⟩, A2, h⟩ := Option.bind_eq_some_iff.1 h
 have HL := Aside0.mk A2
 clear A2
 cases ok with
 | false =>
  simp only [Bool.false_eq_true, if_false, Option.some.injEq, Prod.mk.injEq] at h
  obtain ⟨rfl, rfl⟩ := h
  go_enter Try.func102, Try.ntmps102
  go_wp2_with ((with_reducible refine gate_dst (N := 1) rfl ?_); refine box_event ?hg (N := 1) ?hd (cs := #[.int .i64 a0_0, .int .i64 a0_1, .slice A0_2 l0_2.length c0_2]) (t := 34) ?hr ?_; (case hd => rfl); (case hg => rfl); (case hr => first | (go_simp; done) | (go_simp; rfl)); intro gb hgb W1 bb hbb; have BB := Aside0.mk bb; have B1 := Aside0.mk hbb; have cx0 := blk_cell bb 0; have cx1 := blk_cell bb 1; have cx2 := blk_cell bb 2; clear hgb bb hbb)
  clear cx0 cx1 cx2
  go_at_call 122
  refine (impl_isSquare.calls a0_0 a0_1 _ _ l0_2 true _ (Kd.C_below HR0.out B1.out) HC0.out HQ.out).mono ?_
  rintro e W2 ⟨rfl, hb2⟩
  have bb2 := blk_below BB.out hb2
  have B2 := am (below_step B1.out hb2)
  have cx0 := blk_cell bb2 0
  have cx1 := blk_cell bb2 1
  have cx2 := blk_cell bb2 2
  clear hb2 bb2
  go_wp2_with fail
  clear cx0 cx1 cx2
  go_at_call 189
  refine (impl_Board_lengths.calls k a0_0 a0_1 _ _ l0_2 L false _ (Kd.C_below HR0.out B2.out) HC0.out HL.out).mono ?_
  rintro e W3 ⟨v3, rfl, ho3, hb3⟩
  have B3 := am (below_step B2.out hb3)
  obtain ⟨Al, cl, rfl⟩ := Kd.R_slice ho3
  clear ho3 hb3
  go_wp2
  go_ret2
  exact ⟨_, rfl, Kd.R_nil _ _ _ _ _, below_alloc B3.out _⟩
 | true =>
 simp only [if_true] at h
 by_cases hc : 0 < L.length ∧ L.length ≤ 6 ∧ (L.length : Int) = a0_0 ∧ (L.all fun x => decide (0 ≤ x ∧ x ≤ 6)) = true
 case neg => rw [if_neg hc] at h; exact absurd h (by simp)
 rw [if_pos hc] at h
 simp only [Option.some.injEq, Prod.mk.injEq] at h
 obtain ⟨rfl, rfl⟩ := h
 obtain ⟨hn, hn6, rfl, hall⟩ := hc
 have hbd : ∀ i, i < L.length → 0 ≤ L.getD i 0 ∧ L.getD i 0 ≤ 6 := by
  intro i hi
  have := List.all_eq_true.1 hall L[i] (List.getElem_mem hi)
  simpa [List.getD, hi] using this
 have HBD := Aside0.mk hbd
 have HN := Aside0.mk hn
 have HN6 := Aside0.mk hn6
 clear hall hbd hn hn6
 go_enter Try.func102, Try.ntmps102
 go_wp2_with ((with_reducible refine gate_dst (N := 1) rfl ?_); refine box_event ?hg (N := 1) ?hd (cs := #[.int .i64 L.length, .int .i64 a0_1, .slice A0_2 l0_2.length c0_2]) (t := 34) ?hr ?_; (case hd => rfl); (case hg => rfl); (case hr => first | (go_simp; done) | (go_simp; rfl)); intro gb hgb W1 bb hbb; have BB := Aside0.mk bb; have B1 := Aside0.mk hbb; have cx0 := blk_cell bb 0; have cx1 := blk_cell bb 1; have cx2 := blk_cell bb 2; clear hgb bb hbb)
 clear cx0 cx1 cx2
 go_at_call 122
 refine (impl_isSquare.calls _ a0_1 _ _ l0_2 true _ (Kd.C_below HR0.out B1.out) HC0.out HQ.out).mono ?_
 rintro e W2 ⟨rfl, hb2⟩
 have BB2 := am (blk_below BB.out hb2)
 have B2 := am (below_step B1.out hb2)
 have cx0 := blk_cell BB2.out 0
 have cx1 := blk_cell BB2.out 1
 have cx2 := blk_cell BB2.out 2
 clear hb2 BB B1
 go_wp2_with fail
 clear cx0 cx1 cx2
 go_at_call 189
 refine (impl_Board_lengths.calls k _ a0_1 _ _ l0_2 L true _ (Kd.C_below HR0.out B2.out) HC0.out HL.out).mono ?_
 rintro e W3 ⟨v3, rfl, ho3, hb3⟩
 obtain ⟨Al, cl, rfl⟩ := Kd.R_slice ho3
 have hbx := below_alloc (Below.refl W3.heap.size W3) (.cells #[.slice Al L.length cl] 24)
 have BL := am (blk_new W3 (.cells #[.slice Al L.length cl] 24))
 have B4 := am (below_step (below_step B2.out hb3) hbx)
 have CL := am (Kd.C_below (Kd.R_reads' ho3).2.2 hbx)
 have BB4 := am (blk_below BB2.out (below_step hb3 hbx))
 clear hbx ho3 hb3 BB2 B2
 go_upto_region 6 with (fail)
 generalize W3.heap.size = gl at BL ⊢
 generalize W3.alloc _ = W4 at BL B4 CL BB4 ⊢
 have cx0 := blk_cell BB4.out 0
 go_wp2_with ((with_reducible refine gate_dst (N := 18) rfl ?_); refine Kd.R_lit (Kd.int .i64) (w0 := W4) W4.heap.size 3 ?hg (N := 18) ?hd (xs := ([] : List Int)) (inner := []) (ok := fun _ => True) (okp := fun _ => True) ?hr ?hp (fun _ hk => hk) trivial (Below.refl _ _) (Nat.le_refl _) (by simp) ?_; (case hd => rfl); (case hg => rfl); (case hr => first | (go_simp; done) | (go_simp; rfl)); (case hp => exact (Reps.none _ _)); intro v5 W5 ho5 hb5 hg_ hnew_; clear hg_ hnew_; have O5 := Aside0.mk ho5; have B5 := Aside0.mk hb5; have bb5 := blk_below BB4.out hb5; have cx1 := blk_cell bb5 0; clear ho5 hb5 bb5)
 clear cx0 cx1
 go_loopw [6, 21] (fun v6 v21 w' => ∃ i : Nat, i ≤ L.length ∧ v21 = .int .i64 i ∧ Aside0 (Kd.R (Kd.int .i64) 3 w' W4.heap.size (fun _ => True) v6 ((List.range i).map fun i : Nat => (i : Int))) ∧ Aside0 (Below W4.heap.size W4 w')) (fun _ v21 _ => ((L.length : Int) - intOf v21).toNat)
 case atStart => exact ⟨0, Nat.zero_le _, rfl, O5, B5⟩
 case round =>
  clear O5 B5
  obtain ⟨i, hi, rfl, HO, HB⟩ := hrel
  have hn6 := HN6.out
  by_cases hlt : i < L.length
  ·
   have d1 : decide ((i : Int) < (L.length : Int)) = true := decide_eq_true (by omega)
   have d2 : decide (i < L.length) = true := decide_eq_true hlt
   go_wp2_with ((with_reducible refine gate_builtin (b := .append) (xs := #[.tmp 24, .tmp 26]) rfl ?_); at_builtin; refine Kd.R_append (Kd.int .i64) (w0 := W4) W4.heap.size rfl (.tmp 24) (.tmp 26) 24 3 (.int .i64 0) 8 rfl Try.underlying24 (by kernel_rfl) rfl (by decide) (by omega) _ ((List.range i).map fun i : Nat => (i : Int)) (i : Int) [.int .i64 i] (fun _ => True) (fun _ => False) rfl rfl ?aP (fun _ hk => hk.elim) ?aF ?aO ?aB ?aS ?aL ?_; (case aP => exact rfl); (case aB => exact HB.out); (case aF => exact (fun _ _ => trivial)); (case aO => exact HO.out); (case aS => exact HB.out.size); (case aL => rw [List.length_map, List.length_range]; omega); intro v8 w8 ho hb hg hat; have O8 := Aside0.mk ho; have B8 := Aside0.mk hb; clear ho hb hg hat)
   (try rw [show wrap64 ((i : Int) + 1) = (i : Int) + 1 by unfold wrap64; omega])
   go_roundw
   case rel => exact ⟨i + 1, by omega, rfl, ⟨by have := O8.out; rwa [show (List.range i).map (fun i : Nat => (i : Int)) ++ [(i : Int)] = (List.range (i + 1)).map (fun i : Nat => (i : Int)) by rw [List.range_succ, List.map_append]; rfl] at this⟩, B8⟩
   case measure => simp [intOf]; omega
  ·
   obtain rfl : i = L.length := by omega
   have d1 : decide ((L.length : Int) < (L.length : Int)) = false := decide_eq_false (by omega)
   have hn := HN.out
   obtain ⟨g, cap, ev, hg, hgs, _⟩ := Kd.R_form HO.out (by rw [List.length_map, List.length_range]; exact hn)
   rw [List.length_map, List.length_range] at ev
   subst ev
   obtain ⟨ad, e, _⟩ := Kd.at_int CL.out 0 (by omega) (by omega)
   subst e
   have hx4 : ∀ i, i < L.length → W4.cell? (ad.add i) = some (.int .i64 (L.getD i 0)) := by
    intro i hi
    obtain ⟨ad', e', hx⟩ := Kd.at_int CL.out (i : Int) (by omega) (by omega)
    cases e'
    rw [Int.toNat_natCast] at hx
    exact hx
   have has : ad.block < W4.heap.size := by
    have := World.block_lt_of_cell? W4 _ (hx4 0 hn)
    rwa [add_block] at this
   have hls : gl < W4.heap.size := blk_lt BL.out
   have hsz := HB.out.size
   have HS := am (oo_sort rfl hn6 (oo_ins (base := W4.heap.size) hn hn6 HBD.out (blk_cell (blk_below BL.out HB.out) 0) (fun i hi => (HB.out.cell (World.block_lt_of_cell? W4 _ (hx4 i hi))).trans (hx4 i hi)) (by omega) (by omega) (by omega) (by omega) HO.out))
   have HG := Aside0.mk hg
   clear hx4 has hls hsz hg hgs d1
   have d1 : decide ((L.length : Int) < (L.length : Int)) = false := decide_eq_false (by omega)
   go_wp2_with (go_at_call 191; refine HS.out.mono ?_; rintro e w7 ⟨rfl, q, rfl⟩)
   go_ret2
   have hR := oo_cells (ordK L 6) 0 _ _ HO.out (by rw [ordK_len L HBD.out, List.length_map, List.length_range]; omega)
   rw [ordK_len L HBD.out, List.take_zero, List.nil_append, Nat.zero_add, List.drop_eq_nil_of_le (by simp), List.append_nil] at hR
   exact ⟨_, rfl, Kd.R_drewN (Kd.R_lower hR (B4.out.size)) q, pw_below_drewN (below_step B4.out (oo_below HG.out _ _ _ HB.out)) q⟩
end

/-! ### spec_OrderOf: function 103 -/
mutual
def spec_OrderOf.l0 : Nat → List Int → List Int → Int → Int → Int → List Int → Option (List Int × Bool)
 | 0, _, _, _, _, _, _ => none
 | k + 1, x4, x6, x7, x468000, x468001, x468002 => if x7 ≤ x468001 then (spec_OrderOf.l1 k x4 x6 x7 x4 (x4.length : Int) 0 x468000 x468001 x468002) else (some (x6, true))
def spec_OrderOf.l1 : Nat → List Int → List Int → Int → List Int → Int → Int → Int → Int → List Int → Option (List Int × Bool)
 | 0, _, _, _, _, _, _, _, _, _ => none
 | k + 1, x4, x6, x7, x26, x27, x28, x468000, x468001, x468002 => if x28 < x27 then (if 0 ≤ x28 then (if x28 < (x26.length : Int) then (if x7 = (rd x26 x28) then (if x6.length < 17592186044416 then (spec_OrderOf.l1 k x4 (x6 ++ [x28]) x7 x26 x27 (wrap64 (x28 + 1)) x468000 x468001 x468002) else (none)) else (spec_OrderOf.l1 k x4 x6 x7 x26 x27 (wrap64 (x28 + 1)) x468000 x468001 x468002)) else (none)) else (none)) else (spec_OrderOf.l0 k x4 x6 (wrap64 (x7 + 1)) x468000 x468001 x468002)
end
def spec_OrderOf.f (k : Nat) (a0_0 : Int) (a0_1 : Int) (l0_2 : List Int) : Option (List Int × Bool) := (spec_roSquare.f k a0_0 a0_1 l0_2).bind fun t468 => (if t468 = true then ((spec_feLengths.f k a0_0 a0_1 l0_2).bind fun bt469 => (if bt469.2 = true then (spec_OrderOf.l0 k bt469.1 ([] : List Int) 0 a0_0 a0_1 l0_2) else (some (([] : List Int), false)))) else (some (([] : List Int), false)))
theorem spec_OrderOf.mono_l : ∀ k, (∀ y0 y1 y2 y3 y4 y5, LeO (spec_OrderOf.l0 k y0 y1 y2 y3 y4 y5) (spec_OrderOf.l0 (k + 1) y0 y1 y2 y3 y4 y5)) ∧ (∀ y0 y1 y2 y3 y4 y5 y6 y7 y8, LeO (spec_OrderOf.l1 k y0 y1 y2 y3 y4 y5 y6 y7 y8) (spec_OrderOf.l1 (k + 1) y0 y1 y2 y3 y4 y5 y6 y7 y8))
 | 0 => ⟨fun _ _ _ _ _ _ r h => by simp [spec_OrderOf.l0] at h, fun _ _ _ _ _ _ _ _ _ r h => by simp [spec_OrderOf.l1] at h⟩
 | k + 1 => by
  obtain ⟨ih0, ih1⟩ := spec_OrderOf.mono_l k
  refine ⟨?_, ?_⟩
  ·
   intro y0 y1 y2 y3 y4 y5
   unfold spec_OrderOf.l0
   repeat' first
   | (with_reducible exact ih0 _ _ _ _ _ _)
   | (with_reducible exact ih1 _ _ _ _ _ _ _ _ _)
   | (with_reducible exact spec_feLengths.mono _ _ _ _)
   | (with_reducible exact spec_roSquare.mono _ _ _ _)
   | (with_reducible exact LeO.refl _)
   | (with_reducible exact LeO.none _)
   | (with_reducible refine LeO.ite ?_ ?_)
   | (with_reducible refine LeO.bind ?_ (fun _ => ?_))
   | exact ih0 _ _ _ _ _ _
   | exact ih1 _ _ _ _ _ _ _ _ _
   | exact spec_feLengths.mono _ _ _ _
   | exact spec_roSquare.mono _ _ _ _
   | exact LeO.none _
   | refine LeO.ite ?_ ?_
   | refine LeO.bind ?_ (fun _ => ?_)
  ·
   intro y0 y1 y2 y3 y4 y5 y6 y7 y8
   unfold spec_OrderOf.l1
   repeat' first
   | (with_reducible exact ih0 _ _ _ _ _ _)
   | (with_reducible exact ih1 _ _ _ _ _ _ _ _ _)
   | (with_reducible exact spec_feLengths.mono _ _ _ _)
   | (with_reducible exact spec_roSquare.mono _ _ _ _)
   | (with_reducible exact LeO.refl _)
   | (with_reducible exact LeO.none _)
   | (with_reducible refine LeO.ite ?_ ?_)
   | (with_reducible refine LeO.bind ?_ (fun _ => ?_))
   | exact ih0 _ _ _ _ _ _
   | exact ih1 _ _ _ _ _ _ _ _ _
   | exact spec_feLengths.mono _ _ _ _
   | exact spec_roSquare.mono _ _ _ _
   | exact LeO.none _
   | refine LeO.ite ?_ ?_
   | refine LeO.bind ?_ (fun _ => ?_)
theorem spec_OrderOf.mono : ∀ a0 a1 a2 k, LeO (spec_OrderOf.f k a0 a1 a2) (spec_OrderOf.f (k + 1) a0 a1 a2) := by
 intro a0 a1 a2 k
 obtain ⟨ih0, ih1⟩ := spec_OrderOf.mono_l k
 unfold spec_OrderOf.f
 repeat' first
   | (with_reducible exact ih0 _ _ _ _ _ _)
   | (with_reducible exact ih1 _ _ _ _ _ _ _ _ _)
   | (with_reducible exact spec_feLengths.mono _ _ _ _)
   | (with_reducible exact spec_roSquare.mono _ _ _ _)
   | (with_reducible exact LeO.refl _)
   | (with_reducible exact LeO.none _)
   | (with_reducible refine LeO.ite ?_ ?_)
   | (with_reducible refine LeO.bind ?_ (fun _ => ?_))
   | exact ih0 _ _ _ _ _ _
   | exact ih1 _ _ _ _ _ _ _ _ _
   | exact spec_feLengths.mono _ _ _ _
   | exact spec_roSquare.mono _ _ _ _
   | exact LeO.none _
   | refine LeO.ite ?_ ?_
   | refine LeO.bind ?_ (fun _ => ?_)
set_option maxHeartbeats 8000000 in
set_option maxRecDepth 100000 in
theorem spec_OrderOf.calls (k : Nat) (a0_0 : Int) (a0_1 : Int) (A0_2 : Option Addr) (c0_2 : Nat) (l0_2 : List Int) (r1 : List Int) (r2 : Bool) (w : World) (hr0_2 : Kd.C (Kd.int .i64) w A0_2 l0_2.length l0_2) (hc0_2 : l0_2.length ≤ c0_2) (h : spec_OrderOf.f k a0_0 a0_1 l0_2 = some (r1, r2)) :
  Calls Try.prog 103 #[.agg #[.int .i64 a0_0, .int .i64 a0_1, .slice A0_2 l0_2.length c0_2]] w fun e w' => ∃ v0_ : Value, e = .returned (.tuple #[v0_, .bool r2]) ∧ Kd.R (Kd.int .i64) 3 w' w.heap.size (fun _ => True) v0_ r1 ∧ Below w.heap.size w w' := by
 have hu34 := Try.underlying34
 have HR0_2 := Aside0.mk hr0_2
 have HC0_2 := Aside0.mk hc0_2
 clear hr0_2 hc0_2
 have HB := am (Below.refl w.heap.size w)
 have H : ((spec_roSquare.f k a0_0 a0_1 l0_2).bind fun t468 => (if t468 = true then ((spec_feLengths.f k a0_0 a0_1 l0_2).bind fun bt469 => (if bt469.2 = true then (spec_OrderOf.l0 k bt469.1 ([] : List Int) 0 a0_0 a0_1 l0_2) else (some (([] : List Int), false)))) else (some (([] : List Int), false)))) = some (r1, r2) := h
 clear h
 replace H := Option.bind_eq_some_iff.mp H
 obtain ⟨t468, A20, H⟩ := H
 replace H : (if t468 = true then ((spec_feLengths.f k a0_0 a0_1 l0_2).bind fun bt469 => (if bt469.2 = true then (spec_OrderOf.l0 k bt469.1 ([] : List Int) 0 a0_0 a0_1 l0_2) else (some (([] : List Int), false)))) else (some (([] : List Int), false))) = some (r1, r2) := H
 have A2 := Aside0.mk A20
 clear A20
 by_cases c3 : t468 = true
 ·
  subst c3
  have H1 : ((spec_feLengths.f k a0_0 a0_1 l0_2).bind fun bt469 => (if bt469.2 = true then (spec_OrderOf.l0 k bt469.1 ([] : List Int) 0 a0_0 a0_1 l0_2) else (some (([] : List Int), false)))) = some (r1, r2) := by first | (rw [if_pos rfl] at H; exact H) | rfl
  clear H
  have H := H1
  clear H1
  replace H := Option.bind_eq_some_iff.mp H
  obtain ⟨⟨t469, t472⟩, A40, H⟩ := H
  replace H : (if t472 = true then (spec_OrderOf.l0 k t469 ([] : List Int) 0 a0_0 a0_1 l0_2) else (some (([] : List Int), false))) = some (r1, r2) := H
  have A4 := Aside0.mk A40
  clear A40
  by_cases c5 : t472 = true
  ·
   subst c5
   have H1 : (spec_OrderOf.l0 k t469 ([] : List Int) 0 a0_0 a0_1 l0_2) = some (r1, r2) := by first | (rw [if_pos rfl] at H; exact H) | rfl
   clear H
   have H := H1
   clear H1
   have H' := Aside0.mk H
   clear H
   go_enter Try.func103, Try.ntmps103
   go_wp2_with (first | ((with_reducible refine gate_dst (N := 1) rfl ?_); refine box_event ?hg (N := 1) ?hd (cs := #[.int .i64 a0_0, .int .i64 a0_1, .slice A0_2 l0_2.length c0_2]) (t := 34) ?hr ?_; (case hd => rfl); (case hg => rfl); (case hr => first | (go_simp; done) | (go_simp; rfl)); intro gb467 hg w6 hbox hb; have n0_ := am (below_step (by repeat with_reducible first | exact HB.out | apply pw_below_drewN | apply below_drew1) hb); have n1_ := am (hbox); have n2_ := am ((by rw [hg]; exact (below_size (by repeat with_reducible first | exact HB.out | apply pw_below_drewN | apply below_drew1)) : w.heap.size ≤ gb467)); have n3_ := am ((by rw [hg]; exact (below_size (by repeat with_reducible first | exact HB.out | apply pw_below_drewN | apply below_drew1)) : w.heap.size ≤ gb467)); clear HB; have HB := n0_; have BK467 := n1_; have GW467 := n2_; have GE467 := n3_; clear n0_ n1_ n2_ n3_; clear hb hbox hg; have zq15 : w6.cell? ⟨gb467, 0, none⟩ = some (.int .i64 a0_0) := sqc BK467 0; have zq16 : w6.cell? ⟨gb467, 1, none⟩ = some (.int .i64 a0_1) := sqc BK467 1; have zq17 : w6.cell? ⟨gb467, 2, none⟩ = some (.slice A0_2 l0_2.length c0_2) := sqc BK467 2; have fq15 := blk_frozen BK467.out 0; have fq16 := blk_frozen BK467.out 1; have fq17 := blk_frozen BK467.out 2) | ((with_reducible refine gate_callee (f := 136) rfl ?_); refine goesL_ (some 11) rfl rfl Try.func136 (by kernel_rfl) rfl #[.agg #[.int .i64 a0_0, .int .i64 a0_1, .slice A0_2 l0_2.length c0_2]] rfl (by (try simp only [List.map_toArray, List.map_cons, List.map_nil]); try rfl) ?_; (with_reducible refine (spec_roSquare.calls k a0_0 a0_1 _ _ l0_2 true _ ?side1 ?side2 A2.out).mono ?_); (case side1 => repeat (first | exact (Kd.C_below HR0_2.out HB.out) | (with_reducible first | refine Kd.C_alloc ?_ _ | refine Kd.C_drewN ?_ _ | refine Kd.C_drew ?_))); (case side2 => exact HC0_2.out); rintro e w8 ⟨rfl, hb⟩; refine ⟨_, rfl, ?_⟩; have n1_ := am (below_step (by repeat with_reducible first | exact HB.out | apply pw_below_drewN | apply below_drew1 | refine below_set ?_ GE467.out) hb); clear HB; replace BK467 := sqB BK467 hb; have HB := n1_; clear n1_; (try clear hb); (try clear hb2); (try clear hk); (try clear hi); have zq18 : w8.cell? ⟨gb467, 0, none⟩ = some (.int .i64 a0_0) := sqc BK467 0; have zq19 : w8.cell? ⟨gb467, 1, none⟩ = some (.int .i64 a0_1) := sqc BK467 1; have zq20 : w8.cell? ⟨gb467, 2, none⟩ = some (.slice A0_2 l0_2.length c0_2) := sqc BK467 2; have fq18 := blk_frozen BK467.out 0; have fq19 := blk_frozen BK467.out 1; have fq20 := blk_frozen BK467.out 2) | ((with_reducible refine gate_callee (f := 190) rfl ?_); refine goesL_ (some 15) rfl rfl Try.func190 (by kernel_rfl) rfl #[.agg #[.int .i64 a0_0, .int .i64 a0_1, .slice A0_2 l0_2.length c0_2]] rfl (by (try simp only [List.map_toArray, List.map_cons, List.map_nil]); try rfl) ?_; (with_reducible refine (spec_feLengths.calls k a0_0 a0_1 _ _ l0_2 t469 true _ ?side1 ?side2 A4.out).mono ?_); (case side1 => repeat (first | exact (Kd.C_below HR0_2.out HB.out) | (with_reducible first | refine Kd.C_alloc ?_ _ | refine Kd.C_drewN ?_ _ | refine Kd.C_drew ?_))); (case side2 => exact HC0_2.out); rintro e w10 ⟨v470, rfl, ho0, hb⟩; refine ⟨_, rfl, ?_⟩; have n0_ := am (Kd.R_lower ho0 (below_size (by repeat with_reducible first | exact HB.out | apply pw_below_drewN | apply below_drew1 | refine below_set ?_ GE467.out))); have n2_ := am (below_step (by repeat with_reducible first | exact HB.out | apply pw_below_drewN | apply below_drew1 | refine below_set ?_ GE467.out) hb); clear HB; have Oq1 := n0_; replace BK467 := sqB BK467 hb; have HB := n2_; clear n0_ n2_; (try clear hb); (try clear hb2); (try clear hk); (try clear hi); (try clear ho0)))
   go_loopg [6, 7] k (fun kq v6 v7 w' => ∃ (x6_1 : List Int) (x7_1 : Int), v7 = .int .i64 x7_1 ∧ Aside0 (spec_OrderOf.l0 kq t469 x6_1 x7_1 a0_0 a0_1 l0_2 = some (r1, r2)) ∧ Aside0 (kq ≤ k) ∧ Aside0 (Kd.R (Kd.int .i64) 3 w' w.heap.size (fun k_ => some k_ ≠ (v6 : Value).ownBlock) v470 t469) ∧ Aside0 (Kd.R (Kd.int .i64) 3 w' w.heap.size (fun k_ => some k_ ≠ (v470 : Value).ownBlock) v6 x6_1) ∧ Aside0 (w'.heap[gb467]? = some (.cells #[.int .i64 a0_0, .int .i64 a0_1, (.slice A0_2 l0_2.length c0_2)] 34 (0, 0))) ∧ Aside0 (Below w.heap.size w w'))
   case atStart => exact ⟨(([] : List Int)), (0), (by first | rfl | (simp; done) | (simp [*]; done)), H', ⟨Nat.le_refl _⟩, ⟨by exact sqm Oq1 (fun _ hk => (by simp [Value.ownBlock]))⟩, ⟨by first | exact Kd.R_nil _ _ _ _ _ | exact Kd.N_nil _ _ _ _ _ | exact Kd.V_nil _ _ _ _ _ | exact Kd.Q_nil _ _ _ _ _ | exact Kd.S_nil _ _ _ _ _⟩, ⟨by (with_reducible repeat (first | refine blk_drewN ?_ _ | refine blk_drew ?_ | refine blk_alloc ?_ _)); exact BK467.out⟩, ⟨by repeat with_reducible first | exact HB.out | apply pw_below_drewN | apply below_drew1 | refine below_set ?_ GE467.out⟩⟩
   case round =>
    clear H'
    try clear c1; try clear p2; try clear c3; try clear c5; try clear c10; try clear zq15; try clear zq16; try clear zq17; try clear zq18; try clear zq19; try clear zq20; try clear fq15; try clear fq16; try clear fq17; try clear fq18; try clear fq19; try clear fq20
    obtain ⟨x6_1, x7_1, rfl, HA, HK1, Oq4, Oq5, BK467, HB⟩ := hrel
    cases gk with
    | zero => exact absurd HA.out (by simp [spec_OrderOf.l0])
    | succ k1 =>
     have H := HA.out
     clear HA
     simp only [spec_OrderOf.l0] at H
     by_cases c11 : x7_1 ≤ a0_1
     ·
      rw [if_pos c11] at H
      have c11b0 : decide (x7_1 ≤ a0_1) = true := decide_eq_true c11
      clear c11
      have H' := Aside0.mk H
      clear H
      have zq0 : wr.cell? ⟨gb467, 0, none⟩ = some (.int .i64 a0_0) := sqc BK467 0
      have zq1 : wr.cell? ⟨gb467, 1, none⟩ = some (.int .i64 a0_1) := sqc BK467 1
      have zq2 : wr.cell? ⟨gb467, 2, none⟩ = some (.slice A0_2 l0_2.length c0_2) := sqc BK467 2
      have fq0 := blk_frozen BK467.out 0
      have fq1 := blk_frozen BK467.out 1
      have fq2 := blk_frozen BK467.out 2
      obtain ⟨Ao13, co13, eo13⟩ := Kd.R_slice Oq4.out
      subst eo13
      go_wp2
      go_loopg [6, 28] k1 (fun kq v6 v28 w' => ∃ (x6_2 : List Int) (x28_2 : Int), v28 = .int .i64 x28_2 ∧ Aside0 (spec_OrderOf.l1 kq t469 x6_2 x7_1 t469 (t469.length : Int) x28_2 a0_0 a0_1 l0_2 = some (r1, r2)) ∧ Aside0 (kq ≤ k1) ∧ Aside0 (Kd.R (Kd.int .i64) 3 w' w.heap.size (fun k_ => some k_ ≠ (v6 : Value).ownBlock) (.slice Ao13 t469.length co13) t469) ∧ Aside0 (Kd.R (Kd.int .i64) 3 w' w.heap.size (fun k_ => some k_ ≠ ((.slice Ao13 t469.length co13) : Value).ownBlock ∧ some k_ ≠ ((.slice Ao13 t469.length co13) : Value).ownBlock) v6 x6_2) ∧ Aside0 (Kd.R (Kd.int .i64) 3 w' w.heap.size (fun k_ => some k_ ≠ (v6 : Value).ownBlock) (.slice Ao13 t469.length co13) t469) ∧ Aside0 (w'.heap[gb467]? = some (.cells #[.int .i64 a0_0, .int .i64 a0_1, (.slice A0_2 l0_2.length c0_2)] 34 (0, 0))) ∧ Aside0 (Below w.heap.size w w'))
      case atStart => exact ⟨(x6_1), (0), (by first | rfl | (simp; done) | (simp [*]; done)), H', ⟨Nat.le_refl _⟩, ⟨by (with_reducible repeat (first | apply Kd.R_alloc | apply Kd.R_drewN | apply Kd.R_drew)); exact Oq4.out⟩, ⟨by exact sqm Oq5 (fun _ hk => ⟨hk, hk⟩)⟩, ⟨by (with_reducible repeat (first | apply Kd.R_alloc | apply Kd.R_drewN | apply Kd.R_drew)); exact Oq4.out⟩, ⟨by (with_reducible repeat (first | refine blk_drewN ?_ _ | refine blk_drew ?_ | refine blk_alloc ?_ _)); exact BK467.out⟩, ⟨by repeat with_reducible first | exact HB.out | apply pw_below_drewN | apply below_drew1 | refine below_set ?_ GE467.out⟩⟩
      case round =>
       clear H'
       try clear c1; try clear p2; try clear c3; try clear c5; try clear c10; try clear c11; try clear c11b0; try clear c13; try clear zq0; try clear zq1; try clear zq2; try clear zq15; try clear zq16; try clear zq17; try clear zq18; try clear zq19; try clear zq20; try clear fq0; try clear fq1; try clear fq2; try clear fq15; try clear fq16; try clear fq17; try clear fq18; try clear fq19; try clear fq20; try clear p2
       obtain ⟨x6_2, x28_2, rfl, HA, HK2, Oq4, Oq5, Oq3, BK467, HB⟩ := hrel
       cases gk with
       | zero => exact absurd HA.out (by simp [spec_OrderOf.l1])
       | succ k2 =>
        have H := HA.out
        clear HA
        simp only [spec_OrderOf.l1] at H
        by_cases c14 : x28_2 < (t469.length : Int)
        ·
         rw [if_pos c14] at H
         have c14b0 : decide (x28_2 < (t469.length : Int)) = true := decide_eq_true c14
         clear c14
         by_cases c15 : 0 ≤ x28_2
         ·
          rw [if_pos c15] at H
          have c15b0 : decide (0 ≤ x28_2) = true := decide_eq_true c15
          clear c15
          by_cases c16 : x28_2 < (t469.length : Int)
          ·
           rw [if_pos c16] at H
           have c16b0 : decide (x28_2 < (t469.length : Int)) = true := decide_eq_true c16
           clear c16
           by_cases c17 : x7_1 = (rd t469 x28_2)
           ·
            rw [if_pos c17] at H
            have c17b0 : (x7_1 == (rd t469 x28_2)) = true := beq_iff_eq.mpr c17
            have c17b1 : (x7_1 != (rd t469 x28_2)) = false := bne_eq_false_iff_eq.mpr c17
            clear c17
            by_cases c18 : x6_2.length < 17592186044416
            ·
             rw [if_pos c18] at H
             have LMc18 := Aside0.mk c18
             clear c18
             obtain ⟨y474, hy474⟩ : ∃ y_ : List Int, y_ = (x6_2 ++ [x28_2]) := ⟨_, rfl⟩
             replace H : (spec_OrderOf.l1 k2 t469 y474 x7_1 t469 (t469.length : Int) (wrap64 (x28_2 + 1)) a0_0 a0_1 l0_2) = some (r1, r2) := by first | (rw [hy474]; with_reducible exact H) | (have H2_ := (Option.bind_some _ _).symm.trans H; rw [hy474]; with_reducible exact H2_) | (have H2_ := (Option.bind_some _ _).symm.trans H; with_reducible exact H2_) | with_reducible exact H | (rw [hy474]; exact H) | exact H
             have Ny474 := Aside0.mk hy474
             clear hy474
             have H' := Aside0.mk H
             clear H
             have p473 : 0 ≤ (x28_2 : Int) := of_decide_eq_true (by first | (with_reducible assumption) | assumption)
             have q473 : x28_2 < (t469.length : Int) := of_decide_eq_true (by first | (with_reducible assumption) | assumption)
             obtain ⟨ad473, e473, hx473_0⟩ := Kd.at_int (Kd.R_reads' Oq3.out).2.2 x28_2 p473 q473
             cases e473
             replace p473 := eq_true p473
             replace q473 := eq_true q473
             go_wp2_with (first | ((with_reducible refine gate_builtin (b := .append) (xs := #[.tmp 36, .tmp 38]) rfl ?_); at_builtin; refine Kd.R_append (Kd.int .i64) (w0 := w) w.heap.size rfl (.tmp 36) (.tmp 38) 24 3 (.int .i64 0) 8 rfl Try.underlying24 info3 rfl (by decide) (by omega) u6 x6_2 x28_2 [.int .i64 x28_2] (fun k_ => some k_ ≠ (.slice (some ad473) t469.length co13 : Value).ownBlock ∧ some k_ ≠ (.slice (some ad473) t469.length co13 : Value).ownBlock) (fun _ => False) rfl rfl ?aP (fun _ hk => hk.elim) ?aF ?aO ?aB ?aS ?aL ?_; (case aP => exact rfl); (case aB => exact (by repeat with_reducible first | exact HB.out | apply pw_below_drewN | apply below_drew1 | refine below_set ?_ GE467.out)); (case aF => exact (fun k_ hk => ⟨Kd.fresh' (sqL Oq4) k_ hk, Kd.fresh' (sqL Oq3) k_ hk⟩)); (case aO => exact (sqr Oq5)); (case aS => exact (below_size (by repeat with_reducible first | exact HB.out | apply pw_below_drewN | apply below_drew1 | refine below_set ?_ GE467.out))); (case aL => have := LMc18.out; omega); intro v475 w19 ho hb hg hat; rw [← Ny474.out] at ho; have n0_ := am (Kd.R_after (ok := (fun _ => True)) (by exact sqm Oq4 (fun _ hk => ⟨trivial, hk⟩)) hg hat); have n1_ := am (Kd.R_after (ok := (fun _ => True)) (by exact sqm Oq3 (fun _ hk => ⟨trivial, hk⟩)) hg hat); have n2_ := am (blk_grown (g := gb467) (o := .cells #[.int .i64 a0_0, .int .i64 a0_1, .slice A0_2 l0_2.length c0_2] 34 (0, 0)) (sqb BK467) hg (Kd.R_ne Oq5.out BK467.out (by decide))); have n3_ := am (hb); have n4_ := am (ho); clear Oq4; clear Oq3; clear BK467; clear HB; clear Oq5; have Oq4 := n0_; have Oq3 := n1_; have BK467 := n2_; have HB := n3_; have Oq2 := n4_; clear n0_ n1_ n2_ n3_ n4_; clear ho hb hg hat))
             go_roundg k2
             case measure => have := HK1.out; have := HK2.out; omega
             case rel => exact ⟨(y474), (wrap64 (x28_2 + 1)), (by first | rfl | (simp; done) | (simp [*]; done)), H', ⟨by have := HK1.out; have := HK2.out; omega⟩, ⟨by exact sqm Oq4 (fun _ hk => hk.2)⟩, ⟨by (with_reducible repeat (first | apply Kd.R_alloc | apply Kd.R_drewN | apply Kd.R_drew)); exact Oq2.out⟩, ⟨by exact sqm Oq3 (fun _ hk => hk.2)⟩, ⟨by (with_reducible repeat (first | refine blk_drewN ?_ _ | refine blk_drew ?_ | refine blk_alloc ?_ _)); exact BK467.out⟩, ⟨by repeat with_reducible first | exact HB.out | apply pw_below_drewN | apply below_drew1 | refine below_set ?_ GE467.out⟩⟩
            ·
             rw [if_neg c18] at H
             exact absurd H (by simp)
           ·
            rw [if_neg c17] at H
            have c17b0 : (x7_1 == (rd t469 x28_2)) = false := beq_eq_false_iff_ne.mpr c17
            have c17b1 : (x7_1 != (rd t469 x28_2)) = true := bne_iff_ne.mpr c17
            have H' := Aside0.mk H
            clear H
            have p473 : 0 ≤ (x28_2 : Int) := of_decide_eq_true (by first | (with_reducible assumption) | assumption)
            have q473 : x28_2 < (t469.length : Int) := of_decide_eq_true (by first | (with_reducible assumption) | assumption)
            obtain ⟨ad473, e473, hx473_0⟩ := Kd.at_int (Kd.R_reads' Oq3.out).2.2 x28_2 p473 q473
            cases e473
            replace p473 := eq_true p473
            replace q473 := eq_true q473
            go_wp2
            go_roundg k2
            case measure => have := HK1.out; have := HK2.out; omega
            case rel => exact ⟨(x6_2), (wrap64 (x28_2 + 1)), (by first | rfl | (simp; done) | (simp [*]; done)), H', ⟨by have := HK1.out; have := HK2.out; omega⟩, ⟨by (with_reducible repeat (first | apply Kd.R_alloc | apply Kd.R_drewN | apply Kd.R_drew)); exact Oq4.out⟩, ⟨by (with_reducible repeat (first | apply Kd.R_alloc | apply Kd.R_drewN | apply Kd.R_drew)); exact Oq5.out⟩, ⟨by (with_reducible repeat (first | apply Kd.R_alloc | apply Kd.R_drewN | apply Kd.R_drew)); exact Oq3.out⟩, ⟨by (with_reducible repeat (first | refine blk_drewN ?_ _ | refine blk_drew ?_ | refine blk_alloc ?_ _)); exact BK467.out⟩, ⟨by repeat with_reducible first | exact HB.out | apply pw_below_drewN | apply below_drew1 | refine below_set ?_ GE467.out⟩⟩
          ·
           rw [if_neg c16] at H
           exact absurd H (by simp)
         ·
          rw [if_neg c15] at H
          exact absurd H (by simp)
        ·
         rw [if_neg c14] at H
         have c14b0 : decide (x28_2 < (t469.length : Int)) = false := decide_eq_false c14
         clear c14
         have H' := Aside0.mk H
         clear H
         go_wp2
         go_roundg k2
         case measure => have := HK1.out; have := HK2.out; omega
         case rel => exact ⟨(x6_2), (wrap64 (x7_1 + 1)), (by first | rfl | (simp; done) | (simp [*]; done)), H', ⟨by have := HK1.out; have := HK2.out; omega⟩, ⟨by (with_reducible repeat (first | apply Kd.R_alloc | apply Kd.R_drewN | apply Kd.R_drew)); exact Oq4.out⟩, ⟨by exact sqm Oq5 (fun _ hk => hk.1)⟩, ⟨by (with_reducible repeat (first | refine blk_drewN ?_ _ | refine blk_drew ?_ | refine blk_alloc ?_ _)); exact BK467.out⟩, ⟨by repeat with_reducible first | exact HB.out | apply pw_below_drewN | apply below_drew1 | refine below_set ?_ GE467.out⟩⟩
     ·
      rw [if_neg c11] at H
      have c11b0 : decide (x7_1 ≤ a0_1) = false := decide_eq_false c11
      clear c11
      simp only [Option.some.injEq, Prod.mk.injEq] at H
      obtain ⟨rfl, rfl⟩ := H
      have zq3 : wr.cell? ⟨gb467, 0, none⟩ = some (.int .i64 a0_0) := sqc BK467 0
      have zq4 : wr.cell? ⟨gb467, 1, none⟩ = some (.int .i64 a0_1) := sqc BK467 1
      have zq5 : wr.cell? ⟨gb467, 2, none⟩ = some (.slice A0_2 l0_2.length c0_2) := sqc BK467 2
      have fq3 := blk_frozen BK467.out 0
      have fq4 := blk_frozen BK467.out 1
      have fq5 := blk_frozen BK467.out 2
      go_wp2
      go_ret2
      exact ⟨_, by first | rfl | (simp [errW_none, errW_some] <;> rfl) | (simp [*, errW_none, errW_some] <;> rfl), by exact sqm Oq5 (fun _ hk => trivial), by repeat with_reducible first | exact HB.out | apply pw_below_drewN | apply below_drew1 | refine below_set ?_ GE467.out⟩
  ·
   replace c5 := Bool.eq_false_iff.mpr c5
   subst c5
   have H1 : (some (([] : List Int), false)) = some (r1, r2) := by first | (rw [if_neg (show ¬ (false = true) by decide)] at H; exact H) | rfl
   clear H
   have H := H1
   clear H1
   simp only [Option.some.injEq, Prod.mk.injEq] at H
   obtain ⟨rfl, rfl⟩ := H
   go_enter Try.func103, Try.ntmps103
   go_wp2_with (first | ((with_reducible refine gate_dst (N := 1) rfl ?_); refine box_event ?hg (N := 1) ?hd (cs := #[.int .i64 a0_0, .int .i64 a0_1, .slice A0_2 l0_2.length c0_2]) (t := 34) ?hr ?_; (case hd => rfl); (case hg => rfl); (case hr => first | (go_simp; done) | (go_simp; rfl)); intro gb467 hg w21 hbox hb; have n0_ := am (below_step (by repeat with_reducible first | exact HB.out | apply pw_below_drewN | apply below_drew1) hb); have n1_ := am (hbox); have n2_ := am ((by rw [hg]; exact (below_size (by repeat with_reducible first | exact HB.out | apply pw_below_drewN | apply below_drew1)) : w.heap.size ≤ gb467)); have n3_ := am ((by rw [hg]; exact (below_size (by repeat with_reducible first | exact HB.out | apply pw_below_drewN | apply below_drew1)) : w.heap.size ≤ gb467)); clear HB; have HB := n0_; have BK467 := n1_; have GW467 := n2_; have GE467 := n3_; clear n0_ n1_ n2_ n3_; clear hb hbox hg; have zq6 : w21.cell? ⟨gb467, 0, none⟩ = some (.int .i64 a0_0) := sqc BK467 0; have zq7 : w21.cell? ⟨gb467, 1, none⟩ = some (.int .i64 a0_1) := sqc BK467 1; have zq8 : w21.cell? ⟨gb467, 2, none⟩ = some (.slice A0_2 l0_2.length c0_2) := sqc BK467 2; have fq6 := blk_frozen BK467.out 0; have fq7 := blk_frozen BK467.out 1; have fq8 := blk_frozen BK467.out 2) | ((with_reducible refine gate_callee (f := 136) rfl ?_); refine goesL_ (some 11) rfl rfl Try.func136 (by kernel_rfl) rfl #[.agg #[.int .i64 a0_0, .int .i64 a0_1, .slice A0_2 l0_2.length c0_2]] rfl (by (try simp only [List.map_toArray, List.map_cons, List.map_nil]); try rfl) ?_; (with_reducible refine (spec_roSquare.calls k a0_0 a0_1 _ _ l0_2 true _ ?side1 ?side2 A2.out).mono ?_); (case side1 => repeat (first | exact (Kd.C_below HR0_2.out HB.out) | (with_reducible first | refine Kd.C_alloc ?_ _ | refine Kd.C_drewN ?_ _ | refine Kd.C_drew ?_))); (case side2 => exact HC0_2.out); rintro e w23 ⟨rfl, hb⟩; refine ⟨_, rfl, ?_⟩; have n1_ := am (below_step (by repeat with_reducible first | exact HB.out | apply pw_below_drewN | apply below_drew1 | refine below_set ?_ GE467.out) hb); clear HB; replace BK467 := sqB BK467 hb; have HB := n1_; clear n1_; (try clear hb); (try clear hb2); (try clear hk); (try clear hi); have zq9 : w23.cell? ⟨gb467, 0, none⟩ = some (.int .i64 a0_0) := sqc BK467 0; have zq10 : w23.cell? ⟨gb467, 1, none⟩ = some (.int .i64 a0_1) := sqc BK467 1; have zq11 : w23.cell? ⟨gb467, 2, none⟩ = some (.slice A0_2 l0_2.length c0_2) := sqc BK467 2; have fq9 := blk_frozen BK467.out 0; have fq10 := blk_frozen BK467.out 1; have fq11 := blk_frozen BK467.out 2) | ((with_reducible refine gate_callee (f := 190) rfl ?_); refine goesL_ (some 15) rfl rfl Try.func190 (by kernel_rfl) rfl #[.agg #[.int .i64 a0_0, .int .i64 a0_1, .slice A0_2 l0_2.length c0_2]] rfl (by (try simp only [List.map_toArray, List.map_cons, List.map_nil]); try rfl) ?_; (with_reducible refine (spec_feLengths.calls k a0_0 a0_1 _ _ l0_2 t469 false _ ?side1 ?side2 A4.out).mono ?_); (case side1 => repeat (first | exact (Kd.C_below HR0_2.out HB.out) | (with_reducible first | refine Kd.C_alloc ?_ _ | refine Kd.C_drewN ?_ _ | refine Kd.C_drew ?_))); (case side2 => exact HC0_2.out); rintro e w25 ⟨v470, rfl, ho0, hb⟩; refine ⟨_, rfl, ?_⟩; have n0_ := am (Kd.R_lower ho0 (below_size (by repeat with_reducible first | exact HB.out | apply pw_below_drewN | apply below_drew1 | refine below_set ?_ GE467.out))); have n2_ := am (below_step (by repeat with_reducible first | exact HB.out | apply pw_below_drewN | apply below_drew1 | refine below_set ?_ GE467.out) hb); clear HB; have Oq1 := n0_; replace BK467 := sqB BK467 hb; have HB := n2_; clear n0_ n2_; (try clear hb); (try clear hb2); (try clear hk); (try clear hi); (try clear ho0)))
   go_ret2
   exact ⟨_, by first | rfl | (simp [errW_none, errW_some] <;> rfl) | (simp [*, errW_none, errW_some] <;> rfl), by first | exact Kd.R_nil _ _ _ _ _ | exact Kd.N_nil _ _ _ _ _ | exact Kd.V_nil _ _ _ _ _ | exact Kd.Q_nil _ _ _ _ _ | exact Kd.S_nil _ _ _ _ _, by repeat with_reducible first | exact HB.out | apply pw_below_drewN | apply below_drew1 | refine below_set ?_ GE467.out⟩
 ·
  replace c3 := Bool.eq_false_iff.mpr c3
  subst c3
  have H1 : (some (([] : List Int), false)) = some (r1, r2) := by first | (rw [if_neg (show ¬ (false = true) by decide)] at H; exact H) | rfl
  clear H
  have H := H1
  clear H1
  simp only [Option.some.injEq, Prod.mk.injEq] at H
  obtain ⟨rfl, rfl⟩ := H
  go_enter Try.func103, Try.ntmps103
  go_wp2_with (first | ((with_reducible refine gate_dst (N := 1) rfl ?_); refine box_event ?hg (N := 1) ?hd (cs := #[.int .i64 a0_0, .int .i64 a0_1, .slice A0_2 l0_2.length c0_2]) (t := 34) ?hr ?_; (case hd => rfl); (case hg => rfl); (case hr => first | (go_simp; done) | (go_simp; rfl)); intro gb467 hg w26 hbox hb; have n0_ := am (below_step (by repeat with_reducible first | exact HB.out | apply pw_below_drewN | apply below_drew1) hb); have n1_ := am (hbox); have n2_ := am ((by rw [hg]; exact (below_size (by repeat with_reducible first | exact HB.out | apply pw_below_drewN | apply below_drew1)) : w.heap.size ≤ gb467)); have n3_ := am ((by rw [hg]; exact (below_size (by repeat with_reducible first | exact HB.out | apply pw_below_drewN | apply below_drew1)) : w.heap.size ≤ gb467)); clear HB; have HB := n0_; have BK467 := n1_; have GW467 := n2_; have GE467 := n3_; clear n0_ n1_ n2_ n3_; clear hb hbox hg; have zq12 : w26.cell? ⟨gb467, 0, none⟩ = some (.int .i64 a0_0) := sqc BK467 0; have zq13 : w26.cell? ⟨gb467, 1, none⟩ = some (.int .i64 a0_1) := sqc BK467 1; have zq14 : w26.cell? ⟨gb467, 2, none⟩ = some (.slice A0_2 l0_2.length c0_2) := sqc BK467 2; have fq12 := blk_frozen BK467.out 0; have fq13 := blk_frozen BK467.out 1; have fq14 := blk_frozen BK467.out 2) | ((with_reducible refine gate_callee (f := 136) rfl ?_); refine goesL_ (some 11) rfl rfl Try.func136 (by kernel_rfl) rfl #[.agg #[.int .i64 a0_0, .int .i64 a0_1, .slice A0_2 l0_2.length c0_2]] rfl (by (try simp only [List.map_toArray, List.map_cons, List.map_nil]); try rfl) ?_; (with_reducible refine (spec_roSquare.calls k a0_0 a0_1 _ _ l0_2 false _ ?side1 ?side2 A2.out).mono ?_); (case side1 => repeat (first | exact (Kd.C_below HR0_2.out HB.out) | (with_reducible first | refine Kd.C_alloc ?_ _ | refine Kd.C_drewN ?_ _ | refine Kd.C_drew ?_))); (case side2 => exact HC0_2.out); rintro e w28 ⟨rfl, hb⟩; refine ⟨_, rfl, ?_⟩; have n1_ := am (below_step (by repeat with_reducible first | exact HB.out | apply pw_below_drewN | apply below_drew1 | refine below_set ?_ GE467.out) hb); clear HB; replace BK467 := sqB BK467 hb; have HB := n1_; clear n1_; (try clear hb); (try clear hb2); (try clear hk); (try clear hi)))
  go_ret2
  exact ⟨_, by first | rfl | (simp [errW_none, errW_some] <;> rfl) | (simp [*, errW_none, errW_some] <;> rfl), by first | exact Kd.R_nil _ _ _ _ _ | exact Kd.N_nil _ _ _ _ _ | exact Kd.V_nil _ _ _ _ _ | exact Kd.Q_nil _ _ _ _ _ | exact Kd.S_nil _ _ _ _ _, by repeat with_reducible first | exact HB.out | apply pw_below_drewN | apply below_drew1 | refine below_set ?_ GE467.out⟩

/-! ### impl_Board_mapped: function 144 (by hand) -/
-- (walk)
theorem mp_step {R C i g5 gr go co n : Nat} {f : Nat → Int} {w w' w9 : World} (h5 : w'.heap[g5]? = some (.cells #[.int .i64 R, .int .i64 C, .slice (some ⟨go, 0, none⟩) R co] 34 (0, 0))) (ho : Kd.R (Kd.int .i64) 3 w' w.heap.size (fun _ => True) (.slice (some ⟨go, 0, none⟩) R co) ((List.range i).map f ++ List.replicate (R - i) 0)) (hr : w'.heap[gr]? = some (.cells #[.int .i64 0, .int .i64 0, .slice none 0 0] 34 (0, 0))) (hB : Below w.heap.size w w') (hb9 : Below (w'.drewN n).heap.size (w'.drewN n) w9) (hi : i < R) :
  (w9.setCell ⟨go, i, none⟩ (.int .i64 (f i))).heap[g5]? = some (.cells #[.int .i64 R, .int .i64 C, .slice (some ⟨go, 0, none⟩) R co] 34 (0, 0)) ∧ Kd.R (Kd.int .i64) 3 (w9.setCell ⟨go, i, none⟩ (.int .i64 (f i))) w.heap.size (fun _ => True) (.slice (some ⟨go, 0, none⟩) R co) ((List.range (i + 1)).map f ++ List.replicate (R - (i + 1)) 0) ∧ (w9.setCell ⟨go, i, none⟩ (.int .i64 (f i))).heap[gr]? = some (.cells #[.int .i64 0, .int .i64 0, .slice none 0 0] 34 (0, 0)) ∧ Below w.heap.size w (w9.setCell ⟨go, i, none⟩ (.int .i64 (f i))) := by
 have o9 := Kd.R_below (Kd.R_drewN ho n) hb9
 have b5 := blk_below (blk_drewN h5 n) hb9
 have br := blk_below (blk_drewN hr n) hb9
 have hB9 := below_step (pw_below_drewN hB n) hb9
 have hl : ((List.range i).map f ++ List.replicate (R - i) 0).length = R := by simp; omega
 obtain ⟨g, cap, ev, hbase, _, cells, hcells⟩ := Kd.R_form o9 (by omega)
 injection ev with ev _ _
 injection ev with ev
 injection ev with ev _ _
 subst ev
 have hp := Kd.R_putn o9 (i : Int) (f i)
 rw [Int.toNat_natCast] at hp
 refine ⟨blk_far (p := ⟨go, i, none⟩) b5 (blk_ne b5 hcells (by decide)) _, ?_, blk_far (p := ⟨go, i, none⟩) br (blk_ne br hcells (by decide)) _, below_set hB9 hbase⟩
 have e : ((List.range i).map f ++ List.replicate (R - i) (0 : Int)).set i (f i) = (List.range (i + 1)).map f ++ List.replicate (R - (i + 1)) 0 := by
  rw [List.set_append_right _ _ (by simp), List.length_map, List.length_range, Nat.sub_self, show R - i = (R - (i + 1)) + 1 by omega, List.replicate_succ, List.set_cons_zero, List.range_succ, List.map_append, List.append_assoc]; rfl
 rw [← e]; exact hp
set_option maxHeartbeats 2000000 in
set_option maxRecDepth 4000 in
theorem mp_all {R C cp : Nat} {A : Option Addr} {l : List Int} {fid : FuncId} {caps : Array Value} {w : World} {f : Nat → Int} (hR : 0 < R) (hR6 : R ≤ 6)
  (hcall : ∀ (args : Array Value) (W : World), Sem.run Try.prog (callFunc fid args) W = .ok (.enter fid args) W)
  (call : ∀ w1 i, Below w.heap.size w w1 → i < R → Calls Try.prog fid (#[.int .i64 ((i : Nat) : Int)] ++ caps) w1 fun e w2 => e = .returned (.int .i64 (f i)) ∧ Below w1.heap.size w1 w2) :
  Calls Try.prog 144 #[.agg #[.int .i64 R, .int .i64 C, .slice A l.length cp], .func (.func fid) #[] caps] w fun e w' => ∃ v2 : Value, e = .returned (.agg #[.int .i64 R, .int .i64 C, v2]) ∧ Kd.R (Kd.int .i64) 3 w' w.heap.size (fun _ => True) v2 ((List.range R).map f) ∧ Below w.heap.size w w' := by
 have CALL := Aside0.mk @call
 have HB := am (Below.refl w.heap.size w)
 have HN := am (show impl_newBoard.f (R : Int) (C : Int) = some ((R : Int), (C : Int), List.replicate R 0) by
  unfold impl_newBoard.f
  first | (rw [if_pos (by omega), if_pos (by omega)]; simp) | (simp; omega))
 clear call
 go_enter Try.func144, Try.ntmps144
 go_wp2_with (first
  | ((with_reducible refine gate_dst (N := 2) rfl ?_); refine box_event ?hg (N := 2) ?hd (cs := #[.int .i64 R, .int .i64 C, .slice A l.length cp]) (t := 34) ?hr ?_; (case hd => rfl); (case hg => rfl); (case hr => first | (go_simp; done) | (go_simp; rfl)); intro gb hgb w1 bb hb1; have GB := Aside0.mk hgb; have cb0 := blk_cell bb 0; have cb1 := blk_cell bb 1; have BB := Aside0.mk bb; have HB1 := Aside0.mk hb1; clear hgb bb hb1)
  | ((with_reducible refine gate_dst (N := 4) rfl ?_); refine box_event ?hg (N := 4) ?hd (cs := #[.int .i64 0, .int .i64 0, .slice none 0 0]) (t := 34) ?hr ?_; (case hd => rfl); (case hg => rfl); (case hr => first | (go_simp; done) | (go_simp; rfl)); intro gr hgr w2 br hb2; have GR := Aside0.mk hgr; have BR := Aside0.mk br; have HB2 := Aside0.mk hb2; clear cb0 cb1; have cb0 := blk_cell (blk_below BB.out hb2) 0; have cb1 := blk_cell (blk_below BB.out hb2) 1; clear hgr br hb2)
  | (go_at_call 197; refine (impl_newBoard.calls _ _ _ _ _ _ HN.out).mono ?_; rintro e w3 ⟨v3, rfl, ho3, hb3⟩; obtain ⟨go, co, ev, _, _, _⟩ := Kd.R_form ho3 (by rw [List.length_replicate]; exact hR); rw [List.length_replicate] at ev; subst ev; have Oq0 := Aside0.mk ho3; have HB3 := Aside0.mk hb3; clear ho3 hb3 cb0 cb1)
  | ((with_reducible refine gate_dst (N := 5) rfl ?_); refine box_event ?hg (N := 5) ?hd (cs := #[.int .i64 0, .int .i64 0, .slice none 0 0]) (t := 34) ?hr ?_; (case hd => rfl); (case hg => rfl); (case hr => first | (go_simp; done) | (go_simp; rfl)); intro g5 hg5 w5 b5 hb5; have G5 := Aside0.mk hg5; have B5 := Aside0.mk b5; have HB5 := Aside0.mk hb5; have c50 := blk_cell b5 0; have c51 := blk_cell b5 1; have c52 := blk_cell b5 2; have f50 := blk_frozen b5 0; have f51 := blk_frozen b5 1; have f52 := blk_frozen b5 2; clear hg5 b5 hb5)
  )
 obtain ⟨W5, hW5⟩ : ∃ W5 : World, W5 = ((w5.setCell ⟨g5, 0, none⟩ (.int .i64 R)).setCell ⟨g5, 1, none⟩ (.int .i64 C)).setCell ⟨g5, 2, none⟩ (.slice (some ⟨go, 0, none⟩) R co) := ⟨_, rfl⟩
 rw [← hW5]
 have INV := am (show W5.heap[g5]? = some (.cells #[.int .i64 R, .int .i64 C, .slice (some ⟨go, 0, none⟩) R co] 34 (0, 0)) ∧ Kd.R (Kd.int .i64) 3 W5 w.heap.size (fun _ => True) (.slice (some ⟨go, 0, none⟩) R co) ((List.range 0).map f ++ List.replicate (R - 0) 0) ∧ W5.heap[gr]? = some (.cells #[.int .i64 0, .int .i64 0, .slice none 0 0] 34 (0, 0)) ∧ Below w.heap.size w W5 from by
  have hB1 := HB1.out
  have hB2 := HB2.out
  have hB3 := HB3.out
  have hB5 := HB5.out
  have s1 := hB1.size
  have s2 := hB2.size
  have s3 := hB3.size
  have h5 := G5.out
  have hr := blk_lt BR.out
  have T5 : Below w.heap.size w w5 := below_step (below_step (below_step hB1 hB2) hB3) hB5
  have e0 := blk_put (cs' := #[.int .i64 R, .int .i64 0, .slice none 0 0]) B5.out 0 (.int .i64 R) rfl
  have e1 := blk_put (cs' := #[.int .i64 R, .int .i64 C, .slice none 0 0]) e0 1 (.int .i64 C) rfl
  have e2 := blk_put (cs' := #[.int .i64 R, .int .i64 C, .slice (some ⟨go, 0, none⟩) R co]) e1 2 (.slice (some ⟨go, 0, none⟩) R co) rfl
  have O5 := Kd.R_below Oq0.out hB5
  have O6 := Kd.R_set O5 B5.out (by intro x hx; simp [Kd.int, Kd.scalar] at hx; subst hx; decide) 0 (.int .i64 R)
  have O7 := Kd.R_set O6 e0 (by intro x hx; simp [Kd.int, Kd.scalar] at hx; subst hx; decide) 1 (.int .i64 C)
  have O8 := Kd.R_set O7 e1 (by intro x hx; simp [Kd.int, Kd.scalar] at hx; subst hx; decide) 2 (.slice (some ⟨go, 0, none⟩) R co)
  have r5 := blk_below (blk_below BR.out hB3) hB5
  have r6 := blk_far (p := ⟨g5, 0, none⟩) r5 (show gr ≠ g5 by omega) (.int .i64 R)
  have r7 := blk_far (p := ⟨g5, 1, none⟩) r6 (show gr ≠ g5 by omega) (.int .i64 C)
  have r8 := blk_far (p := ⟨g5, 2, none⟩) r7 (show gr ≠ g5 by omega) (.slice (some ⟨go, 0, none⟩) R co)
  rw [hW5]
  exact ⟨e2, by simpa using Kd.R_lower O8 (by omega), r8, below_set (below_set (below_set T5 (by omega)) (by omega)) (by omega)⟩)
 have G0 := am (show w.heap.size ≤ g5 ∧ w.heap.size ≤ gr ∧ gr ≠ g5 by
  have hB1 := HB1.out.size
  have hB2 := HB2.out.size
  have hB3 := HB3.out.size
  have h5 := G5.out
  have hgr := GR.out
  have hr := blk_lt BR.out
  omega)
 clear hW5 c50 c51 c52 f50 f51 f52
 go_loopw [15] (fun v15 w' => ∃ i : Nat, i ≤ R ∧ v15 = .int .i64 i ∧ Aside0 (w'.heap[g5]? = some (.cells #[.int .i64 R, .int .i64 C, .slice (some ⟨go, 0, none⟩) R co] 34 (0, 0)) ∧ Kd.R (Kd.int .i64) 3 w' w.heap.size (fun _ => True) (.slice (some ⟨go, 0, none⟩) R co) ((List.range i).map f ++ List.replicate (R - i) 0) ∧ w'.heap[gr]? = some (.cells #[.int .i64 0, .int .i64 0, .slice none 0 0] 34 (0, 0)) ∧ Below w.heap.size w w')) (fun v15 _ => ((R : Int) - intOf v15).toNat)
 case atStart => exact ⟨0, by omega, rfl, INV⟩
 case round =>
  clear INV
  obtain ⟨i, hi, rfl, INV⟩ := hrel
  by_cases hlt : i < R
  ·
   have hlt2 : decide ((i : Int) < (R : Int)) = true := decide_eq_true (by omega)
   have hge : decide ((0 : Int) ≤ (i : Int)) = true := decide_eq_true (by omega)
   have c52 := blk_cell INV.out.1 2
   go_wp2_with fail
   go_region_with (refine (CALL.out _ i (pw_below_drewN INV.out.2.2.2 _) hlt).mono ?_; rintro e w9 ⟨rfl, hb9⟩; have HB9 := Aside0.mk hb9; have c92 := blk_cell (blk_below (blk_drewN INV.out.1 _) hb9) 2; have hc9 := Kd.R_celln (0 : Int) (Kd.R_below (Kd.R_drewN INV.out.2.1 _) hb9) (i : Int) (by omega) (by omega); rw [Int.toNat_natCast] at hc9; obtain ⟨k91, k92⟩ := hc9; clear hb9)
   all_goals
    have inv2 := show (w9.setCell ⟨go, i, none⟩ (.int .i64 (f i))).heap[g5]? = some (.cells #[.int .i64 R, .int .i64 C, .slice (some ⟨go, 0, none⟩) R co] 34 (0, 0)) ∧ Kd.R (Kd.int .i64) 3 (w9.setCell ⟨go, i, none⟩ (.int .i64 (f i))) w.heap.size (fun _ => True) (.slice (some ⟨go, 0, none⟩) R co) ((List.range (i + 1)).map f ++ List.replicate (R - (i + 1)) 0) ∧ (w9.setCell ⟨go, i, none⟩ (.int .i64 (f i))).heap[gr]? = some (.cells #[.int .i64 0, .int .i64 0, .slice none 0 0] 34 (0, 0)) ∧ Below w.heap.size w (w9.setCell ⟨go, i, none⟩ (.int .i64 (f i))) from mp_step INV.out.1 INV.out.2.1 INV.out.2.2.1 INV.out.2.2.2 HB9.out hlt
    have INV2 := Aside0.mk inv2
    clear inv2 k91 k92 c92 c52 INV
    simp only [Exit.inBlock, Exit.then]
    go_wp2_with fail
    go_roundw
    case rel => exact ⟨i + 1, by omega, rfl, INV2⟩
    case measure => simp [intOf]; omega
  ·
   obtain rfl : i = R := by omega
   have hlt2 : decide ((i : Int) < (i : Int)) = false := decide_eq_false (by omega)
   have c50 := blk_cell INV.out.1 0
   have c51 := blk_cell INV.out.1 1
   have c52 := blk_cell INV.out.1 2
   have cr0 := blk_cell INV.out.2.2.1 0
   have cr1 := blk_cell INV.out.2.2.1 1
   have cr2 := blk_cell INV.out.2.2.1 2
   have fr0 := blk_frozen INV.out.2.2.1 0
   have fr1 := blk_frozen INV.out.2.2.1 1
   have fr2 := blk_frozen INV.out.2.2.1 2
   go_wp2
   have e0 := blk_put (cs' := #[.int .i64 i, .int .i64 0, .slice none 0 0]) INV.out.2.2.1 0 (.int .i64 i) rfl
   have e1 := blk_put (cs' := #[.int .i64 i, .int .i64 C, .slice none 0 0]) e0 1 (.int .i64 C) rfl
   have e2 := blk_put (cs' := #[.int .i64 i, .int .i64 C, .slice (some ⟨go, 0, none⟩) i co]) e1 2 (.slice (some ⟨go, 0, none⟩) i co) rfl
   refine bodyPost_ret (results_cell_row rfl _ _ gr 34 #[.int .i64 i, .int .i64 C, .slice (some ⟨go, 0, none⟩) i co] (0, 0) _ rfl e2 Try.underlying34 rfl rfl) rfl ?_
   have O6 := Kd.R_set INV.out.2.1 INV.out.2.2.1 (by intro x hx; simp [Kd.int, Kd.scalar] at hx; subst hx; decide) 0 (.int .i64 i)
   have O7 := Kd.R_set O6 e0 (by intro x hx; simp [Kd.int, Kd.scalar] at hx; subst hx; decide) 1 (.int .i64 C)
   have O8 := Kd.R_set O7 e1 (by intro x hx; simp [Kd.int, Kd.scalar] at hx; subst hx; decide) 2 (.slice (some ⟨go, 0, none⟩) i co)
   rw [Nat.sub_self, List.replicate_zero, List.append_nil] at O8
   exact ⟨_, rfl, O8, below_set (below_set (below_set INV.out.2.2.2 G0.out.2.1) G0.out.2.1) G0.out.2.1⟩
theorem mp_end {gr n : Nat} {R C : Int} {A4 : Option Addr} {c4 : Nat} {xs : List Int} {w w3 w4 : World} (br : w4.heap[gr]? = some (.cells #[.int .i64 0, .int .i64 0, .slice none 0 0] 34 (0, 0))) (T3 : Below w.heap.size w w3) (hb4 : Below w3.heap.size w3 w4) (hgr : w.heap.size ≤ gr) (ho4 : Kd.R (Kd.int .i64) 3 w4 w3.heap.size (fun _ => True) (.slice A4 n c4) xs) :
  (((w4.setCell ⟨gr, 0, none⟩ (.int .i64 R)).setCell ⟨gr, 1, none⟩ (.int .i64 C)).setCell ⟨gr, 2, none⟩ (.slice A4 n c4)).heap[gr]? = some (.cells #[.int .i64 R, .int .i64 C, .slice A4 n c4] 34 (0, 0)) ∧ Kd.R (Kd.int .i64) 3 (((w4.setCell ⟨gr, 0, none⟩ (.int .i64 R)).setCell ⟨gr, 1, none⟩ (.int .i64 C)).setCell ⟨gr, 2, none⟩ (.slice A4 n c4)) w.heap.size (fun _ => True) (.slice A4 n c4) xs ∧ Below w.heap.size w (((w4.setCell ⟨gr, 0, none⟩ (.int .i64 R)).setCell ⟨gr, 1, none⟩ (.int .i64 C)).setCell ⟨gr, 2, none⟩ (.slice A4 n c4)) := by
 have e0 := blk_put (cs' := #[.int .i64 R, .int .i64 0, .slice none 0 0]) br 0 (.int .i64 R) rfl
 have e1 := blk_put (cs' := #[.int .i64 R, .int .i64 C, .slice none 0 0]) e0 1 (.int .i64 C) rfl
 have e2 := blk_put (cs' := #[.int .i64 R, .int .i64 C, .slice A4 n c4]) e1 2 (.slice A4 n c4) rfl
 have O6 := Kd.R_set ho4 br (by intro x hx; simp [Kd.int, Kd.scalar] at hx; subst hx; decide) 0 (.int .i64 R)
 have O7 := Kd.R_set O6 e0 (by intro x hx; simp [Kd.int, Kd.scalar] at hx; subst hx; decide) 1 (.int .i64 C)
 have O8 := Kd.R_set O7 e1 (by intro x hx; simp [Kd.int, Kd.scalar] at hx; subst hx; decide) 2 (.slice A4 n c4)
 exact ⟨e2, Kd.R_lower O8 T3.size, below_set (below_set (below_set (below_step T3 hb4) hgr) hgr) hgr⟩
theorem range_get (g : Int → Int) : ∀ l : List Int, (List.range l.length).map (fun i => g (l.getD i 0)) = l.map g := by
 intro l
 refine List.ext_getElem (by simp) ?_
 intro i h1 h2
 have : i < l.length := by simpa using h1
 simp [List.getD, this]

end Go.Proofs.Ytfgfgkpmkfjeiaa.PFnOrderedBoards
