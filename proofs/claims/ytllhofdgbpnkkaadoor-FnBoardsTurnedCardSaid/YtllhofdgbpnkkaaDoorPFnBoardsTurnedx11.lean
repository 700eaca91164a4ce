-- Printed for this claim by wip/pp.py over the kit's printer; Lean checks it.
import Derived.Test.YtllhofdgbpnkkaaDoorPFnBoardsTurnedx0
import Derived.Test.YtllhofdgbpnkkaaDoorPFnBoardsTurnedx3
import Derived.Test.YtllhofdgbpnkkaaDoorPFnBoardsTurnedx4
namespace Go.Proofs.YtllhofdgbpnkkaaDoor.PFnBoardsTurned
open Go.RowKit Go.Proofs.YtllhofdgbpnkkaaDoorW.PrintWords Go.Proofs.YtllhofdgbpnkkaaDoorW.PrintLast Go.Proofs.YtllhofdgbpnkkaaDoorW.PrintMore
attribute [local go_sem] max2_int min2_int max_two min_two max_three min_three max_four min_four   -- for this text's walks alone
set_option linter.unusedVariables false
set_option linter.unusedSimpArgs false

/-! ### strings_Split: function 51 (by hand) -/
/-- A text's parts between '/'. -/
def splitL : List UInt8 → List (List UInt8)
 | [] => [[]]
 | b :: t => if b = 47 then [] :: splitL t else match splitL t with | [] => [[b]] | h :: r => (b :: h) :: r
def spl (s : ByteArray) : List ByteArray := (splitL s.data.toList).map fun l => ⟨l.toArray⟩
def strings_Split.f (a0 : ByteArray) (a1 : ByteArray) : Option (List ByteArray) := if a1.data.toList = [47] ∧ a0.size ≤ 1000000 then some (spl a0) else none
-- (walk)
def ss_lays146_ren : Go.Shelf.Ren := ⟨fun | 146 => 51 | 221 => 70 | 268 => 77 | 138 => 78 | 143 => 79 | 195 => 83 | 197 => 84 | 218 => 85 | 219 => 86 | 260 => 89 | 217 => 90 | 225 => 91 | 224 => 92 | 267 => 93 | 266 => 96 | 314 => 97 | n => n, fun | 9 => 9 | 31 => 65 | 3 => 3 | 4 => 4 | 0 => 0 | 105 => 94 | 21 => 21 | 5 => 5 | 46 => 81 | 119 => 101 | 139 => 104 | 138 => 103 | 146 => 106 | 51 => 105 | n => n, fun | 1 => 0 | 3 => 1 | 4 => 2 | n => n⟩
theorem ss_lays146 : Go.Proofs.Lays.n146 Tryd.prog ss_lays146_ren := {
 mixed := by kernel_rfl
 f138 := Tryd.func78.trans (congrArg some (by kernel_rfl))
 f143 := Tryd.func79.trans (congrArg some (by kernel_rfl))
 f146 := Tryd.func51.trans (congrArg some (by kernel_rfl))
 f195 := Tryd.func83.trans (congrArg some (by kernel_rfl))
 f197 := Tryd.func84.trans (congrArg some (by kernel_rfl))
 f217 := Tryd.func90.trans (congrArg some (by kernel_rfl))
 f218 := Tryd.func85.trans (congrArg some (by kernel_rfl))
 f219 := Tryd.func86.trans (congrArg some (by kernel_rfl))
 f221 := Tryd.func70.trans (congrArg some (by kernel_rfl))
 f224 := Tryd.func92.trans (congrArg some (by kernel_rfl))
 f225 := Tryd.func91.trans (congrArg some (by kernel_rfl))
 f260 := Tryd.func89.trans (congrArg some (by kernel_rfl))
 f266 := Tryd.func96.trans (congrArg some (by kernel_rfl))
 f267 := Tryd.func93.trans (congrArg some (by kernel_rfl))
 f268 := Tryd.func77.trans (congrArg some (by kernel_rfl))
 f314 := Tryd.func97.trans (congrArg some (by kernel_rfl))
 t0 := Tryd.underlying0
 a0 := Tryd.isAgg0
 z0 := Tryd.sizeOf0
 v0 := Tryd.zeroValue0
 t3 := Tryd.underlying3
 a3 := Tryd.isAgg3
 z3 := Tryd.sizeOf3
 v3 := Tryd.zeroValue3
 t4 := Tryd.underlying4
 a4 := Tryd.isAgg4
 z4 := Tryd.sizeOf4
 v4 := Tryd.zeroValue4
 t5 := Tryd.underlying5
 a5 := Tryd.isAgg5
 z5 := Tryd.sizeOf5
 v5 := Tryd.zeroValue5
 t9 := Tryd.underlying9
 a9 := Tryd.isAgg9
 z9 := Tryd.sizeOf9
 v9 := Tryd.zeroValue9
 t21 := Tryd.underlying21
 a21 := Tryd.isAgg21
 z21 := Tryd.sizeOf21
 v21 := Tryd.zeroValue21
 t31 := Tryd.underlying65
 a31 := Tryd.isAgg65
 z31 := Tryd.sizeOf65
 v31 := Tryd.zeroValue65
 t46 := Tryd.underlying81
 a46 := Tryd.isAgg81
 z46 := Tryd.sizeOf81
 v46 := Tryd.zeroValue81
 t51 := Tryd.underlying105
 a51 := Tryd.isAgg105
 z51 := Tryd.sizeOf105
 v51 := Tryd.zeroValue105
 t105 := Tryd.underlying94
 a105 := Tryd.isAgg94
 z105 := Tryd.sizeOf94
 v105 := Tryd.zeroValue94
 t119 := Tryd.underlying101
 a119 := Tryd.isAgg101
 z119 := Tryd.sizeOf101
 t138 := Tryd.underlying103
 a138 := Tryd.isAgg103
 z138 := Tryd.sizeOf103
 v138 := Tryd.zeroValue103
 t139 := Tryd.underlying104
 a139 := Tryd.isAgg104
 z139 := Tryd.sizeOf104
 v139 := Tryd.zeroValue104
 t146 := Tryd.underlying106
 a146 := Tryd.isAgg106
 z146 := Tryd.sizeOf106
 v146 := Tryd.zeroValue106
 g1 := by kernel_rfl
 g3 := by kernel_rfl
 g4 := by kernel_rfl }

theorem splitL_none : ∀ (L : List UInt8), 47 ∉ L → splitL L = [L]
 | [], _ => rfl
 | b :: t, h => by
  simp only [List.mem_cons, not_or] at h
  rw [splitL, if_neg (fun e => h.1 e.symm), splitL_none t h.2]
theorem splitL_cut : ∀ (A B : List UInt8), 47 ∉ A → splitL (A ++ 47 :: B) = A :: splitL B
 | [], B, _ => by rw [List.nil_append, splitL, if_pos rfl]
 | b :: A, B, h => by
  simp only [List.mem_cons, not_or] at h
  rw [List.cons_append, splitL, if_neg (fun e => h.1 e.symm), splitL_cut A B h.2]
theorem ss_extract (s : ByteArray) (a b : Nat) : (s.extract a b).data.toList = (s.data.toList.drop a).take (b - a) := by
 rw [ByteArray.data_extract, Array.toList_extract, List.extract_eq_take_drop]
theorem ss_split (sep : ByteArray) (hsep : sep.data.toList = [47]) : ∀ (n : Nat) (s : ByteArray), s.data.toList.count 47 = n → Go.Lib.splitB sep 0 n s = spl s := by
 have hs1 : sep.size = 1 := by have := congrArg List.length hsep; simpa using this
 have hs0 : sep[0] = 47 := by
  have : sep.data.toList[0]'(by rw [hsep]; simp) = 47 := by simp [hsep]
  exact (by simpa using this : sep.data[0]'(by have := hs1; simpa using (by omega : 0 < sep.size)) = 47)
 have hidx : ∀ s : ByteArray, Go.Lib.indexB s sep = Go.Lib.indexByte s.data.toList 47 := by
  intro s
  rw [Go.Lib.one s sep hs1, hs0]; rfl
 intro n
 induction n with
 | zero =>
  intro s h
  have h0 : (47 : UInt8) ∉ s.data.toList := List.count_eq_zero.1 h
  rw [Go.Lib.splitB_zero]
  unfold spl
  rw [splitL_none _ h0]
  rfl
 | succ n ih =>
  intro s h
  have hmem : (47 : UInt8) ∈ s.data.toList := List.count_pos_iff.1 (by omega)
  have hge := Go.Lib.indexByte_ge s.data.toList 47
  have hne : Go.Lib.indexByte s.data.toList 47 ≠ -1 := by
   intro e
   obtain ⟨k, hk, e2⟩ := List.getElem_of_mem hmem
   exact Go.Lib.indexByte_none e k (by rw [List.getElem?_eq_getElem hk, e2])
  obtain ⟨o, ho⟩ : ∃ o : Nat, Go.Lib.indexByte s.data.toList 47 = o := ⟨(Go.Lib.indexByte s.data.toList 47).toNat, by omega⟩
  obtain ⟨h1, h2⟩ := Go.Lib.indexByte_some ho
  obtain ⟨hlt, h3⟩ := List.getElem?_eq_some_iff.1 h1
  have hA : (47 : UInt8) ∉ s.data.toList.take o := by
   intro hm
   obtain ⟨k, hk, e2⟩ := List.getElem_of_mem hm
   simp only [List.length_take] at hk
   rw [List.getElem_take] at e2
   exact h2 k (by omega) (by rw [List.getElem?_eq_getElem (by omega), e2])
  have hL : s.data.toList = s.data.toList.take o ++ 47 :: s.data.toList.drop (o + 1) := by
   conv => lhs; rw [← List.take_append_drop o s.data.toList]
   rw [List.drop_eq_getElem_cons hlt, h3]
  have hsz : s.size = s.data.toList.length := by simp
  rw [Go.Lib.splitB, hidx s, ho, if_neg (by simp), Int.toNat_natCast, Nat.add_zero, hs1]
  have hrest : (s.extract (o + 1) s.size).data.toList = s.data.toList.drop (o + 1) := by
   rw [ss_extract, List.take_of_length_le (by rw [List.length_drop]; omega)]
  have hcnt : (s.extract (o + 1) s.size).data.toList.count 47 = n := by
   rw [hrest]
   have := congrArg (List.count 47) hL
   rw [List.count_append, List.count_eq_zero.2 hA, List.count_cons_self, h] at this
   omega
  rw [ih _ hcnt]
  unfold spl
  rw [hrest]
  conv => rhs; rw [hL]
  rw [splitL_cut _ _ hA, List.map_cons]
  congr 1
  apply ByteArray.ext; apply Array.toList_inj.1
  rw [ss_extract, List.drop_zero, Nat.sub_zero]
theorem strings_Split.calls (a0 : ByteArray) (a1 : ByteArray) (r : List ByteArray) (w : World) (h : strings_Split.f a0 a1 = some r) :
  Calls Tryd.prog 51 #[.string a0, .string a1] w fun e w' => ∃ v0_ : Value, e = .returned (v0_) ∧ Kd.R Kd.string 9 w' w.heap.size (fun _ => True) v0_ r ∧ Below w.heap.size w w' := by
 unfold strings_Split.f at h
 by_cases hc : a1.data.toList = [47] ∧ a0.size ≤ 1000000
 case neg => rw [if_neg hc] at h; exact absurd h (by simp)
 rw [if_pos hc] at h
 obtain rfl := Option.some.inj h
 obtain ⟨h1, h2⟩ := hc
 have e1 : a1 = ⟨#[47]⟩ := by
  apply ByteArray.ext; apply Array.toList_inj.1
  rw [h1]
 subst e1
 have hcb : Go.Lib.countB a0 ⟨#[47]⟩ = a0.data.toList.count 47 := by
  show Go.Lib.count a0.data.toList [47] = _
  rw [Go.Lib.count_one]
 have hle := Go.Lib.countB_le (⟨#[47]⟩ : ByteArray) (by decide) a0.size a0 (Nat.le_refl _)
 have hlen := Go.Lib.splitB_all (⟨#[47]⟩ : ByteArray) (by decide) 0 (Go.Lib.countB a0 ⟨#[47]⟩) a0 rfl
 have hspl := ss_split (⟨#[47]⟩ : ByteArray) rfl (Go.Lib.countB a0 ⟨#[47]⟩) a0 hcb.symm
 have hi9 : (Tryd.prog.info? 9).map (fun i => (i.zero, i.size, i.bytes)) = some (some (.string ByteArray.empty), 1, 16) := by kernel_rfl
 have L := ss_lays146
 have c := Go.Proofs.Any.strings_genSplit_core (ρ := ss_lays146_ren) { L with } hi9 a0 (⟨#[47]⟩ : ByteArray) 0 (-1) (Go.Lib.countB a0 ⟨#[47]⟩ + 1) w (by omega) (by decide) (Nat.zero_le _)
  (fun x cc hx => (Go.Proofs.Any.strings_Index_one { L with } x 47 _).mono fun e w' ⟨he, hw⟩ => ⟨by rw [he, Go.Lib.one x (⟨#[47]⟩ : ByteArray) rfl]; rfl, hw⟩)
  ((Go.Proofs.Any.strings_Count_one { L with } a0 47 w).mono fun e w' ⟨he, hw⟩ => ⟨by rw [he, hcb]; rfl, hw⟩) (by decide) (by decide) (by rw [if_pos (by decide)]; omega)
 rw [Nat.add_sub_cancel, hlen, hspl] at c
 rw [hspl] at hlen
 have e2 : Go.Lib.cellsOf (spl a0) (Go.Lib.countB a0 ⟨#[47]⟩ + 1) = ((spl a0).map Value.string).toArray := by rw [← hlen]; exact Go.Lib.cellsOf_full _
 rw [e2] at c
 have hcn : Go.Lib.countB a0 ⟨#[47]⟩ ≤ 1000000 := by omega
 generalize Go.Lib.countB a0 ⟨#[47]⟩ = n at c hlen hcn
 have HC := am (show Calls Tryd.prog 70 #[.string a0, .string ⟨#[47]⟩, .int .i64 0, .int .i64 (-1)] w _ from c)
 have HL := Aside0.mk hlen
 clear c hlen hspl hcb hle e2 h2 h1 L hi9
 go_enter Tryd.func51, Tryd.ntmps51
 go_wp2_with (go_at_call 70; refine HC.out.mono ?_; rintro e w' ⟨rfl, rfl⟩)
 go_ret
 have hlen := HL.out
 refine ⟨_, rfl, ?_, below_alloc (Below.refl _ _) _⟩
 refine Kd.R_of_own (enc := Value.string) (h1 := fun _ => rfl) ⟨by simp [encs], .inr ⟨w.heap.size, n + 1, _, by rw [hlen]; rfl, Nat.le_refl _, blk_new w _, by rw [hlen]; exact Nat.le_refl _, by unfold maxLen; omega, by simp [hlen], ?_⟩⟩ (fun _ _ => trivial)
 simp [encs, hlen, List.take_of_length_le]

/-! ### impl_ParseBoard: function 17 -/
mutual
def impl_ParseBoard.j0 : Nat → List ByteArray → Bool → Option (Int × Int × List Int × Bool)
 | 0, _, _ => none
 | k + 1, x4, x26 => if x26 = true then (some (0, 0, ([] : List Int), false)) else (if 0 < (x4.length : Int) then ((impl_newBoard.f (x4.length : Int) ((rdOf ByteArray.empty x4 0).size : Int)).bind fun bt437 => (impl_ParseBoard.l0 k x4 (x4.length : Int) 0 bt437.1 bt437.2.1 bt437.2.2)) else (none))
def impl_ParseBoard.l0 : Nat → List ByteArray → Int → Int → Int → Int → List Int → Option (Int × Int × List Int × Bool)
 | 0, _, _, _, _, _, _ => none
 | k + 1, x35, x36, x37, x443000, x443001, x443002 => if x37 < x36 then (if 0 ≤ x37 then (if x37 < (x35.length : Int) then (if ((rdOf ByteArray.empty x35 x37).size : Int) = x443001 then (impl_ParseBoard.l1 k x37 (rdOf ByteArray.empty x35 x37) x35 x36 x37 ((rdOf ByteArray.empty x35 x37).size : Int) 0 x443000 x443001 x443002) else (some (0, 0, ([] : List Int), false))) else (none)) else (none)) else (some (x443000, x443001, x443002, true))
def impl_ParseBoard.l1 : Nat → Int → ByteArray → List ByteArray → Int → Int → Int → Int → Int → Int → List Int → Option (Int × Int × List Int × Bool)
 | 0, _, _, _, _, _, _, _, _, _, _ => none
 | k + 1, x6, x7, x35, x36, x37, x49, x50, x443000, x443001, x443002 => if x50 < x49 then (if 0 ≤ x50 then (if x50 < (x7.size : Int) then (if (bt x7 x50) = 49 then (if 0 ≤ x6 then (if x6 < (x443002.length : Int) then (impl_ParseBoard.l1 k x6 x7 x35 x36 x37 x49 (wrap64 (x50 + 1)) x443000 x443001 (x443002.set (x6 : Int).toNat (Go.bits .or .i64 (rd x443002 x6) (shl .i64 1 x50)))) else (none)) else (none)) else (if (bt x7 x50) = 48 then (impl_ParseBoard.l1 k x6 x7 x35 x36 x37 x49 (wrap64 (x50 + 1)) x443000 x443001 x443002) else (some (0, 0, ([] : List Int), false)))) else (none)) else (none)) else (impl_ParseBoard.l0 k x35 x36 (wrap64 (x37 + 1)) x443000 x443001 x443002)
end
def impl_ParseBoard.f (k : Nat) (a0 : ByteArray) : Option (Int × Int × List Int × Bool) := if (a0.size : Int) > 42 then (some (0, 0, ([] : List Int), false)) else ((strings_Split.f a0 (⟨#[47]⟩ : ByteArray)).bind fun t430 => ((impl_isSide.f (t430.length : Int)).bind fun t433 => (if t433 = true then (if 0 < (t430.length : Int) then ((impl_isSide.f ((rdOf ByteArray.empty t430 0).size : Int)).bind fun t435 => (impl_ParseBoard.j0 k t430 (!t435))) else (none)) else (impl_ParseBoard.j0 k t430 true))))
def impl_ParseBoard.T18 : Bool × List (List Nat × List Nat) := (true, [([], []), ([0], [0]), ([], []), ([1, 2], [1, 2]), ([3], [3]), ([], []), ([5], [5]), ([4, 6], [4, 6]), ([1, 2, 0, 1, 2, 3, 4, 5, 6, 7], [1, 2]), ([8, 7, 0, 1, 2, 3, 4, 5, 6, 7], [7, 8])])
def impl_ParseBoard.B18 : List Nat := [0, 1, 0, 7, 15, 0, 32, 127, 255, 511]
theorem impl_ParseBoard.tab18 : rtab .any (opsOf Tryd.f17 18) = impl_ParseBoard.T18 := by kernel_rfl
theorem impl_ParseBoard.bits18 : waitsOk impl_ParseBoard.T18.2 impl_ParseBoard.B18 = true := by kernel_rfl
set_option maxHeartbeats 8000000 in
set_option maxRecDepth 100000 in
theorem impl_ParseBoard.calls (k : Nat) (a0 : ByteArray) (r1 : Int) (r2 : Int) (r3 : List Int) (r4 : Bool) (w : World) (h : impl_ParseBoard.f k a0 = some (r1, r2, r3, r4)) :
  Calls Tryd.prog 17 #[.string a0] w fun e w' => ∃ v2_ : Value, e = .returned (.tuple #[.agg #[.int .i64 r1, .int .i64 r2, v2_], .bool r4]) ∧ Kd.R (Kd.int .i64) 3 w' w.heap.size (fun _ => True) v2_ r3 ∧ Below w.heap.size w w' := by
 have hu26 := Tryd.underlying26
 have HB := am (Below.refl w.heap.size w)
 have H : (if (a0.size : Int) > 42 then (some (0, 0, ([] : List Int), false)) else ((strings_Split.f a0 (⟨#[47]⟩ : ByteArray)).bind fun t430 => ((impl_isSide.f (t430.length : Int)).bind fun t433 => (if t433 = true then (if 0 < (t430.length : Int) then ((impl_isSide.f ((rdOf ByteArray.empty t430 0).size : Int)).bind fun t435 => (impl_ParseBoard.j0 k t430 (!t435))) else (none)) else (impl_ParseBoard.j0 k t430 true))))) = some (r1, r2, r3, r4) := h
 clear h
 by_cases c2 : (a0.size : Int) > 42
 ·
  rw [if_pos c2] at H
  have c2b0 : decide (42 < (a0.size : Int)) = true := decide_eq_true c2
  have c2b1 : decide (42 < a0.size) = true := decide_eq_true (by omega)
  clear c2
  simp only [Option.some.injEq, Prod.mk.injEq] at H
  obtain ⟨rfl, rfl, rfl, rfl⟩ := H
  go_enter Tryd.func17, Tryd.ntmps17
  go_wp2_with (first | ((with_reducible refine gate_dst (N := 2) rfl ?_); (try (refine gate_guard (by rfl) ?_; dsimp only)); refine qv 2 #[.int .i64 0, .int .i64 0, .slice none 0 0] 26 ?_; intro gb429 hg w3 hbox hb; have BK429 := am hbox; have GW429 := qw hg; have GE429 := qw hg; replace HB := qs hb; clear hb hbox hg; obtain ⟨zq18, zq19, zq20, fq18, fq19, fq20⟩ := qd BK429))
  refine bodyPost_ret (results_ct rfl _ _ gb429 26 #[.int .i64 0, .int .i64 0, .slice none 0 0] (0, 0) _ rfl Q16 Tryd.underlying26 rfl (by kernel_rfl)) rfl ?_
  exact ⟨_, Q1, Q6, qb⟩
 ·
  rw [if_neg c2] at H
  have c2b0 : decide (42 < (a0.size : Int)) = false := decide_eq_false c2
  have c2b1 : decide (42 < a0.size) = false := decide_eq_false (by omega)
  clear c2
  replace H := qE H
  obtain ⟨t430, A5, H⟩ := H
  replace H : ((impl_isSide.f (t430.length : Int)).bind fun t433 => (if t433 = true then (if 0 < (t430.length : Int) then ((impl_isSide.f ((rdOf ByteArray.empty t430 0).size : Int)).bind fun t435 => (impl_ParseBoard.j0 k t430 (!t435))) else (none)) else (impl_ParseBoard.j0 k t430 true))) = some (r1, r2, r3, r4) := H
  have HC6 := Aside0.mk H
  clear H
  go_enter Tryd.func17, Tryd.ntmps17
  go_upto_region 4 with (first | ((with_reducible refine gate_dst (N := 2) rfl ?_); (try (refine gate_guard (by rfl) ?_; dsimp only)); refine qv 2 #[.int .i64 0, .int .i64 0, .slice none 0 0] 26 ?_; intro gb429 hg w7 hbox hb; have BK429 := am hbox; have GW429 := qw hg; have GE429 := qw hg; replace HB := qs hb; clear hb hbox hg) | ((with_reducible refine gate_callee (f := 51) rfl ?_); refine qg (some 14) Tryd.func51 #[.string a0, .string (⟨#[47]⟩ : ByteArray)] ?_; (with_reducible refine (strings_Split.calls a0 (⟨#[47]⟩ : ByteArray) t430 _ A5.out).mono ?_); rintro e w8 ⟨v431, rfl, ho0, hb⟩; refine ⟨_, rfl, ?_⟩; have Oq0 := ql ho0; replace BK429 := sqB BK429 hb; replace HB := qs hb; (try clear hb ho0)))
  (try simp only [Act.put, List.setIfInBounds_toArray, List.set_cons_zero, List.set_cons_succ])
  go_cut [26] (fun v26 wc => ∃ (kq : Nat) (x26_5 : Bool), v26 = .bool x26_5 ∧ Aside0 (impl_ParseBoard.j0 kq t430 x26_5 = some (r1, r2, r3, r4)) ∧ Aside0 (kq ≤ k) ∧ Aside0 (Kd.R Kd.string 9 wc w.heap.size (fun _ => True) v431 t430) ∧ Aside0 (wc.heap[gb429]? = some (.cells #[.int .i64 0, .int .i64 0, (.slice none 0 0)] 26 (0, 0))) ∧ Aside0 (Below w.heap.size w wc))
  case first =>
   have H := HC6.out
   clear HC6
   replace H := qE H
   obtain ⟨t433, A9, H⟩ := H
   replace H : (if t433 = true then (if 0 < (t430.length : Int) then ((impl_isSide.f ((rdOf ByteArray.empty t430 0).size : Int)).bind fun t435 => (impl_ParseBoard.j0 k t430 (!t435))) else (none)) else (impl_ParseBoard.j0 k t430 true)) = some (r1, r2, r3, r4) := H
   by_cases c10 : t433 = true
   ·
    subst c10
    have H1 : (if 0 < (t430.length : Int) then ((impl_isSide.f ((rdOf ByteArray.empty t430 0).size : Int)).bind fun t435 => (impl_ParseBoard.j0 k t430 (!t435))) else (none)) = some (r1, r2, r3, r4) := by first | (rw [if_pos rfl] at H; exact H) | rfl
    clear H
    have H := H1
    clear H1
    by_cases c11 : 0 < (t430.length : Int)
    ·
     rw [if_pos c11] at H
     have c11b0 : decide (0 < (t430.length : Int)) = true := decide_eq_true c11
     have c11b1 : decide (0 < t430.length) = true := decide_eq_true (by omega)
     clear c11
     (first | rw [c11b0] | (simp only [i64_w, i32_w]; rw [c11b0]) | rw [c11b1] | skip)
     replace H := qE H
     obtain ⟨t435, A12, H⟩ := H
     replace H : (impl_ParseBoard.j0 k t430 (!t435)) = some (r1, r2, r3, r4) := H
     have H' := Aside0.mk H
     clear H
     obtain ⟨Ao13, co13, eo13⟩ := Kd.R_slice Oq0.out
     subst eo13
     go_wp2_with (first | ((with_reducible refine gate_callee (f := 52) rfl ?_); refine qg (some 17) Tryd.func52 #[.int .i64 (t430.length : Int)] ?_; (with_reducible refine (impl_isSide.calls (t430.length : Int) true _ A9.out).mono ?_); rintro e w' ⟨rfl, ⟨nd, rfl⟩⟩; refine ⟨_, rfl, ?_⟩; have p434 : 0 ≤ (0 : Int) := (by omega); have q434 : 0 < (t430.length : Int) := of_decide_eq_true Q0; obtain ⟨ad434, e434, hx434_0⟩ := Kd.at_string (Kd.R_reads' Oq0.out).2.2 0 p434 q434; cases e434; have qi434 : (0 < t430.length) = True := eq_true (by omega); (try rw [show ((0 : Int)).toNat = 0 from rfl] at hx434_0); (try rw [Addr.add_zero'] at hx434_0); replace p434 := eq_true p434; replace q434 := eq_true q434) | (go_at_call 52; (with_reducible refine (impl_isSide.calls ((rdOf ByteArray.empty t430 0).size : Int) t435 _ A12.out).mono ?_); rintro e w' ⟨rfl, ⟨nd, rfl⟩⟩))
     go_meet
     case rel => exact ⟨_, (!t435), Q2, H', ⟨Q63⟩, ⟨Q36⟩, ⟨Q28⟩, ⟨qb⟩⟩
    ·
     rw [if_neg c11] at H
     exact absurd H (by simp)
   ·
    replace c10 := Bool.eq_false_iff.mpr c10
    subst c10
    have H1 : (impl_ParseBoard.j0 k t430 true) = some (r1, r2, r3, r4) := by first | (rw [if_neg (show ¬ (false = true) by decide)] at H; exact H) | rfl
    clear H
    have H := H1
    clear H1
    have H' := Aside0.mk H
    clear H
    obtain ⟨Ao14, co14, eo14⟩ := Kd.R_slice Oq0.out
    subst eo14
    go_wp2_with (first | ((with_reducible refine gate_callee (f := 52) rfl ?_); refine qg (some 17) Tryd.func52 #[.int .i64 (t430.length : Int)] ?_; (with_reducible refine (impl_isSide.calls (t430.length : Int) false _ A9.out).mono ?_); rintro e w' ⟨rfl, ⟨nd, rfl⟩⟩; refine ⟨_, rfl, ?_⟩))
    go_meet
    case rel => exact ⟨_, (true), Q2, H', ⟨Q63⟩, ⟨Q36⟩, ⟨Q28⟩, ⟨qb⟩⟩
  case rest =>
   clear HC6
   try clear c2; try clear c2b0; try clear c2b1; try clear c10; try clear c11; try clear c11b0; try clear c11b1; try clear zq18; try clear zq19; try clear zq20; try clear fq18; try clear fq19; try clear fq20; try clear hx434_0; try clear p434; try clear q434
   obtain ⟨kq, x26_5, rfl, HA, HJ5, Oq3, BK429, HB⟩ := hcut
   cases kq with
   | zero => exact absurd HA.out (by simp [impl_ParseBoard.j0])
   | succ kj5 =>
    have H := HA.out
    clear HA
    simp only [impl_ParseBoard.j0] at H
    by_cases c15 : x26_5 = true
    ·
     subst c15
     have H1 : (some (0, 0, ([] : List Int), false)) = some (r1, r2, r3, r4) := by first | (rw [if_pos rfl] at H; exact H) | rfl
     clear H
     have H := H1
     clear H1
     simp only [Option.some.injEq, Prod.mk.injEq] at H
     obtain ⟨rfl, rfl, rfl, rfl⟩ := H
     obtain ⟨zq0, zq1, zq2, fq0, fq1, fq2⟩ := qd BK429
     go_wp2
     refine bodyPost_ret (results_ct rfl _ _ gb429 26 #[.int .i64 0, .int .i64 0, .slice none 0 0] (0, 0) _ rfl Q16 Tryd.underlying26 rfl (by kernel_rfl)) rfl ?_
     exact ⟨_, Q1, Q6, qb⟩
    ·
     replace c15 := Bool.eq_false_iff.mpr c15
     subst c15
     have H1 : (if 0 < (t430.length : Int) then ((impl_newBoard.f (t430.length : Int) ((rdOf ByteArray.empty t430 0).size : Int)).bind fun bt437 => (impl_ParseBoard.l0 kj5 t430 (t430.length : Int) 0 bt437.1 bt437.2.1 bt437.2.2)) else (none)) = some (r1, r2, r3, r4) := by first | (rw [if_neg (show ¬ (false = true) by decide)] at H; exact H) | rfl
     clear H
     have H := H1
     clear H1
     by_cases c17 : 0 < (t430.length : Int)
     ·
      rw [if_pos c17] at H
      have c17b0 : decide (0 < (t430.length : Int)) = true := decide_eq_true c17
      have c17b1 : decide (0 < t430.length) = true := decide_eq_true (by omega)
      clear c17
      replace H := qE H
      obtain ⟨⟨t437, t438, t439⟩, A18, H⟩ := H
      replace H : (impl_ParseBoard.l0 kj5 t430 (t430.length : Int) 0 t437 t438 t439) = some (r1, r2, r3, r4) := H
      have H' := Aside0.mk H
      clear H
      obtain ⟨Ao19, co19, eo19⟩ := Kd.R_slice Oq3.out
      subst eo19
      have p436 : 0 ≤ (0 : Int) := (by omega)
      have q436 : 0 < (t430.length : Int) := of_decide_eq_true Q0
      obtain ⟨ad436, e436, hx436_0⟩ := Kd.at_string (Kd.R_reads' Oq3.out).2.2 0 p436 q436
      cases e436
      have qi436 : (0 < t430.length) = True := eq_true (by omega)
      (try rw [show ((0 : Int)).toNat = 0 from rfl] at hx436_0)
      (try rw [Addr.add_zero'] at hx436_0)
      replace p436 := eq_true p436
      replace q436 := eq_true q436
      go_wp2_with (first | ((with_reducible refine gate_callee (f := 53) rfl ?_); refine qg (some 34) Tryd.func53 #[.int .i64 (t430.length : Int), .int .i64 ((rdOf ByteArray.empty t430 0).size : Int)] ?_; (with_reducible refine (impl_newBoard.calls (t430.length : Int) ((rdOf ByteArray.empty t430 0).size : Int) t437 t438 t439 _ A18.out).mono ?_); rintro e w20 ⟨v440, rfl, ho0, hb⟩; refine ⟨_, rfl, ?_⟩; have Oq1 := ql ho0; replace Oq3 := sqR Oq3 hb; replace BK429 := sqB BK429 hb; replace HB := qs hb; (try clear hb ho0)) | ((with_reducible refine gate_dst (N := 5) rfl ?_); (try (refine gate_guard (by rfl) ?_; dsimp only)); refine qv 5 #[.int .i64 0, .int .i64 0, .slice none 0 0] 26 ?_; intro gb442 hg w21 hbox hb; have BK442 := am hbox; have GW442 := qw hg; have GE442 := qw hg; have Nq0 := qn hg BK429; have Nq1 := qN hg BK429; replace Oq3 := sqR Oq3 hb; replace Oq1 := sqR Oq1 hb; replace BK429 := sqB BK429 hb; replace HB := qs hb; clear hb hbox hg; have bq0 := Nq1.out; have cq0 := Nq0.out; obtain ⟨zq3, zq4, zq5, fq3, fq4, fq5⟩ := qd BK442; obtain ⟨Ao24, co24, eo24⟩ := Kd.R_slice Oq1.out; subst eo24))
      go_loopg [37] kj5 (fun kq v37 w' => ∃ (x37_2 : Int) (x430000_2 : Int) (x430001_2 : Int) (x443002_2 : List Int) (u443002 : Value), v37 = .int .i64 x37_2 ∧ Aside0 (impl_ParseBoard.l0 kq t430 (t430.length : Int) x37_2 t437 t438 x443002_2 = some (r1, r2, r3, r4)) ∧ Aside0 (kq ≤ kj5) ∧ Aside0 (Kd.R Kd.string 9 w' w.heap.size (fun _ => True) (.slice (some ad436) t430.length co19) t430) ∧ Aside0 (Kd.R (Kd.int .i64) 3 w' w.heap.size (fun _ => True) u443002 x443002_2) ∧ Aside0 (w'.heap[gb429]? = some (.cells #[.int .i64 x430000_2, .int .i64 x430001_2, (.slice none 0 0)] 26 (0, 0))) ∧ Aside0 (w'.heap[gb442]? = some (.cells #[.int .i64 t437, .int .i64 t438, u443002] 26 (0, 0))) ∧ Aside0 (Below w.heap.size w w'))
      case atStart => exact ⟨(0), (0), (0), (t439), (.slice Ao24 t439.length co24), Q2, H', ⟨Nat.le_refl _⟩, ⟨by (with_reducible repeat (first | apply Kd.R_alloc | apply Kd.R_drewN | apply Kd.R_drew)); exact Kd.R_mono (Kd.R_far (p := ⟨gb442, 2, none⟩) (Kd.R_far (p := ⟨gb442, 1, none⟩) (Kd.R_far (p := ⟨gb442, 0, none⟩) (Kd.R_types Oq3.out BK442.out (by decide)) (fun _ hk => hk.2) (.int .i64 t437)) (fun _ hk => hk.2) (.int .i64 t438)) (fun _ hk => hk.2) (.slice Ao24 t439.length co24)) (fun _ hk => trivial)⟩, ⟨by (with_reducible repeat (first | apply Kd.R_alloc | apply Kd.R_drewN | apply Kd.R_drew)); exact Kd.R_mono (Kd.R_far (p := ⟨gb442, 2, none⟩) (Kd.R_far (p := ⟨gb442, 1, none⟩) (Kd.R_far (p := ⟨gb442, 0, none⟩) (Kd.R_types Oq1.out BK442.out (by decide)) (fun _ hk => hk.2) (.int .i64 t437)) (fun _ hk => hk.2) (.int .i64 t438)) (fun _ hk => hk.2) (.slice Ao24 t439.length co24)) (fun _ hk => trivial)⟩, ⟨by (with_reducible repeat (first | refine blk_drewN ?_ _ | refine blk_drew ?_ | refine blk_alloc ?_ _)); refine blk_far ?_ Nq0.out _; (with_reducible repeat (first | refine blk_drewN ?_ _ | refine blk_drew ?_ | refine blk_alloc ?_ _)); refine blk_far ?_ Nq0.out _; (with_reducible repeat (first | refine blk_drewN ?_ _ | refine blk_drew ?_ | refine blk_alloc ?_ _)); refine blk_far ?_ Nq0.out _; (with_reducible repeat (first | refine blk_drewN ?_ _ | refine blk_drew ?_ | refine blk_alloc ?_ _)); exact BK429.out⟩, ⟨by (with_reducible repeat (first | refine blk_drewN ?_ _ | refine blk_drew ?_ | refine blk_alloc ?_ _)); refine blk_put (cs := #[.int .i64 t437, .int .i64 t438, .slice none 0 0]) ?_ 2 _ rfl; (with_reducible repeat (first | refine blk_drewN ?_ _ | refine blk_drew ?_ | refine blk_alloc ?_ _)); refine blk_put (cs := #[.int .i64 t437, .int .i64 0, .slice none 0 0]) ?_ 1 _ rfl; (with_reducible repeat (first | refine blk_drewN ?_ _ | refine blk_drew ?_ | refine blk_alloc ?_ _)); refine blk_put (cs := #[.int .i64 0, .int .i64 0, .slice none 0 0]) ?_ 0 _ rfl; (with_reducible repeat (first | refine blk_drewN ?_ _ | refine blk_drew ?_ | refine blk_alloc ?_ _)); exact BK442.out⟩, ⟨qb⟩⟩
      case round =>
       clear H'
       try clear c2; try clear c2b0; try clear c2b1; try clear c10; try clear c11; try clear c11b0; try clear c11b1; try clear c15; try clear c17; try clear c17b0; try clear c17b1; try clear zq0; try clear zq1; try clear zq2; try clear zq3; try clear zq4; try clear zq5; try clear zq18; try clear zq19; try clear zq20; try clear fq0; try clear fq1; try clear fq2; try clear fq3; try clear fq4; try clear fq5; try clear fq18; try clear fq19; try clear fq20; try clear hx434_0; try clear hx436_0; try clear p434; try clear p436; try clear q434; try clear q436
       obtain ⟨x37_2, x430000_2, x430001_2, x443002_2, u443002, rfl, HA, HK2, Oq2, Oq4, BK429, BK442, HB⟩ := hrel
       cases gk with
       | zero => exact absurd HA.out (by simp [impl_ParseBoard.l0])
       | succ k2 =>
        have H := HA.out
        clear HA
        simp only [impl_ParseBoard.l0] at H
        by_cases c25 : x37_2 < (t430.length : Int)
        ·
         rw [if_pos c25] at H
         have c25b0 : decide (x37_2 < (t430.length : Int)) = true := decide_eq_true c25
         clear c25
         by_cases c26 : 0 ≤ x37_2
         ·
          rw [if_pos c26] at H
          have c26b0 : decide (0 ≤ x37_2) = true := decide_eq_true c26
          clear c26
          by_cases c27 : x37_2 < (t430.length : Int)
          ·
           rw [if_pos c27] at H
           have c27b0 : decide (x37_2 < (t430.length : Int)) = true := decide_eq_true c27
           clear c27
           by_cases c28 : ((rdOf ByteArray.empty t430 x37_2).size : Int) = t438
           ·
            rw [if_pos c28] at H
            have c28b0 : (((rdOf ByteArray.empty t430 x37_2).size : Int) == t438) = true := beq_iff_eq.mpr c28
            have c28b1 : (((rdOf ByteArray.empty t430 x37_2).size : Int) != t438) = false := bne_eq_false_iff_eq.mpr c28
            clear c28
            have H' := Aside0.mk H
            clear H
            have p443 : 0 ≤ (x37_2 : Int) := of_decide_eq_true Q0
            have q443 : x37_2 < (t430.length : Int) := of_decide_eq_true Q0
            obtain ⟨ad443, e443, hx443_0⟩ := Kd.at_string (Kd.R_reads' Oq2.out).2.2 x37_2 p443 q443
            obtain rfl : ad436 = ad443 := (by injection e443)
            replace p443 := eq_true p443
            replace q443 := eq_true q443
            have bq1 := Nq1.out
            have cq1 := Nq0.out
            obtain ⟨zq6, zq7, zq8, fq6, fq7, fq8⟩ := qd BK442
            go_wp2
            go_loopg [50] k2 (fun kq v50 w' => ∃ (x50_3 : Int) (x430000_3 : Int) (x430001_3 : Int) (x443002_3 : List Int) (u443002 : Value), v50 = .int .i64 x50_3 ∧ Aside0 (impl_ParseBoard.l1 kq x37_2 (rdOf ByteArray.empty t430 x37_2) t430 (t430.length : Int) x37_2 ((rdOf ByteArray.empty t430 x37_2).size : Int) x50_3 t437 t438 x443002_3 = some (r1, r2, r3, r4)) ∧ Aside0 (kq ≤ k2) ∧ Aside0 (Kd.R Kd.string 9 w' w.heap.size (fun _ => True) (.slice (some ad436) t430.length co19) t430) ∧ Aside0 (Kd.R (Kd.int .i64) 3 w' w.heap.size (fun _ => True) u443002 x443002_3) ∧ Aside0 (w'.heap[gb429]? = some (.cells #[.int .i64 x430000_3, .int .i64 x430001_3, (.slice none 0 0)] 26 (0, 0))) ∧ Aside0 (w'.heap[gb442]? = some (.cells #[.int .i64 t437, .int .i64 t438, u443002] 26 (0, 0))) ∧ Aside0 (Below w.heap.size w w'))
            case atStart => exact ⟨(0), (x430000_2), (x430001_2), (x443002_2), (u443002), Q2, H', ⟨Nat.le_refl _⟩, ⟨Q27⟩, ⟨Q76⟩, ⟨Q28⟩, ⟨Q55⟩, ⟨qb⟩⟩
            case round =>
             clear H'
             try clear c2; try clear c2b0; try clear c2b1; try clear c10; try clear c11; try clear c11b0; try clear c11b1; try clear c15; try clear c17; try clear c17b0; try clear c17b1; try clear c25; try clear c25b0; try clear c26; try clear c26b0; try clear c27; try clear c27b0; try clear c28; try clear c28b0; try clear c28b1; try clear zq0; try clear zq1; try clear zq2; try clear zq3; try clear zq4; try clear zq5; try clear zq6; try clear zq7; try clear zq8; try clear zq18; try clear zq19; try clear zq20; try clear fq0; try clear fq1; try clear fq2; try clear fq3; try clear fq4; try clear fq5; try clear fq6; try clear fq7; try clear fq8; try clear fq18; try clear fq19; try clear fq20; try clear hx434_0; try clear hx436_0; try clear hx443_0; try clear p434; try clear p436; try clear p443; try clear q434; try clear q436; try clear q443
             obtain ⟨x50_3, x430000_3, x430001_3, x443002_3, u443002, rfl, HA, HK3, Oq2, Oq4, BK429, BK442, HB⟩ := hrel
             cases gk with
             | zero => exact absurd HA.out (by simp [impl_ParseBoard.l1])
             | succ k3 =>
              have H := HA.out
              clear HA
              simp only [impl_ParseBoard.l1] at H
              by_cases c31 : x50_3 < ((rdOf ByteArray.empty t430 x37_2).size : Int)
              ·
               rw [if_pos c31] at H
               have c31b0 : decide (x50_3 < ((rdOf ByteArray.empty t430 x37_2).size : Int)) = true := decide_eq_true c31
               clear c31
               by_cases c32 : 0 ≤ x50_3
               ·
                rw [if_pos c32] at H
                have c32b0 : decide (0 ≤ x50_3) = true := decide_eq_true c32
                clear c32
                by_cases c33 : x50_3 < ((rdOf ByteArray.empty t430 x37_2).size : Int)
                ·
                 rw [if_pos c33] at H
                 have c33b0 : decide (x50_3 < ((rdOf ByteArray.empty t430 x37_2).size : Int)) = true := decide_eq_true c33
                 clear c33
                 by_cases c35 : (bt (rdOf ByteArray.empty t430 x37_2) x50_3) = 49
                 ·
                  rw [if_pos c35] at H
                  have c35b0 : ((bt (rdOf ByteArray.empty t430 x37_2) x50_3) == 49) = true := beq_iff_eq.mpr c35
                  have c35b1 : ((bt (rdOf ByteArray.empty t430 x37_2) x50_3) != 49) = false := bne_eq_false_iff_eq.mpr c35
                  clear c35
                  by_cases c36 : 0 ≤ x37_2
                  ·
                   rw [if_pos c36] at H
                   have c36b0 : decide (0 ≤ x37_2) = true := decide_eq_true c36
                   clear c36
                   by_cases c37 : x37_2 < (x443002_3.length : Int)
                   ·
                    rw [if_pos c37] at H
                    have c37b0 : decide (x37_2 < (x443002_3.length : Int)) = true := decide_eq_true c37
                    clear c37
                    have c38b0 := eq_true (of_decide_eq_true Q0 : 0 ≤ x50_3)
                    obtain ⟨ji39, hji39⟩ : ∃ j_ : Int, (shl .i64 1 x50_3) = j_ := ⟨_, rfl⟩
                    replace H : (impl_ParseBoard.l1 k3 x37_2 (rdOf ByteArray.empty t430 x37_2) t430 (t430.length : Int) x37_2 ((rdOf ByteArray.empty t430 x37_2).size : Int) (wrap64 (x50_3 + 1)) t437 t438 (x443002_3.set (x37_2 : Int).toNat (Go.bits .or .i64 (rd x443002_3 x37_2) (ji39)))) = some (r1, r2, r3, r4) := by first | (rw [hji39] at H; exact H) | (simp only [hji39] at H ⊢; exact H)
                    have hji39_ : (IntKind.i64.wrap (1 * 2 ^ min x50_3.toNat 64)) = ji39 := hji39
                    have hji39z : x50_3 ≤ 64 → (IntKind.i64.wrap (1 * 2 ^ x50_3.toNat)) = ji39 := shl_small hji39
                    have hji39u : (IntKind.i64.wrap (2 ^ min x50_3.toNat 64)) = ji39 := by have h_ := hji39_; rw [Int.one_mul] at h_; exact h_
                    have hji39v : x50_3 ≤ 64 → (IntKind.i64.wrap (2 ^ x50_3.toNat)) = ji39 := fun hle_ => by have h_ := hji39z hle_; rw [Int.one_mul] at h_; exact h_
                    have hji39y : (wrap64 (1 * 2 ^ min x50_3.toNat 64)) = ji39 := (i64_w _).symm.trans hji39_
                    have hji39x : x50_3 ≤ 64 → (wrap64 (1 * 2 ^ x50_3.toNat)) = ji39 := fun h_ => (i64_w _).symm.trans (hji39z h_)
                    obtain ⟨y445, hy_⟩ : ∃ y_ : List Int, y_ = ((x443002_3.set (x37_2 : Int).toNat (Go.bits .or .i64 (rd x443002_3 x37_2) (ji39)))) := ⟨_, rfl⟩
                    replace H : (impl_ParseBoard.l1 k3 x37_2 (rdOf ByteArray.empty t430 x37_2) t430 (t430.length : Int) x37_2 ((rdOf ByteArray.empty t430 x37_2).size : Int) (wrap64 (x50_3 + 1)) t437 t438 y445) = some (r1, r2, r3, r4) := qH
                    have Ny445 := Aside0.mk hy_
                    clear hy_
                    have H' := Aside0.mk H
                    clear H
                    have p34 : 0 ≤ (x50_3 : Int) := of_decide_eq_true Q0
                    have q34 : x50_3 < ((rdOf ByteArray.empty t430 x37_2).size : Int) := of_decide_eq_true Q0
                    have hx34 := bt_at (rdOf ByteArray.empty t430 x37_2) x50_3
                    replace p34 := eq_true p34
                    replace q34 := eq_true q34
                    try go_wp2
                    replace Oq2 := am (Kd.R_drew Oq2.out)
                    replace Oq4 := am (Kd.R_drew Oq4.out)
                    replace BK429 := am (blk_drew BK429.out)
                    replace BK442 := am (blk_drew BK442.out)
                    replace HB := am (below_drew1 HB.out)
                    obtain ⟨Ao42, co42, eo42⟩ := Kd.R_slice Oq4.out
                    (first | subst eo42 | (injection eo42 with f1_ f2_ f3_; have f4_ := f1_.symm; have f5_ := f3_.symm; clear f1_ f2_ f3_; subst f4_; subst f5_))
                    have p444 : 0 ≤ (x37_2 : Int) := of_decide_eq_true Q0
                    have q444 : x37_2 < (x443002_3.length : Int) := of_decide_eq_true Q0
                    obtain ⟨ad444, e444, hx444_0⟩ := Kd.at_int (Kd.R_reads' Oq4.out).2.2 x37_2 p444 q444
                    cases e444
                    replace p444 := eq_true p444
                    replace q444 := eq_true q444
                    have p40 : 0 ≤ (x37_2 : Int) := of_decide_eq_true Q0
                    have q40 : (x37_2 : Int) < ((x443002_3.length : Int) : Int) := of_decide_eq_true Q0
                    obtain ⟨go40, co40, eo40, gb40, gl40, cl40, HG40⟩ := Kd.R_form Oq4.out (by omega)
                    (first | cases eo40 | (injection eo40 with ea_ en_ ec_; (first | subst ea_ | (injection ea_ with ea_; subst ea_)); subst ec_; clear en_))
                    have GB40 := Aside0.mk gb40
                    have GG40 := Aside0.mk HG40
                    clear gb40 gl40 HG40
                    (first | simp only [add_plain] at hx444_0 | skip)
                    obtain ⟨hx40_0, hf40_0⟩ := Kd.R_celln 0 Oq4.out (x37_2 : Int) p40 q40
                    replace p40 := eq_true p40
                    replace q40 := eq_true q40
                    have HP43 := Kd.R_putn Oq4.out (x37_2 : Int) (Go.bits .or .i64 (rd x443002_3 x37_2) (ji39))
                    rw [← Ny445.out] at HP43
                    have HQ43 := Aside0.mk HP43
                    clear HP43
                    refine start_ (n := 10) (S := fun w' => w'.cell? ⟨gb442, 0, none⟩ = some (.int .i64 t437) ∧ w'.cell? ⟨gb442, 1, none⟩ = some (.int .i64 t438) ∧ w'.cell? ⟨gb442, 2, none⟩ = some (.slice (some ⟨go40, 0, none⟩) x443002_3.length co42) ∧ w'.cell? ⟨go40, (x37_2).toNat, none⟩ = some (.int .i64 (rd x443002_3 x37_2))) (ds := [9]) #[false, false, false, false, false, false, false, false, false, false] (by kernel_rfl) rfl rfl ⟨sqc BK442 0, sqc BK442 1, sqc BK442 2, hx444_0⟩ (fun hHeld => ?_); refine with_tabW impl_ParseBoard.tab18 impl_ParseBoard.bits18 (fun HT_ HW_ => ?_)
                    generalize wr.drew = w41 at Oq2 Oq4 BK429 BK442 HB GG40 HQ43 hf40_0 hx40_0 hx444_0 hHeld ⊢
                    refine qp 0 (some 59) #[true, false, false, false, false, false, false, false, false, false] ?_
                    refine qp 2 (some 61) #[true, false, true, false, false, false, false, false, false, false] ?_
                    refine qp 5 (some 64) #[true, false, true, false, false, true, false, false, false, false] ?_
                    refine qp 6 (some 65) #[true, false, true, false, false, true, true, false, false, false] ?_
                    refine take_ (i := 1) (N := some 60) (v := ?_) (a' := ?_) #[true, true, true, false, false, true, true, false, false, false] rfl rfl (take_ofW HT_.out HW_.out (by kernel_rfl)) (fun _ _ _ h => h) (Or.inl ⟨by rfl, ?_⟩) hHeld ?_ ?_
                    rotate_left
                    ·
                     rintro w' ⟨s0, s1, s2, s3⟩
                     go_simp
                     with_reducible rfl
                    rotate_left
                    ·
                     simp only [Act.put, List.setIfInBounds_toArray, List.set_cons_zero, List.set_cons_succ, i64_w, i32_w]
                     rfl
                    refine qp 3 (some 62) #[true, true, true, true, false, true, true, false, false, false] ?_
                    refine take_ (i := 4) (N := some 63) (v := ?_) (a' := ?_) #[true, true, true, true, true, true, true, false, false, false] rfl rfl (take_ofW HT_.out HW_.out (by kernel_rfl)) (fun _ _ _ h => h) (Or.inl ⟨by rfl, ?_⟩) hHeld ?_ ?_
                    rotate_left
                    ·
                     rintro w' ⟨s0, s1, s2, s3⟩
                     go_simp
                     with_reducible rfl
                    rotate_left
                    ·
                     simp only [Act.put, List.setIfInBounds_toArray, List.set_cons_zero, List.set_cons_succ, i64_w, i32_w]
                     rfl
                    refine qp 7 (some 66) #[true, true, true, true, true, true, true, true, false, false] ?_
                    refine qp 8 (some 67) #[true, true, true, true, true, true, true, true, true, false] ?_
                    refine last_ (i := 9) (N := none) #[true, true, true, true, true, true, true, true, true, true] rfl rfl (one_of HT_.out (by kernel_rfl)) (by decide) fun K hK => ?_
                    refine skip_ (w1 := ?_) (by rfl) rfl ?_ ?_
                    rotate_left
                    ·
                     go_simp
                     rfl
                    refine hK.out _ _ ?_
                    clear hK K
                    refine done_ (done_of HT_.out (by kernel_rfl)) ?_
                    try go_wp2
                    go_roundg k3
                    case measure => have := HJ5.out; have := HK2.out; have := HK3.out; omega
                    case rel => exact ⟨(wrap64 (x50_3 + 1)), (x430000_3), (x430001_3), (y445), (.slice (some ⟨go40, 0, none⟩) x443002_3.length co42), Q2, H', ⟨by have := HJ5.out; have := HK2.out; have := HK3.out; omega⟩, ⟨by (with_reducible repeat (first | apply Kd.R_alloc | apply Kd.R_drewN | apply Kd.R_drew)); exact Kd.R_mono (Kd.R_far (p := ⟨go40, (x37_2 : Int).toNat, none⟩) (Kd.R_types Oq2.out GG40.out (by decide)) (fun _ hk => hk.2) (.int .i64 (Go.bits .or .i64 (rd x443002_3 x37_2) (ji39)))) (fun _ hk => trivial)⟩, ⟨by (with_reducible repeat (first | apply Kd.R_alloc | apply Kd.R_drewN | apply Kd.R_drew)); exact HQ43.out⟩, ⟨by (with_reducible repeat (first | refine blk_drewN ?_ _ | refine blk_drew ?_ | refine blk_alloc ?_ _)); refine blk_far ?_ (by have h_ := Kd.R_ne Oq4.out BK429.out (by decide); intro e_; exact h_ (by rw [e_]; rfl)) _; (with_reducible repeat (first | refine blk_drewN ?_ _ | refine blk_drew ?_ | refine blk_alloc ?_ _)); exact BK429.out⟩, ⟨by (with_reducible repeat (first | refine blk_drewN ?_ _ | refine blk_drew ?_ | refine blk_alloc ?_ _)); refine blk_far ?_ (by have h_ := Kd.R_ne Oq4.out BK442.out (by decide); intro e_; exact h_ (by rw [e_]; rfl)) _; (with_reducible repeat (first | refine blk_drewN ?_ _ | refine blk_drew ?_ | refine blk_alloc ?_ _)); exact BK442.out⟩, ⟨by repeat (first | (with_reducible first | exact HB.out | apply below_alloc | apply pw_below_drewN | apply below_drew1 | refine below_set ?_ GB40.out | refine below_set ?_ GE429.out | refine below_set ?_ GE442.out) | exact HB.out)⟩⟩
                   ·
                    rw [if_neg c37] at H
                    exact absurd H (by simp)
                  ·
                   rw [if_neg c36] at H
                   exact absurd H (by simp)
                 ·
                  rw [if_neg c35] at H
                  have c35b0 : ((bt (rdOf ByteArray.empty t430 x37_2) x50_3) == 49) = false := beq_eq_false_iff_ne.mpr c35
                  have c35b1 : ((bt (rdOf ByteArray.empty t430 x37_2) x50_3) != 49) = true := bne_iff_ne.mpr c35
                  by_cases c44 : (bt (rdOf ByteArray.empty t430 x37_2) x50_3) = 48
                  ·
                   rw [if_pos c44] at H
                   have c44b0 : ((bt (rdOf ByteArray.empty t430 x37_2) x50_3) == 48) = true := beq_iff_eq.mpr c44
                   have c44b1 : ((bt (rdOf ByteArray.empty t430 x37_2) x50_3) != 48) = false := bne_eq_false_iff_eq.mpr c44
                   clear c44
                   have H' := Aside0.mk H
                   clear H
                   have p34 : 0 ≤ (x50_3 : Int) := of_decide_eq_true Q0
                   have q34 : x50_3 < ((rdOf ByteArray.empty t430 x37_2).size : Int) := of_decide_eq_true Q0
                   have hx34 := bt_at (rdOf ByteArray.empty t430 x37_2) x50_3
                   replace p34 := eq_true p34
                   replace q34 := eq_true q34
                   go_wp2
                   go_roundg k3
                   case measure => have := HJ5.out; have := HK2.out; have := HK3.out; omega
                   case rel => exact ⟨(wrap64 (x50_3 + 1)), (x430000_3), (x430001_3), (x443002_3), (u443002), Q2, H', ⟨by have := HJ5.out; have := HK2.out; have := HK3.out; omega⟩, ⟨Q27⟩, ⟨Q76⟩, ⟨Q28⟩, ⟨Q55⟩, ⟨qb⟩⟩
                  ·
                   rw [if_neg c44] at H
                   have c44b0 : ((bt (rdOf ByteArray.empty t430 x37_2) x50_3) == 48) = false := beq_eq_false_iff_ne.mpr c44
                   have c44b1 : ((bt (rdOf ByteArray.empty t430 x37_2) x50_3) != 48) = true := bne_iff_ne.mpr c44
                   simp only [Option.some.injEq, Prod.mk.injEq] at H
                   obtain ⟨rfl, rfl, rfl, rfl⟩ := H
                   have p34 : 0 ≤ (x50_3 : Int) := of_decide_eq_true Q0
                   have q34 : x50_3 < ((rdOf ByteArray.empty t430 x37_2).size : Int) := of_decide_eq_true Q0
                   have hx34 := bt_at (rdOf ByteArray.empty t430 x37_2) x50_3
                   replace p34 := eq_true p34
                   replace q34 := eq_true q34
                   have bq2 := Nq0.out
                   have cq2 := Nq1.out
                   obtain ⟨zq9, zq10, zq11, fq9, fq10, fq11⟩ := qd BK429
                   go_wp2
                   refine bodyPost_ret (results_ct rfl _ _ gb429 26 #[.int .i64 0, .int .i64 0, .slice none 0 0] (0, 0) _ rfl (by (with_reducible repeat (first | refine blk_drewN ?_ _ | refine blk_drew ?_ | refine blk_alloc ?_ _)); refine blk_put (cs := #[.int .i64 0, .int .i64 0, .slice none 0 0]) ?_ 2 _ rfl; (with_reducible repeat (first | refine blk_drewN ?_ _ | refine blk_drew ?_ | refine blk_alloc ?_ _)); refine blk_put (cs := #[.int .i64 0, .int .i64 x430001_3, .slice none 0 0]) ?_ 1 _ rfl; (with_reducible repeat (first | refine blk_drewN ?_ _ | refine blk_drew ?_ | refine blk_alloc ?_ _)); refine blk_put (cs := #[.int .i64 x430000_3, .int .i64 x430001_3, .slice none 0 0]) ?_ 0 _ rfl; (with_reducible repeat (first | refine blk_drewN ?_ _ | refine blk_drew ?_ | refine blk_alloc ?_ _)); exact BK429.out) Tryd.underlying26 rfl (by kernel_rfl)) rfl ?_
                   exact ⟨_, Q1, Q6, qb⟩
                ·
                 rw [if_neg c33] at H
                 exact absurd H (by simp)
               ·
                rw [if_neg c32] at H
                exact absurd H (by simp)
              ·
               rw [if_neg c31] at H
               have c31b0 : decide (x50_3 < ((rdOf ByteArray.empty t430 x37_2).size : Int)) = false := decide_eq_false c31
               clear c31
               have H' := Aside0.mk H
               clear H
               go_wp2
               go_roundg k3
               case measure => have := HJ5.out; have := HK2.out; have := HK3.out; omega
               case rel => exact ⟨(wrap64 (x37_2 + 1)), (x430000_3), (x430001_3), (x443002_3), (u443002), Q2, H', ⟨by have := HJ5.out; have := HK2.out; have := HK3.out; omega⟩, ⟨Q27⟩, ⟨Q76⟩, ⟨Q28⟩, ⟨Q55⟩, ⟨qb⟩⟩
           ·
            rw [if_neg c28] at H
            have c28b0 : (((rdOf ByteArray.empty t430 x37_2).size : Int) == t438) = false := beq_eq_false_iff_ne.mpr c28
            have c28b1 : (((rdOf ByteArray.empty t430 x37_2).size : Int) != t438) = true := bne_iff_ne.mpr c28
            simp only [Option.some.injEq, Prod.mk.injEq] at H
            obtain ⟨rfl, rfl, rfl, rfl⟩ := H
            have p443 : 0 ≤ (x37_2 : Int) := of_decide_eq_true Q0
            have q443 : x37_2 < (t430.length : Int) := of_decide_eq_true Q0
            obtain ⟨ad443, e443, hx443_0⟩ := Kd.at_string (Kd.R_reads' Oq2.out).2.2 x37_2 p443 q443
            obtain rfl : ad436 = ad443 := (by injection e443)
            replace p443 := eq_true p443
            replace q443 := eq_true q443
            have bq3 := Nq1.out
            have cq3 := Nq0.out
            obtain ⟨zq12, zq13, zq14, fq12, fq13, fq14⟩ := qd BK442
            obtain ⟨zq15, zq16, zq17, fq15, fq16, fq17⟩ := qd BK429
            go_wp2
            refine bodyPost_ret (results_ct rfl _ _ gb429 26 #[.int .i64 0, .int .i64 0, .slice none 0 0] (0, 0) _ rfl (by (with_reducible repeat (first | refine blk_drewN ?_ _ | refine blk_drew ?_ | refine blk_alloc ?_ _)); refine blk_put (cs := #[.int .i64 0, .int .i64 0, .slice none 0 0]) ?_ 2 _ rfl; (with_reducible repeat (first | refine blk_drewN ?_ _ | refine blk_drew ?_ | refine blk_alloc ?_ _)); refine blk_put (cs := #[.int .i64 0, .int .i64 x430001_2, .slice none 0 0]) ?_ 1 _ rfl; (with_reducible repeat (first | refine blk_drewN ?_ _ | refine blk_drew ?_ | refine blk_alloc ?_ _)); refine blk_put (cs := #[.int .i64 x430000_2, .int .i64 x430001_2, .slice none 0 0]) ?_ 0 _ rfl; (with_reducible repeat (first | refine blk_drewN ?_ _ | refine blk_drew ?_ | refine blk_alloc ?_ _)); exact BK429.out) Tryd.underlying26 rfl (by kernel_rfl)) rfl ?_
            exact ⟨_, Q1, Q6, qb⟩
          ·
           rw [if_neg c27] at H
           exact absurd H (by simp)
         ·
          rw [if_neg c26] at H
          exact absurd H (by simp)
        ·
         rw [if_neg c25] at H
         have c25b0 : decide (x37_2 < (t430.length : Int)) = false := decide_eq_false c25
         clear c25
         simp only [Option.some.injEq, Prod.mk.injEq] at H
         obtain ⟨rfl, rfl, rfl, rfl⟩ := H
         have bq4 := Nq1.out
         have cq4 := Nq0.out
         obtain ⟨zq21, zq22, zq23, fq21, fq22, fq23⟩ := qd BK442
         obtain ⟨zq24, zq25, zq26, fq24, fq25, fq26⟩ := qd BK429
         obtain ⟨Ao53, co53, eo53⟩ := Kd.R_slice Oq4.out
         subst eo53
         go_wp2
         refine bodyPost_ret (results_ct rfl _ _ gb429 26 #[.int .i64 t437, .int .i64 t438, .slice Ao53 x443002_2.length co53] (0, 0) _ rfl (by (with_reducible repeat (first | refine blk_drewN ?_ _ | refine blk_drew ?_ | refine blk_alloc ?_ _)); refine blk_put (cs := #[.int .i64 t437, .int .i64 t438, .slice none 0 0]) ?_ 2 _ rfl; (with_reducible repeat (first | refine blk_drewN ?_ _ | refine blk_drew ?_ | refine blk_alloc ?_ _)); refine blk_put (cs := #[.int .i64 t437, .int .i64 x430001_2, .slice none 0 0]) ?_ 1 _ rfl; (with_reducible repeat (first | refine blk_drewN ?_ _ | refine blk_drew ?_ | refine blk_alloc ?_ _)); refine blk_put (cs := #[.int .i64 x430000_2, .int .i64 x430001_2, .slice none 0 0]) ?_ 0 _ rfl; (with_reducible repeat (first | refine blk_drewN ?_ _ | refine blk_drew ?_ | refine blk_alloc ?_ _)); exact BK429.out) Tryd.underlying26 rfl (by kernel_rfl)) rfl ?_
         exact ⟨_, Q1, by (with_reducible repeat (first | apply Kd.R_alloc | apply Kd.R_drewN | apply Kd.R_drew)); exact Kd.R_mono (Kd.R_far (p := ⟨gb429, 2, none⟩) (Kd.R_far (p := ⟨gb429, 1, none⟩) (Kd.R_far (p := ⟨gb429, 0, none⟩) (Kd.R_types Oq4.out BK429.out (by decide)) (fun _ hk => hk.2) (.int .i64 t437)) (fun _ hk => hk.2) (.int .i64 t438)) (fun _ hk => hk.2) (.slice Ao53 x443002_2.length co53)) (fun _ hk => trivial), qb⟩
     ·
      rw [if_neg c17] at H
      exact absurd H (by simp)

end Go.Proofs.YtllhofdgbpnkkaaDoor.PFnBoardsTurned
