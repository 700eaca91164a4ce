/- The row of the law FnExactFromCells, out of its pure statement and the printed contract. -/
import Derived.Test.YtcdikbiikmhmhaaRows
import Derived.Test.YtcdikbiikmhmhaaPFnExactFromCellsx6
import Derived.Test.YtcdikbiikmhmhaaPureFnExactFromCells
import Derived.WalkKit
import Derived.ProofKit
import Derived.OpenShut
import Derived.ShutString
import Derived.ChangeOld
import Derived.Below
import Derived.SizedLaws
import Derived.Lib.SmallJoins
import Derived.Deep.Slices
import Derived.Deep.Matrix
import Derived.Test.YtcdikbiikmhmhaaWSized
namespace Go.Proofs.Ytcdikbiikmhmhaa.fnExactFromCells
open Go.ChangeShapes Go.WideShapes Go.ChangeAt Go.RowKit Go.Proofs.YtcdikbiikmhmhaaW.PrintWords
open Go.ChangeMaps (open_string shut_string)
set_option linter.unusedVariables false
set_option linter.unusedSimpArgs false
theorem own : ownKnob Try.prog.godebug = none := by kernel_rfl
theorem laidOut : laidOutB Try.prog = true := by kernel_rfl
/-- A slice of whole numbers, as it reads. -/
theorem ints_of {H : Type} {enc : TypeId × Value → H} {W : World} {base : Nat} {hd : Bool} {t e : TypeId} {k : IntKind} {fuel : Nat} {a : Option Addr} {len cap : Nat} {x : DataW H × List MemPlace} (ht : Try.prog.underlying t = some (.slice e)) (he : Try.prog.underlying e = some (.int k)) (hc : Try.prog.cellsOf e = 1)
    (hf : DataW.trod enc Try.prog W base (fun _ => true) hd fuel t [.slice a len cap] = some x) :
    ∃ l : List Int, l.length = len ∧ (Kd.int k).C W a l.length l ∧ l.length ≤ maxLen ∧ (∀ z ∈ l, (Lit.int k z).wf = true) ∧ l.length ≤ cap := by
  obtain ⟨zs, w0⟩ : ∃ zs : List Int, (a = none ∧ len = 0 ∧ cap = 0 ∧ zs = []) ∨ ∃ x, a = some x ∧ len ≤ cap ∧ cap ≤ maxLen ∧ zs.length = cap ∧ (∀ i, i < zs.length → W.cell? (x.add i) = some (.int k (zs.getD i 0))) ∧ ∀ n ∈ zs, (Lit.int k n).wf = true := by
    rcases open_ints ht he hc hf with ⟨hcs, _⟩ | ⟨x, l, c, zs, hcs, _, hl, hm, hz, _, hcell, hwz⟩
    · simp at hcs
      obtain ⟨rfl, rfl, rfl⟩ := hcs
      exact ⟨[], .inl ⟨rfl, rfl, rfl, rfl⟩⟩
    · simp at hcs
      obtain ⟨rfl, rfl, rfl⟩ := hcs
      exact ⟨zs, .inr ⟨_, rfl, hl, hm, by simpa using hz, hcell, hwz⟩⟩
  obtain ⟨l, rfl, hr, hm, hw, hc⟩ := ReadsInt.ofRowC w0
  exact ⟨l, rfl, Kd.C_of_reads (d := (0 : Int)) (h1 := fun _ => rfl) hr, hm, hw, hc⟩
/-- Rows of whole numbers, as they read. -/
theorem rows_of {H : Type} {enc : TypeId × Value → H} {W : World} {base : Nat} {hd : Bool} {t e q : TypeId} {k : IntKind} {a : Option Addr} {len cap : Nat} {x : DataW H × List MemPlace} (ht : Try.prog.underlying t = some (.slice e)) (he : Try.prog.underlying e = some (.slice q)) (hq : Try.prog.underlying q = some (.int k)) (ce : Try.prog.cellsOf e = 1) (cq : Try.prog.cellsOf q = 1)
    (hf0 : ∃ fuel, DataW.trod enc Try.prog W base (fun _ => true) hd fuel t [.slice a len cap] = some x) :
    ∃ l : List (List Int), l.length = len ∧ (Kd.slice q (Kd.int k)).C W a l.length l ∧ l.length ≤ maxLen ∧ (∀ y ∈ l, y.length ≤ maxLen) ∧ (∀ y ∈ l, ∀ z ∈ y, (Lit.int k z).wf = true) ∧ l.length ≤ cap := by
  obtain ⟨fuel, hf⟩ := hf0
  rcases Go.Deep.open_int_rows ht he hq ce cq hf with ⟨hcs, _⟩ | ⟨x, n, c, A, L, C, Z, hcs, _, hl, hm, _, hr⟩
  · simp at hcs
    obtain ⟨rfl, rfl, rfl⟩ := hcs
    exact ⟨[], rfl, ⟨rfl, by simp, fun h => absurd h (by simp)⟩, by simp, by simp, by simp, by simp⟩
  · simp at hcs
    obtain ⟨rfl, rfl, rfl⟩ := hcs
    obtain ⟨F, hF⟩ := Go.Deep.choose_lt (n := len) (p := fun r (y : List Int) => y.length = L r ∧ (Kd.int k).C W (A r) y.length y ∧ y.length ≤ maxLen ∧ (∀ z ∈ y, (Lit.int k z).wf = true) ∧ y.length ≤ C r) (fun r hr0 => by
      obtain ⟨h1, h2, h3, h4, h5, h6, h7⟩ := hr r (by omega)
      obtain ⟨y, hy1, hy2, hy3, hy4, hy5⟩ := ReadsInt.ofRowC (k := k) (w := W) (a := A r) (len := L r) (cap := C r) (zs := Z r) (by
        cases hA : A r with
        | none => have h0 := h6 hA; exact .inl ⟨rfl, by omega, h0, List.eq_nil_of_length_eq_zero (by omega)⟩
        | some a' => exact .inr ⟨a', rfl, h2, h3, h4, fun i hi => (h7 a' hA).2 i (by omega), h5⟩)
      exact ⟨y, hy1.symm, Kd.C_of_reads (d := (0 : Int)) (h1 := fun _ => rfl) hy2, hy3, hy4, hy5⟩)
    have hlen : ((List.range len).map F).length = len := by simp
    refine ⟨(List.range len).map F, hlen, ?_, by rw [hlen]; exact Nat.le_trans hl hm, ?_, ?_, by rw [hlen]; exact hl⟩
    · refine ⟨rfl, by rw [hlen]; exact Nat.le_trans hl hm, fun _ => ⟨x, rfl, fun j p hj => ?_⟩⟩
      obtain ⟨hj1, rfl⟩ := List.getElem?_eq_some_iff.1 hj
      have hj2 : j < len := by simpa using hj1
      obtain ⟨f1, f2, f3, f4, f5⟩ := hF j hj2
      have e : ((List.range len).map F)[j] = F j := by simp
      rw [e]
      refine ⟨[.slice (A j) (F j).length (C j)], rfl, ⟨A j, C j, rfl, f5, f2⟩, fun i u hu => ?_⟩
      obtain ⟨h1, _⟩ := hr j (by omega)
      cases i with
      | zero => simp at hu; subst hu; rw [f1]; simpa [Kd.slice] using h1
      | succ i => simp at hu
    · intro y hy
      obtain ⟨j, hj, rfl⟩ := List.mem_map.1 hy
      exact (hF j (List.mem_range.1 hj)).2.2.1
    · intro y hy
      obtain ⟨j, hj, rfl⟩ := List.mem_map.1 hy
      exact (hF j (List.mem_range.1 hj)).2.2.2.1
set_option maxRecDepth 100000 in
theorem lifted (os : Os) (started : os.Started) (H : Type) (enc : TypeId × Value → H) :
    ReturnsInHanded {} Try.checked os 5 .any (Rows.fnExactFromCellsSpec.pre6 enc Try.prog Try.f5 Rows.fnExactFromCellsRow.domain false) (Rows.fnExactFromCellsSpec.post enc Try.prog Try.f5 false true false false) := by
  refine returnsInHanded_of_change_sized (C := Try.checked) own started (by kernel_rfl) Try.func5
    (ChangeSpec.witness6 (enc := enc) (C := Try.checked) false ⟨#[], #[.int .i64 0, .int .i64 0, .slice none 0 0], []⟩ 8 (by kernel_rfl) (by kernel_rfl) (by kernel_rfl) (by kernel_rfl)) ?_
  intro W base args ds gs before hval0 hW hcnd hsz0 _
  have hsz : (DataW.weightsEach Try.prog (Try.f5.params.toList ++ Rows.fnExactFromCellsSpec.plain.varTypes Try.prog) (ds ++ gs)).all (· ≤ reachBytes) = true := hsz0
  have hval : ∀ (j : Nat) t v, Try.f5.params[j]? = some t → args[j]? = some v → Value.okWide Try.prog W .any base t v := hval0
  have hW' := hW
  obtain ⟨p, q, hA0, hV, rfl, hfz, hnd⟩ := hW
  have hA : DataW.TrodAll enc Try.prog W 0 (fun _ => true) true Try.f5.params.toList args.toList ds p := hA0
  rw [Try.params5] at hA hval hsz
  obtain ⟨v0, vs0, d0, ds0, p0, q0, hargs, rfl, rfl, h0, r0⟩ := trodAll_cons hA
  obtain ⟨v1, vs1, d1, ds1, p1, q1, rfl, rfl, rfl, h1, r1⟩ := trodAll_cons r0
  obtain ⟨v2, vs2, d2, ds2, p2, q2, rfl, rfl, rfl, h2, r2⟩ := trodAll_cons r1
  obtain ⟨rfl, rfl, rfl⟩ := trodAll_nil r2
  obtain rfl : args = #[v0, v1, v2] := by cases args; simp_all
  obtain ⟨rfl, rfl⟩ := trodVars_none hV
  obtain ⟨a0, rfl, rfl, rfl, w0⟩ := open_int Try.underlying3 (hval 0 3 v0 rfl rfl) h0
  obtain ⟨a1, rfl, rfl, rfl, w1⟩ := open_int Try.underlying3 (hval 1 3 v1 rfl rfl) h1
  obtain ⟨a2, len2, cap2, rfl⟩ := okWide_slice Try.underlying26 (hval 2 26 v2 rfl rfl)
  have k2 := h2
  have lt2 : ∀ x ∈ p2, x.block < W.heap.size := by obtain ⟨m, hm⟩ := k2; exact DataW.trod_lt m _ _ _ hm
  obtain ⟨l2, rfl, hr2, hm2, hn2, hw2, hc2⟩ := rows_of Try.underlying26 Try.underlying22 Try.underlying3 (by kernel_rfl) (by kernel_rfl) (by obtain ⟨fuel, hf⟩ := h2; exact ⟨fuel, by simpa [Value.cells] using hf⟩)
  clear hA0 hval0 hsz0 hsz
  obtain ⟨k, hp⟩ := Pure.FnExactFromCells a0 a1 l2 w0 w1 hm2 hn2 hw2
  refine (PFnExactFromCells.laws_FnExactFromCells.calls k a0 a1 _ _ l2 W hr2 hc2 hp).mono fun e W' ⟨he, bel0⟩ => ?_
  have bel : Below W.heap.size W W' := bel0
  subst he
  exact ⟨_, rfl, _, _, _, [], _, [], hW', trodAll_mk1 (shut_bool Try.underlying4 _), (trodAll_cons_mk (shut_int Try.underlying3 w0) (trodAll_cons_mk (shut_int Try.underlying3 w1) (trodAll_cons_mk (Below.trod laidOut (by kernel_rfl) (of_decide_eq_true (by kernel_rfl)) k2 bel lt2) trodAll_mk0))), rfl, bel.frame _, fun h => by cases h⟩
theorem over : Rows.fnExactFromCellsRow.holds Try.pinned (OpenSpec.ofChange Rows.fnExactFromCellsSpec) :=
  OpenClaim.holds_of_wide 5 Try.f5 rfl rfl rfl rfl rfl rfl rfl ⟨rfl, rfl, rfl, rfl, rfl⟩ rfl rfl rfl rfl rfl (by kernel_rfl) Try.func5 (by kernel_rfl)
    (of_decide_eq_true (by kernel_rfl)) (by unfold Func.isWrapper; first | (rw [if_pos (by decide +kernel)]; kernel_rfl) | (rw [if_neg (by decide +kernel)]; exact ⟨rfl, rfl⟩))
    (fun os started H enc _ => lifted os started H enc)
end Go.Proofs.Ytcdikbiikmhmhaa.fnExactFromCells
namespace Go.Proofs.Ytcdikbiikmhmhaa
/-- The row, under a short name, for the claim. -/
theorem fnExactFromCells_holds : Rows.FnExactFromCellsSaid := fnExactFromCells.over
#print axioms fnExactFromCells_holds
end Go.Proofs.Ytcdikbiikmhmhaa
