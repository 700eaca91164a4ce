-- Printed for this claim by wip/pp.py over the kit's printer; Lean checks it.
import Derived.Test.YtfgfgkpmkfjeiaaProg
import Derived.Below
import Derived.Deep.Draws
import Derived.Deep.AppendLies
import Derived.Maps.AppendAt
import Derived.OwnWalk
import Derived.Laws.BytesArg
import Derived.Laws.MakeOwn
import Derived.Laws.OwnMore
import Derived.Deep.OwnRows
import Derived.Tactics
import Derived.Lib.ConvBytes
import Derived.Laws.Slices
import Derived.WalkKit
import Derived.KernelRfl
import Derived.RowKit3
import Derived.Deep.LoopGhost
import Derived.Deep.QuietTactic
import Derived.BigQuiet
import Derived.WideLaws
import Derived.Deep.DeepCutAuto
import Derived.Deep.CutBlock
import Derived.Deep.RegionHeld3
import Derived.Laws.Rows
import Derived.Lib.AppendStr
import Derived.ArgAppend
import Derived.Laws.IdiomCopy
import Derived.OrdersHeld
import Derived.Laws.BitsLemmas
import Derived.RowKit
import Derived.Deep.RegionLaw
import Derived.Deep.RegionWith
import Derived.Laws.EntriesVeiled
import Derived.Lib.SliceRun
import Derived.Shelf.Slices.Cells
import Derived.Shelf.Slices.Delete
import Derived.Test.YtfgfgkpmkfjeiaaWWords
import Derived.Test.YtfgfgkpmkfjeiaaWLast
import Derived.Test.YtfgfgkpmkfjeiaaWTab
import Derived.Test.YtfgfgkpmkfjeiaaWFour
import Derived.Test.YtfgfgkpmkfjeiaaWQPut
import Derived.Test.YtfgfgkpmkfjeiaaWApart
import Derived.Test.YtfgfgkpmkfjeiaaWArr
import Derived.Test.YtfgfgkpmkfjeiaaWZeros
import Derived.Test.YtfgfgkpmkfjeiaaWFoot
import Derived.Test.YtfgfgkpmkfjeiaaWKept
import Derived.Test.YtfgfgkpmkfjeiaaWShare
import Derived.Test.YtfgfgkpmkfjeiaaWN
import Derived.Test.YtfgfgkpmkfjeiaaWFootNe
import Derived.Test.YtfgfgkpmkfjeiaaWAt
import Derived.Test.YtfgfgkpmkfjeiaaWEqStruct
import Derived.Test.YtfgfgkpmkfjeiaaWRepsOne
import Derived.Test.YtfgfgkpmkfjeiaaWInv
import Derived.Test.YtfgfgkpmkfjeiaaWInvWords
import Derived.Test.YtfgfgkpmkfjeiaaWGuard
import Derived.Test.YtfgfgkpmkfjeiaaWNEv
import Derived.Test.YtfgfgkpmkfjeiaaWMore
namespace Go.Proofs.Ytfgfgkpmkfjeiaa.PFnAlikeLengths
open Go.RowKit Go.Proofs.YtfgfgkpmkfjeiaaW.PrintWords Go.Proofs.YtfgfgkpmkfjeiaaW.PrintLast Go.Proofs.YtfgfgkpmkfjeiaaW.PrintMore
attribute [local go_sem] max2_int min2_int max_two min_two max_three min_three max_four min_four   -- for this text's walks alone
set_option linter.unusedVariables false
set_option linter.unusedSimpArgs false



def errW : Option Int → Value
  | none => .nilIface
  | some c => .iface 0 (.int .i64 c)
theorem errW_none : errW none = .nilIface := rfl
theorem errW_some (c : Int) : errW (some c) = .iface 0 (.int .i64 c) := rfl

theorem info3 : (Try.prog.info? 3).map (fun i => (i.zero, i.size, i.bytes)) = some (some (.int .i64 0), 1, 8) := by kernel_rfl
theorem info24 : (Try.prog.info? 24).map (fun i => (i.zero, i.size, i.bytes)) = some (some (.slice none 0 0), 1, 24) := by kernel_rfl
-- the values' own types
def rd_L2 (xs : List (List Int)) (i : Int) : (List Int) := xs.getD i.toNat ([] : List Int)
theorem at_L2 {w : World} {A : Option Addr} {n : Nat} {xs : List (List Int)} (h : Kd.C (Kd.slice 3 (Kd.int .i64)) w A n xs) (i : Int) (h0 : 0 ≤ i) (h1 : i < n) : ∃ ad A0 c0, A = some ad ∧ w.cell? (ad.add i.toNat) = some (.slice A0 (rd_L2 xs i).length c0) ∧ (rd_L2 xs i).length ≤ c0 ∧ (Kd.int .i64).C w A0 (rd_L2 xs i).length (rd_L2 xs i) := by
  obtain ⟨ad, c, e, _, hK, hc0⟩ := Kd.C_get h ([] : List Int) i h0 h1
  have hc : ∀ j u, c[j]? = some u → w.cell? (ad.add (i.toNat * 1 + j)) = some u := hc0
  obtain ⟨A0, c0, rfl, l0, g0⟩ := hK
  exact ⟨ad, A0, c0, e, by have hq := hc 0 _ rfl; rwa [Nat.mul_one, Nat.add_zero] at hq, l0, g0⟩

theorem am {p : Prop} (h : p) : Aside0 p := ⟨h⟩
theorem sqb {W W' : World} {g : Nat} {o : Obj} (h : Aside0 (W.heap[g]? = some o)) (e : W'.heap = W.heap := by rfl) : W'.heap[g]? = some o := by rw [e]; exact h.out
theorem sqB {W W' W1 : World} {g : Nat} {o : Obj} (h : Aside0 (W.heap[g]? = some o)) (hb : Below W'.heap.size W' W1) (e : W'.heap = W.heap := by rfl) : Aside0 (W1.heap[g]? = some o) := ⟨blk_below (sqb h e) hb⟩
theorem sqT {W W' : World} {g : Nat} {o : Obj} (h : Aside0 (W.heap[g]? = some o)) (e : W'.heap = W.heap := by rfl) : g < W'.heap.size := blk_lt (sqb h e)
theorem sqc {W : World} {g : Nat} {t : TypeId} {cs : Array Value} {v : Value} (h : Aside0 (W.heap[g]? = some (.cells cs t (0, 0)))) (i : Nat) (e : cs[i]? = some v := by rfl) : W.cell? ⟨g, i, none⟩ = some v := (blk_cell h.out i).trans e
section
variable {α β : Type} {d : Kd α} {d' : Kd β} {e0 e1 base : Nat} {W W' W1 : World} {ok ok' ok2 : Nat → Prop} {u v : Value} {xs : List α} {ys : List β}
theorem sqr (h : Aside0 (d.R e0 W base ok v xs)) (e : W'.heap = W.heap := by rfl) : d.R e0 W' base ok v xs := Kd.R_move h.out (fun k _ => by rw [e])
theorem sqm (h : Aside0 (d.R e0 W base ok v xs)) (hok : ∀ k, ok k → ok' k) (e : W'.heap = W.heap := by rfl) : d.R e0 W' base ok' v xs := Kd.R_mono (sqr h e) hok
theorem sqL (h : Aside0 (d.R e0 W base ok v xs)) (e : W'.heap = W.heap := by rfl) : ∀ k, v.ownBlock = some k → k < W'.heap.size := Kd.R_lt (sqr h e)
theorem sqR (h : Aside0 (d.R e0 W base ok v xs)) (hb : Below W'.heap.size W' W1) (e : W'.heap = W.heap := by rfl) : Aside0 (d.R e0 W1 base ok v xs) := ⟨Kd.R_below (sqr h e) hb⟩
theorem sqE (h : Aside0 (d.R e0 W base ok u xs)) (ho : d'.R e1 W1 W'.heap.size ok2 v ys) (hb : Below W'.heap.size W' W1) (e : W'.heap = W.heap := by rfl) : Aside0 (d.R e0 W1 base (fun k => ok k ∧ some k ≠ v.ownBlock) u xs) := ⟨Kd.R_elder' (sqr h e) (Kd.R_base ho) hb⟩
end
end Go.Proofs.Ytfgfgkpmkfjeiaa.PFnAlikeLengths
