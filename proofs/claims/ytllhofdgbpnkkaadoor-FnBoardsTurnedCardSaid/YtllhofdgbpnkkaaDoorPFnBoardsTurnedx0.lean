-- Printed for this claim by wip/pp.py over the kit's printer; Lean checks it.
import Derived.Test.YtllhofdgbpnkkaaDoorProg
import Derived.Below
import Derived.Deep.Draws
import Derived.Deep.AppendLies
import Derived.Maps.AppendAt
import Derived.OwnWalk
import Derived.Laws.BytesArg
import Derived.Laws.MakeOwn
import Derived.Laws.OwnMore
import Derived.Deep.OwnRows
import Derived.Tactics
import Derived.Lib.ConvBytes
import Derived.Laws.Slices
import Derived.WalkKit
import Derived.KernelRfl
import Derived.RowKit3
import Derived.Deep.LoopGhost
import Derived.Deep.QuietTactic
import Derived.BigQuiet
import Derived.WideLaws
import Derived.Deep.DeepCutAuto
import Derived.Deep.CutBlock
import Derived.Deep.RegionHeld3
import Derived.Laws.Rows
import Derived.Lib.AppendStr
import Derived.ArgAppend
import Derived.Laws.IdiomCopy
import Derived.OrdersHeld
import Derived.Laws.BitsLemmas
import Derived.RowKit
import Derived.Deep.RegionWith
import Derived.Lib.IndexBytes
import Derived.Lib.IndexLaws
import Derived.Shelf.Strings.OnBuilder
import Derived.Shelf.Strings.Split
import Derived.Test.YtllhofdgbpnkkaaDoorWWords
import Derived.Test.YtllhofdgbpnkkaaDoorWLast
import Derived.Test.YtllhofdgbpnkkaaDoorWTab
import Derived.Test.YtllhofdgbpnkkaaDoorWFour
import Derived.Test.YtllhofdgbpnkkaaDoorWQPut
import Derived.Test.YtllhofdgbpnkkaaDoorWApart
import Derived.Test.YtllhofdgbpnkkaaDoorWArr
import Derived.Test.YtllhofdgbpnkkaaDoorWZeros
import Derived.Test.YtllhofdgbpnkkaaDoorWFoot
import Derived.Test.YtllhofdgbpnkkaaDoorWKept
import Derived.Test.YtllhofdgbpnkkaaDoorWShare
import Derived.Test.YtllhofdgbpnkkaaDoorWN
import Derived.Test.YtllhofdgbpnkkaaDoorWFootNe
import Derived.Test.YtllhofdgbpnkkaaDoorWAt
import Derived.Test.YtllhofdgbpnkkaaDoorWEqStruct
import Derived.Test.YtllhofdgbpnkkaaDoorWRepsOne
import Derived.Test.YtllhofdgbpnkkaaDoorWInv
import Derived.Test.YtllhofdgbpnkkaaDoorWInvWords
import Derived.Test.YtllhofdgbpnkkaaDoorWGuard
import Derived.Test.YtllhofdgbpnkkaaDoorWNEv
import Derived.Test.YtllhofdgbpnkkaaDoorWMore
namespace Go.Proofs.YtllhofdgbpnkkaaDoor.PFnBoardsTurned
open Go.RowKit Go.Proofs.YtllhofdgbpnkkaaDoorW.PrintWords Go.Proofs.YtllhofdgbpnkkaaDoorW.PrintLast Go.Proofs.YtllhofdgbpnkkaaDoorW.PrintMore
attribute [local go_sem] max2_int min2_int max_two min_two max_three min_three max_four min_four   -- for this text's walks alone
set_option linter.unusedVariables false
set_option linter.unusedSimpArgs false



def errW : Option Int → Value
  | none => .nilIface
  | some c => .iface 0 (.int .i64 c)
theorem errW_none : errW none = .nilIface := rfl
theorem errW_some (c : Int) : errW (some c) = .iface 0 (.int .i64 c) := rfl

theorem info3 : (Tryd.prog.info? 3).map (fun i => (i.zero, i.size, i.bytes)) = some (some (.int .i64 0), 1, 8) := by kernel_rfl
theorem info5 : (Tryd.prog.info? 5).map (fun i => (i.zero, i.size, i.bytes)) = some (some (.int .u8 0), 1, 1) := by kernel_rfl
theorem info9 : (Tryd.prog.info? 9).map (fun i => (i.zero, i.size, i.bytes)) = some (some (.string ⟨#[]⟩), 1, 16) := by kernel_rfl
theorem info24 : (Tryd.prog.info? 24).map (fun i => (i.zero, i.size, i.bytes)) = some (some (.slice none 0 0), 1, 24) := by kernel_rfl
-- the values' own types
def rd_L2 (xs : List (List Int)) (i : Int) : (List Int) := xs.getD i.toNat ([] : List Int)
theorem at_L2 {w : World} {A : Option Addr} {n : Nat} {xs : List (List Int)} (h : Kd.C (Kd.slice 3 (Kd.int .i64)) w A n xs) (i : Int) (h0 : 0 ≤ i) (h1 : i < n) : ∃ ad A0 c0, A = some ad ∧ w.cell? (ad.add i.toNat) = some (.slice A0 (rd_L2 xs i).length c0) ∧ (rd_L2 xs i).length ≤ c0 ∧ (Kd.int .i64).C w A0 (rd_L2 xs i).length (rd_L2 xs i) := by
  obtain ⟨ad, c, e, _, hK, hc0⟩ := Kd.C_get h ([] : List Int) i h0 h1
  have hc : ∀ j u, c[j]? = some u → w.cell? (ad.add (i.toNat * 1 + j)) = some u := hc0
  obtain ⟨A0, c0, rfl, l0, g0⟩ := hK
  exact ⟨ad, A0, c0, e, by have hq := hc 0 _ rfl; rwa [Nat.mul_one, Nat.add_zero] at hq, l0, g0⟩

theorem am {p : Prop} (h : p) : Aside0 p := ⟨h⟩
theorem sqb {W W' : World} {g : Nat} {o : Obj} (h : Aside0 (W.heap[g]? = some o)) (e : W'.heap = W.heap := by rfl) : W'.heap[g]? = some o := by rw [e]; exact h.out
theorem sqB {W W' W1 : World} {g : Nat} {o : Obj} (h : Aside0 (W.heap[g]? = some o)) (hb : Below W'.heap.size W' W1) (e : W'.heap = W.heap := by rfl) : Aside0 (W1.heap[g]? = some o) := ⟨blk_below (sqb h e) hb⟩
theorem sqT {W W' : World} {g : Nat} {o : Obj} (h : Aside0 (W.heap[g]? = some o)) (e : W'.heap = W.heap := by rfl) : g < W'.heap.size := blk_lt (sqb h e)
theorem sqc {W : World} {g : Nat} {t : TypeId} {cs : Array Value} {v : Value} (h : Aside0 (W.heap[g]? = some (.cells cs t (0, 0)))) (i : Nat) (e : cs[i]? = some v := by rfl) : W.cell? ⟨g, i, none⟩ = some v := (blk_cell h.out i).trans e
section
variable {α β : Type} {d : Kd α} {d' : Kd β} {e0 e1 base : Nat} {W W' W1 : World} {ok ok' ok2 : Nat → Prop} {u v : Value} {xs : List α} {ys : List β}
theorem sqr (h : Aside0 (d.R e0 W base ok v xs)) (e : W'.heap = W.heap := by rfl) : d.R e0 W' base ok v xs := Kd.R_move h.out (fun k _ => by rw [e])
theorem sqm (h : Aside0 (d.R e0 W base ok v xs)) (hok : ∀ k, ok k → ok' k) (e : W'.heap = W.heap := by rfl) : d.R e0 W' base ok' v xs := Kd.R_mono (sqr h e) hok
theorem sqL (h : Aside0 (d.R e0 W base ok v xs)) (e : W'.heap = W.heap := by rfl) : ∀ k, v.ownBlock = some k → k < W'.heap.size := Kd.R_lt (sqr h e)
theorem sqR (h : Aside0 (d.R e0 W base ok v xs)) (hb : Below W'.heap.size W' W1) (e : W'.heap = W.heap := by rfl) : Aside0 (d.R e0 W1 base ok v xs) := ⟨Kd.R_below (sqr h e) hb⟩
theorem sqE (h : Aside0 (d.R e0 W base ok u xs)) (ho : d'.R e1 W1 W'.heap.size ok2 v ys) (hb : Below W'.heap.size W' W1) (e : W'.heap = W.heap := by rfl) : Aside0 (d.R e0 W1 base (fun k => ok k ∧ some k ≠ v.ownBlock) u xs) := ⟨Kd.R_elder' (sqr h e) (Kd.R_base ho) hb⟩
end
theorem sqBp {W W' W1 : World} {g : Nat} {t : TypeId} {a b c : Value} (h : Aside0 (W.heap[g]? = some (.cells #[a, b, c] t (0, 0)))) (x y z : Value) (hb : Below W'.heap.size W' W1) (e : W'.heap = (((W.setCell ⟨g, 0, none⟩ x).setCell ⟨g, 1, none⟩ y).setCell ⟨g, 2, none⟩ z).heap := by rfl) : Aside0 (W1.heap[g]? = some (.cells #[x, y, z] t (0, 0))) := ⟨blk_below (by rw [e]; exact blk_put (blk_put (blk_put h.out 0 x rfl) 1 y rfl) 2 z rfl) hb⟩
theorem sqBf {W W' W1 : World} {g g' : Nat} {t : TypeId} {cs : Array Value} (h : Aside0 (W.heap[g]? = some (.cells cs t (0, 0)))) (n : Aside0 (g ≠ g')) (x y z : Value) (hb : Below W'.heap.size W' W1) (e : W'.heap = (((W.setCell ⟨g', 0, none⟩ x).setCell ⟨g', 1, none⟩ y).setCell ⟨g', 2, none⟩ z).heap := by rfl) : Aside0 (W1.heap[g]? = some (.cells cs t (0, 0))) := ⟨blk_below (by rw [e]; exact blk_far (blk_far (blk_far h.out n.out x) n.out y) n.out z) hb⟩
theorem sqo {α : Type} {d : Kd α} {e0 base : Nat} {W : World} {ok : Nat → Prop} {v : Value} {xs : List α} {g t : Nat} {cs : Array Value} (h : Aside0 (d.R e0 W base ok v xs)) (hb : Aside0 (W.heap[g]? = some (.cells cs t (0, 0)))) {x y z : Value} (ht : ∀ q, q ∈ e0 :: d.E → q ≠ t := by decide) : d.R e0 (((W.setCell ⟨g, 0, none⟩ x).setCell ⟨g, 1, none⟩ y).setCell ⟨g, 2, none⟩ z) base ok v xs := Kd.R_mono (Kd.R_far (p := ⟨g, 2, none⟩) (Kd.R_far (p := ⟨g, 1, none⟩) (Kd.R_far (p := ⟨g, 0, none⟩) (Kd.R_types h.out hb.out ht) (fun _ hk => hk.2) x) (fun _ hk => hk.2) y) (fun _ hk => hk.2) z) (fun _ h_ => h_.1)
theorem qb {w W : World} (h : Below w.heap.size w W := by repeat with_reducible first | exact HB.out | apply below_alloc | apply pw_below_drewN | apply below_drew1 | refine below_set ?_ (Aside0.out (by assumption))) : Below w.heap.size w W := h
theorem qk {w W : World} {g : Nat} {row : Option Nat} (h : KeepBut w W g row := by repeat (first | (with_reducible first | exact HK.out | apply KeepBut.set_ | apply keep_drewN | apply keep_drew | apply keep_alloc | refine keep_far ?_ (Aside0.out (by assumption)) _) | exact HK.out)) : KeepBut w W g row := h
theorem qs {w W W1 W2 : World} (hb : Below W.heap.size W W2) (p : Below w.heap.size w W1 := by exact HB.out) (h : Below w.heap.size w W := by exact qb) : Aside0 (Below w.heap.size w W2) := ⟨below_step h hb⟩
theorem qw {w W W1 : World} {b : Nat} (hg : b = W.heap.size) (p : Below w.heap.size w W1 := by exact HB.out) (h : Below w.heap.size w W := by exact qb) : Aside0 (w.heap.size ≤ b) := ⟨hg ▸ below_size h⟩
theorem qT {w W W1 W2 : World} {g : Nat} {row : Option Nat} (hk : KeepBut W W2 g row) (p : KeepBut w W1 g row := by exact HK.out) (h : KeepBut w W g row := by exact qk) : Aside0 (KeepBut w W2 g row) := ⟨KeepBut.trans h hk (.inl rfl)⟩
theorem qU {w W W1 W2 : World} {g : Nat} (hb : Below W.heap.size W W2) (p : KeepBut w W1 g none := by exact HK.out) (h : KeepBut w W g none := by exact qk) : Aside0 (KeepBut w W2 g none) := ⟨KeepBut.trans h (KeepBut.of_below hb g none) (.inl rfl)⟩
theorem qx {w W W1 : World} {b g : Nat} {row : Option Nat} (hg : b = W.heap.size) (p : KeepBut w W1 g row := by exact HK.out) (h : KeepBut w W g row := by exact qk) : Aside0 (w.heap.size ≤ b) := ⟨hg ▸ keep_size h⟩
theorem qz {W : World} (w : World) (g : Nat) (h : KeepBut w W g none := by exact qk) : w.heap.size ≤ W.heap.size := keep_size h
theorem qy {a b c : Nat} (h : Aside0 (a ≤ b)) (k : Aside0 (b ≤ c)) : Aside0 (a ≤ c) := ⟨Nat.le_trans h.out k.out⟩
theorem qn {W W0 : World} {a b t : Nat} {cs : Array Value} (hg : b = W.heap.size) (h : Aside0 (W0.heap[a]? = some (.cells cs t (0, 0)))) (e : W.heap = W0.heap := by rfl) : Aside0 (a ≠ b) := ⟨by rw [hg]; exact Nat.ne_of_lt (sqT h e)⟩
theorem qN {W W0 : World} {a b t : Nat} {cs : Array Value} (hg : b = W.heap.size) (h : Aside0 (W0.heap[a]? = some (.cells cs t (0, 0)))) (e : W.heap = W0.heap := by rfl) : Aside0 (b ≠ a) := ⟨by rw [hg]; exact Nat.ne_of_gt (sqT h e)⟩
theorem qK {W W0 W1 : World} {g g' : Nat} {o : Obj} (h : Aside0 (W0.heap[g']? = some o)) (hk : KeepBut W W1 g none) (n : Aside0 (g' ≠ g)) (e : W.heap = W0.heap := by rfl) : Aside0 (W1.heap[g']? = some o) := ⟨KeepBut.blk hk (by rw [e]; exact h.out) n.out (by simp)⟩
theorem qd {W : World} {g t : Nat} {a b c : Value} (h : Aside0 (W.heap[g]? = some (.cells #[a, b, c] t (0, 0)))) : W.cell? ⟨g, 0, none⟩ = some a ∧ W.cell? ⟨g, 1, none⟩ = some b ∧ W.cell? ⟨g, 2, none⟩ = some c ∧ W.frozen? ⟨g, 0, none⟩ = false ∧ W.frozen? ⟨g, 1, none⟩ = false ∧ W.frozen? ⟨g, 2, none⟩ = false := ⟨sqc h 0, sqc h 1, sqc h 2, blk_frozen h.out 0, blk_frozen h.out 1, blk_frozen h.out 2⟩
theorem qE {α β : Type} {x : Option α} {f : α → Option β} {r : β} (h : x.bind f = some r) : ∃ a, Aside0 (x = some a) ∧ f a = some r := by
  obtain ⟨a, h1, h2⟩ := Option.bind_eq_some_iff.mp h
  exact ⟨a, ⟨h1⟩, h2⟩
theorem qH {p : Prop} (h : p := by first | (rw [hy_]; with_reducible exact H) | (have H2_ := (Option.bind_some _ _).symm.trans H; rw [hy_]; with_reducible exact H2_) | (have H2_ := (Option.bind_some _ _).symm.trans H; with_reducible exact H2_) | with_reducible exact H | (rw [hy_]; exact H) | exact H) : p := h
theorem qh {ok ok' : Nat → Prop} (h : ∀ k, ok k → ok' k := by intro _ h_; first | exact h_ | (have hx_ := h_; and_intros <;> first | trivial | simp only [hx_, ne_eq, not_false_eq_true])) : ∀ k, ok k → ok' k := h
section
variable {α β : Type} {d : Kd α} {d' : Kd β} {e0 e1 base : Nat} {w W W' W1 W2 : World} {ok ok2 : Nat → Prop} {u v : Value} {xs : List α} {ys : List β}
theorem ql (ho : d.R e0 W2 W.heap.size ok v xs) (p : Below w.heap.size w W1 := by exact HB.out) (h : Below w.heap.size w W := by exact qb) : Aside0 (d.R e0 W2 w.heap.size ok v xs) := ⟨Kd.R_lower ho (below_size h)⟩
theorem qm {g : Nat} {row : Option Nat} (ho : d.R e0 W2 W.heap.size ok v xs) (p : KeepBut w W1 g row := by exact HK.out) (h : KeepBut w W g row := by exact qk) : Aside0 (d.R e0 W2 w.heap.size ok v xs) := ⟨Kd.R_lower ho (keep_size h)⟩
theorem qe (h : d.R e0 W base ok u xs) (ho : d'.R e1 W1 W.heap.size ok2 v ys) (hb : Below W.heap.size W W1) : Aside0 (d.R e0 W1 base (fun k => ok k ∧ some k ≠ v.ownBlock) u xs) := ⟨Kd.R_elder' h (Kd.R_base ho) hb⟩
theorem qC {A : Option Addr} {n : Nat} (h : Aside0 (d.C W A n xs)) (hb : Below W'.heap.size W' W1) (k : d.C W A n xs → d.C W' A n xs := by intro h_; repeat (with_reducible first | exact h_ | refine Kd.C_alloc ?_ _ | refine Kd.C_drewN ?_ _ | refine Kd.C_drew ?_)) : Aside0 (d.C W1 A n xs) := ⟨Kd.C_below (k h.out) hb⟩
theorem sqw (h : d.R e0 W1 base ok v xs) (k : d.R e0 W1 base ok v xs → d.R e0 W' base ok v xs := by intro h_; (with_reducible repeat (first | apply Kd.R_alloc | apply Kd.R_drewN | apply Kd.R_drew)); exact h_) : d.R e0 W' base ok v xs := k h
theorem sqv (h : d.R e0 W1 base ok v xs) (k : d.R e0 W1 base ok v xs → d.R e0 W' base ok v xs := by intro h_; (with_reducible repeat (first | apply Kd.R_alloc | apply Kd.R_drewN | apply Kd.R_drew)); exact h_) : ∀ k, v.ownBlock = some k → k < W'.heap.size := Kd.R_lt (k h)
theorem sqo2 {g g' t t' : Nat} {cs cs' : Array Value} (h : Aside0 (d.R e0 W base ok v xs)) (hb : Aside0 (W.heap[g]? = some (.cells cs t (0, 0)))) (hb' : Aside0 (W.heap[g']? = some (.cells cs' t' (0, 0)))) {x y z x' y' z' : Value} (ht : ∀ q, q ∈ e0 :: d.E → q ≠ t := by decide) (ht' : ∀ q, q ∈ e0 :: d.E → q ≠ t' := by decide) : d.R e0 ((((((W.setCell ⟨g, 0, none⟩ x).setCell ⟨g, 1, none⟩ y).setCell ⟨g, 2, none⟩ z).setCell ⟨g', 0, none⟩ x').setCell ⟨g', 1, none⟩ y').setCell ⟨g', 2, none⟩ z') base ok v xs := Kd.R_mono (Kd.R_far (p := ⟨g', 2, none⟩) (Kd.R_far (p := ⟨g', 1, none⟩) (Kd.R_far (p := ⟨g', 0, none⟩) (Kd.R_far (p := ⟨g, 2, none⟩) (Kd.R_far (p := ⟨g, 1, none⟩) (Kd.R_far (p := ⟨g, 0, none⟩) (Kd.R_types (Kd.R_types h.out hb.out ht) hb'.out ht') (fun _ hk => hk.1.2) x) (fun _ hk => hk.1.2) y) (fun _ hk => hk.1.2) z) (fun _ hk => hk.2) x') (fun _ hk => hk.2) y') (fun _ hk => hk.2) z') (fun _ h_ => h_.1.1)
end
theorem put3 {W : World} {g t : Nat} {a b c x y z : Value} (h : W.heap[g]? = some (.cells #[a, b, c] t (0, 0))) : (((W.setCell ⟨g, 0, none⟩ x).setCell ⟨g, 1, none⟩ y).setCell ⟨g, 2, none⟩ z).heap[g]? = some (.cells #[x, y, z] t (0, 0)) := blk_put (blk_put (blk_put h 0 x rfl) 1 y rfl) 2 z rfl
theorem far3 {W : World} {g g' t : Nat} {cs : Array Value} {x y z : Value} (n : g ≠ g') (h : W.heap[g]? = some (.cells cs t (0, 0))) : (((W.setCell ⟨g', 0, none⟩ x).setCell ⟨g', 1, none⟩ y).setCell ⟨g', 2, none⟩ z).heap[g]? = some (.cells cs t (0, 0)) := blk_far (blk_far (blk_far h n x) n y) n z
theorem qPF {W W' W1 : World} {g g' t : Nat} {a b c : Value} (x y z : Value) (h : Aside0 (W.heap[g]? = some (.cells #[a, b, c] t (0, 0)))) (n : Aside0 (g ≠ g')) (hb : Below W'.heap.size W' W1) (k : W.heap[g]? = some (.cells #[a, b, c] t (0, 0)) → g ≠ g' → W'.heap[g]? = some (.cells #[x, y, z] t (0, 0)) := by intro h_ n_; (with_reducible repeat (first | refine blk_drewN ?_ _ | refine blk_drew ?_ | refine blk_alloc ?_ _)); refine far3 n_ ?_; (with_reducible repeat (first | refine blk_drewN ?_ _ | refine blk_drew ?_ | refine blk_alloc ?_ _)); apply put3; (with_reducible repeat (first | refine blk_drewN ?_ _ | refine blk_drew ?_ | refine blk_alloc ?_ _)); exact h_) : Aside0 (W1.heap[g]? = some (.cells #[x, y, z] t (0, 0))) := ⟨blk_below (k h.out n.out) hb⟩
theorem qFP {W W' W1 : World} {g g' t : Nat} {a b c : Value} (x y z : Value) (h : Aside0 (W.heap[g]? = some (.cells #[a, b, c] t (0, 0)))) (n : Aside0 (g ≠ g')) (hb : Below W'.heap.size W' W1) (k : W.heap[g]? = some (.cells #[a, b, c] t (0, 0)) → g ≠ g' → W'.heap[g]? = some (.cells #[x, y, z] t (0, 0)) := by intro h_ n_; (with_reducible repeat (first | refine blk_drewN ?_ _ | refine blk_drew ?_ | refine blk_alloc ?_ _)); apply put3; (with_reducible repeat (first | refine blk_drewN ?_ _ | refine blk_drew ?_ | refine blk_alloc ?_ _)); refine far3 n_ ?_; (with_reducible repeat (first | refine blk_drewN ?_ _ | refine blk_drew ?_ | refine blk_alloc ?_ _)); exact h_) : Aside0 (W1.heap[g]? = some (.cells #[x, y, z] t (0, 0))) := ⟨blk_below (k h.out n.out) hb⟩
section
variable {P : Program} {ops : Array Oper} {rest : List Oper} {a : Act} {Q : Exit → Act → World → Prop} {w : World} {f : FuncId} {fn : Func} {As : Array Operand} {ts : Array TypeId}
theorem qv {o : Oper} (N : Tmp) (cs : Array Value) (t : TypeId) (h : ∀ g, g = w.heap.size → ∀ w1, w1.heap[g]? = some (.cells cs t (0, 0)) → Below w.heap.size w w1 → wpList P ops Q rest (a.put o.dst (.pointer (some ⟨g, 0, none⟩))) w1) (hd : o.dst = some N := by rfl) (hg : o.guard = none := by rfl) (hr : (execOp a.eval o).run P w = .ok (.value (.pointer (some ⟨w.heap.size, 0, none⟩))) (w.alloc (.cells cs t (0, 0))) := by first | (go_simp; done) | (go_simp; rfl)) : wpList P ops Q (o :: rest) a w := box_event hg hd hr h
theorem qg {oi : Oper} (N : Option Tmp) (hf : P.funcs[f]? = some fn) (args : Array Value) (h : Calls P f args w fun e w' => ∃ v, e = .returned v ∧ wpList P ops Q rest (a.put N v) w') (hd : oi.dst = N := by rfl) (hg : oi.guard = none := by rfl) (hname : (fn.name == "runtime.NumGoroutine") = false := by kernel_rfl) (hb : fn.body.isSome = true := by rfl) (hop : oi.op = .call { callee := .value (.func f), args := As, argTypes := ts } := by rfl) (hargs : As.map a.eval = args := by (try simp only [List.map_toArray, List.map_cons, List.map_nil]); try rfl) : wpList P ops Q (oi :: rest) a w := goesL_ N hd hg hf hname hb args hop hargs h
theorem qG {oi : Oper} {N : Option Tmp} {K : Act → World → Prop} (hf : P.funcs[f]? = some fn) (args : Array Value) (h : Calls P f args w fun e w' => ∃ v, e = .returned v ∧ K (a.put N v) w') (hname : (fn.name == "runtime.NumGoroutine") = false := by kernel_rfl) (hb : fn.body.isSome = true := by rfl) (hw : Region.wanted oi (yielded ops a.tmps) = true := by rfl) (hN : oi.dst = N := by rfl) (hop : oi.op = .call { callee := .value (.func f), args := As, argTypes := ts } := by rfl) (hargs : As.map a.eval = args := by (try simp only [List.map_toArray, List.map_cons, List.map_nil]); try rfl) : if Region.wanted oi (yielded ops a.tmps) = true then Oper.wp P oi a w K Q else K (a.put N undef) w := goes_ hf hname hb args hw hN hop hargs h
variable {md : Region.Mode} {S : World → Prop} {ds : List Nat} {oi : Oper} {v : Value} {fuel : Nat} {l : Array Bool}
theorem qp (i : Nat) (N : Option Tmp) (l' : Array Bool) {a' : Act} (h : wpAnyLast P md ops Q S ds fuel l' a' w) (hi : ops[i]? = some oi := by rfl) (hN : oi.dst = N := by rfl) (hc : anyB md ops l l' i = true := by exact any_of HT_.out (by kernel_rfl)) (hQ : ∀ c a w, Q (.panic c) (a.put oi.dst v) w → Q (.panic c) a w := by exact fun _ _ _ h => h) (hy : Yields P ops oi v a := by refine Or.inl ⟨by rfl, ?_⟩; intro w'; go_simp; with_reducible rfl) (ha : a.put N v = a' := by simp only [Act.put, List.setIfInBounds_toArray, List.set_cons_zero, List.set_cons_succ, i64_w, i32_w]; rfl) : wpAnyLast P md ops Q S ds (fuel + 1) l a w := pure_ l' hi hN hc hQ hy ha h
theorem qq {a0 a' : Act} (N : Option Tmp) (h : wpAnyLast P md ops Q S ds fuel l a' w) (e : a = Act.put a0 N v := by rfl) (ha : Act.put a0 N v = a' := by simp only [Act.put, List.setIfInBounds_toArray, List.set_cons_zero, List.set_cons_succ, i64_w, i32_w]; rfl) : wpAnyLast P md ops Q S ds fuel l a w := norm_ (e.trans ha) h
end
theorem Q0 {p : Prop} (h : p := by first | (with_reducible assumption) | assumption) : p := h
theorem Q1 {p : Prop} (h : p := by first | rfl | (simp [errW_none, errW_some] <;> rfl) | (simp [*, errW_none, errW_some] <;> rfl)) : p := h
theorem Q2 {p : Prop} (h : p := by first | rfl | (simp; done) | (simp [*]; done)) : p := h
theorem Q3 {p : Prop} (h : p := by repeat (first | exact (Kd.C_below HR0_2.out HB.out) | (with_reducible first | refine Kd.C_alloc ?_ _ | refine Kd.C_drewN ?_ _ | refine Kd.C_drew ?_))) : p := h
theorem Q4 {p : Prop} (h : p := by (with_reducible repeat (first | refine blk_drewN ?_ _ | refine blk_drew ?_ | refine blk_alloc ?_ _)); refine blk_put (cs := #[.int .i64 t150, .int .i64 t151, .slice none 0 0]) ?_ 2 _ rfl; (with_reducible repeat (first | refine blk_drewN ?_ _ | refine blk_drew ?_ | refine blk_alloc ?_ _)); refine blk_put (cs := #[.int .i64 t150, .int .i64 0, .slice none 0 0]) ?_ 1 _ rfl; (with_reducible repeat (first | refine blk_drewN ?_ _ | refine blk_drew ?_ | refine blk_alloc ?_ _)); refine blk_put (cs := #[.int .i64 0, .int .i64 0, .slice none 0 0]) ?_ 0 _ rfl; (with_reducible repeat (first | refine blk_drewN ?_ _ | refine blk_drew ?_ | refine blk_alloc ?_ _)); exact BK157.out) : p := h
theorem Q5 {p : Prop} (h : p := by repeat (first | exact Drawn0.refl _ | apply Drawn0.step)) : p := h
theorem Q6 {p : Prop} (h : p := by first | exact Kd.R_nil _ _ _ _ _ | exact Kd.N_nil _ _ _ _ _ | exact Kd.V_nil _ _ _ _ _ | exact Kd.Q_nil _ _ _ _ _ | exact Kd.S_nil _ _ _ _ _) : p := h
theorem Q7 {p : Prop} (h : p := by (with_reducible repeat (first | refine blk_drewN ?_ _ | refine blk_drew ?_ | refine blk_alloc ?_ _)); refine blk_far ?_ Nq3.out _; (with_reducible repeat (first | refine blk_drewN ?_ _ | refine blk_drew ?_ | refine blk_alloc ?_ _)); refine blk_far ?_ Nq3.out _; (with_reducible repeat (first | refine blk_drewN ?_ _ | refine blk_drew ?_ | refine blk_alloc ?_ _)); refine blk_far ?_ Nq3.out _; (with_reducible repeat (first | refine blk_drewN ?_ _ | refine blk_drew ?_ | refine blk_alloc ?_ _)); exact BK143.out) : p := h
theorem Q8 {p : Prop} (h : p := by (with_reducible repeat (first | refine blk_drewN ?_ _ | refine blk_drew ?_ | refine blk_alloc ?_ _)); refine blk_put (cs := #[.int .i64 0, .int .i64 0, .slice none 0 0]) ?_ 2 _ rfl; (with_reducible repeat (first | refine blk_drewN ?_ _ | refine blk_drew ?_ | refine blk_alloc ?_ _)); refine blk_put (cs := #[.int .i64 0, .int .i64 0, .slice none 0 0]) ?_ 1 _ rfl; (with_reducible repeat (first | refine blk_drewN ?_ _ | refine blk_drew ?_ | refine blk_alloc ?_ _)); refine blk_put (cs := #[.int .i64 0, .int .i64 0, .slice none 0 0]) ?_ 0 _ rfl; (with_reducible repeat (first | refine blk_drewN ?_ _ | refine blk_drew ?_ | refine blk_alloc ?_ _)); exact BK452.out) : p := h
theorem Q9 {p : Prop} (h : p := by (with_reducible repeat (first | refine blk_drewN ?_ _ | refine blk_drew ?_ | refine blk_alloc ?_ _)); exact BK554.out) : p := h
theorem Q10 {p : Prop} (h : p := by (with_reducible repeat (first | refine blk_drewN ?_ _ | refine blk_drew ?_ | refine blk_alloc ?_ _)); exact BK561.out) : p := h
theorem Q11 {p : Prop} (h : p := by (with_reducible repeat (first | refine blk_drewN ?_ _ | refine blk_drew ?_ | refine blk_alloc ?_ _)); exact BK575.out) : p := h
theorem Q12 {p : Prop} (h : p := by (with_reducible repeat (first | refine blk_drewN ?_ _ | refine blk_drew ?_ | refine blk_alloc ?_ _)); exact BK589.out) : p := h
theorem Q13 {p : Prop} (h : p := by (with_reducible repeat (first | apply Kd.R_alloc | apply Kd.R_drewN | apply Kd.R_drew)); exact (Kd.R_mono (Kd.R_far (p := ⟨gb453, 0, none⟩) (Kd.R_types Oq6.out BK453.out (by decide)) (fun _ hk => hk.2) (.int .i64 (x454002_1.length : Int))) (fun _ h_ => h_.1))) : p := h
theorem Q14 {p : Prop} (h : p := by (with_reducible repeat (first | refine blk_drewN ?_ _ | refine blk_drew ?_ | refine blk_alloc ?_ _)); refine blk_put (cs := #[.int .i64 t321, .int .i64 t322, .slice none 0 0]) ?_ 2 _ rfl; (with_reducible repeat (first | refine blk_drewN ?_ _ | refine blk_drew ?_ | refine blk_alloc ?_ _)); refine blk_put (cs := #[.int .i64 t321, .int .i64 0, .slice none 0 0]) ?_ 1 _ rfl; (with_reducible repeat (first | refine blk_drewN ?_ _ | refine blk_drew ?_ | refine blk_alloc ?_ _)); refine blk_put (cs := #[.int .i64 0, .int .i64 0, .slice none 0 0]) ?_ 0 _ rfl; (with_reducible repeat (first | refine blk_drewN ?_ _ | refine blk_drew ?_ | refine blk_alloc ?_ _)); exact BK319.out) : p := h
theorem Q15 {p : Prop} (h : p := by (with_reducible repeat (first | refine blk_drewN ?_ _ | refine blk_drew ?_ | refine blk_alloc ?_ _)); refine blk_put (cs := #[.int .i64 t150, .int .i64 t151, .slice none 0 0]) ?_ 2 _ rfl; (with_reducible repeat (first | refine blk_drewN ?_ _ | refine blk_drew ?_ | refine blk_alloc ?_ _)); refine blk_put (cs := #[.int .i64 t150, .int .i64 0, .slice none 0 0]) ?_ 1 _ rfl; (with_reducible repeat (first | refine blk_drewN ?_ _ | refine blk_drew ?_ | refine blk_alloc ?_ _)); refine blk_put (cs := #[.int .i64 0, .int .i64 0, .slice none 0 0]) ?_ 0 _ rfl; (with_reducible repeat (first | refine blk_drewN ?_ _ | refine blk_drew ?_ | refine blk_alloc ?_ _)); exact BK143.out) : p := h
theorem Q16 {p : Prop} (h : p := by (with_reducible repeat (first | refine blk_drewN ?_ _ | refine blk_drew ?_ | refine blk_alloc ?_ _)); refine blk_put (cs := #[.int .i64 0, .int .i64 0, .slice none 0 0]) ?_ 2 _ rfl; (with_reducible repeat (first | refine blk_drewN ?_ _ | refine blk_drew ?_ | refine blk_alloc ?_ _)); refine blk_put (cs := #[.int .i64 0, .int .i64 0, .slice none 0 0]) ?_ 1 _ rfl; (with_reducible repeat (first | refine blk_drewN ?_ _ | refine blk_drew ?_ | refine blk_alloc ?_ _)); refine blk_put (cs := #[.int .i64 0, .int .i64 0, .slice none 0 0]) ?_ 0 _ rfl; (with_reducible repeat (first | refine blk_drewN ?_ _ | refine blk_drew ?_ | refine blk_alloc ?_ _)); exact BK429.out) : p := h
theorem Q17 {p : Prop} (h : p := by (with_reducible repeat (first | refine blk_drewN ?_ _ | refine blk_drew ?_ | refine blk_alloc ?_ _)); refine blk_put (cs := #[.int .i64 0, .int .i64 0, .slice none 0 0]) ?_ 2 _ rfl; (with_reducible repeat (first | refine blk_drewN ?_ _ | refine blk_drew ?_ | refine blk_alloc ?_ _)); refine blk_put (cs := #[.int .i64 0, .int .i64 0, .slice none 0 0]) ?_ 1 _ rfl; (with_reducible repeat (first | refine blk_drewN ?_ _ | refine blk_drew ?_ | refine blk_alloc ?_ _)); refine blk_put (cs := #[.int .i64 0, .int .i64 0, .slice none 0 0]) ?_ 0 _ rfl; (with_reducible repeat (first | refine blk_drewN ?_ _ | refine blk_drew ?_ | refine blk_alloc ?_ _)); exact BK513.out) : p := h
theorem Q18 {p : Prop} (h : p := by (with_reducible repeat (first | refine blk_drewN ?_ _ | refine blk_drew ?_ | refine blk_alloc ?_ _)); refine blk_far ?_ (by have h_ := Kd.R_ne Oq1.out BK115.out (by decide); intro e_; exact h_ (by rw [e_]; rfl)) _; (with_reducible repeat (first | refine blk_drewN ?_ _ | refine blk_drew ?_ | refine blk_alloc ?_ _)); exact BK115.out) : p := h
theorem Q19 {p : Prop} (h : p := by (with_reducible repeat (first | refine blk_drewN ?_ _ | refine blk_drew ?_ | refine blk_alloc ?_ _)); refine blk_far ?_ (by have h_ := Kd.R_ne Oq1.out BK121.out (by decide); intro e_; exact h_ (by rw [e_]; rfl)) _; (with_reducible repeat (first | refine blk_drewN ?_ _ | refine blk_drew ?_ | refine blk_alloc ?_ _)); exact BK121.out) : p := h
theorem Q20 {p : Prop} (h : p := by (with_reducible repeat (first | apply Kd.R_alloc | apply Kd.R_drewN | apply Kd.R_drew)); exact (Kd.R_mono (Kd.R_far (p := ⟨gb453, 0, none⟩) (Kd.R_types Oq5.out BK453.out (by decide)) (fun _ hk => hk.2) (.int .i64 (x454002_1.length : Int))) (fun _ h_ => h_.1))) : p := h
theorem Q21 {p : Prop} (h : p := by (with_reducible repeat (first | refine blk_drewN ?_ _ | refine blk_drew ?_ | refine blk_alloc ?_ _)); refine blk_far ?_ Nq0.out _; (with_reducible repeat (first | refine blk_drewN ?_ _ | refine blk_drew ?_ | refine blk_alloc ?_ _)); exact BK452.out) : p := h
theorem Q22 {p : Prop} (h : p := by (try simp only [List.map_toArray, List.map_cons, List.map_nil]); first | done | (rw [show (l0.take (x20_2 : Int).toNat).length = x20_2.toNat from (by rw [List.length_take]; have h_ : (x20_2 : Int) ≤ (l0.length : Int) := of_decide_eq_true (by first | (with_reducible assumption) | assumption); omega)] <;> rfl) | rfl | (simp only [List.length_drop, List.length_take]; rfl)) : p := h
theorem Q23 {p : Prop} (h : p := by (with_reducible repeat (first | apply Kd.S_alloc | apply Kd.S_drewN | apply Kd.S_drew)); exact Oq8.out) : p := h
theorem Q24 {p : Prop} (h : p := by (with_reducible repeat (first | apply Kd.S_alloc | apply Kd.S_drewN | apply Kd.S_drew)); exact Oq5.out) : p := h
theorem Q25 {p : Prop} (h : p := by (with_reducible repeat (first | refine blk_drewN ?_ _ | refine blk_drew ?_ | refine blk_alloc ?_ _)); exact BK390.out) : p := h
theorem Q26 {p : Prop} (h : p := by repeat (first | exact HR0.out | (with_reducible first | refine Kd.C_alloc ?_ _ | refine Kd.C_drewN ?_ _ | refine Kd.C_drew ?_))) : p := h
theorem Q27 {p : Prop} (h : p := by (with_reducible repeat (first | apply Kd.R_alloc | apply Kd.R_drewN | apply Kd.R_drew)); exact Oq2.out) : p := h
theorem Q28 {p : Prop} (h : p := by (with_reducible repeat (first | refine blk_drewN ?_ _ | refine blk_drew ?_ | refine blk_alloc ?_ _)); exact BK429.out) : p := h
theorem Q29 {p : Prop} (h : p := by (with_reducible repeat (first | refine blk_drewN ?_ _ | refine blk_drew ?_ | refine blk_alloc ?_ _)); exact BK236.out) : p := h
theorem Q30 {p : Prop} (h : p := by (with_reducible repeat (first | refine blk_drewN ?_ _ | refine blk_drew ?_ | refine blk_alloc ?_ _)); exact BK521.out) : p := h
theorem Q31 {p : Prop} (h : p := by repeat (first | exact (Kd.R_reads' Oq23.out).2.2 | (with_reducible first | refine Kd.C_alloc ?_ _ | refine Kd.C_drewN ?_ _ | refine Kd.C_drew ?_))) : p := h
theorem Q32 {p : Prop} (h : p := by have := HK1.out; have := HK2.out; omega) : p := h
theorem Q33 {p : Prop} (h : p := by repeat (first | exact (Kd.R_reads' Oq6.out).2.2 | (with_reducible first | refine Kd.C_alloc ?_ _ | refine Kd.C_drewN ?_ _ | refine Kd.C_drew ?_))) : p := h
theorem Q34 {p : Prop} (h : p := by intro x hx; simp [Kd.int, Kd.scalar] at hx; subst hx; decide) : p := h
theorem Q35 {p : Prop} (h : p := by repeat (first | exact (Kd.C_below HA1.out (below_step (below_step HB1.out HB2.out) HB3.out)) | (with_reducible refine Kd.C_drewN ?_ _) | (with_reducible refine Kd.C_drew ?_))) : p := h
theorem Q36 {p : Prop} (h : p := by (with_reducible repeat (first | apply Kd.R_alloc | apply Kd.R_drewN | apply Kd.R_drew)); exact Oq0.out) : p := h
theorem Q37 {p : Prop} (h : p := by (with_reducible repeat (first | apply Kd.R_alloc | apply Kd.R_drewN | apply Kd.R_drew)); exact Oq6.out) : p := h
theorem Q38 {p : Prop} (h : p := by (with_reducible repeat (first | apply Kd.R_alloc | apply Kd.R_drewN | apply Kd.R_drew)); exact Oq3.out) : p := h
theorem Q39 {p : Prop} (h : p := by simp only [putAll, Act.put, List.setIfInBounds_toArray, List.set_cons_zero, List.set_cons_succ]) : p := h
theorem Q40 {p : Prop} (h : p := by (with_reducible repeat (first | refine blk_drewN ?_ _ | refine blk_drew ?_ | refine blk_alloc ?_ _)); exact BK452.out) : p := h
theorem Q41 {p : Prop} (h : p := by (with_reducible repeat (first | refine blk_drewN ?_ _ | refine blk_drew ?_ | refine blk_alloc ?_ _)); exact BK453.out) : p := h
theorem Q42 {p : Prop} (h : p := by (with_reducible repeat (first | refine blk_drewN ?_ _ | refine blk_drew ?_ | refine blk_alloc ?_ _)); exact BK470.out) : p := h
theorem Q43 {p : Prop} (h : p := by (with_reducible repeat (first | refine blk_drewN ?_ _ | refine blk_drew ?_ | refine blk_alloc ?_ _)); exact BK678.out) : p := h
theorem Q44 {p : Prop} (h : p := by (with_reducible repeat (first | refine blk_drewN ?_ _ | refine blk_drew ?_ | refine blk_alloc ?_ _)); exact BK685.out) : p := h
theorem Q45 {p : Prop} (h : p := by (with_reducible repeat (first | refine blk_drewN ?_ _ | refine blk_drew ?_ | refine blk_alloc ?_ _)); exact BK692.out) : p := h
theorem Q46 {p : Prop} (h : p := by repeat (first | exact (Kd.C_below HR1.out HB.out) | (with_reducible first | refine Kd.C_alloc ?_ _ | refine Kd.C_drewN ?_ _ | refine Kd.C_drew ?_))) : p := h
theorem Q47 {p : Prop} (h : p := by repeat (first | exact (Kd.R_reads' Oq1.out).2.2 | (with_reducible first | refine Kd.C_alloc ?_ _ | refine Kd.C_drewN ?_ _ | refine Kd.C_drew ?_))) : p := h
theorem Q48 {p : Prop} (h : p := by repeat (first | exact (Kd.C_below HR0_2.out qb) | (with_reducible first | refine Kd.C_alloc ?_ _ | refine Kd.C_drewN ?_ _ | refine Kd.C_drew ?_))) : p := h
theorem Q49 {p : Prop} (h : p := by exact sqm Oq23 (fun _ hk => by first | exact ⟨hk.2, ⟨hk.1.1, ⟨hk.1.2.1, ⟨hk.1.2.2.1, ⟨hk.1.2.2.2.1, ⟨hk.1.2.2.2.2.1, hk.1.2.2.2.2.2⟩⟩⟩⟩⟩⟩ | (and_intros <;> first | trivial | simp only [hk, ne_eq, not_false_eq_true]))) : p := h
theorem Q50 {p : Prop} (h : p := by exact sqm Oq24 (fun _ hk => by first | exact ⟨hk.2, ⟨hk.1.1, ⟨hk.1.2.1, ⟨hk.1.2.2.1, ⟨hk.1.2.2.2.1, ⟨hk.1.2.2.2.2.1, hk.1.2.2.2.2.2⟩⟩⟩⟩⟩⟩ | (and_intros <;> first | trivial | simp only [hk, ne_eq, not_false_eq_true]))) : p := h
theorem Q51 {p : Prop} (h : p := by exact sqm Oq25 (fun _ hk => by first | exact ⟨hk.2, ⟨hk.1.1, ⟨hk.1.2.1, ⟨hk.1.2.2.1, ⟨hk.1.2.2.2.1, ⟨hk.1.2.2.2.2.1, hk.1.2.2.2.2.2⟩⟩⟩⟩⟩⟩ | (and_intros <;> first | trivial | simp only [hk, ne_eq, not_false_eq_true]))) : p := h
theorem Q52 {p : Prop} (h : p := by exact sqm Oq26 (fun _ hk => by first | exact ⟨hk.2, ⟨hk.1.1, ⟨hk.1.2.1, ⟨hk.1.2.2.1, ⟨hk.1.2.2.2.1, ⟨hk.1.2.2.2.2.1, hk.1.2.2.2.2.2⟩⟩⟩⟩⟩⟩ | (and_intros <;> first | trivial | simp only [hk, ne_eq, not_false_eq_true]))) : p := h
theorem Q53 {p : Prop} (h : p := by exact sqm Oq27 (fun _ hk => by first | exact ⟨hk.2, ⟨hk.1.1, ⟨hk.1.2.1, ⟨hk.1.2.2.1, ⟨hk.1.2.2.2.1, ⟨hk.1.2.2.2.2.1, hk.1.2.2.2.2.2⟩⟩⟩⟩⟩⟩ | (and_intros <;> first | trivial | simp only [hk, ne_eq, not_false_eq_true]))) : p := h
theorem Q54 {p : Prop} (h : p := by exact sqm Oq28 (fun _ hk => by first | exact ⟨hk.2, ⟨hk.1.1, ⟨hk.1.2.1, ⟨hk.1.2.2.1, ⟨hk.1.2.2.2.1, ⟨hk.1.2.2.2.2.1, hk.1.2.2.2.2.2⟩⟩⟩⟩⟩⟩ | (and_intros <;> first | trivial | simp only [hk, ne_eq, not_false_eq_true]))) : p := h
theorem Q55 {p : Prop} (h : p := by (with_reducible repeat (first | refine blk_drewN ?_ _ | refine blk_drew ?_ | refine blk_alloc ?_ _)); exact BK442.out) : p := h
theorem Q56 {p : Prop} (h : p := by (with_reducible repeat (first | refine blk_drewN ?_ _ | refine blk_drew ?_ | refine blk_alloc ?_ _)); exact BK608.out) : p := h
theorem Q57 {p : Prop} (h : p := by (with_reducible repeat (first | refine blk_drewN ?_ _ | refine blk_drew ?_ | refine blk_alloc ?_ _)); exact BK615.out) : p := h
theorem Q58 {p : Prop} (h : p := by (with_reducible repeat (first | refine blk_drewN ?_ _ | refine blk_drew ?_ | refine blk_alloc ?_ _)); exact BK208.out) : p := h
theorem Q59 {p : Prop} (h : p := by (with_reducible repeat (first | refine blk_drewN ?_ _ | refine blk_drew ?_ | refine blk_alloc ?_ _)); exact BK209.out) : p := h
theorem Q60 {p : Prop} (h : p := by (with_reducible repeat (first | refine blk_drewN ?_ _ | refine blk_drew ?_ | refine blk_alloc ?_ _)); exact BK215.out) : p := h
theorem Q61 {p : Prop} (h : p := by have := HK1.out; omega) : p := h
theorem Q62 {p : Prop} (h : p := by first | rfl | (simp [errW_none, errW_some] <;> rfl) | (simp only [← hji7]; first | rfl | (simp [errW_none, errW_some] <;> rfl)) | (simp [*, errW_none, errW_some] <;> rfl)) : p := h
theorem Q63 {p : Prop} (h : p := by first | omega | exact Nat.le_refl _) : p := h
theorem Q64 {p : Prop} (h : p := by repeat (first | (with_reducible exact HR255_0.out) | (with_reducible first | refine Kd.C_alloc ?_ _ | refine Kd.C_drewN ?_ _ | refine Kd.C_drew ?_) | exact HR255_0.out)) : p := h
theorem Q65 {p : Prop} (h : p := by repeat (first | (with_reducible exact HR280_0.out) | (with_reducible first | refine Kd.C_alloc ?_ _ | refine Kd.C_drewN ?_ _ | refine Kd.C_drew ?_) | exact HR280_0.out)) : p := h
theorem Q66 {p : Prop} (h : p := by (try simp only [List.map_toArray, List.map_cons, List.map_nil]); first | done | (simp only [hji14]; rfl) | rfl | (simp only [List.length_drop, List.length_take]; rfl)) : p := h
theorem Q67 {p : Prop} (h : p := by (with_reducible repeat (first | apply Kd.R_alloc | apply Kd.R_drewN | apply Kd.R_drew)); exact Oq23.out) : p := h
theorem Q68 {p : Prop} (h : p := by (with_reducible repeat (first | apply Kd.R_alloc | apply Kd.R_drewN | apply Kd.R_drew)); exact Oq24.out) : p := h
theorem Q69 {p : Prop} (h : p := by (with_reducible repeat (first | apply Kd.R_alloc | apply Kd.R_drewN | apply Kd.R_drew)); exact Oq25.out) : p := h
theorem Q70 {p : Prop} (h : p := by (with_reducible repeat (first | apply Kd.R_alloc | apply Kd.R_drewN | apply Kd.R_drew)); exact Oq26.out) : p := h
theorem Q71 {p : Prop} (h : p := by (with_reducible repeat (first | apply Kd.R_alloc | apply Kd.R_drewN | apply Kd.R_drew)); exact Oq30.out) : p := h
theorem Q72 {p : Prop} (h : p := by (with_reducible repeat (first | apply Kd.R_alloc | apply Kd.R_drewN | apply Kd.R_drew)); exact Oq31.out) : p := h
theorem Q73 {p : Prop} (h : p := by (with_reducible repeat (first | apply Kd.R_alloc | apply Kd.R_drewN | apply Kd.R_drew)); exact Oq32.out) : p := h
theorem Q74 {p : Prop} (h : p := by (with_reducible repeat (first | apply Kd.R_alloc | apply Kd.R_drewN | apply Kd.R_drew)); exact Oq1.out) : p := h
theorem Q75 {p : Prop} (h : p := by (with_reducible repeat (first | apply Kd.R_alloc | apply Kd.R_drewN | apply Kd.R_drew)); exact Oq5.out) : p := h
theorem Q76 {p : Prop} (h : p := by (with_reducible repeat (first | apply Kd.R_alloc | apply Kd.R_drewN | apply Kd.R_drew)); exact Oq4.out) : p := h
theorem Q77 {p : Prop} (h : p := by have := HJ11.out; have := HJ110.out; have := HJ157.out; have := HJ201.out; have := HJ235.out; have := HJ249.out; have := HK7.out; have := HK8.out; omega) : p := h
theorem Q78 {p : Prop} (h : p := by repeat (first | exact HW.out | apply pw_below_drewN | apply below_drew1)) : p := h
theorem Q79 {p : Prop} (h : p := by have h_ := Kd.R_ne Oq1.out BK115.out (by decide); intro e_; exact h_ (by rw [e_]; rfl)) : p := h
theorem Q80 {p : Prop} (h : p := by have h_ := Kd.R_ne Oq1.out BK121.out (by decide); intro e_; exact h_ (by rw [e_]; rfl)) : p := h
theorem Q81 {p : Prop} (h : p := by exact (Kd.R_reads' Oq6.out).2.1) : p := h
theorem Q82 {p : Prop} (h : p := by have := HK1.out; first | omega | exact Nat.le_refl _) : p := h
end Go.Proofs.YtllhofdgbpnkkaaDoor.PFnBoardsTurned
