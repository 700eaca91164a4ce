-- Printed for this claim by wip/pp.py over the kit's printer; Lean checks it.
import Derived.Test.YtbjijnehgjfhlaaPFnExactClassOfx0
import Derived.Test.YtbjijnehgjfhlaaPFnExactClassOfx1
import Derived.Test.YtbjijnehgjfhlaaPFnExactClassOfx3
import Derived.Test.YtbjijnehgjfhlaaPFnExactClassOfx6
namespace Go.Proofs.Ytbjijnehgjfhlaa.PFnExactClassOf
open Go.RowKit Go.Proofs.YtbjijnehgjfhlaaW.PrintWords Go.Proofs.YtbjijnehgjfhlaaW.PrintLast Go.Proofs.YtbjijnehgjfhlaaW.PrintMore
attribute [local go_sem] max2_int min2_int max_two min_two max_three min_three max_four min_four   -- for this text's walks alone
set_option linter.unusedVariables false
set_option linter.unusedSimpArgs false

/-! ### laws_FnExactClassOf: function 4 (by hand) -/
def laws_FnExactClassOf.f (k : Nat) (l0 : List Int) : Option Bool :=
  if l0.length ≤ 1048576 then (laws_toIntS.f k l0).bind fun a => (spec_ClassOf.f k a).bind fun w => (impl_ClassOf.f k a).bind fun g => (laws_eqIntSS.f k g.1 w.1).bind fun e => (laws_eqIntS.f k a a).bind fun e2 => (laws_markIntS.f k a 1).bind fun b => (laws_markIntSS.f k g.1 1).bind fun m => (laws_heldIntSS.f k m.2 1).bind fun q => if e = true ∧ e2 = true ∧ 0 ≤ b.1 ∧ g.2 = w.2 ∧ 0 ≤ q ∧ q = m.1 then some true else some false
  else some true
-- (walk)
set_option maxHeartbeats 2000000 in
set_option maxRecDepth 100000 in
theorem laws_FnExactClassOf.calls (k : Nat) (A0 : Option Addr) (c0 : Nat) (l0 : List Int) (w : World) (hr0 : Kd.C (Kd.int .i64) w A0 l0.length l0) (hc0 : l0.length ≤ c0) (h : laws_FnExactClassOf.f k l0 = some true) :
    Calls Try.prog 4 #[.slice A0 l0.length c0] w fun e w' => e = .returned (.bool true) ∧ Below w.heap.size w w' := by
  unfold laws_FnExactClassOf.f at h
  by_cases hlen : l0.length ≤ 1048576
  case neg =>
    have c1 : decide ((1048576 : Int) < (l0.length : Int)) = true := decide_eq_true (by omega)
    have c2 : decide (1048576 < l0.length) = true := decide_eq_true (by omega)
    clear h
    go_enter Try.func4, Try.ntmps4
    go_wp2
    go_ret
    exact ⟨rfl, Below.refl _ _⟩
  rw [if_pos hlen] at h
  obtain ⟨a, A1, h⟩ := Option.bind_eq_some_iff.1 h
  obtain ⟨⟨w1, w2⟩, A2, h⟩ := Option.bind_eq_some_iff.1 h
  obtain ⟨⟨g1, g2⟩, A3, h⟩ := Option.bind_eq_some_iff.1 h
  obtain ⟨e, A4, h⟩ := Option.bind_eq_some_iff.1 h
  obtain ⟨e2, A5, h⟩ := Option.bind_eq_some_iff.1 h
  obtain ⟨⟨b1, b2⟩, A6, h⟩ := Option.bind_eq_some_iff.1 h
  obtain ⟨⟨m1, m2⟩, A7, h⟩ := Option.bind_eq_some_iff.1 h
  obtain ⟨q, A8, h⟩ := Option.bind_eq_some_iff.1 h
  by_cases hc : e = true ∧ e2 = true ∧ 0 ≤ b1 ∧ g2 = w2 ∧ 0 ≤ q ∧ q = m1
  case neg => rw [if_neg hc] at h; exact absurd (Option.some.inj h) (by decide)
  obtain ⟨rfl, rfl, hb1, rfl, hq, rfl⟩ := hc
  clear h
  have cb : decide (b1 < 0) = false := decide_eq_false (by omega)
  have cq : decide (q < 0) = false := decide_eq_false (by omega)
  have c1 : decide ((1048576 : Int) < (l0.length : Int)) = false := decide_eq_false (by omega)
  have c2 : decide (1048576 < l0.length) = false := decide_eq_false (by omega)
  have A1 := Aside0.mk A1
  have A2 := Aside0.mk A2
  have A3 := Aside0.mk A3
  have A4 := Aside0.mk A4
  have A5 := Aside0.mk A5
  have A6 := Aside0.mk A6
  have A7 := Aside0.mk A7
  have A8 := Aside0.mk A8
  have HR0 := Aside0.mk hr0
  have HC0 := Aside0.mk hc0
  clear hr0 hc0 hlen hb1 hq
  go_enter Try.func4, Try.ntmps4
  go_wp2_with fail
  go_at_call 8
  refine (laws_toIntS.calls k A0 c0 l0 a _ HR0.out HC0.out A1.out).mono ?_
  rintro e W1 ⟨v1, rfl, ho1, hb1⟩
  obtain ⟨Aa, ca, rfl⟩ := Kd.R_slice ho1
  have O1 := Aside0.mk ho1
  have B1 := Aside0.mk hb1
  clear ho1 hb1
  go_wp2_with fail
  go_at_call 13
  refine (spec_ClassOf.calls k _ _ a w1 g2 _ (Kd.R_reads' O1.out).2.2 (Kd.R_reads' O1.out).2.1 A2.out).mono ?_
  rintro e W2 ⟨v2, rfl, ho2, hb2⟩
  obtain ⟨Aw, cw, rfl⟩ := Kd.N_slice ho2
  have RW := Aside0.mk (Kd.N_reads' ho2)
  have T2 := Aside0.mk (below_step B1.out hb2)
  clear ho2 hb2 O1 B1
  go_wp2_with fail
  go_at_call 8
  refine (laws_toIntS.calls k A0 c0 l0 a _ (Kd.C_below HR0.out T2.out) HC0.out A1.out).mono ?_
  rintro e W3 ⟨v3, rfl, ho3, hb3⟩
  obtain ⟨Ax, cx, rfl⟩ := Kd.R_slice ho3
  have O3 := Aside0.mk ho3
  have B3 := Aside0.mk hb3
  clear ho3 hb3
  go_wp2_with fail
  go_at_call 14
  refine (impl_ClassOf.calls k _ _ a g1 g2 _ (Kd.R_reads' O3.out).2.2 (Kd.R_reads' O3.out).2.1 A3.out).mono ?_
  rintro e W4 ⟨v4, rfl, ho4, hb4⟩
  obtain ⟨Ag, cg, rfl⟩ := Kd.S_slice ho4
  have O4 := Aside0.mk ho4
  have B4 := Aside0.mk hb4
  clear ho4 hb4
  go_wp2_with fail
  go_at_call 15
  refine (laws_eqIntSS.calls k _ _ g1 _ _ w1 true _ (Kd.S_reads' O4.out).2.2 (Kd.S_reads' O4.out).2.1 (Kd.C_below RW.out.2.2 (below_step B3.out B4.out)) RW.out.2.1 A4.out).mono ?_
  rintro e w' ⟨rfl, ⟨n5, rfl⟩⟩
  go_wp2_with fail
  go_at_call 8
  refine (laws_toIntS.calls k A0 c0 l0 a _ (Kd.C_below HR0.out (pw_below_drewN (below_step (below_step T2.out B3.out) B4.out) n5)) HC0.out A1.out).mono ?_
  rintro e W6 ⟨v6, rfl, ho6, hb6⟩
  obtain ⟨Az, cz, rfl⟩ := Kd.R_slice ho6
  have RZ := Aside0.mk (Kd.R_reads' ho6)
  have T6 := Aside0.mk (below_step (pw_below_drewN B4.out n5) hb6)
  have O6 := Aside0.mk (Kd.S_below (Kd.S_drewN O4.out n5) hb6)
  clear ho6 hb6
  go_wp2_with fail
  go_at_call 10
  refine (laws_eqIntS.calls k _ _ a _ _ a true _ (Kd.C_below (Kd.R_reads' O3.out).2.2 T6.out) (Kd.R_reads' O3.out).2.1 RZ.out.2.2 RZ.out.2.1 A5.out).mono ?_
  rintro e w' ⟨rfl, ⟨n7, rfl⟩⟩
  go_wp2_with fail
  go_at_call 11
  refine (laws_markIntS.calls k (fun k_ => k_ < W3.heap.size) _ a 1 b1 b2 W2 _ (pw_below_drewN (below_step B3.out T6.out) n7) (Kd.R_drewN (Kd.R_below (Kd.R_mono (Kd.R_bound O3.out) (fun k_ hk => hk.2.2.1)) T6.out) n7) A6.out).mono ?_
  rintro e W8 ⟨rfl, ho8, hb8, hk8⟩
  have B8 := Aside0.mk hb8
  have O8 := Aside0.mk (Kd.S_kept (Kd.S_mono (Kd.S_bound (Kd.S_drewN O6.out n7)) (ok' := fun k_ => W3.heap.size ≤ k_) (fun k_ hk => hk.2.1)) hk8 (fun k_ h1 h2 => Nat.not_le.2 h2 h1))
  clear ho8 hb8 hk8 RZ
  go_wp2_with fail
  go_at_call 15
  refine (laws_eqIntSS.calls k _ _ g1 _ _ w1 true _ (Kd.S_reads' O8.out).2.2 (Kd.S_reads' O8.out).2.1 (Kd.C_below RW.out.2.2 B8.out) RW.out.2.1 A4.out).mono ?_
  rintro e w' ⟨rfl, ⟨n9, rfl⟩⟩
  go_wp2_with fail
  go_at_call 16
  refine (laws_markIntSS.calls k (fun k_ => W3.heap.size ≤ k_) _ g1 1 q m2 W2 _ (pw_below_drewN B8.out n9) (Kd.S_lower (Kd.S_drewN O8.out n9) B3.out.size) A7.out).mono ?_
  rintro e W10 ⟨rfl, ho10, hb10, _⟩
  have hl := (Kd.S_reads' ho10).1
  rw [hl]
  rw [hl] at ho10
  have O10 := Aside0.mk ho10
  have B10 := Aside0.mk hb10
  clear ho10 hb10 hl O3 O4 O6 O8 B8 T6 B4
  go_wp2_with fail
  go_at_call 17
  refine (laws_heldIntSS.calls k _ _ m2 1 q _ (Kd.S_reads' O10.out).2.2 (Kd.S_reads' O10.out).2.1 A8.out).mono ?_
  rintro e w' ⟨rfl, ⟨n11, rfl⟩⟩
  go_wp2_with fail
  go_at_call 8
  refine (laws_toIntS.calls k A0 c0 l0 a _ (Kd.C_below HR0.out (pw_below_drewN (below_step T2.out B10.out) n11)) HC0.out A1.out).mono ?_
  rintro e W12 ⟨v12, rfl, ho12, hb12⟩
  obtain ⟨Ay, cy, rfl⟩ := Kd.R_slice ho12
  have O12 := Aside0.mk ho12
  have T12 := Aside0.mk (below_step (pw_below_drewN B10.out n11) hb12)
  have O13 := Aside0.mk (Kd.S_below (Kd.S_drewN O10.out n11) hb12)
  clear ho12 hb12
  go_wp2_with fail
  go_at_call 14
  refine (impl_ClassOf.calls k _ _ a g1 g2 _ (Kd.R_reads' O12.out).2.2 (Kd.R_reads' O12.out).2.1 A3.out).mono ?_
  rintro e W13 ⟨v13, rfl, ho13, hb13⟩
  obtain ⟨Ah, ch, rfl⟩ := Kd.S_slice ho13
  have RH := Aside0.mk (Kd.S_reads' ho13)
  have T13 := Aside0.mk (below_step T12.out hb13)
  have O14 := Aside0.mk (Kd.S_below O13.out hb13)
  clear ho13 hb13
  go_wp2_with fail
  go_at_call 15
  refine (laws_eqIntSS.calls k _ _ g1 _ _ w1 true _ RH.out.2.2 RH.out.2.1 (Kd.C_below RW.out.2.2 T13.out) RW.out.2.1 A4.out).mono ?_
  rintro e w' ⟨rfl, ⟨n14, rfl⟩⟩
  go_wp2_with fail
  go_at_call 17
  refine (laws_heldIntSS.calls k _ _ m2 1 q _ (Kd.S_reads' (Kd.S_drewN O14.out n14)).2.2 (Kd.S_reads' O14.out).2.1 A8.out).mono ?_
  rintro e w' ⟨rfl, ⟨n15, rfl⟩⟩
  go_wp2_with fail
  go_ret
  exact ⟨rfl, pw_below_drewN (below_step T2.out T13.out) _⟩


/-- The pure statement of laws_FnExactClassOf. -/
def laws_FnExactClassOf.Pure : Prop := ∀ (l0 : List Int), l0.length ≤ maxLen → (∀ x ∈ l0, (Lit.int .i64 x).wf = true) → ∃ k, laws_FnExactClassOf.f k l0 = some true

end Go.Proofs.Ytbjijnehgjfhlaa.PFnExactClassOf
