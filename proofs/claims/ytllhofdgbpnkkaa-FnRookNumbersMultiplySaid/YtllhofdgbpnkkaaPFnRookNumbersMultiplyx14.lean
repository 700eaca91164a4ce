-- Printed for this claim by wip/pp.py over the kit's printer; Lean checks it.
import Derived.Test.YtllhofdgbpnkkaaPFnRookNumbersMultiplyx0
import Derived.Test.YtllhofdgbpnkkaaPFnRookNumbersMultiplyx1
import Derived.Test.YtllhofdgbpnkkaaPFnRookNumbersMultiplyx10
import Derived.Test.YtllhofdgbpnkkaaPFnRookNumbersMultiplyx12
import Derived.Test.YtllhofdgbpnkkaaPFnRookNumbersMultiplyx13
namespace Go.Proofs.Ytllhofdgbpnkkaa.PFnRookNumbersMultiply
open Go.RowKit Go.Proofs.YtllhofdgbpnkkaaW.PrintWords Go.Proofs.YtllhofdgbpnkkaaW.PrintLast Go.Proofs.YtllhofdgbpnkkaaW.PrintMore
attribute [local go_sem] max2_int min2_int max_two min_two max_three min_three max_four min_four   -- for this text's walks alone
set_option linter.unusedVariables false
set_option linter.unusedSimpArgs false

/-! ### spec_DrawAreAlike: function 33 -/
def spec_DrawAreAlike.f (k : Nat) (l0 : List Int) : Option (Int × Int × List Int × Int × Int × List Int) := (spec_l1Cur_fittingBoards.f k l0 0 0).bind fun bt501 => ((spec_boGood.f k bt501.1 bt501.2.1 bt501.2.2.1).bind fun t515 => (if t515 = true then ((spec_l1Cur_one.f l0 bt501.2.2.2.2.2.2.1 bt501.2.2.2.2.2.2.2 2).bind fun bt516 => (if bt516.1 = true then ((spec_boTurn.f k bt501.1 bt501.2.1 bt501.2.2.1).bind fun bt519 => (some (bt501.1, bt501.2.1, bt501.2.2.1, bt519.1, bt519.2.1, bt519.2.2))) else (some (bt501.1, bt501.2.1, bt501.2.2.1, bt501.2.2.2.1, bt501.2.2.2.2.1, bt501.2.2.2.2.2.1)))) else (some (bt501.1, bt501.2.1, bt501.2.2.1, bt501.2.2.2.1, bt501.2.2.2.2.1, bt501.2.2.2.2.2.1))))
set_option maxHeartbeats 8000000 in
set_option maxRecDepth 100000 in
theorem spec_DrawAreAlike.calls (k : Nat) (A0 : Option Addr) (c0 : Nat) (l0 : List Int) (r1 : Int) (r2 : Int) (r3 : List Int) (r4 : Int) (r5 : Int) (r6 : List Int) (w : World) (hr0 : Kd.C (Kd.int .u8) w A0 l0.length l0) (hc0 : l0.length ≤ c0) (h : spec_DrawAreAlike.f k l0 = some (r1, r2, r3, r4, r5, r6)) :
  Calls Try.prog 33 #[.slice A0 l0.length c0] w fun e w' => ∃ v2_ v5_ : Value, e = .returned (.tuple #[.agg #[.int .i64 r1, .int .i64 r2, v2_], .agg #[.int .i64 r4, .int .i64 r5, v5_]]) ∧ Kd.R (Kd.int .i64) 3 w' w.heap.size (fun k_ => some k_ ≠ (v5_ : Value).ownBlock) v2_ r3 ∧ Kd.R (Kd.int .i64) 3 w' w.heap.size (fun k_ => some k_ ≠ (v2_ : Value).ownBlock) v5_ r6 ∧ Below w.heap.size w w' := by
 have hu26 := Try.underlying26
 have hu66 := Try.underlying66
 have HR0 := Aside0.mk hr0
 have HC0 := Aside0.mk hc0
 clear hr0 hc0
 have HB := am (Below.refl w.heap.size w)
 have H : ((spec_l1Cur_fittingBoards.f k l0 0 0).bind fun bt501 => ((spec_boGood.f k bt501.1 bt501.2.1 bt501.2.2.1).bind fun t515 => (if t515 = true then ((spec_l1Cur_one.f l0 bt501.2.2.2.2.2.2.1 bt501.2.2.2.2.2.2.2 2).bind fun bt516 => (if bt516.1 = true then ((spec_boTurn.f k bt501.1 bt501.2.1 bt501.2.2.1).bind fun bt519 => (some (bt501.1, bt501.2.1, bt501.2.2.1, bt519.1, bt519.2.1, bt519.2.2))) else (some (bt501.1, bt501.2.1, bt501.2.2.1, bt501.2.2.2.1, bt501.2.2.2.2.1, bt501.2.2.2.2.2.1)))) else (some (bt501.1, bt501.2.1, bt501.2.2.1, bt501.2.2.2.1, bt501.2.2.2.2.1, bt501.2.2.2.2.2.1))))) = some (r1, r2, r3, r4, r5, r6) := h
 clear h
 replace H := qE H
 obtain ⟨⟨t501, t502, t503, t506, t507, t508, t511, t512⟩, A2, H⟩ := H
 replace H : ((spec_boGood.f k t501 t502 t503).bind fun t515 => (if t515 = true then ((spec_l1Cur_one.f l0 t511 t512 2).bind fun bt516 => (if bt516.1 = true then ((spec_boTurn.f k t501 t502 t503).bind fun bt519 => (some (t501, t502, t503, bt519.1, bt519.2.1, bt519.2.2))) else (some (t501, t502, t503, t506, t507, t508)))) else (some (t501, t502, t503, t506, t507, t508)))) = some (r1, r2, r3, r4, r5, r6) := H
 replace H := qE H
 obtain ⟨t515, A3, H⟩ := H
 replace H : (if t515 = true then ((spec_l1Cur_one.f l0 t511 t512 2).bind fun bt516 => (if bt516.1 = true then ((spec_boTurn.f k t501 t502 t503).bind fun bt519 => (some (t501, t502, t503, bt519.1, bt519.2.1, bt519.2.2))) else (some (t501, t502, t503, t506, t507, t508)))) else (some (t501, t502, t503, t506, t507, t508))) = some (r1, r2, r3, r4, r5, r6) := H
 by_cases c4 : t515 = true
 ·
  subst c4
  have H1 : ((spec_l1Cur_one.f l0 t511 t512 2).bind fun bt516 => (if bt516.1 = true then ((spec_boTurn.f k t501 t502 t503).bind fun bt519 => (some (t501, t502, t503, bt519.1, bt519.2.1, bt519.2.2))) else (some (t501, t502, t503, t506, t507, t508)))) = some (r1, r2, r3, r4, r5, r6) := by first | (rw [if_pos rfl] at H; exact H) | rfl
  clear H
  have H := H1
  clear H1
  replace H := qE H
  obtain ⟨⟨t516, t517, t518⟩, A5, H⟩ := H
  replace H : (if t516 = true then ((spec_boTurn.f k t501 t502 t503).bind fun bt519 => (some (t501, t502, t503, bt519.1, bt519.2.1, bt519.2.2))) else (some (t501, t502, t503, t506, t507, t508))) = some (r1, r2, r3, r4, r5, r6) := H
  by_cases c6 : t516 = true
  ·
   subst c6
   have H1 : ((spec_boTurn.f k t501 t502 t503).bind fun bt519 => (some (t501, t502, t503, bt519.1, bt519.2.1, bt519.2.2))) = some (r1, r2, r3, r4, r5, r6) := by first | (rw [if_pos rfl] at H; exact H) | rfl
   clear H
   have H := H1
   clear H1
   replace H := qE H
   obtain ⟨⟨t519, t520, t521⟩, A7, H⟩ := H
   replace H : (some (t501, t502, t503, t519, t520, t521)) = some (r1, r2, r3, r4, r5, r6) := H
   simp only [Option.some.injEq, Prod.mk.injEq] at H
   obtain ⟨rfl, rfl, rfl, rfl, rfl, rfl⟩ := H
   go_enter Try.func33, Try.ntmps33
   try go_wp2_with (first | ((with_reducible refine gate_dst (N := 2) rfl ?_); refine qv 2 #[.int .i64 0, .int .i64 0, .slice none 0 0] 26 ?_; intro gb498 hg w8 hbox hb; have BK498 := am hbox; have GW498 := qw hg; have GE498 := qw hg; replace HB := qs hb; clear hb hbox hg) | ((with_reducible refine gate_dst (N := 3) rfl ?_); refine qv 3 #[.int .i64 0, .int .i64 0, .slice none 0 0] 26 ?_; intro gb499 hg w9 hbox hb; have BK499 := am hbox; have GW499 := qw hg; have GE499 := qw hg; have Nq0 := qn hg BK498; have Nq4 := qN hg BK498; replace BK498 := sqB BK498 hb; replace HB := qs hb; clear hb hbox hg) | ((with_reducible refine gate_dst (N := 9) rfl ?_); refine qv 9 #[.slice A0 l0.length c0, .int .i64 0, .int .u64 0] 66 ?_; intro gb500 hg w10 hbox hb; have HI500 := am ((show IsS66 w w10 gb500 l0 0 0 from ⟨_, _, hbox, (by rw [hg]; exact (below_size qb) : w.heap.size ≤ gb500), HR0.out⟩)); have GW500 := qw hg; have GE500 := qw hg; have Nq1 := qn hg BK498; have Nq8 := qN hg BK498; have Nq5 := qn hg BK499; have Nq9 := qN hg BK499; replace BK498 := sqB BK498 hb; replace BK499 := sqB BK499 hb; replace HB := qs hb; clear hb hbox hg) | ((with_reducible refine gate_callee (f := 53) rfl ?_); refine qg (some 12) Try.func53 #[.pointer (some ⟨gb500, 0, none⟩)] ?_; (with_reducible refine (spec_l1Cur_fittingBoards.calls k gb500 l0 0 0 t501 t502 t503 t506 t507 t508 t511 t512 w _ ?side1 ?side2 A2.out).mono ?_); (case side1 => exact qi); (case side2 => exact qc); rintro e w11 ⟨v504, v509, rfl, ho0, ho1, hi, hb, hk⟩; refine ⟨_, rfl, ?_⟩; have Oq1 := qL ho0; have Oq2 := qL ho1; replace BK498 := qK BK498 hk Nq1; replace BK499 := qK BK499 hk Nq5; replace HB := am hb; replace HI500 := am hi; (try clear hb hk hi ho0 ho1)) | ((with_reducible refine gate_dst (N := 5) rfl ?_); refine qv 5 #[.int .i64 0, .int .i64 0, .slice none 0 0] 26 ?_; intro gb513 hg w12 hbox hb; have BK513 := am hbox; have GW513 := qW hg; have GE513 := qW hg; have Nq2 := qn hg BK498; have Nq12 := qN hg BK498; have Nq6 := qn hg BK499; have Nq13 := qN hg BK499; have Nq10 := qo hg gb500; have Nq14 := qO hg gb500; replace Oq1 := sqR Oq1 hb; replace Oq2 := sqR Oq2 hb; replace BK498 := sqB BK498 hb; replace BK499 := sqB BK499 hb; replace HB := qt hb; replace HI500 := qj hb; clear hb hbox hg) | ((with_reducible refine gate_dst (N := 6) rfl ?_); refine qv 6 #[.int .i64 0, .int .i64 0, .slice none 0 0] 26 ?_; intro gb514 hg w13 hbox hb; have BK514 := am hbox; have GW514 := qW hg; have GE514 := qW hg; have Nq3 := qn hg BK498; have Nq16 := qN hg BK498; have Nq7 := qn hg BK499; have Nq17 := qN hg BK499; have Nq15 := qn hg BK513; have Nq19 := qN hg BK513; have Nq11 := qo hg gb500; have Nq18 := qO hg gb500; replace Oq1 := sqR Oq1 hb; replace Oq2 := sqR Oq2 hb; replace BK498 := sqB BK498 hb; replace BK499 := sqB BK499 hb; replace BK513 := sqB BK513 hb; replace HB := qt hb; replace HI500 := qj hb; clear hb hbox hg; have bq0 := Nq12.out; have cq0 := Nq2.out; have bq1 := Nq13.out; have cq1 := Nq6.out; have bq2 := Nq15.out; have cq2 := Nq19.out; have bq3 := Nq14.out; have cq3 := Nq10.out; obtain ⟨zq0, zq1, zq2, fq0, fq1, fq2⟩ := qd BK513; obtain ⟨Ao19, co19, eo19⟩ := Kd.R_slice Oq1.out; subst eo19; have bq4 := Nq16.out; have cq4 := Nq3.out; have bq5 := Nq17.out; have cq5 := Nq7.out; have bq6 := Nq18.out; have cq6 := Nq11.out; obtain ⟨zq3, zq4, zq5, fq3, fq4, fq5⟩ := qd BK514; obtain ⟨Ao24, co24, eo24⟩ := Kd.R_slice Oq2.out; subst eo24) | ((with_reducible refine gate_callee (f := 60) rfl ?_); refine qg (some 16) Try.func60 #[.agg #[.int .i64 t501, .int .i64 t502, .slice Ao19 t503.length co19]] ?_; (with_reducible refine (spec_boGood.calls k t501 t502 _ _ t503 true _ ?side1 ?side2 A3.out).mono ?_); (case side1 => refine (Kd.R_reads' (e := 3) (base := w.heap.size) (ok := fun k_ => some k_ ≠ (.slice Ao24 t508.length co24 : Value).ownBlock) (n := t503.length) (c := co19) ?_).2.2; exact (sqw (sqo2 Oq1 BK513 BK514))); (case side2 => exact Q44); rintro e w25 ⟨rfl, hb⟩; refine ⟨_, rfl, ?_⟩; replace Oq1 := am (Kd.R_below (sqw (sqo2 Oq1 BK513 BK514)) hb); replace Oq2 := am (Kd.R_below (sqw (sqo2 Oq2 BK513 BK514)) hb); replace BK498 := am (blk_below (g := gb498) (o := .cells #[.int .i64 0, .int .i64 0, .slice none 0 0] 26 (0, 0)) Q8 hb); replace BK499 := am (blk_below (g := gb499) (o := .cells #[.int .i64 0, .int .i64 0, .slice none 0 0] 26 (0, 0)) Q9 hb); replace BK513 := qPF (.int .i64 t501) (.int .i64 t502) (.slice Ao19 t503.length co19) BK513 Nq15 hb; replace BK514 := qFP (.int .i64 t506) (.int .i64 t507) (.slice Ao24 t508.length co24) BK514 Nq19 hb; replace HB := qt hb; replace HI500 := am (IsS66.below (show IsS66 w ((((((w13.setCell ⟨gb513, 0, none⟩ (.int .i64 t501)).setCell ⟨gb513, 1, none⟩ (.int .i64 t502)).setCell ⟨gb513, 2, none⟩ (.slice Ao19 t503.length co19)).setCell ⟨gb514, 0, none⟩ (.int .i64 t506)).setCell ⟨gb514, 1, none⟩ (.int .i64 t507)).setCell ⟨gb514, 2, none⟩ (.slice Ao24 t508.length co24)) gb500 l0 t511 t512 from by repeat (first | (with_reducible first | exact HI500.out | apply IsS66.alloc | apply IsS66.drewN | apply IsS66.drew | apply IsS66.set_1 | apply IsS66.set_2 | refine IsS66.far ?_ Nq8.out _ | refine IsS66.far ?_ Nq9.out _ | refine IsS66.far ?_ Nq10.out _ | refine IsS66.far ?_ Nq11.out _) | exact HI500.out)) hb); (try clear hb)) | (go_at_call 72; (with_reducible refine (spec_l1Cur_one.calls gb500 l0 t511 t512 2 true t517 t518 w _ ?side1 ?side2 A5.out).mono ?_); (case side1 => exact qi); (case side2 => exact qc); rintro e w26 ⟨rfl, hi, hb, hk⟩; replace BK498 := qK BK498 hk Nq1; replace BK499 := qK BK499 hk Nq5; replace Oq1 := qR Oq1 hk; replace Oq2 := qR Oq2 hk; replace BK513 := qK BK513 hk Nq14; replace BK514 := qK BK514 hk Nq18; replace HB := am hb; replace HI500 := am hi; (try clear hb hk hi)))
   replace Oq1 := am (Kd.R_drew Oq1.out)
   replace Oq2 := am (Kd.R_drew Oq2.out)
   replace BK498 := am (blk_drew BK498.out)
   replace BK499 := am (blk_drew BK499.out)
   replace BK513 := am (blk_drew BK513.out)
   replace BK514 := am (blk_drew BK514.out)
   replace HI500 := am (IsS66.drew HI500.out)
   replace HB := am (below_drew1 HB.out)
   refine start_ (n := 5) (S := fun w' => w'.cell? ⟨gb513, 0, none⟩ = some (.int .i64 t501) ∧ w'.cell? ⟨gb513, 1, none⟩ = some (.int .i64 t502) ∧ w'.cell? ⟨gb513, 2, none⟩ = some (.slice Ao19 t503.length co19)) (ds := []) #[false, false, false, false, false] (by kernel_rfl) rfl rfl ⟨sqc BK513 0, sqc BK513 1, sqc BK513 2⟩ (fun hHeld => ?_)
   generalize w26.drew = w27 at Oq1 Oq2 BK498 BK499 BK513 BK514 HI500 HB hHeld ⊢
   refine take_ (i := 0) (N := some 21) (v := ?_) (a' := ?_) #[true, false, false, false, false] rfl rfl (by kernel_rfl) (fun _ _ _ h => h) (Or.inl ⟨by rfl, ?_⟩) hHeld ?_ ?_
   rotate_left
   ·
    rintro w' ⟨s0, s1, s2⟩
    go_simp
    with_reducible rfl
   rotate_left
   ·
    simp only [Act.put, List.setIfInBounds_toArray, List.set_cons_zero, List.set_cons_succ, i64_w, i32_w]
    rfl
   refine take_ (i := 1) (N := some 22) (v := ?_) (a' := ?_) #[true, true, false, false, false] rfl rfl (by kernel_rfl) (fun _ _ _ h => h) (Or.inl ⟨by rfl, ?_⟩) hHeld ?_ ?_
   rotate_left
   ·
    rintro w' ⟨s0, s1, s2⟩
    go_simp
    with_reducible rfl
   rotate_left
   ·
    simp only [Act.put, List.setIfInBounds_toArray, List.set_cons_zero, List.set_cons_succ, i64_w, i32_w]
    rfl
   refine one_ (i := 2) (N := some 23) #[true, true, true, false, false] rfl rfl (by kernel_rfl) (by decide) (fun K hK => ?_)
   refine qG Try.func95 #[.agg #[.int .i64 t501, .int .i64 t502, .slice Ao19 t503.length co19]] ?_
   with_reducible refine (spec_boTurn.calls k t501 t502 _ _ t503 t519 t520 t521 _ ?side1 ?side2 A7.out).mono ?_
   (case side1 => exact Q16)
   (case side2 => exact Q44)
   rintro e w28 ⟨v522, rfl, ho0, hb⟩
   refine ⟨_, rfl, ?_⟩
   have Oq3 := am (Kd.R_lower (Kd.R_new' (Kd.R_new' ho0 (sqL Oq1)) (sqL Oq2)) (below_size qc))
   replace Oq1 := sqE Oq1 ho0 hb
   replace Oq2 := sqE Oq2 ho0 hb
   replace BK498 := sqB BK498 hb
   replace BK499 := sqB BK499 hb
   replace BK513 := sqB BK513 hb
   replace BK514 := sqB BK514 hb
   replace HB := qt hb
   replace HI500 := qj hb
   (try clear hb ho0)
   obtain ⟨Ao34, co34, eo34⟩ := Kd.R_slice Oq3.out
   (first | subst eo34 | (injection eo34 with f1_ f2_ f3_; have f4_ := f1_.symm; have f5_ := f3_.symm; clear f1_ f2_ f3_; subst f4_; subst f5_))
   refine hK.out _ _ ⟨sqc BK513 0, sqc BK513 1, sqc BK513 2⟩ (fun hHeld => ?_)
   clear hK K
   refine qq (some 23) ?_
   refine one_ (i := 3) (N := none) #[true, true, true, true, false] rfl rfl (by kernel_rfl) (by decide) (fun K hK => ?_)
   have hs29 : w28.cell? ⟨gb498, 0, none⟩ = some (.int .i64 0) := sqc BK498 0
   have hfs29 := blk_frozen BK498.out 0
   have hq0 := Nq4.out
   have hq1 := Nq12.out
   have hq2 := Nq16.out
   have hms29_1 := Nq0.out
   have hms29_2 := Nq2.out
   have hms29_3 := Nq3.out
   have hs30 : w28.cell? ⟨gb498, 1, none⟩ = some (.int .i64 0) := sqc BK498 1
   have hfs30 := blk_frozen BK498.out 1
   have hq3 := Nq4.out
   have hq4 := Nq12.out
   have hq5 := Nq16.out
   have hms30_1 := Nq0.out
   have hms30_2 := Nq2.out
   have hms30_3 := Nq3.out
   have hs31 : w28.cell? ⟨gb498, 2, none⟩ = some (.slice none 0 0) := sqc BK498 2
   have hfs31 := blk_frozen BK498.out 2
   have hq6 := Nq4.out
   have hq7 := Nq12.out
   have hq8 := Nq16.out
   have hms31_1 := Nq0.out
   have hms31_2 := Nq2.out
   have hms31_3 := Nq3.out
   refine skip_ (w1 := ?_) (by rfl) rfl ?_ ?_
   rotate_left
   ·
    go_simp
    rfl
   refine hK.out _ _ ⟨((cell_far (p := ⟨gb498, _, none⟩) Nq12.out _).trans (((cell_far (p := ⟨gb498, _, none⟩) Nq12.out _).trans (((cell_far (p := ⟨gb498, _, none⟩) Nq12.out _).trans (hHeld.1)))))), ((cell_far (p := ⟨gb498, _, none⟩) Nq12.out _).trans (((cell_far (p := ⟨gb498, _, none⟩) Nq12.out _).trans (((cell_far (p := ⟨gb498, _, none⟩) Nq12.out _).trans (hHeld.2.1)))))), ((cell_far (p := ⟨gb498, _, none⟩) Nq12.out _).trans (((cell_far (p := ⟨gb498, _, none⟩) Nq12.out _).trans (((cell_far (p := ⟨gb498, _, none⟩) Nq12.out _).trans (hHeld.2.2))))))⟩ (fun hHeld => ?_)
   clear hK K
   refine one_ (i := 4) (N := none) #[true, true, true, true, true] rfl rfl (by kernel_rfl) (by decide) (fun K hK => ?_)
   have hs32 : w28.cell? ⟨gb499, 0, none⟩ = some (.int .i64 0) := sqc BK499 0
   have hfs32 := blk_frozen BK499.out 0
   have hq9 := Nq0.out
   have hq10 := Nq13.out
   have hq11 := Nq17.out
   have hms32_0 := Nq4.out
   have hms32_2 := Nq6.out
   have hms32_3 := Nq7.out
   have hs33 : w28.cell? ⟨gb499, 1, none⟩ = some (.int .i64 0) := sqc BK499 1
   have hfs33 := blk_frozen BK499.out 1
   have hq12 := Nq0.out
   have hq13 := Nq13.out
   have hq14 := Nq17.out
   have hms33_0 := Nq4.out
   have hms33_2 := Nq6.out
   have hms33_3 := Nq7.out
   have hs35 : w28.cell? ⟨gb499, 2, none⟩ = some (.slice none 0 0) := sqc BK499 2
   have hfs35 := blk_frozen BK499.out 2
   have hq15 := Nq0.out
   have hq16 := Nq13.out
   have hq17 := Nq17.out
   have hms35_0 := Nq4.out
   have hms35_2 := Nq6.out
   have hms35_3 := Nq7.out
   refine skip_ (w1 := ?_) (by rfl) rfl ?_ ?_
   rotate_left
   ·
    go_simp
    rfl
   refine hK.out _ _ ⟨((cell_far (p := ⟨gb499, _, none⟩) Nq13.out _).trans (((cell_far (p := ⟨gb499, _, none⟩) Nq13.out _).trans (((cell_far (p := ⟨gb499, _, none⟩) Nq13.out _).trans (hHeld.1)))))), ((cell_far (p := ⟨gb499, _, none⟩) Nq13.out _).trans (((cell_far (p := ⟨gb499, _, none⟩) Nq13.out _).trans (((cell_far (p := ⟨gb499, _, none⟩) Nq13.out _).trans (hHeld.2.1)))))), ((cell_far (p := ⟨gb499, _, none⟩) Nq13.out _).trans (((cell_far (p := ⟨gb499, _, none⟩) Nq13.out _).trans (((cell_far (p := ⟨gb499, _, none⟩) Nq13.out _).trans (hHeld.2.2))))))⟩ (fun hHeld => ?_)
   clear hK K
   refine done_ (by kernel_rfl) ?_
   try go_wp2
   refine bodyPost_ret (results_cc rfl _ _ gb498 gb499 26 26 #[.int .i64 t501, .int .i64 t502, .slice Ao19 t503.length co19] #[.int .i64 t519, .int .i64 t520, .slice Ao34 t521.length co34] (0, 0) (0, 0) _ _ rfl Q5 Try.underlying26 rfl (by kernel_rfl) rfl (by (with_reducible repeat (first | refine blk_drewN ?_ _ | refine blk_drew ?_ | refine blk_alloc ?_ _)); refine blk_put (cs := #[.int .i64 t519, .int .i64 t520, .slice none 0 0]) ?_ 2 _ rfl; (with_reducible repeat (first | refine blk_drewN ?_ _ | refine blk_drew ?_ | refine blk_alloc ?_ _)); refine blk_put (cs := #[.int .i64 t519, .int .i64 0, .slice none 0 0]) ?_ 1 _ rfl; (with_reducible repeat (first | refine blk_drewN ?_ _ | refine blk_drew ?_ | refine blk_alloc ?_ _)); refine blk_put (cs := #[.int .i64 0, .int .i64 0, .slice none 0 0]) ?_ 0 _ rfl; (with_reducible repeat (first | refine blk_drewN ?_ _ | refine blk_drew ?_ | refine blk_alloc ?_ _)); refine blk_far ?_ Nq4.out _; (with_reducible repeat (first | refine blk_drewN ?_ _ | refine blk_drew ?_ | refine blk_alloc ?_ _)); refine blk_far ?_ Nq4.out _; (with_reducible repeat (first | refine blk_drewN ?_ _ | refine blk_drew ?_ | refine blk_alloc ?_ _)); refine blk_far ?_ Nq4.out _; (with_reducible repeat (first | refine blk_drewN ?_ _ | refine blk_drew ?_ | refine blk_alloc ?_ _)); exact BK499.out) Try.underlying26 rfl (by kernel_rfl)) rfl ?_
   exact ⟨_, _, Q2, by (with_reducible repeat (first | apply Kd.R_alloc | apply Kd.R_drewN | apply Kd.R_drew)); exact Kd.R_mono (Kd.R_far (p := ⟨gb499, 2, none⟩) (Kd.R_far (p := ⟨gb499, 1, none⟩) (Kd.R_far (p := ⟨gb499, 0, none⟩) (Kd.R_far (p := ⟨gb498, 2, none⟩) (Kd.R_far (p := ⟨gb498, 1, none⟩) (Kd.R_far (p := ⟨gb498, 0, none⟩) (Kd.R_types (Kd.R_types Oq1.out BK498.out (by decide)) BK499.out (by decide)) (fun _ hk => hk.1.2) (.int .i64 t501)) (fun _ hk => hk.1.2) (.int .i64 t502)) (fun _ hk => hk.1.2) (.slice Ao19 t503.length co19)) (fun _ hk => hk.2) (.int .i64 t519)) (fun _ hk => hk.2) (.int .i64 t520)) (fun _ hk => hk.2) (.slice Ao34 t521.length co34)) (fun _ hk => hk.1.1.2), by (with_reducible repeat (first | apply Kd.R_alloc | apply Kd.R_drewN | apply Kd.R_drew)); exact Kd.R_mono (Kd.R_far (p := ⟨gb499, 2, none⟩) (Kd.R_far (p := ⟨gb499, 1, none⟩) (Kd.R_far (p := ⟨gb499, 0, none⟩) (Kd.R_far (p := ⟨gb498, 2, none⟩) (Kd.R_far (p := ⟨gb498, 1, none⟩) (Kd.R_far (p := ⟨gb498, 0, none⟩) (Kd.R_types (Kd.R_types Oq3.out BK498.out (by decide)) BK499.out (by decide)) (fun _ hk => hk.1.2) (.int .i64 t501)) (fun _ hk => hk.1.2) (.int .i64 t502)) (fun _ hk => hk.1.2) (.slice Ao19 t503.length co19)) (fun _ hk => hk.2) (.int .i64 t519)) (fun _ hk => hk.2) (.int .i64 t520)) (fun _ hk => hk.2) (.slice Ao34 t521.length co34)) (fun _ hk => hk.1.1.1.2), qc⟩
  ·
   replace c6 := Bool.eq_false_iff.mpr c6
   subst c6
   have H1 : (some (t501, t502, t503, t506, t507, t508)) = some (r1, r2, r3, r4, r5, r6) := by first | (rw [if_neg (show ¬ (false = true) by decide)] at H; exact H) | rfl
   clear H
   have H := H1
   clear H1
   simp only [Option.some.injEq, Prod.mk.injEq] at H
   obtain ⟨rfl, rfl, rfl, rfl, rfl, rfl⟩ := H
   go_enter Try.func33, Try.ntmps33
   try go_wp2_with (first | ((with_reducible refine gate_dst (N := 2) rfl ?_); refine qv 2 #[.int .i64 0, .int .i64 0, .slice none 0 0] 26 ?_; intro gb498 hg w36 hbox hb; have BK498 := am hbox; have GW498 := qw hg; have GE498 := qw hg; replace HB := qs hb; clear hb hbox hg) | ((with_reducible refine gate_dst (N := 3) rfl ?_); refine qv 3 #[.int .i64 0, .int .i64 0, .slice none 0 0] 26 ?_; intro gb499 hg w37 hbox hb; have BK499 := am hbox; have GW499 := qw hg; have GE499 := qw hg; have Nq0 := qn hg BK498; have Nq4 := qN hg BK498; replace BK498 := sqB BK498 hb; replace HB := qs hb; clear hb hbox hg) | ((with_reducible refine gate_dst (N := 9) rfl ?_); refine qv 9 #[.slice A0 l0.length c0, .int .i64 0, .int .u64 0] 66 ?_; intro gb500 hg w38 hbox hb; have HI500 := am ((show IsS66 w w38 gb500 l0 0 0 from ⟨_, _, hbox, (by rw [hg]; exact (below_size qb) : w.heap.size ≤ gb500), HR0.out⟩)); have GW500 := qw hg; have GE500 := qw hg; have Nq1 := qn hg BK498; have Nq8 := qN hg BK498; have Nq5 := qn hg BK499; have Nq9 := qN hg BK499; replace BK498 := sqB BK498 hb; replace BK499 := sqB BK499 hb; replace HB := qs hb; clear hb hbox hg) | ((with_reducible refine gate_callee (f := 53) rfl ?_); refine qg (some 12) Try.func53 #[.pointer (some ⟨gb500, 0, none⟩)] ?_; (with_reducible refine (spec_l1Cur_fittingBoards.calls k gb500 l0 0 0 t501 t502 t503 t506 t507 t508 t511 t512 w _ ?side1 ?side2 A2.out).mono ?_); (case side1 => exact qi); (case side2 => exact qc); rintro e w39 ⟨v504, v509, rfl, ho0, ho1, hi, hb, hk⟩; refine ⟨_, rfl, ?_⟩; have Oq1 := qL ho0; have Oq2 := qL ho1; replace BK498 := qK BK498 hk Nq1; replace BK499 := qK BK499 hk Nq5; replace HB := am hb; replace HI500 := am hi; (try clear hb hk hi ho0 ho1)) | ((with_reducible refine gate_dst (N := 5) rfl ?_); refine qv 5 #[.int .i64 0, .int .i64 0, .slice none 0 0] 26 ?_; intro gb513 hg w40 hbox hb; have BK513 := am hbox; have GW513 := qW hg; have GE513 := qW hg; have Nq2 := qn hg BK498; have Nq12 := qN hg BK498; have Nq6 := qn hg BK499; have Nq13 := qN hg BK499; have Nq10 := qo hg gb500; have Nq14 := qO hg gb500; replace Oq1 := sqR Oq1 hb; replace Oq2 := sqR Oq2 hb; replace BK498 := sqB BK498 hb; replace BK499 := sqB BK499 hb; replace HB := qt hb; replace HI500 := qj hb; clear hb hbox hg) | ((with_reducible refine gate_dst (N := 6) rfl ?_); refine qv 6 #[.int .i64 0, .int .i64 0, .slice none 0 0] 26 ?_; intro gb514 hg w41 hbox hb; have BK514 := am hbox; have GW514 := qW hg; have GE514 := qW hg; have Nq3 := qn hg BK498; have Nq16 := qN hg BK498; have Nq7 := qn hg BK499; have Nq17 := qN hg BK499; have Nq15 := qn hg BK513; have Nq19 := qN hg BK513; have Nq11 := qo hg gb500; have Nq18 := qO hg gb500; replace Oq1 := sqR Oq1 hb; replace Oq2 := sqR Oq2 hb; replace BK498 := sqB BK498 hb; replace BK499 := sqB BK499 hb; replace BK513 := sqB BK513 hb; replace HB := qt hb; replace HI500 := qj hb; clear hb hbox hg; have bq7 := Nq12.out; have cq7 := Nq2.out; have bq8 := Nq13.out; have cq8 := Nq6.out; have bq9 := Nq15.out; have cq9 := Nq19.out; have bq10 := Nq14.out; have cq10 := Nq10.out; obtain ⟨zq6, zq7, zq8, fq6, fq7, fq8⟩ := qd BK513; obtain ⟨Ao47, co47, eo47⟩ := Kd.R_slice Oq1.out; subst eo47; have bq11 := Nq16.out; have cq11 := Nq3.out; have bq12 := Nq17.out; have cq12 := Nq7.out; have bq13 := Nq18.out; have cq13 := Nq11.out; obtain ⟨zq9, zq10, zq11, fq9, fq10, fq11⟩ := qd BK514; obtain ⟨Ao52, co52, eo52⟩ := Kd.R_slice Oq2.out; subst eo52) | ((with_reducible refine gate_callee (f := 60) rfl ?_); refine qg (some 16) Try.func60 #[.agg #[.int .i64 t501, .int .i64 t502, .slice Ao47 t503.length co47]] ?_; (with_reducible refine (spec_boGood.calls k t501 t502 _ _ t503 true _ ?side1 ?side2 A3.out).mono ?_); (case side1 => refine (Kd.R_reads' (e := 3) (base := w.heap.size) (ok := fun k_ => some k_ ≠ (.slice Ao52 t508.length co52 : Value).ownBlock) (n := t503.length) (c := co47) ?_).2.2; exact (sqw (sqo2 Oq1 BK513 BK514))); (case side2 => exact Q44); rintro e w53 ⟨rfl, hb⟩; refine ⟨_, rfl, ?_⟩; replace Oq1 := am (Kd.R_below (sqw (sqo2 Oq1 BK513 BK514)) hb); replace Oq2 := am (Kd.R_below (sqw (sqo2 Oq2 BK513 BK514)) hb); replace BK498 := am (blk_below (g := gb498) (o := .cells #[.int .i64 0, .int .i64 0, .slice none 0 0] 26 (0, 0)) Q8 hb); replace BK499 := am (blk_below (g := gb499) (o := .cells #[.int .i64 0, .int .i64 0, .slice none 0 0] 26 (0, 0)) Q9 hb); replace BK513 := qPF (.int .i64 t501) (.int .i64 t502) (.slice Ao47 t503.length co47) BK513 Nq15 hb; replace BK514 := qFP (.int .i64 t506) (.int .i64 t507) (.slice Ao52 t508.length co52) BK514 Nq19 hb; replace HB := qt hb; replace HI500 := am (IsS66.below (show IsS66 w ((((((w41.setCell ⟨gb513, 0, none⟩ (.int .i64 t501)).setCell ⟨gb513, 1, none⟩ (.int .i64 t502)).setCell ⟨gb513, 2, none⟩ (.slice Ao47 t503.length co47)).setCell ⟨gb514, 0, none⟩ (.int .i64 t506)).setCell ⟨gb514, 1, none⟩ (.int .i64 t507)).setCell ⟨gb514, 2, none⟩ (.slice Ao52 t508.length co52)) gb500 l0 t511 t512 from by repeat (first | (with_reducible first | exact HI500.out | apply IsS66.alloc | apply IsS66.drewN | apply IsS66.drew | apply IsS66.set_1 | apply IsS66.set_2 | refine IsS66.far ?_ Nq8.out _ | refine IsS66.far ?_ Nq9.out _ | refine IsS66.far ?_ Nq10.out _ | refine IsS66.far ?_ Nq11.out _) | exact HI500.out)) hb); (try clear hb)) | (go_at_call 72; (with_reducible refine (spec_l1Cur_one.calls gb500 l0 t511 t512 2 false t517 t518 w _ ?side1 ?side2 A5.out).mono ?_); (case side1 => exact qi); (case side2 => exact qc); rintro e w54 ⟨rfl, hi, hb, hk⟩; replace BK498 := qK BK498 hk Nq1; replace BK499 := qK BK499 hk Nq5; replace Oq1 := qR Oq1 hk; replace Oq2 := qR Oq2 hk; replace BK513 := qK BK513 hk Nq14; replace BK514 := qK BK514 hk Nq18; replace HB := am hb; replace HI500 := am hi; (try clear hb hk hi)))
   replace Oq1 := am (Kd.R_drew Oq1.out)
   replace Oq2 := am (Kd.R_drew Oq2.out)
   replace BK498 := am (blk_drew BK498.out)
   replace BK499 := am (blk_drew BK499.out)
   replace BK513 := am (blk_drew BK513.out)
   replace BK514 := am (blk_drew BK514.out)
   replace HI500 := am (IsS66.drew HI500.out)
   replace HB := am (below_drew1 HB.out)
   refine start_ (n := 4) (S := fun w' => w'.cell? ⟨gb513, 0, none⟩ = some (.int .i64 t501) ∧ w'.cell? ⟨gb513, 1, none⟩ = some (.int .i64 t502) ∧ w'.cell? ⟨gb513, 2, none⟩ = some (.slice Ao47 t503.length co47) ∧ w'.cell? ⟨gb514, 0, none⟩ = some (.int .i64 t506) ∧ w'.cell? ⟨gb514, 1, none⟩ = some (.int .i64 t507) ∧ w'.cell? ⟨gb514, 2, none⟩ = some (.slice Ao52 t508.length co52)) (ds := []) #[false, false, false, false] (by kernel_rfl) rfl rfl ⟨sqc BK513 0, sqc BK513 1, sqc BK513 2, sqc BK514 0, sqc BK514 1, sqc BK514 2⟩ (fun hHeld => ?_)
   generalize w54.drew = w55 at Oq1 Oq2 BK498 BK499 BK513 BK514 HI500 HB hHeld ⊢
   refine take_ (i := 0) (N := some 24) (v := ?_) (a' := ?_) #[true, false, false, false] rfl rfl (by kernel_rfl) (fun _ _ _ h => h) (Or.inl ⟨by rfl, ?_⟩) hHeld ?_ ?_
   rotate_left
   ·
    rintro w' ⟨s0, s1, s2, s3, s4, s5⟩
    go_simp
    with_reducible rfl
   rotate_left
   ·
    simp only [Act.put, List.setIfInBounds_toArray, List.set_cons_zero, List.set_cons_succ, i64_w, i32_w]
    rfl
   refine take_ (i := 1) (N := some 25) (v := ?_) (a' := ?_) #[true, true, false, false] rfl rfl (by kernel_rfl) (fun _ _ _ h => h) (Or.inl ⟨by rfl, ?_⟩) hHeld ?_ ?_
   rotate_left
   ·
    rintro w' ⟨s0, s1, s2, s3, s4, s5⟩
    go_simp
    with_reducible rfl
   rotate_left
   ·
    simp only [Act.put, List.setIfInBounds_toArray, List.set_cons_zero, List.set_cons_succ, i64_w, i32_w]
    rfl
   refine one_ (i := 2) (N := none) #[true, true, true, false] rfl rfl (by kernel_rfl) (by decide) (fun K hK => ?_)
   have hs56 : w55.cell? ⟨gb498, 0, none⟩ = some (.int .i64 0) := sqc BK498 0
   have hfs56 := blk_frozen BK498.out 0
   have hq18 := Nq4.out
   have hq19 := Nq12.out
   have hq20 := Nq16.out
   have hms56_1 := Nq0.out
   have hms56_2 := Nq2.out
   have hms56_3 := Nq3.out
   have hs57 : w55.cell? ⟨gb498, 1, none⟩ = some (.int .i64 0) := sqc BK498 1
   have hfs57 := blk_frozen BK498.out 1
   have hq21 := Nq4.out
   have hq22 := Nq12.out
   have hq23 := Nq16.out
   have hms57_1 := Nq0.out
   have hms57_2 := Nq2.out
   have hms57_3 := Nq3.out
   have hs58 : w55.cell? ⟨gb498, 2, none⟩ = some (.slice none 0 0) := sqc BK498 2
   have hfs58 := blk_frozen BK498.out 2
   have hq24 := Nq4.out
   have hq25 := Nq12.out
   have hq26 := Nq16.out
   have hms58_1 := Nq0.out
   have hms58_2 := Nq2.out
   have hms58_3 := Nq3.out
   refine skip_ (w1 := ?_) (by rfl) rfl ?_ ?_
   rotate_left
   ·
    go_simp
    rfl
   refine hK.out _ _ ⟨((cell_far (p := ⟨gb498, _, none⟩) Nq12.out _).trans (((cell_far (p := ⟨gb498, _, none⟩) Nq12.out _).trans (((cell_far (p := ⟨gb498, _, none⟩) Nq12.out _).trans (hHeld.1)))))), ((cell_far (p := ⟨gb498, _, none⟩) Nq12.out _).trans (((cell_far (p := ⟨gb498, _, none⟩) Nq12.out _).trans (((cell_far (p := ⟨gb498, _, none⟩) Nq12.out _).trans (hHeld.2.1)))))), ((cell_far (p := ⟨gb498, _, none⟩) Nq12.out _).trans (((cell_far (p := ⟨gb498, _, none⟩) Nq12.out _).trans (((cell_far (p := ⟨gb498, _, none⟩) Nq12.out _).trans (hHeld.2.2.1)))))), ((cell_far (p := ⟨gb498, _, none⟩) Nq16.out _).trans (((cell_far (p := ⟨gb498, _, none⟩) Nq16.out _).trans (((cell_far (p := ⟨gb498, _, none⟩) Nq16.out _).trans (hHeld.2.2.2.1)))))), ((cell_far (p := ⟨gb498, _, none⟩) Nq16.out _).trans (((cell_far (p := ⟨gb498, _, none⟩) Nq16.out _).trans (((cell_far (p := ⟨gb498, _, none⟩) Nq16.out _).trans (hHeld.2.2.2.2.1)))))), ((cell_far (p := ⟨gb498, _, none⟩) Nq16.out _).trans (((cell_far (p := ⟨gb498, _, none⟩) Nq16.out _).trans (((cell_far (p := ⟨gb498, _, none⟩) Nq16.out _).trans (hHeld.2.2.2.2.2))))))⟩ (fun hHeld => ?_)
   clear hK K
   refine one_ (i := 3) (N := none) #[true, true, true, true] rfl rfl (by kernel_rfl) (by decide) (fun K hK => ?_)
   have hs59 : w55.cell? ⟨gb499, 0, none⟩ = some (.int .i64 0) := sqc BK499 0
   have hfs59 := blk_frozen BK499.out 0
   have hq27 := Nq0.out
   have hq28 := Nq13.out
   have hq29 := Nq17.out
   have hms59_0 := Nq4.out
   have hms59_2 := Nq6.out
   have hms59_3 := Nq7.out
   have hs60 : w55.cell? ⟨gb499, 1, none⟩ = some (.int .i64 0) := sqc BK499 1
   have hfs60 := blk_frozen BK499.out 1
   have hq30 := Nq0.out
   have hq31 := Nq13.out
   have hq32 := Nq17.out
   have hms60_0 := Nq4.out
   have hms60_2 := Nq6.out
   have hms60_3 := Nq7.out
   have hs61 : w55.cell? ⟨gb499, 2, none⟩ = some (.slice none 0 0) := sqc BK499 2
   have hfs61 := blk_frozen BK499.out 2
   have hq33 := Nq0.out
   have hq34 := Nq13.out
   have hq35 := Nq17.out
   have hms61_0 := Nq4.out
   have hms61_2 := Nq6.out
   have hms61_3 := Nq7.out
   refine skip_ (w1 := ?_) (by rfl) rfl ?_ ?_
   rotate_left
   ·
    go_simp
    rfl
   refine hK.out _ _ ⟨((cell_far (p := ⟨gb499, _, none⟩) Nq13.out _).trans (((cell_far (p := ⟨gb499, _, none⟩) Nq13.out _).trans (((cell_far (p := ⟨gb499, _, none⟩) Nq13.out _).trans (hHeld.1)))))), ((cell_far (p := ⟨gb499, _, none⟩) Nq13.out _).trans (((cell_far (p := ⟨gb499, _, none⟩) Nq13.out _).trans (((cell_far (p := ⟨gb499, _, none⟩) Nq13.out _).trans (hHeld.2.1)))))), ((cell_far (p := ⟨gb499, _, none⟩) Nq13.out _).trans (((cell_far (p := ⟨gb499, _, none⟩) Nq13.out _).trans (((cell_far (p := ⟨gb499, _, none⟩) Nq13.out _).trans (hHeld.2.2.1)))))), ((cell_far (p := ⟨gb499, _, none⟩) Nq17.out _).trans (((cell_far (p := ⟨gb499, _, none⟩) Nq17.out _).trans (((cell_far (p := ⟨gb499, _, none⟩) Nq17.out _).trans (hHeld.2.2.2.1)))))), ((cell_far (p := ⟨gb499, _, none⟩) Nq17.out _).trans (((cell_far (p := ⟨gb499, _, none⟩) Nq17.out _).trans (((cell_far (p := ⟨gb499, _, none⟩) Nq17.out _).trans (hHeld.2.2.2.2.1)))))), ((cell_far (p := ⟨gb499, _, none⟩) Nq17.out _).trans (((cell_far (p := ⟨gb499, _, none⟩) Nq17.out _).trans (((cell_far (p := ⟨gb499, _, none⟩) Nq17.out _).trans (hHeld.2.2.2.2.2))))))⟩ (fun hHeld => ?_)
   clear hK K
   refine done_ (by kernel_rfl) ?_
   try go_wp2
   refine bodyPost_ret (results_cc rfl _ _ gb498 gb499 26 26 #[.int .i64 t501, .int .i64 t502, .slice Ao47 t503.length co47] #[.int .i64 t506, .int .i64 t507, .slice Ao52 t508.length co52] (0, 0) (0, 0) _ _ rfl Q5 Try.underlying26 rfl (by kernel_rfl) rfl Q11 Try.underlying26 rfl (by kernel_rfl)) rfl ?_
   exact ⟨_, _, Q2, by (with_reducible repeat (first | apply Kd.R_alloc | apply Kd.R_drewN | apply Kd.R_drew)); exact Kd.R_mono (Kd.R_far (p := ⟨gb499, 2, none⟩) (Kd.R_far (p := ⟨gb499, 1, none⟩) (Kd.R_far (p := ⟨gb499, 0, none⟩) (Kd.R_far (p := ⟨gb498, 2, none⟩) (Kd.R_far (p := ⟨gb498, 1, none⟩) (Kd.R_far (p := ⟨gb498, 0, none⟩) (Kd.R_types (Kd.R_types Oq1.out BK498.out (by decide)) BK499.out (by decide)) (fun _ hk => hk.1.2) (.int .i64 t501)) (fun _ hk => hk.1.2) (.int .i64 t502)) (fun _ hk => hk.1.2) (.slice Ao47 t503.length co47)) (fun _ hk => hk.2) (.int .i64 t506)) (fun _ hk => hk.2) (.int .i64 t507)) (fun _ hk => hk.2) (.slice Ao52 t508.length co52)) (fun _ hk => hk.1.1), by (with_reducible repeat (first | apply Kd.R_alloc | apply Kd.R_drewN | apply Kd.R_drew)); exact Kd.R_mono (Kd.R_far (p := ⟨gb499, 2, none⟩) (Kd.R_far (p := ⟨gb499, 1, none⟩) (Kd.R_far (p := ⟨gb499, 0, none⟩) (Kd.R_far (p := ⟨gb498, 2, none⟩) (Kd.R_far (p := ⟨gb498, 1, none⟩) (Kd.R_far (p := ⟨gb498, 0, none⟩) (Kd.R_types (Kd.R_types Oq2.out BK498.out (by decide)) BK499.out (by decide)) (fun _ hk => hk.1.2) (.int .i64 t501)) (fun _ hk => hk.1.2) (.int .i64 t502)) (fun _ hk => hk.1.2) (.slice Ao47 t503.length co47)) (fun _ hk => hk.2) (.int .i64 t506)) (fun _ hk => hk.2) (.int .i64 t507)) (fun _ hk => hk.2) (.slice Ao52 t508.length co52)) (fun _ hk => hk.1.1), qc⟩
 ·
  replace c4 := Bool.eq_false_iff.mpr c4
  subst c4
  have H1 : (some (t501, t502, t503, t506, t507, t508)) = some (r1, r2, r3, r4, r5, r6) := by first | (rw [if_neg (show ¬ (false = true) by decide)] at H; exact H) | rfl
  clear H
  have H := H1
  clear H1
  simp only [Option.some.injEq, Prod.mk.injEq] at H
  obtain ⟨rfl, rfl, rfl, rfl, rfl, rfl⟩ := H
  go_enter Try.func33, Try.ntmps33
  try go_wp2_with (first | ((with_reducible refine gate_dst (N := 2) rfl ?_); refine qv 2 #[.int .i64 0, .int .i64 0, .slice none 0 0] 26 ?_; intro gb498 hg w62 hbox hb; have BK498 := am hbox; have GW498 := qw hg; have GE498 := qw hg; replace HB := qs hb; clear hb hbox hg) | ((with_reducible refine gate_dst (N := 3) rfl ?_); refine qv 3 #[.int .i64 0, .int .i64 0, .slice none 0 0] 26 ?_; intro gb499 hg w63 hbox hb; have BK499 := am hbox; have GW499 := qw hg; have GE499 := qw hg; have Nq0 := qn hg BK498; have Nq4 := qN hg BK498; replace BK498 := sqB BK498 hb; replace HB := qs hb; clear hb hbox hg) | ((with_reducible refine gate_dst (N := 9) rfl ?_); refine qv 9 #[.slice A0 l0.length c0, .int .i64 0, .int .u64 0] 66 ?_; intro gb500 hg w64 hbox hb; have HI500 := am ((show IsS66 w w64 gb500 l0 0 0 from ⟨_, _, hbox, (by rw [hg]; exact (below_size qb) : w.heap.size ≤ gb500), HR0.out⟩)); have GW500 := qw hg; have GE500 := qw hg; have Nq1 := qn hg BK498; have Nq8 := qN hg BK498; have Nq5 := qn hg BK499; have Nq9 := qN hg BK499; replace BK498 := sqB BK498 hb; replace BK499 := sqB BK499 hb; replace HB := qs hb; clear hb hbox hg) | ((with_reducible refine gate_callee (f := 53) rfl ?_); refine qg (some 12) Try.func53 #[.pointer (some ⟨gb500, 0, none⟩)] ?_; (with_reducible refine (spec_l1Cur_fittingBoards.calls k gb500 l0 0 0 t501 t502 t503 t506 t507 t508 t511 t512 w _ ?side1 ?side2 A2.out).mono ?_); (case side1 => exact qi); (case side2 => exact qc); rintro e w65 ⟨v504, v509, rfl, ho0, ho1, hi, hb, hk⟩; refine ⟨_, rfl, ?_⟩; have Oq1 := qL ho0; have Oq2 := qL ho1; replace BK498 := qK BK498 hk Nq1; replace BK499 := qK BK499 hk Nq5; replace HB := am hb; replace HI500 := am hi; (try clear hb hk hi ho0 ho1)) | ((with_reducible refine gate_dst (N := 5) rfl ?_); refine qv 5 #[.int .i64 0, .int .i64 0, .slice none 0 0] 26 ?_; intro gb513 hg w66 hbox hb; have BK513 := am hbox; have GW513 := qW hg; have GE513 := qW hg; have Nq2 := qn hg BK498; have Nq12 := qN hg BK498; have Nq6 := qn hg BK499; have Nq13 := qN hg BK499; have Nq10 := qo hg gb500; have Nq14 := qO hg gb500; replace Oq1 := sqR Oq1 hb; replace Oq2 := sqR Oq2 hb; replace BK498 := sqB BK498 hb; replace BK499 := sqB BK499 hb; replace HB := qt hb; replace HI500 := qj hb; clear hb hbox hg) | ((with_reducible refine gate_dst (N := 6) rfl ?_); refine qv 6 #[.int .i64 0, .int .i64 0, .slice none 0 0] 26 ?_; intro gb514 hg w67 hbox hb; have BK514 := am hbox; have GW514 := qW hg; have GE514 := qW hg; have Nq3 := qn hg BK498; have Nq16 := qN hg BK498; have Nq7 := qn hg BK499; have Nq17 := qN hg BK499; have Nq15 := qn hg BK513; have Nq19 := qN hg BK513; have Nq11 := qo hg gb500; have Nq18 := qO hg gb500; replace Oq1 := sqR Oq1 hb; replace Oq2 := sqR Oq2 hb; replace BK498 := sqB BK498 hb; replace BK499 := sqB BK499 hb; replace BK513 := sqB BK513 hb; replace HB := qt hb; replace HI500 := qj hb; clear hb hbox hg; have bq14 := Nq12.out; have cq14 := Nq2.out; have bq15 := Nq13.out; have cq15 := Nq6.out; have bq16 := Nq15.out; have cq16 := Nq19.out; have bq17 := Nq14.out; have cq17 := Nq10.out; obtain ⟨zq12, zq13, zq14, fq12, fq13, fq14⟩ := qd BK513; obtain ⟨Ao73, co73, eo73⟩ := Kd.R_slice Oq1.out; subst eo73; have bq18 := Nq16.out; have cq18 := Nq3.out; have bq19 := Nq17.out; have cq19 := Nq7.out; have bq20 := Nq18.out; have cq20 := Nq11.out; obtain ⟨zq15, zq16, zq17, fq15, fq16, fq17⟩ := qd BK514; obtain ⟨Ao78, co78, eo78⟩ := Kd.R_slice Oq2.out; subst eo78) | ((with_reducible refine gate_callee (f := 60) rfl ?_); refine qg (some 16) Try.func60 #[.agg #[.int .i64 t501, .int .i64 t502, .slice Ao73 t503.length co73]] ?_; (with_reducible refine (spec_boGood.calls k t501 t502 _ _ t503 false _ ?side1 ?side2 A3.out).mono ?_); (case side1 => refine (Kd.R_reads' (e := 3) (base := w.heap.size) (ok := fun k_ => some k_ ≠ (.slice Ao78 t508.length co78 : Value).ownBlock) (n := t503.length) (c := co73) ?_).2.2; exact (sqw (sqo2 Oq1 BK513 BK514))); (case side2 => exact Q44); rintro e w79 ⟨rfl, hb⟩; refine ⟨_, rfl, ?_⟩; replace Oq1 := am (Kd.R_below (sqw (sqo2 Oq1 BK513 BK514)) hb); replace Oq2 := am (Kd.R_below (sqw (sqo2 Oq2 BK513 BK514)) hb); replace BK498 := am (blk_below (g := gb498) (o := .cells #[.int .i64 0, .int .i64 0, .slice none 0 0] 26 (0, 0)) Q8 hb); replace BK499 := am (blk_below (g := gb499) (o := .cells #[.int .i64 0, .int .i64 0, .slice none 0 0] 26 (0, 0)) Q9 hb); replace BK513 := qPF (.int .i64 t501) (.int .i64 t502) (.slice Ao73 t503.length co73) BK513 Nq15 hb; replace BK514 := qFP (.int .i64 t506) (.int .i64 t507) (.slice Ao78 t508.length co78) BK514 Nq19 hb; replace HB := qt hb; replace HI500 := am (IsS66.below (show IsS66 w ((((((w67.setCell ⟨gb513, 0, none⟩ (.int .i64 t501)).setCell ⟨gb513, 1, none⟩ (.int .i64 t502)).setCell ⟨gb513, 2, none⟩ (.slice Ao73 t503.length co73)).setCell ⟨gb514, 0, none⟩ (.int .i64 t506)).setCell ⟨gb514, 1, none⟩ (.int .i64 t507)).setCell ⟨gb514, 2, none⟩ (.slice Ao78 t508.length co78)) gb500 l0 t511 t512 from by repeat (first | (with_reducible first | exact HI500.out | apply IsS66.alloc | apply IsS66.drewN | apply IsS66.drew | apply IsS66.set_1 | apply IsS66.set_2 | refine IsS66.far ?_ Nq8.out _ | refine IsS66.far ?_ Nq9.out _ | refine IsS66.far ?_ Nq10.out _ | refine IsS66.far ?_ Nq11.out _) | exact HI500.out)) hb); (try clear hb)))
  replace Oq1 := am (Kd.R_drew Oq1.out)
  replace Oq2 := am (Kd.R_drew Oq2.out)
  replace BK498 := am (blk_drew BK498.out)
  replace BK499 := am (blk_drew BK499.out)
  replace BK513 := am (blk_drew BK513.out)
  replace BK514 := am (blk_drew BK514.out)
  replace HI500 := am (IsS66.drew HI500.out)
  replace HB := am (below_drew1 HB.out)
  refine start_ (n := 4) (S := fun w' => w'.cell? ⟨gb513, 0, none⟩ = some (.int .i64 t501) ∧ w'.cell? ⟨gb513, 1, none⟩ = some (.int .i64 t502) ∧ w'.cell? ⟨gb513, 2, none⟩ = some (.slice Ao73 t503.length co73) ∧ w'.cell? ⟨gb514, 0, none⟩ = some (.int .i64 t506) ∧ w'.cell? ⟨gb514, 1, none⟩ = some (.int .i64 t507) ∧ w'.cell? ⟨gb514, 2, none⟩ = some (.slice Ao78 t508.length co78)) (ds := []) #[false, false, false, false] (by kernel_rfl) rfl rfl ⟨sqc BK513 0, sqc BK513 1, sqc BK513 2, sqc BK514 0, sqc BK514 1, sqc BK514 2⟩ (fun hHeld => ?_)
  generalize w79.drew = w80 at Oq1 Oq2 BK498 BK499 BK513 BK514 HI500 HB hHeld ⊢
  refine take_ (i := 0) (N := some 24) (v := ?_) (a' := ?_) #[true, false, false, false] rfl rfl (by kernel_rfl) (fun _ _ _ h => h) (Or.inl ⟨by rfl, ?_⟩) hHeld ?_ ?_
  rotate_left
  ·
   rintro w' ⟨s0, s1, s2, s3, s4, s5⟩
   go_simp
   with_reducible rfl
  rotate_left
  ·
   simp only [Act.put, List.setIfInBounds_toArray, List.set_cons_zero, List.set_cons_succ, i64_w, i32_w]
   rfl
  refine take_ (i := 1) (N := some 25) (v := ?_) (a' := ?_) #[true, true, false, false] rfl rfl (by kernel_rfl) (fun _ _ _ h => h) (Or.inl ⟨by rfl, ?_⟩) hHeld ?_ ?_
  rotate_left
  ·
   rintro w' ⟨s0, s1, s2, s3, s4, s5⟩
   go_simp
   with_reducible rfl
  rotate_left
  ·
   simp only [Act.put, List.setIfInBounds_toArray, List.set_cons_zero, List.set_cons_succ, i64_w, i32_w]
   rfl
  refine one_ (i := 2) (N := none) #[true, true, true, false] rfl rfl (by kernel_rfl) (by decide) (fun K hK => ?_)
  have hs81 : w80.cell? ⟨gb498, 0, none⟩ = some (.int .i64 0) := sqc BK498 0
  have hfs81 := blk_frozen BK498.out 0
  have hq36 := Nq4.out
  have hq37 := Nq12.out
  have hq38 := Nq16.out
  have hms81_1 := Nq0.out
  have hms81_2 := Nq2.out
  have hms81_3 := Nq3.out
  have hs82 : w80.cell? ⟨gb498, 1, none⟩ = some (.int .i64 0) := sqc BK498 1
  have hfs82 := blk_frozen BK498.out 1
  have hq39 := Nq4.out
  have hq40 := Nq12.out
  have hq41 := Nq16.out
  have hms82_1 := Nq0.out
  have hms82_2 := Nq2.out
  have hms82_3 := Nq3.out
  have hs83 : w80.cell? ⟨gb498, 2, none⟩ = some (.slice none 0 0) := sqc BK498 2
  have hfs83 := blk_frozen BK498.out 2
  have hq42 := Nq4.out
  have hq43 := Nq12.out
  have hq44 := Nq16.out
  have hms83_1 := Nq0.out
  have hms83_2 := Nq2.out
  have hms83_3 := Nq3.out
  refine skip_ (w1 := ?_) (by rfl) rfl ?_ ?_
  rotate_left
  ·
   go_simp
   rfl
  refine hK.out _ _ ⟨((cell_far (p := ⟨gb498, _, none⟩) Nq12.out _).trans (((cell_far (p := ⟨gb498, _, none⟩) Nq12.out _).trans (((cell_far (p := ⟨gb498, _, none⟩) Nq12.out _).trans (hHeld.1)))))), ((cell_far (p := ⟨gb498, _, none⟩) Nq12.out _).trans (((cell_far (p := ⟨gb498, _, none⟩) Nq12.out _).trans (((cell_far (p := ⟨gb498, _, none⟩) Nq12.out _).trans (hHeld.2.1)))))), ((cell_far (p := ⟨gb498, _, none⟩) Nq12.out _).trans (((cell_far (p := ⟨gb498, _, none⟩) Nq12.out _).trans (((cell_far (p := ⟨gb498, _, none⟩) Nq12.out _).trans (hHeld.2.2.1)))))), ((cell_far (p := ⟨gb498, _, none⟩) Nq16.out _).trans (((cell_far (p := ⟨gb498, _, none⟩) Nq16.out _).trans (((cell_far (p := ⟨gb498, _, none⟩) Nq16.out _).trans (hHeld.2.2.2.1)))))), ((cell_far (p := ⟨gb498, _, none⟩) Nq16.out _).trans (((cell_far (p := ⟨gb498, _, none⟩) Nq16.out _).trans (((cell_far (p := ⟨gb498, _, none⟩) Nq16.out _).trans (hHeld.2.2.2.2.1)))))), ((cell_far (p := ⟨gb498, _, none⟩) Nq16.out _).trans (((cell_far (p := ⟨gb498, _, none⟩) Nq16.out _).trans (((cell_far (p := ⟨gb498, _, none⟩) Nq16.out _).trans (hHeld.2.2.2.2.2))))))⟩ (fun hHeld => ?_)
  clear hK K
  refine one_ (i := 3) (N := none) #[true, true, true, true] rfl rfl (by kernel_rfl) (by decide) (fun K hK => ?_)
  have hs84 : w80.cell? ⟨gb499, 0, none⟩ = some (.int .i64 0) := sqc BK499 0
  have hfs84 := blk_frozen BK499.out 0
  have hq45 := Nq0.out
  have hq46 := Nq13.out
  have hq47 := Nq17.out
  have hms84_0 := Nq4.out
  have hms84_2 := Nq6.out
  have hms84_3 := Nq7.out
  have hs85 : w80.cell? ⟨gb499, 1, none⟩ = some (.int .i64 0) := sqc BK499 1
  have hfs85 := blk_frozen BK499.out 1
  have hq48 := Nq0.out
  have hq49 := Nq13.out
  have hq50 := Nq17.out
  have hms85_0 := Nq4.out
  have hms85_2 := Nq6.out
  have hms85_3 := Nq7.out
  have hs86 : w80.cell? ⟨gb499, 2, none⟩ = some (.slice none 0 0) := sqc BK499 2
  have hfs86 := blk_frozen BK499.out 2
  have hq51 := Nq0.out
  have hq52 := Nq13.out
  have hq53 := Nq17.out
  have hms86_0 := Nq4.out
  have hms86_2 := Nq6.out
  have hms86_3 := Nq7.out
  refine skip_ (w1 := ?_) (by rfl) rfl ?_ ?_
  rotate_left
  ·
   go_simp
   rfl
  refine hK.out _ _ ⟨((cell_far (p := ⟨gb499, _, none⟩) Nq13.out _).trans (((cell_far (p := ⟨gb499, _, none⟩) Nq13.out _).trans (((cell_far (p := ⟨gb499, _, none⟩) Nq13.out _).trans (hHeld.1)))))), ((cell_far (p := ⟨gb499, _, none⟩) Nq13.out _).trans (((cell_far (p := ⟨gb499, _, none⟩) Nq13.out _).trans (((cell_far (p := ⟨gb499, _, none⟩) Nq13.out _).trans (hHeld.2.1)))))), ((cell_far (p := ⟨gb499, _, none⟩) Nq13.out _).trans (((cell_far (p := ⟨gb499, _, none⟩) Nq13.out _).trans (((cell_far (p := ⟨gb499, _, none⟩) Nq13.out _).trans (hHeld.2.2.1)))))), ((cell_far (p := ⟨gb499, _, none⟩) Nq17.out _).trans (((cell_far (p := ⟨gb499, _, none⟩) Nq17.out _).trans (((cell_far (p := ⟨gb499, _, none⟩) Nq17.out _).trans (hHeld.2.2.2.1)))))), ((cell_far (p := ⟨gb499, _, none⟩) Nq17.out _).trans (((cell_far (p := ⟨gb499, _, none⟩) Nq17.out _).trans (((cell_far (p := ⟨gb499, _, none⟩) Nq17.out _).trans (hHeld.2.2.2.2.1)))))), ((cell_far (p := ⟨gb499, _, none⟩) Nq17.out _).trans (((cell_far (p := ⟨gb499, _, none⟩) Nq17.out _).trans (((cell_far (p := ⟨gb499, _, none⟩) Nq17.out _).trans (hHeld.2.2.2.2.2))))))⟩ (fun hHeld => ?_)
  clear hK K
  refine done_ (by kernel_rfl) ?_
  try go_wp2
  refine bodyPost_ret (results_cc rfl _ _ gb498 gb499 26 26 #[.int .i64 t501, .int .i64 t502, .slice Ao73 t503.length co73] #[.int .i64 t506, .int .i64 t507, .slice Ao78 t508.length co78] (0, 0) (0, 0) _ _ rfl Q5 Try.underlying26 rfl (by kernel_rfl) rfl Q11 Try.underlying26 rfl (by kernel_rfl)) rfl ?_
  exact ⟨_, _, Q2, by (with_reducible repeat (first | apply Kd.R_alloc | apply Kd.R_drewN | apply Kd.R_drew)); exact Kd.R_mono (Kd.R_far (p := ⟨gb499, 2, none⟩) (Kd.R_far (p := ⟨gb499, 1, none⟩) (Kd.R_far (p := ⟨gb499, 0, none⟩) (Kd.R_far (p := ⟨gb498, 2, none⟩) (Kd.R_far (p := ⟨gb498, 1, none⟩) (Kd.R_far (p := ⟨gb498, 0, none⟩) (Kd.R_types (Kd.R_types Oq1.out BK498.out (by decide)) BK499.out (by decide)) (fun _ hk => hk.1.2) (.int .i64 t501)) (fun _ hk => hk.1.2) (.int .i64 t502)) (fun _ hk => hk.1.2) (.slice Ao73 t503.length co73)) (fun _ hk => hk.2) (.int .i64 t506)) (fun _ hk => hk.2) (.int .i64 t507)) (fun _ hk => hk.2) (.slice Ao78 t508.length co78)) (fun _ hk => hk.1.1), by (with_reducible repeat (first | apply Kd.R_alloc | apply Kd.R_drewN | apply Kd.R_drew)); exact Kd.R_mono (Kd.R_far (p := ⟨gb499, 2, none⟩) (Kd.R_far (p := ⟨gb499, 1, none⟩) (Kd.R_far (p := ⟨gb499, 0, none⟩) (Kd.R_far (p := ⟨gb498, 2, none⟩) (Kd.R_far (p := ⟨gb498, 1, none⟩) (Kd.R_far (p := ⟨gb498, 0, none⟩) (Kd.R_types (Kd.R_types Oq2.out BK498.out (by decide)) BK499.out (by decide)) (fun _ hk => hk.1.2) (.int .i64 t501)) (fun _ hk => hk.1.2) (.int .i64 t502)) (fun _ hk => hk.1.2) (.slice Ao73 t503.length co73)) (fun _ hk => hk.2) (.int .i64 t506)) (fun _ hk => hk.2) (.int .i64 t507)) (fun _ hk => hk.2) (.slice Ao78 t508.length co78)) (fun _ hk => hk.1.1), qc⟩

/-! ### slices_Equal_int_int: function 96 -/
def slices_Equal_int_int.l0 : Nat → List Int → List Int → Int → Int → Option (Bool)
 | 0, _, _, _, _ => none
 | k + 1, x0, x1, x12, x13 => if x13 < x12 then (if 0 ≤ x13 then (if x13 < (x0.length : Int) then (if x13 < (x1.length : Int) then (if (rd x0 x13) = (rd x1 x13) then (slices_Equal_int_int.l0 k x0 x1 x12 (wrap64 (x13 + 1))) else (some false)) else (none)) else (none)) else (none)) else (some true)
def slices_Equal_int_int.f (k : Nat) (l0 : List Int) (l1 : List Int) : Option (Bool) := if (l0.length : Int) = (l1.length : Int) then (slices_Equal_int_int.l0 k l0 l1 (l0.length : Int) 0) else (some false)
set_option maxHeartbeats 8000000 in
set_option maxRecDepth 100000 in
theorem slices_Equal_int_int.calls (k : Nat) (A0 : Option Addr) (c0 : Nat) (l0 : List Int) (A1 : Option Addr) (c1 : Nat) (l1 : List Int) (r : Bool) (w : World) (hr0 : Kd.C (Kd.int .i64) w A0 l0.length l0) (hc0 : l0.length ≤ c0) (hr1 : Kd.C (Kd.int .i64) w A1 l1.length l1) (hc1 : l1.length ≤ c1) (h : slices_Equal_int_int.f k l0 l1 = some r) :
  Calls Try.prog 96 #[.slice A0 l0.length c0, .slice A1 l1.length c1] w fun e w' => e = .returned (.bool r) ∧ Drawn0 w w' := by
 have HR0 := Aside0.mk hr0
 have HC0 := Aside0.mk hc0
 clear hr0 hc0
 have HR1 := Aside0.mk hr1
 have HC1 := Aside0.mk hc1
 clear hr1 hc1
 have H : (if (l0.length : Int) = (l1.length : Int) then (slices_Equal_int_int.l0 k l0 l1 (l0.length : Int) 0) else (some false)) = some r := h
 clear h
 by_cases c3 : (l0.length : Int) = (l1.length : Int)
 ·
  rw [if_pos c3] at H
  have c3b0 : ((l0.length : Int) == (l1.length : Int)) = true := beq_iff_eq.mpr c3
  have c3b1 : ((l0.length : Int) != (l1.length : Int)) = false := bne_eq_false_iff_eq.mpr c3
  have c3b2 : (l0.length == l1.length) = true := by first | simpa using c3 | (simp at c3 ⊢; omega)
  clear c3
  have H' := Aside0.mk H
  clear H
  go_enter Try.func96, Try.ntmps96
  go_wp2
  repeat (go_quiet (fail); try go_wp2)
  go_loopg [13] k (fun kq v13 w' => ∃ (x13_1 : Int), v13 = .int .i64 x13_1 ∧ Aside0 (slices_Equal_int_int.l0 kq l0 l1 (l0.length : Int) x13_1 = some r) ∧ Aside0 (kq ≤ k) ∧ Drawn0 w w')
  case atStart => exact ⟨(0), Q3, H', ⟨Nat.le_refl _⟩, Q7⟩
  case round =>
   clear H'
   try clear c3; try clear c3b0; try clear c3b1; try clear c3b2
   obtain ⟨x13_1, rfl, HA, HK1, ⟨m1, rfl⟩⟩ := hrel
   cases gk with
   | zero => exact absurd HA.out (by simp [slices_Equal_int_int.l0])
   | succ k1 =>
    have H := HA.out
    clear HA
    simp only [slices_Equal_int_int.l0] at H
    by_cases c4 : x13_1 < (l0.length : Int)
    ·
     rw [if_pos c4] at H
     have c4b0 : decide (x13_1 < (l0.length : Int)) = true := decide_eq_true c4
     clear c4
     by_cases c5 : 0 ≤ x13_1
     ·
      rw [if_pos c5] at H
      have c5b0 : decide (0 ≤ x13_1) = true := decide_eq_true c5
      clear c5
      by_cases c6 : x13_1 < (l0.length : Int)
      ·
       rw [if_pos c6] at H
       have c6b0 : decide (x13_1 < (l0.length : Int)) = true := decide_eq_true c6
       clear c6
       by_cases c7 : x13_1 < (l1.length : Int)
       ·
        rw [if_pos c7] at H
        have c7b0 : decide (x13_1 < (l1.length : Int)) = true := decide_eq_true c7
        clear c7
        by_cases c8 : (rd l0 x13_1) = (rd l1 x13_1)
        ·
         rw [if_pos c8] at H
         have c8b0 : ((rd l0 x13_1) == (rd l1 x13_1)) = true := beq_iff_eq.mpr c8
         have c8b1 : ((rd l0 x13_1) != (rd l1 x13_1)) = false := bne_eq_false_iff_eq.mpr c8
         clear c8
         have H' := Aside0.mk H
         clear H
         have p524 : 0 ≤ (x13_1 : Int) := of_decide_eq_true Q0
         have q524 : x13_1 < (l0.length : Int) := of_decide_eq_true Q0
         obtain ⟨ad524, e524, hx524_0⟩ := Kd.at_int HR0.out x13_1 p524 q524
         cases e524
         replace p524 := eq_true p524
         replace q524 := eq_true q524
         have p525 : 0 ≤ (x13_1 : Int) := of_decide_eq_true Q0
         have q525 : x13_1 < (l1.length : Int) := of_decide_eq_true Q0
         obtain ⟨ad525, e525, hx525_0⟩ := Kd.at_int HR1.out x13_1 p525 q525
         cases e525
         replace p525 := eq_true p525
         replace q525 := eq_true q525
         go_wp2
         repeat (go_quiet (fail); try go_wp2)
         go_roundg k1
         case measure => have := HK1.out; omega
         case rel => exact ⟨(wrap64 (x13_1 + 1)), Q3, H', ⟨Q49⟩, Q7⟩
        ·
         rw [if_neg c8] at H
         have c8b0 : ((rd l0 x13_1) == (rd l1 x13_1)) = false := beq_eq_false_iff_ne.mpr c8
         have c8b1 : ((rd l0 x13_1) != (rd l1 x13_1)) = true := bne_iff_ne.mpr c8
         obtain rfl := Option.some.inj H
         have p524 : 0 ≤ (x13_1 : Int) := of_decide_eq_true Q0
         have q524 : x13_1 < (l0.length : Int) := of_decide_eq_true Q0
         obtain ⟨ad524, e524, hx524_0⟩ := Kd.at_int HR0.out x13_1 p524 q524
         cases e524
         replace p524 := eq_true p524
         replace q524 := eq_true q524
         have p525 : 0 ≤ (x13_1 : Int) := of_decide_eq_true Q0
         have q525 : x13_1 < (l1.length : Int) := of_decide_eq_true Q0
         obtain ⟨ad525, e525, hx525_0⟩ := Kd.at_int HR1.out x13_1 p525 q525
         cases e525
         replace p525 := eq_true p525
         replace q525 := eq_true q525
         go_wp2
         repeat (go_quiet (fail); try go_wp2)
         go_ret
         exact ⟨Q3, Q7⟩
       ·
        rw [if_neg c7] at H
        exact absurd H (by simp)
      ·
       rw [if_neg c6] at H
       exact absurd H (by simp)
     ·
      rw [if_neg c5] at H
      exact absurd H (by simp)
    ·
     rw [if_neg c4] at H
     have c4b0 : decide (x13_1 < (l0.length : Int)) = false := decide_eq_false c4
     clear c4
     obtain rfl := Option.some.inj H
     go_wp2
     repeat (go_quiet (fail); try go_wp2)
     go_ret
     exact ⟨Q3, Q7⟩
 ·
  rw [if_neg c3] at H
  have c3b0 : ((l0.length : Int) == (l1.length : Int)) = false := beq_eq_false_iff_ne.mpr c3
  have c3b1 : ((l0.length : Int) != (l1.length : Int)) = true := bne_iff_ne.mpr c3
  have c3b2 : (l0.length == l1.length) = false := by first | simpa using c3 | (simp at c3 ⊢; omega)
  obtain rfl := Option.some.inj H
  go_enter Try.func96, Try.ntmps96
  go_wp2
  repeat (go_quiet (fail); try go_wp2)
  go_ret
  exact ⟨Q3, Q7⟩

/-! ### impl_trimmed: function 97 -/
def impl_trimmed.l0 : Nat → List Int → Option (List Int)
 | 0, _ => none
 | k + 1, x0 => if (x0.length : Int) > 0 then (if 0 ≤ (wrap64 ((x0.length : Int) - 1)) then (if (wrap64 ((x0.length : Int) - 1)) < (x0.length : Int) then (if (rd x0 (wrap64 ((x0.length : Int) - 1))) = 0 then (if (wrap64 ((x0.length : Int) - 1)) ≤ (x0.length : Int) then (impl_trimmed.l0 k (x0.take ((wrap64 ((x0.length : Int) - 1)) : Int).toNat)) else (none)) else (some x0)) else (none)) else (none)) else (some x0)
def impl_trimmed.f (k : Nat) (l0 : List Int) : Option (List Int) := impl_trimmed.l0 k l0
set_option maxHeartbeats 8000000 in
set_option maxRecDepth 100000 in
theorem impl_trimmed.calls (k : Nat) (P0_ : Nat → Prop) (A0 : Option Addr) (c0 : Nat) (l0 : List Int) (r : List Int) (w : World) (hs0 : Kd.V (Kd.int .i64) 3 w w.heap.size (fun k_ => P0_ k_) (.slice A0 l0.length c0) l0) (h : impl_trimmed.f k l0 = some r) :
  Calls Try.prog 97 #[.slice A0 l0.length c0] w fun e w' => ∃ v0_ : Value, e = .returned (v0_) ∧ Kd.V (Kd.int .i64) 3 w' w.heap.size (fun k_ => (P0_ k_ ∨ w.heap.size ≤ k_)) v0_ r ∧ Below w.heap.size w w' := by
 have Oq0 := am (show Kd.V (Kd.int .i64) 3 w w.heap.size (fun k_ => (P0_ k_ ∨ w.heap.size ≤ k_)) (.slice A0 l0.length c0) l0 from Kd.V_mono hs0 (fun k_ hk => .inl hk))
 have HB := am (Below.refl w.heap.size w)
 have H : (impl_trimmed.l0 k l0) = some r := h
 clear h
 have H' := Aside0.mk H
 clear H
 go_enter Try.func97, Try.ntmps97
 go_wp2
 go_loopg [0] k (fun kq v0 w' => ∃ (x0_1 : List Int), Aside0 (impl_trimmed.l0 kq x0_1 = some r) ∧ Aside0 (kq ≤ k) ∧ Aside0 (Kd.V (Kd.int .i64) 3 w' w.heap.size (fun k_ => (P0_ k_ ∨ w.heap.size ≤ k_)) v0 x0_1) ∧ Aside0 (Below w.heap.size w w'))
 case atStart => exact ⟨(l0), H', ⟨Nat.le_refl _⟩, ⟨by (with_reducible repeat (first | apply Kd.V_alloc | apply Kd.V_drewN | apply Kd.V_drew)); exact Oq0.out⟩, ⟨qb⟩⟩
 case round =>
  clear H'
  obtain ⟨x0_1, HA, HK1, Oq5, HB⟩ := hrel
  cases gk with
  | zero => exact absurd HA.out (by simp [impl_trimmed.l0])
  | succ k1 =>
   have H := HA.out
   clear HA
   simp only [impl_trimmed.l0] at H
   by_cases c2 : (x0_1.length : Int) > 0
   ·
    rw [if_pos c2] at H
    have c2b0 : decide (0 < (x0_1.length : Int)) = true := decide_eq_true c2
    have c2b1 : decide (0 < x0_1.length) = true := decide_eq_true (by omega)
    clear c2
    obtain ⟨ji3, hji3⟩ : ∃ j_ : Int, (wrap64 ((x0_1.length : Int) - 1)) = j_ := ⟨_, rfl⟩
    replace H : (if 0 ≤ (ji3) then (if (ji3) < (x0_1.length : Int) then (if (rd x0_1 (ji3)) = 0 then (if (ji3) ≤ (x0_1.length : Int) then (impl_trimmed.l0 k1 (x0_1.take ((ji3) : Int).toNat)) else (none)) else (some x0_1)) else (none)) else (none)) = some r := by first | (rw [hji3] at H; exact H) | (simp only [hji3] at H ⊢; exact H)
    have hji3w : (IntKind.i64.wrap ((x0_1.length : Int) - 1)) = ji3 := (i64_w _).trans hji3
    by_cases c4 : 0 ≤ (ji3)
    ·
     rw [if_pos c4] at H
     have c4b0 : decide (0 ≤ (ji3)) = true := decide_eq_true c4
     clear c4
     by_cases c5 : (ji3) < (x0_1.length : Int)
     ·
      rw [if_pos c5] at H
      have c5b0 : decide ((ji3) < (x0_1.length : Int)) = true := decide_eq_true c5
      clear c5
      by_cases c6 : (rd x0_1 (ji3)) = 0
      ·
       rw [if_pos c6] at H
       have c6b0 : ((rd x0_1 (ji3)) == 0) = true := beq_iff_eq.mpr c6
       have c6b1 : ((rd x0_1 (ji3)) != 0) = false := bne_eq_false_iff_eq.mpr c6
       clear c6
       have c7b0 := eq_true (of_decide_eq_true Q0 : 0 ≤ (ji3))
       by_cases c8 : (ji3) ≤ (x0_1.length : Int)
       ·
        rw [if_pos c8] at H
        have c8b0 := eq_true c8
        have c8b1 : decide ((ji3) ≤ (x0_1.length : Int)) = true := decide_eq_true c8
        clear c8
        obtain ⟨y527, hy_⟩ : ∃ y_ : List Int, y_ = ((x0_1.take ((ji3) : Int).toNat)) := ⟨_, rfl⟩
        replace H : (impl_trimmed.l0 k1 y527) = some r := qH
        have Ny527 := Aside0.mk hy_
        clear hy_
        have H' := Aside0.mk H
        clear H
        obtain ⟨Ao9, co9, eo9⟩ := Kd.V_slice Oq5.out
        subst eo9
        have p526 : 0 ≤ ((ji3) : Int) := of_decide_eq_true Q0
        have q526 : (ji3) < (x0_1.length : Int) := of_decide_eq_true Q0
        obtain ⟨ad526, e526, hx526_0⟩ := Kd.at_int (Kd.V_reads' Oq5.out).2.2 (ji3) p526 q526
        cases e526
        replace p526 := eq_true p526
        replace q526 := eq_true q526
        have q10 : ((ji3) : Int) ≤ ((x0_1.length : Int) : Int) := of_decide_eq_true Q0
        obtain ⟨i010, hi010, _, hsz10, _⟩ := info_parts info3
        have hroom10 : x0_1.length ≤ co9 := (Kd.V_reads' Oq5.out).2.1
        have hC10 : Kd.F (Kd.int .i64) _ _ (some ad526) x0_1.length x0_1 := (Kd.V_at (base := w.heap.size) Oq5.out).2.2
        have hcut10 := cut_to (P := Try.prog) 24 3 .i64 Try.underlying24 hi010 (some ad526) x0_1.length co9 (ji3) (of_decide_eq_true Q0) q10 hroom10
        have hr10 := Kd.F_take (m := ((ji3) : Int).toNat) hC10 (by omega)
        have hy10 : y527.length = ((ji3) : Int).toNat := (by rw [Ny527.out, List.length_take]; omega)
        rw [← Ny527.out] at hr10
        rw [← hy10] at hcut10
        have Oq4 := am (show Kd.V (Kd.int .i64) 3 _ w.heap.size _ (.slice (some ad526) y527.length co9) y527 from Kd.V_mk (by omega) hr10)
        have HC531 := am (show y527.length ≤ co9 from by omega)
        clear hr10 hC10 hroom10 hi010 hsz10
        have KY10 := Aside0.mk hy10
        clear hy10
        replace q10 := eq_true q10
        go_wp2
        go_roundg k1
        case measure => have := HK1.out; omega
        case rel => exact ⟨(y527), H', ⟨Q49⟩, ⟨by (with_reducible repeat (first | apply Kd.V_alloc | apply Kd.V_drewN | apply Kd.V_drew)); exact Oq4.out⟩, ⟨qb⟩⟩
       ·
        rw [if_neg c8] at H
        exact absurd H (by simp)
      ·
       rw [if_neg c6] at H
       have c6b0 : ((rd x0_1 (ji3)) == 0) = false := beq_eq_false_iff_ne.mpr c6
       have c6b1 : ((rd x0_1 (ji3)) != 0) = true := bne_iff_ne.mpr c6
       obtain rfl := Option.some.inj H
       obtain ⟨Ao11, co11, eo11⟩ := Kd.V_slice Oq5.out
       subst eo11
       have p526 : 0 ≤ ((ji3) : Int) := of_decide_eq_true Q0
       have q526 : (ji3) < (x0_1.length : Int) := of_decide_eq_true Q0
       obtain ⟨ad526, e526, hx526_0⟩ := Kd.at_int (Kd.V_reads' Oq5.out).2.2 (ji3) p526 q526
       cases e526
       replace p526 := eq_true p526
       replace q526 := eq_true q526
       go_wp2
       go_ret
       exact ⟨_, Q34, by (with_reducible repeat (first | apply Kd.V_alloc | apply Kd.V_drewN | apply Kd.V_drew)); exact Oq5.out, qb⟩
     ·
      rw [if_neg c5] at H
      exact absurd H (by simp)
    ·
     rw [if_neg c4] at H
     exact absurd H (by simp)
   ·
    rw [if_neg c2] at H
    have c2b0 : decide (0 < (x0_1.length : Int)) = false := decide_eq_false c2
    have c2b1 : decide (0 < x0_1.length) = false := decide_eq_false (by omega)
    clear c2
    obtain rfl := Option.some.inj H
    obtain ⟨Ao12, co12, eo12⟩ := Kd.V_slice Oq5.out
    subst eo12
    go_wp2
    go_ret
    exact ⟨_, Q2, by (with_reducible repeat (first | apply Kd.V_alloc | apply Kd.V_drewN | apply Kd.V_drew)); exact Oq5.out, qb⟩

end Go.Proofs.Ytllhofdgbpnkkaa.PFnRookNumbersMultiply
