-- Printed for this claim by wip/pp.py over the kit's printer; Lean checks it.
import Derived.Test.YtllhofdgbpnkkaaPFnPlacementsListedx0
import Derived.Test.YtllhofdgbpnkkaaPFnPlacementsListedx1
import Derived.Test.YtllhofdgbpnkkaaPFnPlacementsListedx2
import Derived.Test.YtllhofdgbpnkkaaPFnPlacementsListedx7
import Derived.Test.YtllhofdgbpnkkaaPFnPlacementsListedx8
import Derived.Test.YtllhofdgbpnkkaaPFnPlacementsListedx10
import Derived.Test.YtllhofdgbpnkkaaPFnPlacementsListedx11
import Derived.Test.YtllhofdgbpnkkaaPFnPlacementsListedx12
import Derived.Test.YtllhofdgbpnkkaaPFnPlacementsListedx13
import Derived.Test.YtllhofdgbpnkkaaPFnPlacementsListedx14
import Derived.Test.YtllhofdgbpnkkaaPFnPlacementsListedx15
import Derived.Test.YtllhofdgbpnkkaaPFnPlacementsListedx60
namespace Go.Proofs.Ytllhofdgbpnkkaa.PFnPlacementsListed
open Go.RowKit Go.Proofs.YtllhofdgbpnkkaaW.PrintWords Go.Proofs.YtllhofdgbpnkkaaW.PrintLast Go.Proofs.YtllhofdgbpnkkaaW.PrintMore
attribute [local go_sem] max2_int min2_int max_two min_two max_three min_three max_four min_four   -- for this text's walks alone
set_option linter.unusedVariables false
set_option linter.unusedSimpArgs false
set_option maxHeartbeats 200000000 in
set_option maxRecDepth 100000 in
theorem laws_FnPlacementsListed.S1 : laws_FnPlacementsListed.S0.1 := by
 intro k A0 c0 l0 A1 c1 l1 w hu26 HR0 HC0 HR1 HC1 t523 t524 t525 t528 t529 t531 t534 t538 y0_452 nd gb530 GW530 GE530 Ao12 co12 v532 v536 kj7 HJ7 t542 t545 t550 t554 gb546 GW546 GE546 Nq0 Nq3 bq3 cq3 Ao29 co29 v548 v552 y0_222 Oq21 Oq18 BK530 HB kj23 HJ23 y0_1 ka_0_0 wc u4 u18 u19 u20 u21 u22 u23 u24 u44 u45 u46 u47 u48 u49 u50 u51 u52 u53 u54 u55 u56 u57 u58 u59 u60 u61 u62 u63 u64 u65 u66 u67 u68 u69 u70 u71 u72 u73 u74 u75 u76 u77 u78 u79 u80 u81 u82 u83 u84 u85 u86 u87 u88 u89 u90 u91 u92 u93 u94 u95 u96 u97 u98 u99 u100 u101 u102 u103 u104 u105 u106 u107 u108 u109 u110 u111 u112 u113 u114 u115 u116 u117 u118 u119 u120 u121 u122 u123 u124 u125 u126 u127 u128 u129 u130 u131 u132 u133 u134 u135 u136 u137 u138 u139 u140 u141 u142 u143 u144 u145 u146 u147 u148 u149 u150 u151 u152 u153 u154 u155 u156 u157 u158 u159 u160 u161 u162 u163 u164 u165 u166 u167 u168 u169 u170 u171 u172 u173 u174 u175 u176 u177 u178 u179 u180 u181 u182 u183 u184 u185 u186 u187 u188 u189 u190 u191 u192 u193 u194 u195 u196 u197 u198 u199 u200 u201 u202 u203 u204 u205 u206 u207 u208 u209 u210 u211 u212 u213 u214 u215 u216 u217 u218 u219 u220 u221 u222 u223 u224 u225 u226 u227 u228 u229 u230 u231 u232 u233 u234 u235 u236 u237 u238 u239 u240 u241 u242 u243 u244 u245 u246 u247 u248 u249 u250 u251 u252 u253 u254 u255 u256 u257 u258 u259 u260 u261 u262 u263 u264 u265 u266 u267 hcut
 obtain ⟨kq, HA, HJ37, Oq21, Oq18, BK530, HB⟩ := hcut
 cases kq with
 | zero => exact absurd HA.out (by simp [laws_FnPlacementsListed.j5])
 | succ kj37 =>
  have H := HA.out
  clear HA
  simp only [laws_FnPlacementsListed.j5] at H
  replace H := qE H
  obtain ⟨⟨t567, t568, t569, t572⟩, A73, H⟩ := H
  replace H : ((impl_TurnPlacement.f kj37 t567 t568 t569 t572).bind fun bt576 => ((spec_TurnPlacement.f kj37 t567 t568 t569 t572).bind fun bt580 => (if (bt576.2 != bt580.2) = true then (laws_FnPlacementsListed.j6 kj37 l0 t528 t529 t531 t538 t572 bt576.1 bt576.2 true t523 t524 t525 t567 t568 t569) else ((laws_rSame.f kj37 bt576.1 bt580.1).bind fun t584 => (if t584 = true then ((laws_rPlaced.f kj37 t567 t568 t569 t572).bind fun t585 => (laws_FnPlacementsListed.j6 kj37 l0 t528 t529 t531 t538 t572 bt576.1 bt576.2 (bt576.2 != t585) t523 t524 t525 t567 t568 t569)) else (laws_FnPlacementsListed.j6 kj37 l0 t528 t529 t531 t538 t572 bt576.1 bt576.2 true t523 t524 t525 t567 t568 t569)))))) = some true := H
  replace H := qE H
  obtain ⟨⟨t576, t579⟩, A74, H⟩ := H
  replace H : ((spec_TurnPlacement.f kj37 t567 t568 t569 t572).bind fun bt580 => (if (t579 != bt580.2) = true then (laws_FnPlacementsListed.j6 kj37 l0 t528 t529 t531 t538 t572 t576 t579 true t523 t524 t525 t567 t568 t569) else ((laws_rSame.f kj37 t576 bt580.1).bind fun t584 => (if t584 = true then ((laws_rPlaced.f kj37 t567 t568 t569 t572).bind fun t585 => (laws_FnPlacementsListed.j6 kj37 l0 t528 t529 t531 t538 t572 t576 t579 (t579 != t585) t523 t524 t525 t567 t568 t569)) else (laws_FnPlacementsListed.j6 kj37 l0 t528 t529 t531 t538 t572 t576 t579 true t523 t524 t525 t567 t568 t569))))) = some true := H
  replace H := qE H
  obtain ⟨⟨t580, t583⟩, A75, H⟩ := H
  replace H : (if (t579 != t583) = true then (laws_FnPlacementsListed.j6 kj37 l0 t528 t529 t531 t538 t572 t576 t579 true t523 t524 t525 t567 t568 t569) else ((laws_rSame.f kj37 t576 t580).bind fun t584 => (if t584 = true then ((laws_rPlaced.f kj37 t567 t568 t569 t572).bind fun t585 => (laws_FnPlacementsListed.j6 kj37 l0 t528 t529 t531 t538 t572 t576 t579 (t579 != t585) t523 t524 t525 t567 t568 t569)) else (laws_FnPlacementsListed.j6 kj37 l0 t528 t529 t531 t538 t572 t576 t579 true t523 t524 t525 t567 t568 t569)))) = some true := H
  have HC76 := Aside0.mk H
  clear H
  go_upto_region 30 with (first | ((with_reducible refine gate_callee (f := 46) rfl ?_); refine qg (some 166) Try.func46 #[.slice A1 l1.length c1] ?_; (with_reducible refine (spec_DrawTurnPlacement.calls kj37 _ _ l1 t567 t568 t569 t572 _ ?side1 HC1.out A73.out).mono ?_); (case side1 => exact Q10); rintro e w77 ⟨v570, v573, rfl, ho0, ho1, hb⟩; refine ⟨_, rfl, ?_⟩; have Oq7 := am (Kd.R_lower (Kd.R_new' (Kd.R_new' ho0 (sqL Oq21)) (sqL Oq18)) (below_size qb)); have Oq8 := am (Kd.R_lower (Kd.R_new' (Kd.R_new' ho1 (sqL Oq21)) (sqL Oq18)) (below_size qb)); replace BK530 := sqB BK530 hb; replace Oq21 := am (Kd.R_mono (Kd.R_told (Kd.R_told (Kd.R_old (sqr Oq21) hb) (Kd.R_base ho0)) (Kd.R_base ho1)) (fun _ h_ => h_.1)); replace Oq18 := am (Kd.R_mono (Kd.R_told (Kd.R_told (Kd.R_old (sqr Oq18) hb) (Kd.R_base ho0)) (Kd.R_base ho1)) (fun _ h_ => h_.1)); replace HB := qs hb; (try clear hb ho0 ho1)) | ((with_reducible refine gate_dst (N := 25) rfl ?_); (try (refine gate_guard (by rfl) ?_; dsimp only)); refine qv 25 #[.int .i64 0, .int .i64 0, .slice none 0 0] 26 ?_; intro gb575 hg w78 hbox hb; have BK575 := am hbox; have GW575 := qw hg; have GE575 := qw hg; have Nq1 := qn hg BK530; have Nq4 := qN hg BK530; replace Oq21 := sqR Oq21 hb; replace Oq18 := sqR Oq18 hb; replace Oq7 := sqR Oq7 hb; replace Oq8 := sqR Oq8 hb; replace BK530 := sqB BK530 hb; replace HB := qs hb; clear hb hbox hg; have bq7 := Nq4.out; have cq7 := Nq1.out; obtain ⟨zq30, zq31, zq32, fq30, fq31, fq32⟩ := qd BK575; obtain ⟨Ao81, co81, eo81⟩ := Kd.R_slice Oq7.out; subst eo81; obtain ⟨Ao82, co82, eo82⟩ := Kd.R_slice Oq8.out; subst eo82) | ((with_reducible refine gate_callee (f := 47) rfl ?_); refine qg (some 172) Try.func47 #[.agg #[.int .i64 t567, .int .i64 t568, .slice Ao81 t569.length co81], .slice Ao82 t572.length co82] ?_; (with_reducible refine (impl_TurnPlacement.calls kj37 t567 t568 _ _ t569 _ _ t572 t576 t579 _ ?side1 ?side2 ?side3 ?side4 A74.out).mono ?_); (case side1 => refine (Kd.R_reads' (e := 3) (base := w.heap.size) (ok := fun k_ => ((some k_ ≠ (.slice Ao82 t572.length co82 : Value).ownBlock ∧ some k_ ≠ (v532 : Value).ownBlock) ∧ some k_ ≠ (.slice Ao12 t525.length co12 : Value).ownBlock)) (n := t569.length) (c := co81) ?_).2.2; exact (sqw (Kd.R_mono (sqo Oq7 BK575) qh))); (case side2 => exact (Kd.R_reads' Oq7.out).2.1); (case side3 => refine (Kd.R_reads' (e := 3) (base := w.heap.size) (ok := fun k_ => ((some k_ ≠ (.slice Ao81 t569.length co81 : Value).ownBlock ∧ some k_ ≠ (v532 : Value).ownBlock) ∧ some k_ ≠ (.slice Ao12 t525.length co12 : Value).ownBlock)) (n := t572.length) (c := co82) ?_).2.2; exact (sqw (Kd.R_mono (sqo Oq8 BK575) qh))); (case side4 => exact (Kd.R_reads' Oq8.out).2.1); rintro e w83 ⟨v577, rfl, ho0, hb⟩; refine ⟨_, rfl, ?_⟩; have Oq9 := am (Kd.R_lower (Kd.R_new' (Kd.R_new' (Kd.R_new' (Kd.R_new' ho0 (sqv (sqo Oq21 BK575))) (sqv (sqo Oq18 BK575))) (sqv (sqo Oq7 BK575))) (sqv (sqo Oq8 BK575))) (below_size qb)); replace Oq21 := qe (sqw (sqo Oq21 BK575)) ho0 hb; replace Oq18 := qe (sqw (sqo Oq18 BK575)) ho0 hb; replace Oq7 := qe (sqw (sqo Oq7 BK575)) ho0 hb; replace Oq8 := qe (sqw (sqo Oq8 BK575)) ho0 hb; replace BK530 := sqBf BK530 Nq1 (.int .i64 t567) (.int .i64 t568) (.slice Ao81 t569.length co81) hb; replace BK575 := sqBp BK575 (.int .i64 t567) (.int .i64 t568) (.slice Ao81 t569.length co81) hb; replace HB := qs hb; (try clear hb ho0); obtain ⟨zq33, zq34, zq35, fq33, fq34, fq35⟩ := qd BK575) | ((with_reducible refine gate_callee (f := 48) rfl ?_); refine qg (some 178) Try.func48 #[.agg #[.int .i64 t567, .int .i64 t568, .slice Ao81 t569.length co81], .slice Ao82 t572.length co82] ?_; (with_reducible refine (spec_TurnPlacement.calls kj37 t567 t568 _ _ t569 _ _ t572 t580 t583 _ ?side1 ?side2 ?side3 ?side4 A75.out).mono ?_); (case side1 => repeat (first | exact (Kd.R_reads' Oq7.out).2.2 | (with_reducible first | refine Kd.C_alloc ?_ _ | refine Kd.C_drewN ?_ _ | refine Kd.C_drew ?_))); (case side2 => exact (Kd.R_reads' Oq7.out).2.1); (case side3 => repeat (first | exact (Kd.R_reads' Oq8.out).2.2 | (with_reducible first | refine Kd.C_alloc ?_ _ | refine Kd.C_drewN ?_ _ | refine Kd.C_drew ?_))); (case side4 => exact (Kd.R_reads' Oq8.out).2.1); rintro e w85 ⟨v581, rfl, ho0, hb⟩; refine ⟨_, rfl, ?_⟩; have Oq10 := am (Kd.R_lower (Kd.R_new' (Kd.R_new' (Kd.R_new' (Kd.R_new' (Kd.R_new' ho0 (sqL Oq21)) (sqL Oq18)) (sqL Oq7)) (sqL Oq8)) (sqL Oq9)) (below_size qb)); replace Oq21 := sqE Oq21 ho0 hb; replace Oq18 := sqE Oq18 ho0 hb; replace Oq7 := sqE Oq7 ho0 hb; replace Oq8 := sqE Oq8 ho0 hb; replace Oq9 := sqE Oq9 ho0 hb; replace BK530 := sqB BK530 hb; replace BK575 := sqB BK575 hb; replace HB := qs hb; (try clear hb ho0)))
  (try simp only [Act.put, List.setIfInBounds_toArray, List.set_cons_zero, List.set_cons_succ])
  go_cut [196] (fun v196 wc => ∃ (kq : Nat) (x196_75 : Bool), v196 = .bool x196_75 ∧ Aside0 (laws_FnPlacementsListed.j6 kq l0 t528 t529 t531 t538 t572 t576 t579 x196_75 t523 t524 t525 t567 t568 t569 = some true) ∧ Aside0 (kq ≤ kj37) ∧ Aside0 (Kd.R (Kd.int .i64) 3 wc w.heap.size (fun k_ => some k_ ≠ ((.slice Ao82 t572.length co82) : Value).ownBlock ∧ some k_ ≠ (v577 : Value).ownBlock ∧ some k_ ≠ ((.slice Ao12 t525.length co12) : Value).ownBlock ∧ some k_ ≠ ((.slice Ao81 t569.length co81) : Value).ownBlock) v532 t531) ∧ Aside0 (Kd.R (Kd.int .i64) 3 wc w.heap.size (fun k_ => some k_ ≠ (v532 : Value).ownBlock ∧ some k_ ≠ (v577 : Value).ownBlock ∧ some k_ ≠ ((.slice Ao12 t525.length co12) : Value).ownBlock ∧ some k_ ≠ ((.slice Ao81 t569.length co81) : Value).ownBlock) (.slice Ao82 t572.length co82) t572) ∧ Aside0 (Kd.R (Kd.int .i64) 3 wc w.heap.size (fun k_ => some k_ ≠ (v532 : Value).ownBlock ∧ some k_ ≠ ((.slice Ao82 t572.length co82) : Value).ownBlock ∧ some k_ ≠ ((.slice Ao12 t525.length co12) : Value).ownBlock ∧ some k_ ≠ ((.slice Ao81 t569.length co81) : Value).ownBlock) v577 t576) ∧ Aside0 (Kd.R (Kd.int .i64) 3 wc w.heap.size (fun k_ => some k_ ≠ (v532 : Value).ownBlock ∧ some k_ ≠ ((.slice Ao82 t572.length co82) : Value).ownBlock ∧ some k_ ≠ (v577 : Value).ownBlock ∧ some k_ ≠ ((.slice Ao81 t569.length co81) : Value).ownBlock) (.slice Ao12 t525.length co12) t525) ∧ Aside0 (Kd.R (Kd.int .i64) 3 wc w.heap.size (fun k_ => some k_ ≠ (v532 : Value).ownBlock ∧ some k_ ≠ ((.slice Ao82 t572.length co82) : Value).ownBlock ∧ some k_ ≠ (v577 : Value).ownBlock ∧ some k_ ≠ ((.slice Ao12 t525.length co12) : Value).ownBlock) (.slice Ao81 t569.length co81) t569) ∧ Aside0 (wc.heap[gb530]? = some (.cells #[.int .i64 t523, .int .i64 t524, (.slice Ao12 t525.length co12)] 26 (0, 0))) ∧ Aside0 (wc.heap[gb575]? = some (.cells #[.int .i64 t567, .int .i64 t568, (.slice Ao81 t569.length co81)] 26 (0, 0))) ∧ Aside0 (Below w.heap.size w wc))
  case first =>
   refine ?zq0
   let rec q0 : type_of% ?zq0 := by
     have H := HC76.out
     clear HC76
     by_cases c86 : (t579 != t583) = true
     ·
      rw [if_pos c86] at H
      have c86b0 : (t579 != t583) = true := c86
      (try (have c86b1 : decide (t579 = t583) = false := by simpa using c86))
      (try (have c86b2 : (t579 == t583) = false := by simpa using c86))
      (try (have c86b3 : ¬ (t579 = t583) := by simpa using c86))
      clear c86
      (first | rw [c86b0] | (simp only [i64_w, i32_w]; rw [c86b0]) | rw [c86b1] | skip)
      exact absurd H (laws_FnPlacementsListed.j6_no _ _ _ _ _ _ _ _ _ _ _ _ _ _ _)
     ·
      rw [if_neg c86] at H
      have c86b0 : (t579 != t583) = false := by simpa using c86
      (try (have c86b1 : decide (t579 = t583) = true := by simpa using c86))
      (try (have c86b2 : (t579 == t583) = true := by simpa using c86))
      clear c86
      (first | rw [c86b0] | (simp only [i64_w, i32_w]; rw [c86b0]) | rw [c86b1] | skip)
      replace H := qE H
      obtain ⟨t584, A87, H⟩ := H
      replace H : (if t584 = true then ((laws_rPlaced.f kj37 t567 t568 t569 t572).bind fun t585 => (laws_FnPlacementsListed.j6 kj37 l0 t528 t529 t531 t538 t572 t576 t579 (t579 != t585) t523 t524 t525 t567 t568 t569)) else (laws_FnPlacementsListed.j6 kj37 l0 t528 t529 t531 t538 t572 t576 t579 true t523 t524 t525 t567 t568 t569)) = some true := H
      by_cases c88 : t584 = true
      ·
       subst c88
       have H1 : ((laws_rPlaced.f kj37 t567 t568 t569 t572).bind fun t585 => (laws_FnPlacementsListed.j6 kj37 l0 t528 t529 t531 t538 t572 t576 t579 (t579 != t585) t523 t524 t525 t567 t568 t569)) = some true := by first | (rw [if_pos rfl] at H; exact H) | rfl
       clear H
       have H := H1
       clear H1
       replace H := qE H
       obtain ⟨t585, A89, H⟩ := H
       replace H : (laws_FnPlacementsListed.j6 kj37 l0 t528 t529 t531 t538 t572 t576 t579 (t579 != t585) t523 t524 t525 t567 t568 t569) = some true := H
       have H' := Aside0.mk H
       clear H
       obtain ⟨Ao90, co90, eo90⟩ := Kd.R_slice Oq9.out
       subst eo90
       obtain ⟨Ao91, co91, eo91⟩ := Kd.R_slice Oq10.out
       subst eo91
       go_wp2_with (first | (go_at_call 25; (with_reducible refine (laws_rSame.calls kj37 _ _ t576 _ _ t580 true _ ?side1 ?side2 ?side3 ?side4 A87.out).mono ?_); (case side1 => repeat (first | exact (Kd.R_reads' Oq9.out).2.2 | (with_reducible first | refine Kd.C_alloc ?_ _ | refine Kd.C_drewN ?_ _ | refine Kd.C_drew ?_))); (case side2 => exact (Kd.R_reads' Oq9.out).2.1); (case side3 => repeat (first | exact (Kd.R_reads' Oq10.out).2.2 | (with_reducible first | refine Kd.C_alloc ?_ _ | refine Kd.C_drewN ?_ _ | refine Kd.C_drew ?_))); (case side4 => exact (Kd.R_reads' Oq10.out).2.1); rintro e w' ⟨rfl, ⟨nd, rfl⟩⟩; have bq8 := Nq4.out; have cq8 := Nq1.out; obtain ⟨zq36, zq37, zq38, fq36, fq37, fq38⟩ := qd BK575) | (go_at_call 44; (with_reducible refine (laws_rPlaced.calls kj37 t567 t568 _ _ t569 _ _ t572 t585 _ ?side1 ?side2 ?side3 ?side4 A89.out).mono ?_); (case side1 => repeat (first | exact (Kd.R_reads' Oq7.out).2.2 | (with_reducible first | refine Kd.C_alloc ?_ _ | refine Kd.C_drewN ?_ _ | refine Kd.C_drew ?_))); (case side2 => exact (Kd.R_reads' Oq7.out).2.1); (case side3 => repeat (first | exact (Kd.R_reads' Oq8.out).2.2 | (with_reducible first | refine Kd.C_alloc ?_ _ | refine Kd.C_drewN ?_ _ | refine Kd.C_drew ?_))); (case side4 => exact (Kd.R_reads' Oq8.out).2.1); rintro e w94 ⟨rfl, hb⟩; replace Oq21 := sqR Oq21 hb; replace Oq18 := sqR Oq18 hb; replace Oq7 := sqR Oq7 hb; replace Oq8 := sqR Oq8 hb; replace Oq9 := sqR Oq9 hb; replace Oq10 := sqR Oq10 hb; replace BK530 := sqB BK530 hb; replace BK575 := sqB BK575 hb; replace HB := qs hb; (try clear hb)))
       go_meet
       case rel => exact ⟨_, ((t579 != t585)), Q3, H', ⟨by have := HJ7.out; have := HJ23.out; have := HJ37.out; first | omega | exact Nat.le_refl _⟩, ⟨by exact sqm Oq21 (fun _ hk => by first | exact ⟨hk.1.1.2, ⟨hk.1.2, ⟨hk.1.1.1.1, hk.1.1.1.2⟩⟩⟩ | (and_intros <;> first | trivial | simp only [hk, ne_eq, not_false_eq_true]))⟩, ⟨by exact sqm Oq8 (fun _ hk => by first | exact ⟨hk.1.1.1.2, ⟨hk.1.2, ⟨hk.1.1.2, hk.1.1.1.1⟩⟩⟩ | (and_intros <;> first | trivial | simp only [hk, ne_eq, not_false_eq_true]))⟩, ⟨by exact sqm Oq9 (fun _ hk => by first | exact ⟨hk.1.1.1.1.2, ⟨hk.1.2, ⟨hk.1.1.1.2, hk.1.1.2⟩⟩⟩ | (and_intros <;> first | trivial | simp only [hk, ne_eq, not_false_eq_true]))⟩, ⟨by exact sqm Oq18 (fun _ hk => by first | exact ⟨hk.1.1.1.1, ⟨hk.1.1.2, ⟨hk.1.2, hk.1.1.1.2⟩⟩⟩ | (and_intros <;> first | trivial | simp only [hk, ne_eq, not_false_eq_true]))⟩, ⟨by exact sqm Oq7 (fun _ hk => by first | exact ⟨hk.1.1.1.2, ⟨hk.1.1.1.1, ⟨hk.1.2, hk.1.1.2⟩⟩⟩ | (and_intros <;> first | trivial | simp only [hk, ne_eq, not_false_eq_true]))⟩, ⟨Q11⟩, ⟨by (with_reducible repeat (first | refine blk_drewN ?_ _ | refine blk_drew ?_ | refine blk_alloc ?_ _)); exact BK575.out⟩, ⟨qb⟩⟩
      ·
       replace c88 := Bool.eq_false_iff.mpr c88
       subst c88
       have H1 : (laws_FnPlacementsListed.j6 kj37 l0 t528 t529 t531 t538 t572 t576 t579 true t523 t524 t525 t567 t568 t569) = some true := by first | (rw [if_neg (show ¬ (false = true) by decide)] at H; exact H) | rfl
       clear H
       have H := H1
       clear H1
       exact absurd H (laws_FnPlacementsListed.j6_no _ _ _ _ _ _ _ _ _ _ _ _ _ _ _)
   exact q0
  case rest =>
   refine ?zq1
   let rec q1 : type_of% ?zq1 := by
     clear HC76
     try clear c4; try clear c16; try clear c16b0; try clear c16b1; try clear c16b2; try clear c20; try clear c33; try clear c33b0; try clear c33b1; try clear c33b2; try clear c37; try clear c39; try clear c46; try clear c46b0; try clear c47; try clear c47b0; try clear c49; try clear c51; try clear c53; try clear c53b0; try clear c54; try clear c54b0; try clear c55; try clear c55b0; try clear c58; try clear c59; try clear c60; try clear c60b0; try clear c60b1; try clear c61; try clear c61b0; try clear c63; try clear c63b0; try clear c64; try clear c64b0; try clear c66; try clear c86; try clear c86b0; try clear c86b1; try clear c86b2; try clear c88; try clear zq6; try clear zq7; try clear zq8; try clear zq12; try clear zq13; try clear zq14; try clear zq15; try clear zq16; try clear zq17; try clear zq18; try clear zq19; try clear zq20; try clear zq21; try clear zq22; try clear zq23; try clear zq24; try clear zq25; try clear zq26; try clear zq27; try clear zq28; try clear zq29; try clear zq30; try clear zq31; try clear zq32; try clear zq33; try clear zq34; try clear zq35; try clear zq36; try clear zq37; try clear zq38; try clear fq6; try clear fq7; try clear fq8; try clear fq12; try clear fq13; try clear fq14; try clear fq15; try clear fq16; try clear fq17; try clear fq18; try clear fq19; try clear fq20; try clear fq21; try clear fq22; try clear fq23; try clear fq24; try clear fq25; try clear fq26; try clear fq27; try clear fq28; try clear fq29; try clear fq30; try clear fq31; try clear fq32; try clear fq33; try clear fq34; try clear fq35; try clear fq36; try clear fq37; try clear fq38; try clear hx560_0; try clear hx561_0; try clear hx565_0; try clear p560; try clear p561; try clear p565; try clear q560; try clear q561; try clear q565
     obtain ⟨kq, x196_75, rfl, HA, HJ75, Oq21, Oq16, Oq17, Oq18, Oq20, BK530, BK575, HB⟩ := hcut
     cases kq with
     | zero => exact absurd HA.out (by simp [laws_FnPlacementsListed.j6])
     | succ kj75 =>
      have H := HA.out
      clear HA
      simp only [laws_FnPlacementsListed.j6] at H
      by_cases c95 : x196_75 = true
      ·
       subst c95
       have H1 : (some false) = some true := by first | (rw [if_pos rfl] at H; exact H) | rfl
       clear H
       have H := H1
       clear H1
       exact absurd (Option.some.inj H) (by decide)
      ·
       replace c95 := Bool.eq_false_iff.mpr c95
       subst c95
       have H1 : (if t579 = true then ((impl_TurnBoard.f kj75 t567 t568 t569).bind fun bt586 => ((impl_TurnPlacement.f kj75 bt586.1 bt586.2.1 bt586.2.2.1 t576).bind fun bt593 => (if bt586.2.2.2 = true then (if bt593.2 = true then ((laws_rSame.f kj75 bt593.1 t572).bind fun t597 => (if t597 = true then (laws_FnPlacementsListed.j7 kj75 l0 t528 t529 t531 t538 t523 t524 t525) else (some false))) else (some false)) else (some false)))) else (laws_FnPlacementsListed.j7 kj75 l0 t528 t529 t531 t538 t523 t524 t525)) = some true := by first | (rw [if_neg (show ¬ (false = true) by decide)] at H; exact H) | rfl
       clear H
       have H := H1
       clear H1
       have HC96 := Aside0.mk H
       clear H
       go_upto_if 197 with (fail)
       go_cut [] (fun wc => ∃ (kq : Nat), Aside0 (laws_FnPlacementsListed.j7 kq l0 t528 t529 t531 t538 t523 t524 t525 = some true) ∧ Aside0 (kq ≤ kj75) ∧ Aside0 (Kd.R (Kd.int .i64) 3 wc w.heap.size (fun k_ => some k_ ≠ ((.slice Ao12 t525.length co12) : Value).ownBlock) v532 t531) ∧ Aside0 (Kd.R (Kd.int .i64) 3 wc w.heap.size (fun k_ => some k_ ≠ (v532 : Value).ownBlock) (.slice Ao12 t525.length co12) t525) ∧ Aside0 (wc.heap[gb530]? = some (.cells #[.int .i64 t523, .int .i64 t524, (.slice Ao12 t525.length co12)] 26 (0, 0))) ∧ Aside0 (Below w.heap.size w wc))
       case first =>
        refine ?zq2
        let rec q2 : type_of% ?zq2 := by
          have H := HC96.out
          clear HC96
          by_cases c97 : t579 = true
          ·
           subst c97
           have H1 : ((impl_TurnBoard.f kj75 t567 t568 t569).bind fun bt586 => ((impl_TurnPlacement.f kj75 bt586.1 bt586.2.1 bt586.2.2.1 t576).bind fun bt593 => (if bt586.2.2.2 = true then (if bt593.2 = true then ((laws_rSame.f kj75 bt593.1 t572).bind fun t597 => (if t597 = true then (laws_FnPlacementsListed.j7 kj75 l0 t528 t529 t531 t538 t523 t524 t525) else (some false))) else (some false)) else (some false)))) = some true := by first | (rw [if_pos rfl] at H; exact H) | rfl
           clear H
           have H := H1
           clear H1
           replace H := qE H
           obtain ⟨⟨t586, t587, t588, t591⟩, A98, H⟩ := H
           replace H : ((impl_TurnPlacement.f kj75 t586 t587 t588 t576).bind fun bt593 => (if t591 = true then (if bt593.2 = true then ((laws_rSame.f kj75 bt593.1 t572).bind fun t597 => (if t597 = true then (laws_FnPlacementsListed.j7 kj75 l0 t528 t529 t531 t538 t523 t524 t525) else (some false))) else (some false)) else (some false))) = some true := H
           replace H := qE H
           obtain ⟨⟨t593, t596⟩, A99, H⟩ := H
           replace H : (if t591 = true then (if t596 = true then ((laws_rSame.f kj75 t593 t572).bind fun t597 => (if t597 = true then (laws_FnPlacementsListed.j7 kj75 l0 t528 t529 t531 t538 t523 t524 t525) else (some false))) else (some false)) else (some false)) = some true := H
           by_cases c100 : t591 = true
           ·
            subst c100
            have H1 : (if t596 = true then ((laws_rSame.f kj75 t593 t572).bind fun t597 => (if t597 = true then (laws_FnPlacementsListed.j7 kj75 l0 t528 t529 t531 t538 t523 t524 t525) else (some false))) else (some false)) = some true := by first | (rw [if_pos rfl] at H; exact H) | rfl
            clear H
            have H := H1
            clear H1
            by_cases c101 : t596 = true
            ·
             subst c101
             have H1 : ((laws_rSame.f kj75 t593 t572).bind fun t597 => (if t597 = true then (laws_FnPlacementsListed.j7 kj75 l0 t528 t529 t531 t538 t523 t524 t525) else (some false))) = some true := by first | (rw [if_pos rfl] at H; exact H) | rfl
             clear H
             have H := H1
             clear H1
             replace H := qE H
             obtain ⟨t597, A102, H⟩ := H
             replace H : (if t597 = true then (laws_FnPlacementsListed.j7 kj75 l0 t528 t529 t531 t538 t523 t524 t525) else (some false)) = some true := H
             by_cases c103 : t597 = true
             ·
              subst c103
              have H1 : (laws_FnPlacementsListed.j7 kj75 l0 t528 t529 t531 t538 t523 t524 t525) = some true := by first | (rw [if_pos rfl] at H; exact H) | rfl
              clear H
              have H := H1
              clear H1
              have H' := Aside0.mk H
              clear H
              have bq0 := Nq4.out
              have cq0 := Nq1.out
              obtain ⟨zq0, zq1, zq2, fq0, fq1, fq2⟩ := qd BK575
              go_wp2_with (first | ((with_reducible refine gate_callee (f := 49) rfl ?_); refine qg (some 200) Try.func49 #[.agg #[.int .i64 t567, .int .i64 t568, .slice Ao81 t569.length co81]] ?_; (with_reducible refine (impl_TurnBoard.calls kj75 t567 t568 _ _ t569 t586 t587 t588 true _ ?side1 ?side2 A98.out).mono ?_); (case side1 => repeat (first | exact (Kd.R_reads' Oq20.out).2.2 | (with_reducible first | refine Kd.C_alloc ?_ _ | refine Kd.C_drewN ?_ _ | refine Kd.C_drew ?_))); (case side2 => exact (Kd.R_reads' Oq20.out).2.1); rintro e w106 ⟨v589, rfl, ho0, hb⟩; refine ⟨_, rfl, ?_⟩; have Oq11 := am (Kd.R_lower (Kd.R_new' (Kd.R_new' (Kd.R_new' (Kd.R_new' (Kd.R_new' ho0 (sqL Oq21)) (sqL Oq16)) (sqL Oq17)) (sqL Oq18)) (sqL Oq20)) (below_size qb)); replace Oq21 := sqE Oq21 ho0 hb; replace Oq16 := sqE Oq16 ho0 hb; replace Oq17 := sqE Oq17 ho0 hb; replace Oq18 := sqE Oq18 ho0 hb; replace Oq20 := sqE Oq20 ho0 hb; replace BK530 := sqB BK530 hb; replace BK575 := sqB BK575 hb; replace HB := qs hb; (try clear hb ho0)) | ((with_reducible refine gate_dst (N := 31) rfl ?_); (try (refine gate_guard (by rfl) ?_; dsimp only)); refine qv 31 #[.int .i64 0, .int .i64 0, .slice none 0 0] 26 ?_; intro gb592 hg w107 hbox hb; have BK592 := am hbox; have GW592 := qw hg; have GE592 := qw hg; have Nq2 := qn hg BK530; have Nq6 := qN hg BK530; have Nq5 := qn hg BK575; have Nq7 := qN hg BK575; replace Oq21 := sqR Oq21 hb; replace Oq16 := sqR Oq16 hb; replace Oq17 := sqR Oq17 hb; replace Oq18 := sqR Oq18 hb; replace Oq20 := sqR Oq20 hb; replace Oq11 := sqR Oq11 hb; replace BK530 := sqB BK530 hb; replace BK575 := sqB BK575 hb; replace HB := qs hb; clear hb hbox hg; have bq1 := Nq6.out; have cq1 := Nq2.out; have bq2 := Nq7.out; have cq2 := Nq5.out; obtain ⟨zq3, zq4, zq5, fq3, fq4, fq5⟩ := qd BK592; obtain ⟨Ao111, co111, eo111⟩ := Kd.R_slice Oq11.out; subst eo111; obtain ⟨Ao112, co112, eo112⟩ := Kd.R_slice Oq17.out; subst eo112) | ((with_reducible refine gate_callee (f := 47) rfl ?_); refine qg (some 206) Try.func47 #[.agg #[.int .i64 t586, .int .i64 t587, .slice Ao111 t588.length co111], .slice Ao112 t576.length co112] ?_; (with_reducible refine (impl_TurnPlacement.calls kj75 t586 t587 _ _ t588 _ _ t576 t593 true _ ?side1 ?side2 ?side3 ?side4 A99.out).mono ?_); (case side1 => refine (Kd.R_reads' (e := 3) (base := w.heap.size) (ok := fun k_ => (((((True ∧ some k_ ≠ (v532 : Value).ownBlock) ∧ some k_ ≠ (.slice Ao82 t572.length co82 : Value).ownBlock) ∧ some k_ ≠ (.slice Ao112 t576.length co112 : Value).ownBlock) ∧ some k_ ≠ (.slice Ao12 t525.length co12 : Value).ownBlock) ∧ some k_ ≠ (.slice Ao81 t569.length co81 : Value).ownBlock)) (n := t588.length) (c := co111) ?_).2.2; exact (sqw (Kd.R_mono (sqo Oq11 BK592) qh))); (case side2 => exact (Kd.R_reads' Oq11.out).2.1); (case side3 => refine (Kd.R_reads' (e := 3) (base := w.heap.size) (ok := fun k_ => ((some k_ ≠ (v532 : Value).ownBlock ∧ (some k_ ≠ (.slice Ao82 t572.length co82 : Value).ownBlock ∧ (some k_ ≠ (.slice Ao12 t525.length co12 : Value).ownBlock ∧ some k_ ≠ (.slice Ao81 t569.length co81 : Value).ownBlock))) ∧ some k_ ≠ (.slice Ao111 t588.length co111 : Value).ownBlock)) (n := t576.length) (c := co112) ?_).2.2; exact (sqw (Kd.R_mono (sqo Oq17 BK592) qh))); (case side4 => exact (Kd.R_reads' Oq17.out).2.1); rintro e w113 ⟨v594, rfl, ho0, hb⟩; refine ⟨_, rfl, ?_⟩; have Oq12 := am (Kd.R_lower (Kd.R_new' (Kd.R_new' (Kd.R_new' (Kd.R_new' (Kd.R_new' (Kd.R_new' ho0 (sqv (sqo Oq21 BK592))) (sqv (sqo Oq16 BK592))) (sqv (sqo Oq17 BK592))) (sqv (sqo Oq18 BK592))) (sqv (sqo Oq20 BK592))) (sqv (sqo Oq11 BK592))) (below_size qb)); replace Oq21 := qe (sqw (sqo Oq21 BK592)) ho0 hb; replace Oq16 := qe (sqw (sqo Oq16 BK592)) ho0 hb; replace Oq17 := qe (sqw (sqo Oq17 BK592)) ho0 hb; replace Oq18 := qe (sqw (sqo Oq18 BK592)) ho0 hb; replace Oq20 := qe (sqw (sqo Oq20 BK592)) ho0 hb; replace Oq11 := qe (sqw (sqo Oq11 BK592)) ho0 hb; replace BK530 := sqBf BK530 Nq2 (.int .i64 t586) (.int .i64 t587) (.slice Ao111 t588.length co111) hb; replace BK575 := sqBf BK575 Nq5 (.int .i64 t586) (.int .i64 t587) (.slice Ao111 t588.length co111) hb; replace BK592 := sqBp BK592 (.int .i64 t586) (.int .i64 t587) (.slice Ao111 t588.length co111) hb; replace HB := qs hb; (try clear hb ho0); obtain ⟨Ao114, co114, eo114⟩ := Kd.R_slice Oq12.out; subst eo114) | (go_at_call 25; (with_reducible refine (laws_rSame.calls kj75 _ _ t593 _ _ t572 true _ ?side1 ?side2 ?side3 ?side4 A102.out).mono ?_); (case side1 => exact Q35); (case side2 => exact (Kd.R_reads' Oq12.out).2.1); (case side3 => repeat (first | exact (Kd.R_reads' Oq16.out).2.2 | (with_reducible first | refine Kd.C_alloc ?_ _ | refine Kd.C_drewN ?_ _ | refine Kd.C_drew ?_))); (case side4 => exact (Kd.R_reads' Oq16.out).2.1); rintro e w' ⟨rfl, ⟨nd, rfl⟩⟩))
              go_meet
              case rel => exact ⟨_, H', ⟨by have := HJ7.out; have := HJ23.out; have := HJ37.out; have := HJ75.out; first | omega | exact Nat.le_refl _⟩, ⟨by exact sqm Oq21 (fun _ hk => hk.1.1.2.2.1)⟩, ⟨by exact sqm Oq18 (fun _ hk => hk.1.1.1)⟩, ⟨Q11⟩, ⟨qb⟩⟩
             ·
              replace c103 := Bool.eq_false_iff.mpr c103
              subst c103
              have H1 : (some false) = some true := by first | (rw [if_neg (show ¬ (false = true) by decide)] at H; exact H) | rfl
              clear H
              have H := H1
              clear H1
              exact absurd (Option.some.inj H) (by decide)
            ·
             replace c101 := Bool.eq_false_iff.mpr c101
             subst c101
             have H1 : (some false) = some true := by first | (rw [if_neg (show ¬ (false = true) by decide)] at H; exact H) | rfl
             clear H
             have H := H1
             clear H1
             exact absurd (Option.some.inj H) (by decide)
           ·
            replace c100 := Bool.eq_false_iff.mpr c100
            subst c100
            have H1 : (some false) = some true := by first | (rw [if_neg (show ¬ (false = true) by decide)] at H; exact H) | rfl
            clear H
            have H := H1
            clear H1
            exact absurd (Option.some.inj H) (by decide)
          ·
           replace c97 := Bool.eq_false_iff.mpr c97
           subst c97
           have H1 : (laws_FnPlacementsListed.j7 kj75 l0 t528 t529 t531 t538 t523 t524 t525) = some true := by first | (rw [if_neg (show ¬ (false = true) by decide)] at H; exact H) | rfl
           clear H
           have H := H1
           clear H1
           have H' := Aside0.mk H
           clear H
           go_wp2
           go_meet
           case rel => exact ⟨_, H', ⟨by have := HJ7.out; have := HJ23.out; have := HJ37.out; have := HJ75.out; first | omega | exact Nat.le_refl _⟩, ⟨by exact sqm Oq21 (fun _ hk => hk.2.2.1)⟩, ⟨by exact sqm Oq18 (fun _ hk => hk.1)⟩, ⟨Q11⟩, ⟨qb⟩⟩
        exact q2
       case rest =>
        refine ?zq3
        let rec q3 : type_of% ?zq3 := by
          clear HC96
          try clear c4; try clear c16; try clear c16b0; try clear c16b1; try clear c16b2; try clear c20; try clear c33; try clear c33b0; try clear c33b1; try clear c33b2; try clear c37; try clear c39; try clear c46; try clear c46b0; try clear c47; try clear c47b0; try clear c49; try clear c51; try clear c53; try clear c53b0; try clear c54; try clear c54b0; try clear c55; try clear c55b0; try clear c58; try clear c59; try clear c60; try clear c60b0; try clear c60b1; try clear c61; try clear c61b0; try clear c63; try clear c63b0; try clear c64; try clear c64b0; try clear c66; try clear c86; try clear c86b0; try clear c86b1; try clear c86b2; try clear c88; try clear c95; try clear c97; try clear c100; try clear c101; try clear c103; try clear zq0; try clear zq1; try clear zq2; try clear zq3; try clear zq4; try clear zq5; try clear zq6; try clear zq7; try clear zq8; try clear zq12; try clear zq13; try clear zq14; try clear zq15; try clear zq16; try clear zq17; try clear zq18; try clear zq19; try clear zq20; try clear zq21; try clear zq22; try clear zq23; try clear zq24; try clear zq25; try clear zq26; try clear zq27; try clear zq28; try clear zq29; try clear zq30; try clear zq31; try clear zq32; try clear zq33; try clear zq34; try clear zq35; try clear zq36; try clear zq37; try clear zq38; try clear fq0; try clear fq1; try clear fq2; try clear fq3; try clear fq4; try clear fq5; try clear fq6; try clear fq7; try clear fq8; try clear fq12; try clear fq13; try clear fq14; try clear fq15; try clear fq16; try clear fq17; try clear fq18; try clear fq19; try clear fq20; try clear fq21; try clear fq22; try clear fq23; try clear fq24; try clear fq25; try clear fq26; try clear fq27; try clear fq28; try clear fq29; try clear fq30; try clear fq31; try clear fq32; try clear fq33; try clear fq34; try clear fq35; try clear fq36; try clear fq37; try clear fq38; try clear hx560_0; try clear hx561_0; try clear hx565_0; try clear p560; try clear p561; try clear p565; try clear q560; try clear q561; try clear q565
          obtain ⟨kq, HA, HJ95, Oq21, Oq18, BK530, HB⟩ := hcut
          cases kq with
          | zero => exact absurd HA.out (by simp [laws_FnPlacementsListed.j7])
          | succ kj95 =>
           have H := HA.out
           clear HA
           simp only [laws_FnPlacementsListed.j7] at H
           replace H := qE H
           obtain ⟨t598, A115, H⟩ := H
           replace H : ((impl_CountRooks.f t598).bind fun bt601 => ((spec_CountRooks.f kj95 t598).bind fun bt603 => (if (bt601.2 != bt603.2) = true then (laws_FnPlacementsListed.j8 kj95 t528 t529 t531 t538 true t523 t524 t525) else (laws_FnPlacementsListed.j8 kj95 t528 t529 t531 t538 (bt601.1 != bt603.1) t523 t524 t525)))) = some true := H
           replace H := qE H
           obtain ⟨⟨t601, t602⟩, A116, H⟩ := H
           replace H : ((spec_CountRooks.f kj95 t598).bind fun bt603 => (if (t602 != bt603.2) = true then (laws_FnPlacementsListed.j8 kj95 t528 t529 t531 t538 true t523 t524 t525) else (laws_FnPlacementsListed.j8 kj95 t528 t529 t531 t538 (t601 != bt603.1) t523 t524 t525))) = some true := H
           replace H := qE H
           obtain ⟨⟨t603, t604⟩, A117, H⟩ := H
           replace H : (if (t602 != t604) = true then (laws_FnPlacementsListed.j8 kj95 t528 t529 t531 t538 true t523 t524 t525) else (laws_FnPlacementsListed.j8 kj95 t528 t529 t531 t538 (t601 != t603) t523 t524 t525)) = some true := H
           have HC118 := Aside0.mk H
           clear H
           go_upto_region 40 with (first | ((with_reducible refine gate_callee (f := 50) rfl ?_); refine qg (some 222) Try.func50 #[.slice A0 l0.length c0] ?_; (with_reducible refine (spec_DrawCountRooks.calls kj95 _ _ l0 t598 _ ?side1 HC0.out A115.out).mono ?_); (case side1 => repeat (first | exact (Kd.C_below HR0.out HB.out) | (with_reducible first | refine Kd.C_alloc ?_ _ | refine Kd.C_drewN ?_ _ | refine Kd.C_drew ?_))); rintro e w119 ⟨v599, rfl, ho0, hb⟩; refine ⟨_, rfl, ?_⟩; have Oq13 := am (Kd.R_lower (Kd.R_new' (Kd.R_new' ho0 (sqL Oq21)) (sqL Oq18)) (below_size qb)); replace Oq21 := sqE Oq21 ho0 hb; replace Oq18 := sqE Oq18 ho0 hb; replace BK530 := sqB BK530 hb; replace HB := qs hb; (try clear hb ho0); obtain ⟨Ao120, co120, eo120⟩ := Kd.R_slice Oq13.out; subst eo120) | ((with_reducible refine gate_callee (f := 43) rfl ?_); refine qg (some 225) Try.func43 #[.slice Ao120 t598.length co120] ?_; (with_reducible refine (impl_CountRooks.calls _ _ t598 t601 t602 _ ?side1 ?side2 A116.out).mono ?_); (case side1 => exact Q36); (case side2 => exact (Kd.R_reads' Oq13.out).2.1); rintro e w' ⟨rfl, ⟨nd, rfl⟩⟩; refine ⟨_, rfl, ?_⟩) | ((with_reducible refine gate_callee (f := 51) rfl ?_); refine qg (some 230) Try.func51 #[.slice Ao120 t598.length co120] ?_; (with_reducible refine (spec_CountRooks.calls kj95 _ _ t598 t603 t604 _ ?side1 ?side2 A117.out).mono ?_); (case side1 => exact Q36); (case side2 => exact (Kd.R_reads' Oq13.out).2.1); rintro e w' ⟨rfl, ⟨nd, rfl⟩⟩; refine ⟨_, rfl, ?_⟩))
           (try simp only [Act.put, List.setIfInBounds_toArray, List.set_cons_zero, List.set_cons_succ])
           go_cut [240] (fun v240 wc => ∃ (kq : Nat) (x240_117 : Bool), v240 = .bool x240_117 ∧ Aside0 (laws_FnPlacementsListed.j8 kq t528 t529 t531 t538 x240_117 t523 t524 t525 = some true) ∧ Aside0 (kq ≤ kj95) ∧ Aside0 (Kd.R (Kd.int .i64) 3 wc w.heap.size (fun k_ => some k_ ≠ ((.slice Ao12 t525.length co12) : Value).ownBlock) v532 t531) ∧ Aside0 (Kd.R (Kd.int .i64) 3 wc w.heap.size (fun k_ => some k_ ≠ (v532 : Value).ownBlock) (.slice Ao12 t525.length co12) t525) ∧ Aside0 (wc.heap[gb530]? = some (.cells #[.int .i64 t523, .int .i64 t524, (.slice Ao12 t525.length co12)] 26 (0, 0))) ∧ Aside0 (Below w.heap.size w wc))
           case first =>
            refine ?zq4
            let rec q4 : type_of% ?zq4 := by
              have H := HC118.out
              clear HC118
              by_cases c121 : (t602 != t604) = true
              ·
               rw [if_pos c121] at H
               have c121b0 : (t602 != t604) = true := c121
               (try (have c121b1 : decide (t602 = t604) = false := by simpa using c121))
               (try (have c121b2 : (t602 == t604) = false := by simpa using c121))
               (try (have c121b3 : ¬ (t602 = t604) := by simpa using c121))
               clear c121
               (first | rw [c121b0] | (simp only [i64_w, i32_w]; rw [c121b0]) | rw [c121b1] | skip)
               exact absurd H (laws_FnPlacementsListed.j8_no _ _ _ _ _ _ _ _)
              ·
               rw [if_neg c121] at H
               have c121b0 : (t602 != t604) = false := by simpa using c121
               (try (have c121b1 : decide (t602 = t604) = true := by simpa using c121))
               (try (have c121b2 : (t602 == t604) = true := by simpa using c121))
               clear c121
               (first | rw [c121b0] | (simp only [i64_w, i32_w]; rw [c121b0]) | rw [c121b1] | skip)
               have H' := Aside0.mk H
               clear H
               go_wp2
               go_meet
               case rel => exact ⟨_, ((t601 != t603)), Q3, H', ⟨by have := HJ7.out; have := HJ23.out; have := HJ37.out; have := HJ75.out; have := HJ95.out; first | omega | exact Nat.le_refl _⟩, ⟨by exact sqm Oq21 (fun _ hk => hk.1)⟩, ⟨by exact sqm Oq18 (fun _ hk => hk.1)⟩, ⟨Q11⟩, ⟨qb⟩⟩
            exact q4
           case rest =>
            refine ?zq5
            let rec q5 : type_of% ?zq5 := by
              clear HC118
              try clear c4; try clear c16; try clear c16b0; try clear c16b1; try clear c16b2; try clear c20; try clear c33; try clear c33b0; try clear c33b1; try clear c33b2; try clear c37; try clear c39; try clear c46; try clear c46b0; try clear c47; try clear c47b0; try clear c49; try clear c51; try clear c53; try clear c53b0; try clear c54; try clear c54b0; try clear c55; try clear c55b0; try clear c58; try clear c59; try clear c60; try clear c60b0; try clear c60b1; try clear c61; try clear c61b0; try clear c63; try clear c63b0; try clear c64; try clear c64b0; try clear c66; try clear c86; try clear c86b0; try clear c86b1; try clear c86b2; try clear c88; try clear c95; try clear c97; try clear c100; try clear c101; try clear c103; try clear c121; try clear c121b0; try clear c121b1; try clear c121b2; try clear zq0; try clear zq1; try clear zq2; try clear zq3; try clear zq4; try clear zq5; try clear zq6; try clear zq7; try clear zq8; try clear zq12; try clear zq13; try clear zq14; try clear zq15; try clear zq16; try clear zq17; try clear zq18; try clear zq19; try clear zq20; try clear zq21; try clear zq22; try clear zq23; try clear zq24; try clear zq25; try clear zq26; try clear zq27; try clear zq28; try clear zq29; try clear zq30; try clear zq31; try clear zq32; try clear zq33; try clear zq34; try clear zq35; try clear zq36; try clear zq37; try clear zq38; try clear fq0; try clear fq1; try clear fq2; try clear fq3; try clear fq4; try clear fq5; try clear fq6; try clear fq7; try clear fq8; try clear fq12; try clear fq13; try clear fq14; try clear fq15; try clear fq16; try clear fq17; try clear fq18; try clear fq19; try clear fq20; try clear fq21; try clear fq22; try clear fq23; try clear fq24; try clear fq25; try clear fq26; try clear fq27; try clear fq28; try clear fq29; try clear fq30; try clear fq31; try clear fq32; try clear fq33; try clear fq34; try clear fq35; try clear fq36; try clear fq37; try clear fq38; try clear hx560_0; try clear hx561_0; try clear hx565_0; try clear p560; try clear p561; try clear p565; try clear q560; try clear q561; try clear q565
              obtain ⟨kq, x240_117, rfl, HA, HJ117, Oq21, Oq18, BK530, HB⟩ := hcut
              cases kq with
              | zero => exact absurd HA.out (by simp [laws_FnPlacementsListed.j8])
              | succ kj117 =>
               have H := HA.out
               clear HA
               simp only [laws_FnPlacementsListed.j8] at H
               by_cases c122 : x240_117 = true
               ·
                subst c122
                have H1 : (some false) = some true := by first | (rw [if_pos rfl] at H; exact H) | rfl
                clear H
                have H := H1
                clear H1
                exact absurd (Option.some.inj H) (by decide)
               ·
                replace c122 := Bool.eq_false_iff.mpr c122
                subst c122
                have H1 : (if t538 = true then ((impl_RankPlacement.f kj117 t523 t524 t525 t531).bind fun bt605 => ((impl_CountRooks.f t531).bind fun bt607 => (if bt605.2 = true then (if bt607.2 = true then (if bt605.1 = t529 then (some (bt607.1 == t528)) else (some false)) else (some false)) else (some false)))) else (some true)) = some true := by first | (rw [if_neg (show ¬ (false = true) by decide)] at H; exact H) | rfl
                clear H
                have H := H1
                clear H1
                by_cases c123 : t538 = true
                ·
                 subst c123
                 have H1 : ((impl_RankPlacement.f kj117 t523 t524 t525 t531).bind fun bt605 => ((impl_CountRooks.f t531).bind fun bt607 => (if bt605.2 = true then (if bt607.2 = true then (if bt605.1 = t529 then (some (bt607.1 == t528)) else (some false)) else (some false)) else (some false)))) = some true := by first | (rw [if_pos rfl] at H; exact H) | rfl
                 clear H
                 have H := H1
                 clear H1
                 replace H := qE H
                 obtain ⟨⟨t605, t606⟩, A124, H⟩ := H
                 replace H : ((impl_CountRooks.f t531).bind fun bt607 => (if t606 = true then (if bt607.2 = true then (if t605 = t529 then (some (bt607.1 == t528)) else (some false)) else (some false)) else (some false))) = some true := H
                 replace H := qE H
                 obtain ⟨⟨t607, t608⟩, A125, H⟩ := H
                 replace H : (if t606 = true then (if t608 = true then (if t605 = t529 then (some (t607 == t528)) else (some false)) else (some false)) else (some false)) = some true := H
                 by_cases c126 : t606 = true
                 ·
                  subst c126
                  have H1 : (if t608 = true then (if t605 = t529 then (some (t607 == t528)) else (some false)) else (some false)) = some true := by first | (rw [if_pos rfl] at H; exact H) | rfl
                  clear H
                  have H := H1
                  clear H1
                  by_cases c127 : t608 = true
                  ·
                   subst c127
                   have H1 : (if t605 = t529 then (some (t607 == t528)) else (some false)) = some true := by first | (rw [if_pos rfl] at H; exact H) | rfl
                   clear H
                   have H := H1
                   clear H1
                   by_cases c128 : t605 = t529
                   ·
                    rw [if_pos c128] at H
                    have c128b0 : (t605 == t529) = true := beq_iff_eq.mpr c128
                    have c128b1 : (t605 != t529) = false := bne_eq_false_iff_eq.mpr c128
                    clear c128
                    have hb_ := Option.some.inj H
                    obtain ⟨zq9, zq10, zq11, fq9, fq10, fq11⟩ := qd BK530
                    obtain ⟨Ao130, co130, eo130⟩ := Kd.R_slice Oq21.out
                    subst eo130
                    go_wp2_with (first | ((with_reducible refine gate_callee (f := 52) rfl ?_); refine qg (some 246) Try.func52 #[.agg #[.int .i64 t523, .int .i64 t524, .slice Ao12 t525.length co12], .slice Ao130 t531.length co130] ?_; (with_reducible refine (impl_RankPlacement.calls kj117 t523 t524 _ _ t525 _ _ t531 t605 true _ ?side1 ?side2 ?side3 ?side4 A124.out).mono ?_); (case side1 => repeat (first | exact (Kd.R_reads' Oq18.out).2.2 | (with_reducible first | refine Kd.C_alloc ?_ _ | refine Kd.C_drewN ?_ _ | refine Kd.C_drew ?_))); (case side2 => exact (Kd.R_reads' Oq18.out).2.1); (case side3 => repeat (first | exact (Kd.R_reads' Oq21.out).2.2 | (with_reducible first | refine Kd.C_alloc ?_ _ | refine Kd.C_drewN ?_ _ | refine Kd.C_drew ?_))); (case side4 => exact (Kd.R_reads' Oq21.out).2.1); rintro e w131 ⟨rfl, hb⟩; refine ⟨_, rfl, ?_⟩; replace Oq21 := sqR Oq21 hb; replace Oq18 := sqR Oq18 hb; replace BK530 := sqB BK530 hb; replace HB := qs hb; (try clear hb)) | ((with_reducible refine gate_callee (f := 43) rfl ?_); refine qg (some 251) Try.func43 #[.slice Ao130 t531.length co130] ?_; (with_reducible refine (impl_CountRooks.calls _ _ t531 t607 true _ ?side1 ?side2 A125.out).mono ?_); (case side1 => repeat (first | exact (Kd.R_reads' Oq21.out).2.2 | (with_reducible first | refine Kd.C_alloc ?_ _ | refine Kd.C_drewN ?_ _ | refine Kd.C_drew ?_))); (case side2 => exact (Kd.R_reads' Oq21.out).2.1); rintro e w' ⟨rfl, ⟨nd, rfl⟩⟩; refine ⟨_, rfl, ?_⟩))
                    go_ret
                    exact ⟨by first | rfl | (rw [hb_]) | (simp [errW_none, errW_some] <;> rfl) | (simp [*, errW_none, errW_some] <;> rfl), qb⟩
                   ·
                    rw [if_neg c128] at H
                    have c128b0 : (t605 == t529) = false := beq_eq_false_iff_ne.mpr c128
                    have c128b1 : (t605 != t529) = true := bne_iff_ne.mpr c128
                    exact absurd (Option.some.inj H) (by decide)
                  ·
                   replace c127 := Bool.eq_false_iff.mpr c127
                   subst c127
                   have H1 : (some false) = some true := by first | (rw [if_neg (show ¬ (false = true) by decide)] at H; exact H) | rfl
                   clear H
                   have H := H1
                   clear H1
                   exact absurd (Option.some.inj H) (by decide)
                 ·
                  replace c126 := Bool.eq_false_iff.mpr c126
                  subst c126
                  have H1 : (some false) = some true := by first | (rw [if_neg (show ¬ (false = true) by decide)] at H; exact H) | rfl
                  clear H
                  have H := H1
                  clear H1
                  exact absurd (Option.some.inj H) (by decide)
                ·
                 replace c123 := Bool.eq_false_iff.mpr c123
                 subst c123
                 have H1 : (some true) = some true := by first | (rw [if_neg (show ¬ (false = true) by decide)] at H; exact H) | rfl
                 clear H
                 have H := H1
                 clear H1 H
                 go_wp2
                 go_ret
                 exact ⟨Q2, qb⟩
            exact q5
        exact q3
   exact q1
theorem laws_FnPlacementsListed.calls (k : Nat) (A0 : Option Addr) (c0 : Nat) (l0 : List Int) (A1 : Option Addr) (c1 : Nat) (l1 : List Int) (w : World) (hr0 : Kd.C (Kd.int .u8) w A0 l0.length l0) (hc0 : l0.length ≤ c0) (hr1 : Kd.C (Kd.int .u8) w A1 l1.length l1) (hc1 : l1.length ≤ c1) (h : laws_FnPlacementsListed.f k l0 l1 = some true) :
  Calls Try.prog 5 #[.slice A0 l0.length c0, .slice A1 l1.length c1] w fun e w' => e = .returned (.bool true) ∧ Below w.heap.size w w' := laws_FnPlacementsListed.S0.2 ⟨laws_FnPlacementsListed.S1⟩ k A0 c0 l0 A1 c1 l1 w hr0 hc0 hr1 hc1 h

/-- The pure statement of laws_FnPlacementsListed. -/
def laws_FnPlacementsListed.Pure : Prop := ∀ (l0 : List Int) (l1 : List Int), l0.length ≤ maxLen → (∀ x ∈ l0, (Lit.int .u8 x).wf = true) → l1.length ≤ maxLen → (∀ x ∈ l1, (Lit.int .u8 x).wf = true) → ∃ k, laws_FnPlacementsListed.f k l0 l1 = some true

end Go.Proofs.Ytllhofdgbpnkkaa.PFnPlacementsListed
