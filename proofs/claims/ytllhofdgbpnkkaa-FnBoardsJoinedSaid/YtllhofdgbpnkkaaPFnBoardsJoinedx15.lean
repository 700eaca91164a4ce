-- Printed for this claim by wip/pp.py over the kit's printer; Lean checks it.
import Derived.Test.YtllhofdgbpnkkaaPFnBoardsJoinedx0
import Derived.Test.YtllhofdgbpnkkaaPFnBoardsJoinedx1
import Derived.Test.YtllhofdgbpnkkaaPFnBoardsJoinedx5
import Derived.Test.YtllhofdgbpnkkaaPFnBoardsJoinedx7
import Derived.Test.YtllhofdgbpnkkaaPFnBoardsJoinedx8
import Derived.Test.YtllhofdgbpnkkaaPFnBoardsJoinedx9
import Derived.Test.YtllhofdgbpnkkaaPFnBoardsJoinedx10
import Derived.Test.YtllhofdgbpnkkaaPFnBoardsJoinedx11
import Derived.Test.YtllhofdgbpnkkaaPFnBoardsJoinedx12
import Derived.Test.YtllhofdgbpnkkaaPFnBoardsJoinedx13
import Derived.Test.YtllhofdgbpnkkaaPFnBoardsJoinedx14
import Derived.Test.YtllhofdgbpnkkaaPFnBoardsJoinedx60
namespace Go.Proofs.Ytllhofdgbpnkkaa.PFnBoardsJoined
open Go.RowKit Go.Proofs.YtllhofdgbpnkkaaW.PrintWords Go.Proofs.YtllhofdgbpnkkaaW.PrintLast Go.Proofs.YtllhofdgbpnkkaaW.PrintMore
attribute [local go_sem] max2_int min2_int max_two min_two max_three min_three max_four min_four   -- for this text's walks alone
set_option linter.unusedVariables false
set_option linter.unusedSimpArgs false
set_option maxHeartbeats 200000000 in
set_option maxRecDepth 100000 in
theorem laws_FnBoardsJoined.S1 : laws_FnBoardsJoined.S0.1 := by
 intro k A0 c0 l0 A1 c1 l1 w hu26 HR0 HC0 HR1 HC1 t491 t498 t505 t512 t514 t515 t516 t517 y0_272 nd gb484 GW484 GE484 gb485 GW485 GE485 Nq0 Nq5 bq15 cq15 gb492 GW492 GE492 Nq1 Nq10 Nq6 Nq11 bq32 cq32 bq37 cq37 gb499 GW499 GE499 Nq2 Nq15 Nq7 Nq16 Nq12 Nq17 bq41 cq41 bq42 cq42 bq43 cq43 gb506 GW506 GE506 Nq3 Nq20 Nq8 Nq21 Nq13 Nq22 Nq18 Nq23 bq44 cq44 bq45 cq45 bq46 cq46 bq47 cq47 gb513 GW513 GE513 Nq4 Nq25 Nq9 Nq26 Nq14 Nq27 Nq19 Nq28 Nq24 Nq29 bq48 cq48 bq49 cq49 bq50 cq50 bq51 cq51 bq52 cq52 y0_265 HB kj11 HJ11 y0_1 ka_0_0 wc u4 u19 u20 u21 u22 u23 u24 u25 u26 u50 u51 u52 u53 u54 u55 u56 u57 u58 u59 u60 u61 u62 u63 u64 u65 u66 u67 u68 u69 u70 u71 u72 u73 u74 u75 u76 u77 u78 u79 u80 u81 u82 u83 u84 u85 u86 u87 u88 u89 u90 u91 u92 u93 u94 u95 u96 u97 u98 u99 u100 u101 u102 u103 u104 u105 u106 u107 u108 u109 u110 u111 u112 u113 u114 u115 u116 u117 u118 u119 u120 u121 u122 u123 u124 u125 u126 u127 u128 u129 u130 u131 u132 u133 u134 u135 u136 u137 u138 u139 u140 u141 u142 u143 u144 u145 u146 u147 u148 u149 u150 u151 u152 u153 u154 u155 u156 u157 u158 u159 u160 u161 u162 u163 u164 u165 u166 u167 u168 u169 u170 u171 u172 u173 u174 u175 u176 u177 u178 u179 u180 u181 u182 u183 u184 u185 u186 u187 u188 u189 u190 u191 u192 u193 u194 u195 u196 u197 u198 u199 u200 u201 u202 u203 u204 u205 u206 u207 u208 u209 u210 u211 u212 u213 u214 u215 u216 u217 u218 u219 u220 u221 u222 u223 u224 u225 u226 u227 u228 u229 u230 u231 u232 u233 u234 u235 u236 u237 u238 u239 u240 u241 u242 u243 u244 u245 u246 u247 u248 u249 u250 u251 u252 u253 u254 u255 u256 u257 u258 u259 u260 u261 u262 u263 u264 u265 u266 u267 u268 u269 u270 u271 u272 u273 u274 u275 u276 u277 u278 u279 u280 u281 u282 u283 u284 u285 u286 u287 u288 u289 u290 u291 u292 u293 u294 u295 u296 u297 u298 u299 u300 u301 u302 u303 u304 u305 u306 u307 u308 u309 u310 u311 u312 u313 hcut
 obtain ⟨kq, HA, HJ113, HB⟩ := hcut
 cases kq with
 | zero => exact absurd HA.out (by simp [laws_FnBoardsJoined.j1])
 | succ kj113 =>
  have H := HA.out
  clear HA
  simp only [laws_FnBoardsJoined.j1] at H
  replace H := qE H
  obtain ⟨⟨t530, t531, t532, t535, t536⟩, A149, H⟩ := H
  replace H : ((impl_StrikeCell.f kj113 t530 t531 t532 t535 t536).bind fun bt538 => ((spec_StrikeCell.f kj113 t530 t531 t532 t535 t536).bind fun bt545 => (if (bt538.2.2.2 != bt545.2.2.2) = true then (laws_FnBoardsJoined.j2 kj113 l1 t535 t536 bt538.2.2.2 true t530 t531 t532 bt538.1 bt538.2.1 bt538.2.2.1) else ((laws_rSameBoard.f kj113 bt538.1 bt538.2.1 bt538.2.2.1 bt545.1 bt545.2.1 bt545.2.2.1).bind fun t552 => (laws_FnBoardsJoined.j2 kj113 l1 t535 t536 bt538.2.2.2 (!t552) t530 t531 t532 bt538.1 bt538.2.1 bt538.2.2.1))))) = some true := H
  replace H := qE H
  obtain ⟨⟨t538, t539, t540, t543⟩, A150, H⟩ := H
  replace H : ((spec_StrikeCell.f kj113 t530 t531 t532 t535 t536).bind fun bt545 => (if (t543 != bt545.2.2.2) = true then (laws_FnBoardsJoined.j2 kj113 l1 t535 t536 t543 true t530 t531 t532 t538 t539 t540) else ((laws_rSameBoard.f kj113 t538 t539 t540 bt545.1 bt545.2.1 bt545.2.2.1).bind fun t552 => (laws_FnBoardsJoined.j2 kj113 l1 t535 t536 t543 (!t552) t530 t531 t532 t538 t539 t540)))) = some true := H
  replace H := qE H
  obtain ⟨⟨t545, t546, t547, t550⟩, A151, H⟩ := H
  replace H : (if (t543 != t550) = true then (laws_FnBoardsJoined.j2 kj113 l1 t535 t536 t543 true t530 t531 t532 t538 t539 t540) else ((laws_rSameBoard.f kj113 t538 t539 t540 t545 t546 t547).bind fun t552 => (laws_FnBoardsJoined.j2 kj113 l1 t535 t536 t543 (!t552) t530 t531 t532 t538 t539 t540))) = some true := H
  have HC152 := Aside0.mk H
  clear H
  go_upto_region 22 with (first | ((with_reducible refine gate_callee (f := 16) rfl ?_); refine qg (some 196) Try.func16 #[.slice A1 l1.length c1] ?_; (with_reducible refine (spec_DrawStrikeCell.calls kj113 _ _ l1 t530 t531 t532 t535 t536 _ ?side1 HC1.out A149.out).mono ?_); (case side1 => repeat (first | exact (Kd.C_below HR1.out HB.out) | (with_reducible first | refine Kd.C_alloc ?_ _ | refine Kd.C_drewN ?_ _ | refine Kd.C_drew ?_))); rintro e w153 ⟨v533, rfl, ho0, hb⟩; refine ⟨_, rfl, ?_⟩; have Oq6 := ql ho0; replace HB := qs hb; (try clear hb ho0)) | ((with_reducible refine gate_dst (N := 27) rfl ?_); refine qv 27 #[.int .i64 0, .int .i64 0, .slice none 0 0] 26 ?_; intro gb537 hg w154 hbox hb; have BK537 := am hbox; have GW537 := qw hg; have GE537 := qw hg; replace Oq6 := sqR Oq6 hb; replace HB := qs hb; clear hb hbox hg; obtain ⟨zq33, zq34, zq35, fq33, fq34, fq35⟩ := qd BK537; obtain ⟨Ao156, co156, eo156⟩ := Kd.R_slice Oq6.out; subst eo156) | ((with_reducible refine gate_callee (f := 17) rfl ?_); refine qg (some 204) Try.func17 #[.agg #[.int .i64 t530, .int .i64 t531, .slice Ao156 t532.length co156], .int .i64 t535, .int .i64 t536] ?_; (with_reducible refine (impl_StrikeCell.calls kj113 t530 t531 _ _ t532 t535 t536 t538 t539 t540 t543 _ ?side1 ?side2 A150.out).mono ?_); (case side1 => refine (Kd.R_reads' (e := 3) (base := w.heap.size) (ok := fun k_ => True) (n := t532.length) (c := co156) ?_).2.2; exact (sqw (Kd.R_mono (sqo Oq6 BK537) qh))); (case side2 => exact (Kd.R_reads' Oq6.out).2.1); rintro e w157 ⟨v541, rfl, ho0, hb⟩; refine ⟨_, rfl, ?_⟩; have Oq7 := am (Kd.R_lower (Kd.R_new' ho0 (sqv (sqo Oq6 BK537))) (below_size qb)); replace Oq6 := qe (sqw (sqo Oq6 BK537)) ho0 hb; replace BK537 := sqBp BK537 (.int .i64 t530) (.int .i64 t531) (.slice Ao156 t532.length co156) hb; replace HB := qs hb; (try clear hb ho0)) | ((with_reducible refine gate_dst (N := 30) rfl ?_); refine qv 30 #[.int .i64 0, .int .i64 0, .slice none 0 0] 26 ?_; intro gb544 hg w158 hbox hb; have BK544 := am hbox; have GW544 := qw hg; have GE544 := qw hg; have Nq30 := qn hg BK537; have Nq32 := qN hg BK537; replace Oq6 := sqR Oq6 hb; replace Oq7 := sqR Oq7 hb; replace BK537 := sqB BK537 hb; replace HB := qs hb; clear hb hbox hg; have bq14 := Nq32.out; have cq14 := Nq30.out; obtain ⟨zq36, zq37, zq38, fq36, fq37, fq38⟩ := qd BK544; obtain ⟨Ao161, co161, eo161⟩ := Kd.R_slice Oq7.out; subst eo161; obtain ⟨zq39, zq40, zq41, fq39, fq40, fq41⟩ := qd BK537) | ((with_reducible refine gate_callee (f := 18) rfl ?_); refine qg (some 211) Try.func18 #[.agg #[.int .i64 t530, .int .i64 t531, .slice Ao156 t532.length co156], .int .i64 t535, .int .i64 t536] ?_; (with_reducible refine (spec_StrikeCell.calls kj113 t530 t531 _ _ t532 t535 t536 t545 t546 t547 t550 _ ?side1 ?side2 A151.out).mono ?_); (case side1 => refine (Kd.R_reads' (e := 3) (base := w.heap.size) (ok := fun k_ => (True ∧ some k_ ≠ (.slice Ao161 t540.length co161 : Value).ownBlock)) (n := t532.length) (c := co156) ?_).2.2; exact (sqw (Kd.R_mono (sqo Oq6 BK544) qh))); (case side2 => exact (Kd.R_reads' Oq6.out).2.1); rintro e w163 ⟨v548, rfl, ho0, hb⟩; refine ⟨_, rfl, ?_⟩; have Oq8 := am (Kd.R_lower (Kd.R_new' (Kd.R_new' ho0 (sqv (sqo Oq6 BK544))) (sqv (sqo Oq7 BK544))) (below_size qb)); replace Oq6 := qe (sqw (sqo Oq6 BK544)) ho0 hb; replace Oq7 := qe (sqw (sqo Oq7 BK544)) ho0 hb; replace BK537 := sqBf BK537 Nq30 (.int .i64 t538) (.int .i64 t539) (.slice Ao161 t540.length co161) hb; replace BK544 := sqBp BK544 (.int .i64 t538) (.int .i64 t539) (.slice Ao161 t540.length co161) hb; replace HB := qs hb; (try clear hb ho0)) | ((with_reducible refine gate_dst (N := 32) rfl ?_); refine qv 32 #[.int .i64 0, .int .i64 0, .slice none 0 0] 26 ?_; intro gb551 hg w164 hbox hb; have BK551 := am hbox; have GW551 := qw hg; have GE551 := qw hg; have Nq31 := qn hg BK537; have Nq34 := qN hg BK537; have Nq33 := qn hg BK544; have Nq35 := qN hg BK544; replace Oq6 := sqR Oq6 hb; replace Oq7 := sqR Oq7 hb; replace Oq8 := sqR Oq8 hb; replace BK537 := sqB BK537 hb; replace BK544 := sqB BK544 hb; replace HB := qs hb; clear hb hbox hg; have bq16 := Nq34.out; have cq16 := Nq31.out; have bq17 := Nq35.out; have cq17 := Nq33.out; obtain ⟨zq42, zq43, zq44, fq42, fq43, fq44⟩ := qd BK551; obtain ⟨Ao168, co168, eo168⟩ := Kd.R_slice Oq8.out; subst eo168))
  (try simp only [Act.put, List.setIfInBounds_toArray, List.set_cons_zero, List.set_cons_succ])
  go_cut [222] (fun v222 wc => ∃ (kq : Nat) (x222_151 : Bool), v222 = .bool x222_151 ∧ Aside0 (laws_FnBoardsJoined.j2 kq l1 t535 t536 t543 x222_151 t530 t531 t532 t538 t539 t540 = some true) ∧ Aside0 (kq ≤ kj113) ∧ Aside0 (Kd.R (Kd.int .i64) 3 wc w.heap.size (fun k_ => some k_ ≠ ((.slice Ao161 t540.length co161) : Value).ownBlock) (.slice Ao156 t532.length co156) t532) ∧ Aside0 (Kd.R (Kd.int .i64) 3 wc w.heap.size (fun k_ => some k_ ≠ ((.slice Ao156 t532.length co156) : Value).ownBlock) (.slice Ao161 t540.length co161) t540) ∧ Aside0 (wc.heap[gb537]? = some (.cells #[.int .i64 t530, .int .i64 t531, (.slice Ao156 t532.length co156)] 26 (0, 0))) ∧ Aside0 (wc.heap[gb544]? = some (.cells #[.int .i64 t538, .int .i64 t539, (.slice Ao161 t540.length co161)] 26 (0, 0))) ∧ Aside0 (Below w.heap.size w wc))
  case first =>
   refine ?zq0
   let rec q0 : type_of% ?zq0 := by
     have H := HC152.out
     clear HC152
     by_cases c169 : (t543 != t550) = true
     ·
      rw [if_pos c169] at H
      have c169b0 : (t543 != t550) = true := c169
      (try (have c169b1 : decide (t543 = t550) = false := by simpa using c169))
      (try (have c169b2 : (t543 == t550) = false := by simpa using c169))
      (try (have c169b3 : ¬ (t543 = t550) := by simpa using c169))
      clear c169
      (first | rw [c169b0] | (simp only [i64_w, i32_w]; rw [c169b0]) | rw [c169b1] | skip)
      exact absurd H (laws_FnBoardsJoined.j2_no _ _ _ _ _ _ _ _ _ _ _)
     ·
      rw [if_neg c169] at H
      have c169b0 : (t543 != t550) = false := by simpa using c169
      (try (have c169b1 : decide (t543 = t550) = true := by simpa using c169))
      (try (have c169b2 : (t543 == t550) = true := by simpa using c169))
      clear c169
      (first | rw [c169b0] | (simp only [i64_w, i32_w]; rw [c169b0]) | rw [c169b1] | skip)
      replace H := qE H
      obtain ⟨t552, A170, H⟩ := H
      replace H : (laws_FnBoardsJoined.j2 kj113 l1 t535 t536 t543 (!t552) t530 t531 t532 t538 t539 t540) = some true := H
      have H' := Aside0.mk H
      clear H
      have bq18 := Nq32.out
      have cq18 := Nq30.out
      have bq19 := Nq33.out
      have cq19 := Nq35.out
      obtain ⟨zq45, zq46, zq47, fq45, fq46, fq47⟩ := qd BK544
      have bq20 := Nq34.out
      have cq20 := Nq31.out
      obtain ⟨zq48, zq49, zq50, fq48, fq49, fq50⟩ := qd BK551
      go_wp2_with (first | (go_at_call 14; (with_reducible refine (laws_rSameBoard.calls kj113 t538 t539 _ _ t540 t545 t546 _ _ t547 t552 _ ?side1 ?side2 ?side3 ?side4 A170.out).mono ?_); (case side1 => refine (Kd.R_reads' (e := 3) (base := w.heap.size) (ok := fun k_ => ((True ∧ some k_ ≠ (.slice Ao156 t532.length co156 : Value).ownBlock) ∧ some k_ ≠ (.slice Ao168 t547.length co168 : Value).ownBlock)) (n := t540.length) (c := co161) ?_).2.2; exact (sqw (Kd.R_mono (sqo Oq7 BK551) qh))); (case side2 => exact (Kd.R_reads' Oq7.out).2.1); (case side3 => refine (Kd.R_reads' (e := 3) (base := w.heap.size) (ok := fun k_ => ((True ∧ some k_ ≠ (.slice Ao156 t532.length co156 : Value).ownBlock) ∧ some k_ ≠ (.slice Ao161 t540.length co161 : Value).ownBlock)) (n := t547.length) (c := co168) ?_).2.2; exact (sqw (Kd.R_mono (sqo Oq8 BK551) qh))); (case side4 => exact (Kd.R_reads' Oq8.out).2.1); rintro e w176 ⟨rfl, hb⟩; replace Oq6 := am (Kd.R_below (sqw (sqo Oq6 BK551)) hb); replace Oq7 := am (Kd.R_below (sqw (sqo Oq7 BK551)) hb); replace Oq8 := am (Kd.R_below (sqw (sqo Oq8 BK551)) hb); replace BK537 := sqBf BK537 Nq31 (.int .i64 t545) (.int .i64 t546) (.slice Ao168 t547.length co168) hb; replace BK544 := sqBf BK544 Nq33 (.int .i64 t545) (.int .i64 t546) (.slice Ao168 t547.length co168) hb; replace BK551 := sqBp BK551 (.int .i64 t545) (.int .i64 t546) (.slice Ao168 t547.length co168) hb; replace HB := qs hb; (try clear hb)))
      go_meet
      case rel => exact ⟨_, (!t552), Q3, H', ⟨by have := HJ11.out; have := HJ113.out; first | omega | exact Nat.le_refl _⟩, ⟨by exact sqm Oq6 (fun _ hk => hk.1.2)⟩, ⟨by exact sqm Oq7 (fun _ hk => hk.1.2)⟩, ⟨Q15⟩, ⟨Q16⟩, ⟨qb⟩⟩
   exact q0
  case rest =>
   refine ?zq1
   let rec q1 : type_of% ?zq1 := by
     clear HC152
     try clear c4; try clear c63; try clear c63b0; try clear c63b1; try clear c63b2; try clear c65; try clear c66; try clear c66b0; try clear c66b1; try clear c66b2; try clear c68; try clear c69; try clear c69b0; try clear c69b1; try clear c69b2; try clear c70; try clear c70b0; try clear c70b1; try clear c70b2; try clear c71; try clear c71b0; try clear c71b1; try clear c71b2; try clear c72; try clear c113; try clear c115; try clear c120; try clear c121; try clear c122; try clear c123; try clear c124; try clear c124b0; try clear c124b1; try clear c126; try clear c126b0; try clear c126b1; try clear c126b2; try clear c128; try clear c128b0; try clear c128b1; try clear c128b2; try clear c169; try clear c169b0; try clear c169b1; try clear c169b2; try clear zq0; try clear zq1; try clear zq2; try clear zq3; try clear zq4; try clear zq5; try clear zq6; try clear zq7; try clear zq8; try clear zq9; try clear zq10; try clear zq11; try clear zq12; try clear zq13; try clear zq14; try clear zq15; try clear zq16; try clear zq17; try clear zq18; try clear zq19; try clear zq20; try clear zq21; try clear zq22; try clear zq23; try clear zq24; try clear zq25; try clear zq26; try clear zq27; try clear zq28; try clear zq29; try clear zq30; try clear zq31; try clear zq32; try clear zq33; try clear zq34; try clear zq35; try clear zq36; try clear zq37; try clear zq38; try clear zq39; try clear zq40; try clear zq41; try clear zq42; try clear zq43; try clear zq44; try clear zq45; try clear zq46; try clear zq47; try clear zq48; try clear zq49; try clear zq50; try clear zq51; try clear zq52; try clear zq53; try clear zq66; try clear zq67; try clear zq68; try clear zq102; try clear zq103; try clear zq104; try clear zq105; try clear zq106; try clear zq107; try clear zq108; try clear zq109; try clear zq110; try clear zq111; try clear zq112; try clear zq113; try clear zq114; try clear zq115; try clear zq116; try clear zq117; try clear zq118; try clear zq119; try clear zq120; try clear zq121; try clear zq122; try clear zq123; try clear zq124; try clear zq125; try clear zq126; try clear zq127; try clear zq128; try clear zq129; try clear zq130; try clear zq131; try clear zq132; try clear zq133; try clear zq134; try clear zq135; try clear zq136; try clear zq137; try clear zq138; try clear zq139; try clear zq140; try clear zq141; try clear zq142; try clear zq143; try clear zq144; try clear zq145; try clear zq146; try clear zq147; try clear zq148; try clear zq149; try clear zq150; try clear zq151; try clear zq152; try clear zq153; try clear zq154; try clear zq155; try clear zq156; try clear zq157; try clear zq158; try clear fq0; try clear fq1; try clear fq2; try clear fq3; try clear fq4; try clear fq5; try clear fq6; try clear fq7; try clear fq8; try clear fq9; try clear fq10; try clear fq11; try clear fq12; try clear fq13; try clear fq14; try clear fq15; try clear fq16; try clear fq17; try clear fq18; try clear fq19; try clear fq20; try clear fq21; try clear fq22; try clear fq23; try clear fq24; try clear fq25; try clear fq26; try clear fq27; try clear fq28; try clear fq29; try clear fq30; try clear fq31; try clear fq32; try clear fq33; try clear fq34; try clear fq35; try clear fq36; try clear fq37; try clear fq38; try clear fq39; try clear fq40; try clear fq41; try clear fq42; try clear fq43; try clear fq44; try clear fq45; try clear fq46; try clear fq47; try clear fq48; try clear fq49; try clear fq50; try clear fq51; try clear fq52; try clear fq53; try clear fq66; try clear fq67; try clear fq68; try clear fq102; try clear fq103; try clear fq104; try clear fq105; try clear fq106; try clear fq107; try clear fq108; try clear fq109; try clear fq110; try clear fq111; try clear fq112; try clear fq113; try clear fq114; try clear fq115; try clear fq116; try clear fq117; try clear fq118; try clear fq119; try clear fq120; try clear fq121; try clear fq122; try clear fq123; try clear fq124; try clear fq125; try clear fq126; try clear fq127; try clear fq128; try clear fq129; try clear fq130; try clear fq131; try clear fq132; try clear fq133; try clear fq134; try clear fq135; try clear fq136; try clear fq137; try clear fq138; try clear fq139; try clear fq140; try clear fq141; try clear fq142; try clear fq143; try clear fq144; try clear fq145; try clear fq146; try clear fq147; try clear fq148; try clear fq149; try clear fq150; try clear fq151; try clear fq152; try clear fq153; try clear fq154; try clear fq155; try clear fq156; try clear fq157; try clear fq158
     obtain ⟨kq, x222_151, rfl, HA, HJ151, Oq17, Oq18, BK537, BK544, HB⟩ := hcut
     cases kq with
     | zero => exact absurd HA.out (by simp [laws_FnBoardsJoined.j2])
     | succ kj151 =>
      have H := HA.out
      clear HA
      simp only [laws_FnBoardsJoined.j2] at H
      by_cases c177 : x222_151 = true
      ·
       subst c177
       have H1 : (some false) = some true := by first | (rw [if_pos rfl] at H; exact H) | rfl
       clear H
       have H := H1
       clear H1
       exact absurd (Option.some.inj H) (by decide)
      ·
       replace c177 := Bool.eq_false_iff.mpr c177
       subst c177
       have H1 : (if t543 = true then (laws_FnBoardsJoined.l0 kj151 l1 t535 t536 0 t530 t531 t532 t538 t539 t540) else (laws_FnBoardsJoined.j7 kj151 l1)) = some true := by first | (rw [if_neg (show ¬ (false = true) by decide)] at H; exact H) | rfl
       clear H
       have H := H1
       clear H1
       have HC178 := Aside0.mk H
       clear H
       go_upto_if 223 with (fail)
       go_cut [] (fun wc => ∃ (kq : Nat), Aside0 (laws_FnBoardsJoined.j7 kq l1 = some true) ∧ Aside0 (kq ≤ kj151) ∧ Aside0 (Below w.heap.size w wc))
       case first =>
        refine ?zq2
        let rec q2 : type_of% ?zq2 := by
          have H := HC178.out
          clear HC178
          by_cases c179 : t543 = true
          ·
           subst c179
           have H1 : (laws_FnBoardsJoined.l0 kj151 l1 t535 t536 0 t530 t531 t532 t538 t539 t540) = some true := by first | (rw [if_pos rfl] at H; exact H) | rfl
           clear H
           have H := H1
           clear H1
           have H' := Aside0.mk H
           clear H
           go_wp2
           go_loopg [34] kj151 (fun kq v34 w' => ∃ (x34_4 : Int), v34 = .int .i64 x34_4 ∧ Aside0 (laws_FnBoardsJoined.l0 kq l1 t535 t536 x34_4 t530 t531 t532 t538 t539 t540 = some true) ∧ Aside0 (kq ≤ kj151) ∧ Aside0 (Kd.R (Kd.int .i64) 3 w' w.heap.size (fun k_ => some k_ ≠ ((.slice Ao161 t540.length co161) : Value).ownBlock) (.slice Ao156 t532.length co156) t532) ∧ Aside0 (Kd.R (Kd.int .i64) 3 w' w.heap.size (fun k_ => some k_ ≠ ((.slice Ao156 t532.length co156) : Value).ownBlock) (.slice Ao161 t540.length co161) t540) ∧ Aside0 (w'.heap[gb537]? = some (.cells #[.int .i64 t530, .int .i64 t531, (.slice Ao156 t532.length co156)] 26 (0, 0))) ∧ Aside0 (w'.heap[gb544]? = some (.cells #[.int .i64 t538, .int .i64 t539, (.slice Ao161 t540.length co161)] 26 (0, 0))) ∧ Aside0 (Below w.heap.size w w'))
           case atStart => exact ⟨(0), Q3, H', ⟨Nat.le_refl _⟩, ⟨Q22⟩, ⟨Q23⟩, ⟨Q15⟩, ⟨Q16⟩, ⟨qb⟩⟩
           case round =>
            refine ?zq3
            let rec q3 : type_of% ?zq3 := by
              clear H'
              try clear c4; try clear c63; try clear c63b0; try clear c63b1; try clear c63b2; try clear c65; try clear c66; try clear c66b0; try clear c66b1; try clear c66b2; try clear c68; try clear c69; try clear c69b0; try clear c69b1; try clear c69b2; try clear c70; try clear c70b0; try clear c70b1; try clear c70b2; try clear c71; try clear c71b0; try clear c71b1; try clear c71b2; try clear c72; try clear c113; try clear c115; try clear c120; try clear c121; try clear c122; try clear c123; try clear c124; try clear c124b0; try clear c124b1; try clear c126; try clear c126b0; try clear c126b1; try clear c126b2; try clear c128; try clear c128b0; try clear c128b1; try clear c128b2; try clear c169; try clear c169b0; try clear c169b1; try clear c169b2; try clear c177; try clear c179; try clear zq0; try clear zq1; try clear zq2; try clear zq3; try clear zq4; try clear zq5; try clear zq6; try clear zq7; try clear zq8; try clear zq9; try clear zq10; try clear zq11; try clear zq12; try clear zq13; try clear zq14; try clear zq15; try clear zq16; try clear zq17; try clear zq18; try clear zq19; try clear zq20; try clear zq21; try clear zq22; try clear zq23; try clear zq24; try clear zq25; try clear zq26; try clear zq27; try clear zq28; try clear zq29; try clear zq30; try clear zq31; try clear zq32; try clear zq33; try clear zq34; try clear zq35; try clear zq36; try clear zq37; try clear zq38; try clear zq39; try clear zq40; try clear zq41; try clear zq42; try clear zq43; try clear zq44; try clear zq45; try clear zq46; try clear zq47; try clear zq48; try clear zq49; try clear zq50; try clear zq51; try clear zq52; try clear zq53; try clear zq66; try clear zq67; try clear zq68; try clear zq102; try clear zq103; try clear zq104; try clear zq105; try clear zq106; try clear zq107; try clear zq108; try clear zq109; try clear zq110; try clear zq111; try clear zq112; try clear zq113; try clear zq114; try clear zq115; try clear zq116; try clear zq117; try clear zq118; try clear zq119; try clear zq120; try clear zq121; try clear zq122; try clear zq123; try clear zq124; try clear zq125; try clear zq126; try clear zq127; try clear zq128; try clear zq129; try clear zq130; try clear zq131; try clear zq132; try clear zq133; try clear zq134; try clear zq135; try clear zq136; try clear zq137; try clear zq138; try clear zq139; try clear zq140; try clear zq141; try clear zq142; try clear zq143; try clear zq144; try clear zq145; try clear zq146; try clear zq147; try clear zq148; try clear zq149; try clear zq150; try clear zq151; try clear zq152; try clear zq153; try clear zq154; try clear zq155; try clear zq156; try clear zq157; try clear zq158; try clear fq0; try clear fq1; try clear fq2; try clear fq3; try clear fq4; try clear fq5; try clear fq6; try clear fq7; try clear fq8; try clear fq9; try clear fq10; try clear fq11; try clear fq12; try clear fq13; try clear fq14; try clear fq15; try clear fq16; try clear fq17; try clear fq18; try clear fq19; try clear fq20; try clear fq21; try clear fq22; try clear fq23; try clear fq24; try clear fq25; try clear fq26; try clear fq27; try clear fq28; try clear fq29; try clear fq30; try clear fq31; try clear fq32; try clear fq33; try clear fq34; try clear fq35; try clear fq36; try clear fq37; try clear fq38; try clear fq39; try clear fq40; try clear fq41; try clear fq42; try clear fq43; try clear fq44; try clear fq45; try clear fq46; try clear fq47; try clear fq48; try clear fq49; try clear fq50; try clear fq51; try clear fq52; try clear fq53; try clear fq66; try clear fq67; try clear fq68; try clear fq102; try clear fq103; try clear fq104; try clear fq105; try clear fq106; try clear fq107; try clear fq108; try clear fq109; try clear fq110; try clear fq111; try clear fq112; try clear fq113; try clear fq114; try clear fq115; try clear fq116; try clear fq117; try clear fq118; try clear fq119; try clear fq120; try clear fq121; try clear fq122; try clear fq123; try clear fq124; try clear fq125; try clear fq126; try clear fq127; try clear fq128; try clear fq129; try clear fq130; try clear fq131; try clear fq132; try clear fq133; try clear fq134; try clear fq135; try clear fq136; try clear fq137; try clear fq138; try clear fq139; try clear fq140; try clear fq141; try clear fq142; try clear fq143; try clear fq144; try clear fq145; try clear fq146; try clear fq147; try clear fq148; try clear fq149; try clear fq150; try clear fq151; try clear fq152; try clear fq153; try clear fq154; try clear fq155; try clear fq156; try clear fq157; try clear fq158
              obtain ⟨x34_4, rfl, HA, HK4, Oq17, Oq18, BK537, BK544, HB⟩ := hrel
              cases gk with
              | zero => exact absurd HA.out (by simp [laws_FnBoardsJoined.l0])
              | succ k4 =>
               have H := HA.out
               clear HA
               simp only [laws_FnBoardsJoined.l0] at H
               by_cases c180 : x34_4 < t538
               ·
                rw [if_pos c180] at H
                have c180b0 : decide (x34_4 < t538) = true := decide_eq_true c180
                clear c180
                (first | rw [c180b0] | (simp only [i64_w, i32_w]; rw [c180b0]) | skip)
                have H' := Aside0.mk H
                clear H
                have bq21 := Nq32.out
                have cq21 := Nq30.out
                obtain ⟨zq54, zq55, zq56, fq54, fq55, fq56⟩ := qd BK544
                go_wp2
                go_loopg [35] k4 (fun kq v35 w' => ∃ (x35_5 : Int), v35 = .int .i64 x35_5 ∧ Aside0 (laws_FnBoardsJoined.l1 kq l1 t535 t536 x34_4 x35_5 t530 t531 t532 t538 t539 t540 = some true) ∧ Aside0 (kq ≤ k4) ∧ Aside0 (Kd.R (Kd.int .i64) 3 w' w.heap.size (fun k_ => some k_ ≠ ((.slice Ao161 t540.length co161) : Value).ownBlock) (.slice Ao156 t532.length co156) t532) ∧ Aside0 (Kd.R (Kd.int .i64) 3 w' w.heap.size (fun k_ => some k_ ≠ ((.slice Ao156 t532.length co156) : Value).ownBlock) (.slice Ao161 t540.length co161) t540) ∧ Aside0 (w'.heap[gb537]? = some (.cells #[.int .i64 t530, .int .i64 t531, (.slice Ao156 t532.length co156)] 26 (0, 0))) ∧ Aside0 (w'.heap[gb544]? = some (.cells #[.int .i64 t538, .int .i64 t539, (.slice Ao161 t540.length co161)] 26 (0, 0))) ∧ Aside0 (Below w.heap.size w w'))
                case atStart => exact ⟨(0), Q3, H', ⟨Nat.le_refl _⟩, ⟨Q22⟩, ⟨Q23⟩, ⟨Q15⟩, ⟨Q16⟩, ⟨qb⟩⟩
                case round =>
                 refine ?zq4
                 let rec q4 : type_of% ?zq4 := by
                   clear H'
                   try clear c4; try clear c63; try clear c63b0; try clear c63b1; try clear c63b2; try clear c65; try clear c66; try clear c66b0; try clear c66b1; try clear c66b2; try clear c68; try clear c69; try clear c69b0; try clear c69b1; try clear c69b2; try clear c70; try clear c70b0; try clear c70b1; try clear c70b2; try clear c71; try clear c71b0; try clear c71b1; try clear c71b2; try clear c72; try clear c113; try clear c115; try clear c120; try clear c121; try clear c122; try clear c123; try clear c124; try clear c124b0; try clear c124b1; try clear c126; try clear c126b0; try clear c126b1; try clear c126b2; try clear c128; try clear c128b0; try clear c128b1; try clear c128b2; try clear c169; try clear c169b0; try clear c169b1; try clear c169b2; try clear c177; try clear c179; try clear c180; try clear c180b0; try clear zq0; try clear zq1; try clear zq2; try clear zq3; try clear zq4; try clear zq5; try clear zq6; try clear zq7; try clear zq8; try clear zq9; try clear zq10; try clear zq11; try clear zq12; try clear zq13; try clear zq14; try clear zq15; try clear zq16; try clear zq17; try clear zq18; try clear zq19; try clear zq20; try clear zq21; try clear zq22; try clear zq23; try clear zq24; try clear zq25; try clear zq26; try clear zq27; try clear zq28; try clear zq29; try clear zq30; try clear zq31; try clear zq32; try clear zq33; try clear zq34; try clear zq35; try clear zq36; try clear zq37; try clear zq38; try clear zq39; try clear zq40; try clear zq41; try clear zq42; try clear zq43; try clear zq44; try clear zq45; try clear zq46; try clear zq47; try clear zq48; try clear zq49; try clear zq50; try clear zq51; try clear zq52; try clear zq53; try clear zq54; try clear zq55; try clear zq56; try clear zq66; try clear zq67; try clear zq68; try clear zq102; try clear zq103; try clear zq104; try clear zq105; try clear zq106; try clear zq107; try clear zq108; try clear zq109; try clear zq110; try clear zq111; try clear zq112; try clear zq113; try clear zq114; try clear zq115; try clear zq116; try clear zq117; try clear zq118; try clear zq119; try clear zq120; try clear zq121; try clear zq122; try clear zq123; try clear zq124; try clear zq125; try clear zq126; try clear zq127; try clear zq128; try clear zq129; try clear zq130; try clear zq131; try clear zq132; try clear zq133; try clear zq134; try clear zq135; try clear zq136; try clear zq137; try clear zq138; try clear zq139; try clear zq140; try clear zq141; try clear zq142; try clear zq143; try clear zq144; try clear zq145; try clear zq146; try clear zq147; try clear zq148; try clear zq149; try clear zq150; try clear zq151; try clear zq152; try clear zq153; try clear zq154; try clear zq155; try clear zq156; try clear zq157; try clear zq158; try clear fq0; try clear fq1; try clear fq2; try clear fq3; try clear fq4; try clear fq5; try clear fq6; try clear fq7; try clear fq8; try clear fq9; try clear fq10; try clear fq11; try clear fq12; try clear fq13; try clear fq14; try clear fq15; try clear fq16; try clear fq17; try clear fq18; try clear fq19; try clear fq20; try clear fq21; try clear fq22; try clear fq23; try clear fq24; try clear fq25; try clear fq26; try clear fq27; try clear fq28; try clear fq29; try clear fq30; try clear fq31; try clear fq32; try clear fq33; try clear fq34; try clear fq35; try clear fq36; try clear fq37; try clear fq38; try clear fq39; try clear fq40; try clear fq41; try clear fq42; try clear fq43; try clear fq44; try clear fq45; try clear fq46; try clear fq47; try clear fq48; try clear fq49; try clear fq50; try clear fq51; try clear fq52; try clear fq53; try clear fq54; try clear fq55; try clear fq56; try clear fq66; try clear fq67; try clear fq68; try clear fq102; try clear fq103; try clear fq104; try clear fq105; try clear fq106; try clear fq107; try clear fq108; try clear fq109; try clear fq110; try clear fq111; try clear fq112; try clear fq113; try clear fq114; try clear fq115; try clear fq116; try clear fq117; try clear fq118; try clear fq119; try clear fq120; try clear fq121; try clear fq122; try clear fq123; try clear fq124; try clear fq125; try clear fq126; try clear fq127; try clear fq128; try clear fq129; try clear fq130; try clear fq131; try clear fq132; try clear fq133; try clear fq134; try clear fq135; try clear fq136; try clear fq137; try clear fq138; try clear fq139; try clear fq140; try clear fq141; try clear fq142; try clear fq143; try clear fq144; try clear fq145; try clear fq146; try clear fq147; try clear fq148; try clear fq149; try clear fq150; try clear fq151; try clear fq152; try clear fq153; try clear fq154; try clear fq155; try clear fq156; try clear fq157; try clear fq158
                   obtain ⟨x35_5, rfl, HA, HK5, Oq17, Oq18, BK537, BK544, HB⟩ := hrel
                   cases gk with
                   | zero => exact absurd HA.out (by simp [laws_FnBoardsJoined.l1])
                   | succ k5 =>
                    have H := HA.out
                    clear HA
                    simp only [laws_FnBoardsJoined.l1] at H
                    by_cases c183 : x35_5 < t539
                    ·
                     rw [if_pos c183] at H
                     have c183b0 : decide (x35_5 < t539) = true := decide_eq_true c183
                     clear c183
                     have HC184 := Aside0.mk H
                     clear H
                     have bq22 := Nq32.out
                     have cq22 := Nq30.out
                     obtain ⟨zq57, zq58, zq59, fq57, fq58, fq59⟩ := qd BK544
                     go_upto_if 240 with (fail)
                     go_cut [36] (fun v36 wc => ∃ (kq : Nat) (x36_183 : Int), v36 = .int .i64 x36_183 ∧ Aside0 (laws_FnBoardsJoined.j5 kq l1 t535 t536 x34_4 x35_5 x36_183 x35_5 t530 t531 t532 t538 t539 t540 = some true) ∧ Aside0 (kq ≤ k5) ∧ Aside0 (Kd.R (Kd.int .i64) 3 wc w.heap.size (fun k_ => some k_ ≠ ((.slice Ao161 t540.length co161) : Value).ownBlock) (.slice Ao156 t532.length co156) t532) ∧ Aside0 (Kd.R (Kd.int .i64) 3 wc w.heap.size (fun k_ => some k_ ≠ ((.slice Ao156 t532.length co156) : Value).ownBlock) (.slice Ao161 t540.length co161) t540) ∧ Aside0 (wc.heap[gb537]? = some (.cells #[.int .i64 t530, .int .i64 t531, (.slice Ao156 t532.length co156)] 26 (0, 0))) ∧ Aside0 (wc.heap[gb544]? = some (.cells #[.int .i64 t538, .int .i64 t539, (.slice Ao161 t540.length co161)] 26 (0, 0))) ∧ Aside0 (Below w.heap.size w wc))
                     case first =>
                      refine ?zq5
                      let rec q5 : type_of% ?zq5 := by
                        have H := HC184.out
                        clear HC184
                        by_cases c187 : x34_4 ≥ t535
                        ·
                         rw [if_pos c187] at H
                         have c187b0 : decide (t535 ≤ x34_4) = true := decide_eq_true c187
                         clear c187
                         (first | rw [c187b0] | (simp only [i64_w, i32_w]; rw [c187b0]) | skip)
                         have H' := Aside0.mk H
                         clear H
                         go_wp2
                         go_meet
                         case rel => exact ⟨_, (wrap64 (x34_4 + 1)), Q3, H', ⟨by have := HJ11.out; have := HJ113.out; have := HJ151.out; have := HK4.out; have := HK5.out; first | omega | exact Nat.le_refl _⟩, ⟨Q22⟩, ⟨Q23⟩, ⟨Q15⟩, ⟨Q16⟩, ⟨qb⟩⟩
                        ·
                         rw [if_neg c187] at H
                         have c187b0 : decide (t535 ≤ x34_4) = false := decide_eq_false c187
                         clear c187
                         (first | rw [c187b0] | (simp only [i64_w, i32_w]; rw [c187b0]) | skip)
                         have H' := Aside0.mk H
                         clear H
                         go_wp2
                         go_meet
                         case rel => exact ⟨_, (x34_4), Q3, H', ⟨by have := HJ11.out; have := HJ113.out; have := HJ151.out; have := HK4.out; have := HK5.out; first | omega | exact Nat.le_refl _⟩, ⟨Q22⟩, ⟨Q23⟩, ⟨Q15⟩, ⟨Q16⟩, ⟨qb⟩⟩
                      exact q5
                     case rest =>
                      refine ?zq6
                      let rec q6 : type_of% ?zq6 := by
                        clear HC184
                        try clear c4; try clear c63; try clear c63b0; try clear c63b1; try clear c63b2; try clear c65; try clear c66; try clear c66b0; try clear c66b1; try clear c66b2; try clear c68; try clear c69; try clear c69b0; try clear c69b1; try clear c69b2; try clear c70; try clear c70b0; try clear c70b1; try clear c70b2; try clear c71; try clear c71b0; try clear c71b1; try clear c71b2; try clear c72; try clear c113; try clear c115; try clear c120; try clear c121; try clear c122; try clear c123; try clear c124; try clear c124b0; try clear c124b1; try clear c126; try clear c126b0; try clear c126b1; try clear c126b2; try clear c128; try clear c128b0; try clear c128b1; try clear c128b2; try clear c169; try clear c169b0; try clear c169b1; try clear c169b2; try clear c177; try clear c179; try clear c180; try clear c180b0; try clear c183; try clear c183b0; try clear c187; try clear c187b0; try clear zq0; try clear zq1; try clear zq2; try clear zq3; try clear zq4; try clear zq5; try clear zq6; try clear zq7; try clear zq8; try clear zq9; try clear zq10; try clear zq11; try clear zq12; try clear zq13; try clear zq14; try clear zq15; try clear zq16; try clear zq17; try clear zq18; try clear zq19; try clear zq20; try clear zq21; try clear zq22; try clear zq23; try clear zq24; try clear zq25; try clear zq26; try clear zq27; try clear zq28; try clear zq29; try clear zq30; try clear zq31; try clear zq32; try clear zq33; try clear zq34; try clear zq35; try clear zq36; try clear zq37; try clear zq38; try clear zq39; try clear zq40; try clear zq41; try clear zq42; try clear zq43; try clear zq44; try clear zq45; try clear zq46; try clear zq47; try clear zq48; try clear zq49; try clear zq50; try clear zq51; try clear zq52; try clear zq53; try clear zq54; try clear zq55; try clear zq56; try clear zq57; try clear zq58; try clear zq59; try clear zq66; try clear zq67; try clear zq68; try clear zq102; try clear zq103; try clear zq104; try clear zq105; try clear zq106; try clear zq107; try clear zq108; try clear zq109; try clear zq110; try clear zq111; try clear zq112; try clear zq113; try clear zq114; try clear zq115; try clear zq116; try clear zq117; try clear zq118; try clear zq119; try clear zq120; try clear zq121; try clear zq122; try clear zq123; try clear zq124; try clear zq125; try clear zq126; try clear zq127; try clear zq128; try clear zq129; try clear zq130; try clear zq131; try clear zq132; try clear zq133; try clear zq134; try clear zq135; try clear zq136; try clear zq137; try clear zq138; try clear zq139; try clear zq140; try clear zq141; try clear zq142; try clear zq143; try clear zq144; try clear zq145; try clear zq146; try clear zq147; try clear zq148; try clear zq149; try clear zq150; try clear zq151; try clear zq152; try clear zq153; try clear zq154; try clear zq155; try clear zq156; try clear zq157; try clear zq158; try clear fq0; try clear fq1; try clear fq2; try clear fq3; try clear fq4; try clear fq5; try clear fq6; try clear fq7; try clear fq8; try clear fq9; try clear fq10; try clear fq11; try clear fq12; try clear fq13; try clear fq14; try clear fq15; try clear fq16; try clear fq17; try clear fq18; try clear fq19; try clear fq20; try clear fq21; try clear fq22; try clear fq23; try clear fq24; try clear fq25; try clear fq26; try clear fq27; try clear fq28; try clear fq29; try clear fq30; try clear fq31; try clear fq32; try clear fq33; try clear fq34; try clear fq35; try clear fq36; try clear fq37; try clear fq38; try clear fq39; try clear fq40; try clear fq41; try clear fq42; try clear fq43; try clear fq44; try clear fq45; try clear fq46; try clear fq47; try clear fq48; try clear fq49; try clear fq50; try clear fq51; try clear fq52; try clear fq53; try clear fq54; try clear fq55; try clear fq56; try clear fq57; try clear fq58; try clear fq59; try clear fq66; try clear fq67; try clear fq68; try clear fq102; try clear fq103; try clear fq104; try clear fq105; try clear fq106; try clear fq107; try clear fq108; try clear fq109; try clear fq110; try clear fq111; try clear fq112; try clear fq113; try clear fq114; try clear fq115; try clear fq116; try clear fq117; try clear fq118; try clear fq119; try clear fq120; try clear fq121; try clear fq122; try clear fq123; try clear fq124; try clear fq125; try clear fq126; try clear fq127; try clear fq128; try clear fq129; try clear fq130; try clear fq131; try clear fq132; try clear fq133; try clear fq134; try clear fq135; try clear fq136; try clear fq137; try clear fq138; try clear fq139; try clear fq140; try clear fq141; try clear fq142; try clear fq143; try clear fq144; try clear fq145; try clear fq146; try clear fq147; try clear fq148; try clear fq149; try clear fq150; try clear fq151; try clear fq152; try clear fq153; try clear fq154; try clear fq155; try clear fq156; try clear fq157; try clear fq158
                        obtain ⟨kq, x36_183, rfl, HA, HJ183, Oq17, Oq18, BK537, BK544, HB⟩ := hcut
                        cases kq with
                        | zero => exact absurd HA.out (by simp [laws_FnBoardsJoined.j5])
                        | succ kj183 =>
                         have H := HA.out
                         clear HA
                         simp only [laws_FnBoardsJoined.j5] at H
                         have HC188 := Aside0.mk H
                         clear H
                         go_upto_if 245 with (fail)
                         go_cut [37] (fun v37 wc => ∃ (kq : Nat) (x37_187 : Int), v37 = .int .i64 x37_187 ∧ Aside0 (laws_FnBoardsJoined.j6 kq l1 t535 t536 x34_4 x35_5 x36_183 x37_187 t530 t531 t532 t538 t539 t540 = some true) ∧ Aside0 (kq ≤ kj183) ∧ Aside0 (Kd.R (Kd.int .i64) 3 wc w.heap.size (fun k_ => some k_ ≠ ((.slice Ao161 t540.length co161) : Value).ownBlock) (.slice Ao156 t532.length co156) t532) ∧ Aside0 (Kd.R (Kd.int .i64) 3 wc w.heap.size (fun k_ => some k_ ≠ ((.slice Ao156 t532.length co156) : Value).ownBlock) (.slice Ao161 t540.length co161) t540) ∧ Aside0 (wc.heap[gb537]? = some (.cells #[.int .i64 t530, .int .i64 t531, (.slice Ao156 t532.length co156)] 26 (0, 0))) ∧ Aside0 (wc.heap[gb544]? = some (.cells #[.int .i64 t538, .int .i64 t539, (.slice Ao161 t540.length co161)] 26 (0, 0))) ∧ Aside0 (Below w.heap.size w wc))
                         case first =>
                          refine ?zq7
                          let rec q7 : type_of% ?zq7 := by
                            have H := HC188.out
                            clear HC188
                            by_cases c189 : x35_5 ≥ t536
                            ·
                             rw [if_pos c189] at H
                             have c189b0 : decide (t536 ≤ x35_5) = true := decide_eq_true c189
                             clear c189
                             (first | rw [c189b0] | (simp only [i64_w, i32_w]; rw [c189b0]) | skip)
                             have H' := Aside0.mk H
                             clear H
                             go_wp2
                             go_meet
                             case rel => exact ⟨_, (wrap64 (x35_5 + 1)), Q3, H', ⟨by have := HJ11.out; have := HJ113.out; have := HJ151.out; have := HK4.out; have := HK5.out; have := HJ183.out; first | omega | exact Nat.le_refl _⟩, ⟨Q22⟩, ⟨Q23⟩, ⟨Q15⟩, ⟨Q16⟩, ⟨qb⟩⟩
                            ·
                             rw [if_neg c189] at H
                             have c189b0 : decide (t536 ≤ x35_5) = false := decide_eq_false c189
                             clear c189
                             (first | rw [c189b0] | (simp only [i64_w, i32_w]; rw [c189b0]) | skip)
                             have H' := Aside0.mk H
                             clear H
                             go_wp2
                             go_meet
                             case rel => exact ⟨_, (x35_5), Q3, H', ⟨by have := HJ11.out; have := HJ113.out; have := HJ151.out; have := HK4.out; have := HK5.out; have := HJ183.out; first | omega | exact Nat.le_refl _⟩, ⟨Q22⟩, ⟨Q23⟩, ⟨Q15⟩, ⟨Q16⟩, ⟨qb⟩⟩
                          exact q7
                         case rest =>
                          refine ?zq8
                          let rec q8 : type_of% ?zq8 := by
                            clear HC188
                            try clear c4; try clear c63; try clear c63b0; try clear c63b1; try clear c63b2; try clear c65; try clear c66; try clear c66b0; try clear c66b1; try clear c66b2; try clear c68; try clear c69; try clear c69b0; try clear c69b1; try clear c69b2; try clear c70; try clear c70b0; try clear c70b1; try clear c70b2; try clear c71; try clear c71b0; try clear c71b1; try clear c71b2; try clear c72; try clear c113; try clear c115; try clear c120; try clear c121; try clear c122; try clear c123; try clear c124; try clear c124b0; try clear c124b1; try clear c126; try clear c126b0; try clear c126b1; try clear c126b2; try clear c128; try clear c128b0; try clear c128b1; try clear c128b2; try clear c169; try clear c169b0; try clear c169b1; try clear c169b2; try clear c177; try clear c179; try clear c180; try clear c180b0; try clear c183; try clear c183b0; try clear c187; try clear c187b0; try clear c189; try clear c189b0; try clear zq0; try clear zq1; try clear zq2; try clear zq3; try clear zq4; try clear zq5; try clear zq6; try clear zq7; try clear zq8; try clear zq9; try clear zq10; try clear zq11; try clear zq12; try clear zq13; try clear zq14; try clear zq15; try clear zq16; try clear zq17; try clear zq18; try clear zq19; try clear zq20; try clear zq21; try clear zq22; try clear zq23; try clear zq24; try clear zq25; try clear zq26; try clear zq27; try clear zq28; try clear zq29; try clear zq30; try clear zq31; try clear zq32; try clear zq33; try clear zq34; try clear zq35; try clear zq36; try clear zq37; try clear zq38; try clear zq39; try clear zq40; try clear zq41; try clear zq42; try clear zq43; try clear zq44; try clear zq45; try clear zq46; try clear zq47; try clear zq48; try clear zq49; try clear zq50; try clear zq51; try clear zq52; try clear zq53; try clear zq54; try clear zq55; try clear zq56; try clear zq57; try clear zq58; try clear zq59; try clear zq66; try clear zq67; try clear zq68; try clear zq102; try clear zq103; try clear zq104; try clear zq105; try clear zq106; try clear zq107; try clear zq108; try clear zq109; try clear zq110; try clear zq111; try clear zq112; try clear zq113; try clear zq114; try clear zq115; try clear zq116; try clear zq117; try clear zq118; try clear zq119; try clear zq120; try clear zq121; try clear zq122; try clear zq123; try clear zq124; try clear zq125; try clear zq126; try clear zq127; try clear zq128; try clear zq129; try clear zq130; try clear zq131; try clear zq132; try clear zq133; try clear zq134; try clear zq135; try clear zq136; try clear zq137; try clear zq138; try clear zq139; try clear zq140; try clear zq141; try clear zq142; try clear zq143; try clear zq144; try clear zq145; try clear zq146; try clear zq147; try clear zq148; try clear zq149; try clear zq150; try clear zq151; try clear zq152; try clear zq153; try clear zq154; try clear zq155; try clear zq156; try clear zq157; try clear zq158; try clear fq0; try clear fq1; try clear fq2; try clear fq3; try clear fq4; try clear fq5; try clear fq6; try clear fq7; try clear fq8; try clear fq9; try clear fq10; try clear fq11; try clear fq12; try clear fq13; try clear fq14; try clear fq15; try clear fq16; try clear fq17; try clear fq18; try clear fq19; try clear fq20; try clear fq21; try clear fq22; try clear fq23; try clear fq24; try clear fq25; try clear fq26; try clear fq27; try clear fq28; try clear fq29; try clear fq30; try clear fq31; try clear fq32; try clear fq33; try clear fq34; try clear fq35; try clear fq36; try clear fq37; try clear fq38; try clear fq39; try clear fq40; try clear fq41; try clear fq42; try clear fq43; try clear fq44; try clear fq45; try clear fq46; try clear fq47; try clear fq48; try clear fq49; try clear fq50; try clear fq51; try clear fq52; try clear fq53; try clear fq54; try clear fq55; try clear fq56; try clear fq57; try clear fq58; try clear fq59; try clear fq66; try clear fq67; try clear fq68; try clear fq102; try clear fq103; try clear fq104; try clear fq105; try clear fq106; try clear fq107; try clear fq108; try clear fq109; try clear fq110; try clear fq111; try clear fq112; try clear fq113; try clear fq114; try clear fq115; try clear fq116; try clear fq117; try clear fq118; try clear fq119; try clear fq120; try clear fq121; try clear fq122; try clear fq123; try clear fq124; try clear fq125; try clear fq126; try clear fq127; try clear fq128; try clear fq129; try clear fq130; try clear fq131; try clear fq132; try clear fq133; try clear fq134; try clear fq135; try clear fq136; try clear fq137; try clear fq138; try clear fq139; try clear fq140; try clear fq141; try clear fq142; try clear fq143; try clear fq144; try clear fq145; try clear fq146; try clear fq147; try clear fq148; try clear fq149; try clear fq150; try clear fq151; try clear fq152; try clear fq153; try clear fq154; try clear fq155; try clear fq156; try clear fq157; try clear fq158
                            obtain ⟨kq, x37_187, rfl, HA, HJ187, Oq17, Oq18, BK537, BK544, HB⟩ := hcut
                            cases kq with
                            | zero => exact absurd HA.out (by simp [laws_FnBoardsJoined.j6])
                            | succ kj187 =>
                             have H := HA.out
                             clear HA
                             simp only [laws_FnBoardsJoined.j6] at H
                             replace H := qE H
                             obtain ⟨t553, A190, H⟩ := H
                             replace H : ((laws_rOn.f t530 t531 t532 x36_183 x37_187).bind fun t554 => (if (t553 != t554) = true then (some false) else (laws_FnBoardsJoined.l1 kj187 l1 t535 t536 x34_4 (wrap64 (x35_5 + 1)) t530 t531 t532 t538 t539 t540))) = some true := H
                             replace H := qE H
                             obtain ⟨t554, A191, H⟩ := H
                             replace H : (if (t553 != t554) = true then (some false) else (laws_FnBoardsJoined.l1 kj187 l1 t535 t536 x34_4 (wrap64 (x35_5 + 1)) t530 t531 t532 t538 t539 t540)) = some true := H
                             by_cases c192 : (t553 != t554) = true
                             ·
                              rw [if_pos c192] at H
                              have c192b0 : (t553 != t554) = true := c192
                              (try (have c192b1 : decide (t553 = t554) = false := by simpa using c192))
                              (try (have c192b2 : (t553 == t554) = false := by simpa using c192))
                              (try (have c192b3 : ¬ (t553 = t554) := by simpa using c192))
                              clear c192
                              exact absurd (Option.some.inj H) (by decide)
                             ·
                              rw [if_neg c192] at H
                              have c192b0 : (t553 != t554) = false := by simpa using c192
                              (try (have c192b1 : decide (t553 = t554) = true := by simpa using c192))
                              (try (have c192b2 : (t553 == t554) = true := by simpa using c192))
                              clear c192
                              have H' := Aside0.mk H
                              clear H
                              try go_wp2
                              replace Oq17 := am (Kd.R_drew Oq17.out)
                              replace Oq18 := am (Kd.R_drew Oq18.out)
                              replace BK537 := am (blk_drew BK537.out)
                              replace BK544 := am (blk_drew BK544.out)
                              replace HB := am (below_drew1 HB.out)
                              refine start_ (n := 9) (S := fun w' => w'.cell? ⟨gb544, 0, none⟩ = some (.int .i64 t538) ∧ w'.cell? ⟨gb544, 1, none⟩ = some (.int .i64 t539) ∧ w'.cell? ⟨gb544, 2, none⟩ = some (.slice Ao161 t540.length co161) ∧ w'.cell? ⟨gb537, 0, none⟩ = some (.int .i64 t530) ∧ w'.cell? ⟨gb537, 1, none⟩ = some (.int .i64 t531) ∧ w'.cell? ⟨gb537, 2, none⟩ = some (.slice Ao156 t532.length co156)) (ds := []) #[false, false, false, false, false, false, false, false, false] (by kernel_rfl) rfl rfl ⟨sqc BK544 0, sqc BK544 1, sqc BK544 2, sqc BK537 0, sqc BK537 1, sqc BK537 2⟩ (fun hHeld => ?_); refine with_tabW laws_FnBoardsJoined.tab36 laws_FnBoardsJoined.bits36 (fun HT_ HW_ => ?_)
                              generalize wc.drew = w193 at Oq17 Oq18 BK537 BK544 HB hHeld ⊢
                              refine qp 1 (some 249) #[false, true, false, false, false, false, false, false, false] ?_
                              refine qp 2 (some 250) #[false, true, true, false, false, false, false, false, false] ?_
                              refine qp 5 (some 253) #[false, true, true, false, false, true, false, false, false] ?_
                              refine qp 6 (some 254) #[false, true, true, false, false, true, true, false, false] ?_
                              refine take_ (i := 0) (N := some 248) (v := ?_) (a' := ?_) #[true, true, true, false, false, true, true, false, false] rfl rfl (take_ofW HT_.out HW_.out (by kernel_rfl)) (fun _ _ _ h => h) (Or.inl ⟨by rfl, ?_⟩) hHeld ?_ ?_
                              rotate_left
                              ·
                               rintro w' ⟨s0, s1, s2, s3, s4, s5⟩
                               go_simp
                               with_reducible rfl
                              rotate_left
                              ·
                               simp only [Act.put, List.setIfInBounds_toArray, List.set_cons_zero, List.set_cons_succ, i64_w, i32_w]
                               rfl
                              refine take_ (i := 4) (N := some 252) (v := ?_) (a' := ?_) #[true, true, true, false, true, true, true, false, false] rfl rfl (take_ofW HT_.out HW_.out (by kernel_rfl)) (fun _ _ _ h => h) (Or.inl ⟨by rfl, ?_⟩) hHeld ?_ ?_
                              rotate_left
                              ·
                               rintro w' ⟨s0, s1, s2, s3, s4, s5⟩
                               go_simp
                               with_reducible rfl
                              rotate_left
                              ·
                               simp only [Act.put, List.setIfInBounds_toArray, List.set_cons_zero, List.set_cons_succ, i64_w, i32_w]
                               rfl
                              refine one_ (i := 3) (N := some 251) #[true, true, true, true, true, true, true, false, false] rfl rfl (one_of HT_.out (by kernel_rfl)) (by decide) fun K hK => ?_
                              refine qG Try.func19 #[.agg #[.int .i64 t538, .int .i64 t539, .slice Ao161 t540.length co161], .int .i64 x34_4, .int .i64 x35_5] ?_
                              with_reducible refine (laws_rOn.calls t538 t539 _ _ t540 x34_4 x35_5 t553 _ ?side1 ?side2 A190.out).mono ?_
                              (case side1 => repeat (first | exact (Kd.R_reads' Oq18.out).2.2 | (with_reducible first | refine Kd.C_alloc ?_ _ | refine Kd.C_drewN ?_ _ | refine Kd.C_drew ?_)))
                              (case side2 => exact (Kd.R_reads' Oq18.out).2.1)
                              rintro e w194 ⟨rfl, hb⟩
                              refine ⟨_, rfl, ?_⟩
                              replace Oq17 := sqR Oq17 hb
                              replace Oq18 := sqR Oq18 hb
                              replace BK537 := sqB BK537 hb
                              replace BK544 := sqB BK544 hb
                              replace HB := qs hb
                              (try clear hb)
                              refine hK.out _ _ ⟨sqc BK544 0, sqc BK544 1, sqc BK544 2, sqc BK537 0, sqc BK537 1, sqc BK537 2⟩ (fun hHeld => ?_)
                              clear hK K
                              refine qq (some 251) ?_
                              refine one_ (i := 7) (N := some 255) #[true, true, true, true, true, true, true, true, false] rfl rfl (one_of HT_.out (by kernel_rfl)) (by decide) fun K hK => ?_
                              refine qG Try.func19 #[.agg #[.int .i64 t530, .int .i64 t531, .slice Ao156 t532.length co156], .int .i64 x36_183, .int .i64 x37_187] ?_
                              with_reducible refine (laws_rOn.calls t530 t531 _ _ t532 x36_183 x37_187 t554 _ ?side1 ?side2 A191.out).mono ?_
                              (case side1 => repeat (first | exact (Kd.R_reads' Oq17.out).2.2 | (with_reducible first | refine Kd.C_alloc ?_ _ | refine Kd.C_drewN ?_ _ | refine Kd.C_drew ?_)))
                              (case side2 => exact (Kd.R_reads' Oq17.out).2.1)
                              rintro e w195 ⟨rfl, hb⟩
                              refine ⟨_, rfl, ?_⟩
                              replace Oq17 := sqR Oq17 hb
                              replace Oq18 := sqR Oq18 hb
                              replace BK537 := sqB BK537 hb
                              replace BK544 := sqB BK544 hb
                              replace HB := qs hb
                              (try clear hb)
                              refine hK.out _ _ ⟨sqc BK544 0, sqc BK544 1, sqc BK544 2, sqc BK537 0, sqc BK537 1, sqc BK537 2⟩ (fun hHeld => ?_)
                              clear hK K
                              refine qq (some 255) ?_
                              refine qp 8 (some 256) #[true, true, true, true, true, true, true, true, true] ?_
                              refine done_ (done_of HT_.out (by kernel_rfl)) ?_
                              try go_wp2
                              go_roundg kj187
                              case measure => have := HJ11.out; have := HJ113.out; have := HJ151.out; have := HK4.out; have := HK5.out; have := HJ183.out; have := HJ187.out; omega
                              case rel => exact ⟨(wrap64 (x35_5 + 1)), Q3, H', ⟨by have := HJ11.out; have := HJ113.out; have := HJ151.out; have := HK4.out; have := HK5.out; have := HJ183.out; have := HJ187.out; omega⟩, ⟨Q22⟩, ⟨Q23⟩, ⟨Q15⟩, ⟨Q16⟩, ⟨qb⟩⟩
                          exact q8
                      exact q6
                    ·
                     rw [if_neg c183] at H
                     have c183b0 : decide (x35_5 < t539) = false := decide_eq_false c183
                     clear c183
                     have H' := Aside0.mk H
                     clear H
                     have bq23 := Nq32.out
                     have cq23 := Nq30.out
                     obtain ⟨zq60, zq61, zq62, fq60, fq61, fq62⟩ := qd BK544
                     go_wp2
                     go_roundg k5
                     case measure => have := HJ11.out; have := HJ113.out; have := HJ151.out; have := HK4.out; have := HK5.out; omega
                     case rel => exact ⟨(wrap64 (x34_4 + 1)), Q3, H', ⟨by have := HJ11.out; have := HJ113.out; have := HJ151.out; have := HK4.out; have := HK5.out; omega⟩, ⟨Q22⟩, ⟨Q23⟩, ⟨Q15⟩, ⟨Q16⟩, ⟨qb⟩⟩
                 exact q4
               ·
                rw [if_neg c180] at H
                have c180b0 : decide (x34_4 < t538) = false := decide_eq_false c180
                clear c180
                (first | rw [c180b0] | (simp only [i64_w, i32_w]; rw [c180b0]) | skip)
                have H' := Aside0.mk H
                clear H
                have bq24 := Nq32.out
                have cq24 := Nq30.out
                obtain ⟨zq63, zq64, zq65, fq63, fq64, fq65⟩ := qd BK544
                go_wp2
                go_meet
                case rel => exact ⟨_, H', ⟨by have := HJ11.out; have := HJ113.out; have := HJ151.out; have := HK4.out; first | omega | exact Nat.le_refl _⟩, ⟨qb⟩⟩
            exact q3
          ·
           replace c179 := Bool.eq_false_iff.mpr c179
           subst c179
           have H1 : (laws_FnBoardsJoined.j7 kj151 l1) = some true := by first | (rw [if_neg (show ¬ (false = true) by decide)] at H; exact H) | rfl
           clear H
           have H := H1
           clear H1
           have H' := Aside0.mk H
           clear H
           go_wp2
           go_meet
           case rel => exact ⟨_, H', ⟨by have := HJ11.out; have := HJ113.out; have := HJ151.out; first | omega | exact Nat.le_refl _⟩, ⟨qb⟩⟩
        exact q2
       case rest =>
        refine ?zq9
        let rec q9 : type_of% ?zq9 := by
          clear HC178
          try clear c4; try clear c63; try clear c63b0; try clear c63b1; try clear c63b2; try clear c65; try clear c66; try clear c66b0; try clear c66b1; try clear c66b2; try clear c68; try clear c69; try clear c69b0; try clear c69b1; try clear c69b2; try clear c70; try clear c70b0; try clear c70b1; try clear c70b2; try clear c71; try clear c71b0; try clear c71b1; try clear c71b2; try clear c72; try clear c113; try clear c115; try clear c120; try clear c121; try clear c122; try clear c123; try clear c124; try clear c124b0; try clear c124b1; try clear c126; try clear c126b0; try clear c126b1; try clear c126b2; try clear c128; try clear c128b0; try clear c128b1; try clear c128b2; try clear c169; try clear c169b0; try clear c169b1; try clear c169b2; try clear c177; try clear c179; try clear c180; try clear c180b0; try clear c183; try clear c183b0; try clear c187; try clear c187b0; try clear c189; try clear c189b0; try clear c192; try clear c192b0; try clear c192b1; try clear c192b2; try clear zq0; try clear zq1; try clear zq2; try clear zq3; try clear zq4; try clear zq5; try clear zq6; try clear zq7; try clear zq8; try clear zq9; try clear zq10; try clear zq11; try clear zq12; try clear zq13; try clear zq14; try clear zq15; try clear zq16; try clear zq17; try clear zq18; try clear zq19; try clear zq20; try clear zq21; try clear zq22; try clear zq23; try clear zq24; try clear zq25; try clear zq26; try clear zq27; try clear zq28; try clear zq29; try clear zq30; try clear zq31; try clear zq32; try clear zq33; try clear zq34; try clear zq35; try clear zq36; try clear zq37; try clear zq38; try clear zq39; try clear zq40; try clear zq41; try clear zq42; try clear zq43; try clear zq44; try clear zq45; try clear zq46; try clear zq47; try clear zq48; try clear zq49; try clear zq50; try clear zq51; try clear zq52; try clear zq53; try clear zq54; try clear zq55; try clear zq56; try clear zq57; try clear zq58; try clear zq59; try clear zq60; try clear zq61; try clear zq62; try clear zq63; try clear zq64; try clear zq65; try clear zq66; try clear zq67; try clear zq68; try clear zq102; try clear zq103; try clear zq104; try clear zq105; try clear zq106; try clear zq107; try clear zq108; try clear zq109; try clear zq110; try clear zq111; try clear zq112; try clear zq113; try clear zq114; try clear zq115; try clear zq116; try clear zq117; try clear zq118; try clear zq119; try clear zq120; try clear zq121; try clear zq122; try clear zq123; try clear zq124; try clear zq125; try clear zq126; try clear zq127; try clear zq128; try clear zq129; try clear zq130; try clear zq131; try clear zq132; try clear zq133; try clear zq134; try clear zq135; try clear zq136; try clear zq137; try clear zq138; try clear zq139; try clear zq140; try clear zq141; try clear zq142; try clear zq143; try clear zq144; try clear zq145; try clear zq146; try clear zq147; try clear zq148; try clear zq149; try clear zq150; try clear zq151; try clear zq152; try clear zq153; try clear zq154; try clear zq155; try clear zq156; try clear zq157; try clear zq158; try clear fq0; try clear fq1; try clear fq2; try clear fq3; try clear fq4; try clear fq5; try clear fq6; try clear fq7; try clear fq8; try clear fq9; try clear fq10; try clear fq11; try clear fq12; try clear fq13; try clear fq14; try clear fq15; try clear fq16; try clear fq17; try clear fq18; try clear fq19; try clear fq20; try clear fq21; try clear fq22; try clear fq23; try clear fq24; try clear fq25; try clear fq26; try clear fq27; try clear fq28; try clear fq29; try clear fq30; try clear fq31; try clear fq32; try clear fq33; try clear fq34; try clear fq35; try clear fq36; try clear fq37; try clear fq38; try clear fq39; try clear fq40; try clear fq41; try clear fq42; try clear fq43; try clear fq44; try clear fq45; try clear fq46; try clear fq47; try clear fq48; try clear fq49; try clear fq50; try clear fq51; try clear fq52; try clear fq53; try clear fq54; try clear fq55; try clear fq56; try clear fq57; try clear fq58; try clear fq59; try clear fq60; try clear fq61; try clear fq62; try clear fq63; try clear fq64; try clear fq65; try clear fq66; try clear fq67; try clear fq68; try clear fq102; try clear fq103; try clear fq104; try clear fq105; try clear fq106; try clear fq107; try clear fq108; try clear fq109; try clear fq110; try clear fq111; try clear fq112; try clear fq113; try clear fq114; try clear fq115; try clear fq116; try clear fq117; try clear fq118; try clear fq119; try clear fq120; try clear fq121; try clear fq122; try clear fq123; try clear fq124; try clear fq125; try clear fq126; try clear fq127; try clear fq128; try clear fq129; try clear fq130; try clear fq131; try clear fq132; try clear fq133; try clear fq134; try clear fq135; try clear fq136; try clear fq137; try clear fq138; try clear fq139; try clear fq140; try clear fq141; try clear fq142; try clear fq143; try clear fq144; try clear fq145; try clear fq146; try clear fq147; try clear fq148; try clear fq149; try clear fq150; try clear fq151; try clear fq152; try clear fq153; try clear fq154; try clear fq155; try clear fq156; try clear fq157; try clear fq158
          obtain ⟨kq, HA, HJ177, HB⟩ := hcut
          cases kq with
          | zero => exact absurd HA.out (by simp [laws_FnBoardsJoined.j7])
          | succ kj177 =>
           have H := HA.out
           clear HA
           simp only [laws_FnBoardsJoined.j7] at H
           replace H := qE H
           obtain ⟨⟨t555, t556, t557, t560, t561, t562⟩, A200, H⟩ := H
           replace H : ((impl_StackBoards.f kj177 t555 t556 t557 t560 t561 t562).bind fun bt567 => ((spec_StackBoards.f kj177 t555 t556 t557 t560 t561 t562).bind fun bt574 => (if (bt567.2.2.2 != bt574.2.2.2) = true then (laws_FnBoardsJoined.j8 kj177 bt567.2.2.2 true t555 t556 t557 t560 t561 t562 bt567.1 bt567.2.1 bt567.2.2.1) else ((laws_rSameBoard.f kj177 bt567.1 bt567.2.1 bt567.2.2.1 bt574.1 bt574.2.1 bt574.2.2.1).bind fun t581 => (laws_FnBoardsJoined.j8 kj177 bt567.2.2.2 (!t581) t555 t556 t557 t560 t561 t562 bt567.1 bt567.2.1 bt567.2.2.1))))) = some true := H
           replace H := qE H
           obtain ⟨⟨t567, t568, t569, t572⟩, A201, H⟩ := H
           replace H : ((spec_StackBoards.f kj177 t555 t556 t557 t560 t561 t562).bind fun bt574 => (if (t572 != bt574.2.2.2) = true then (laws_FnBoardsJoined.j8 kj177 t572 true t555 t556 t557 t560 t561 t562 t567 t568 t569) else ((laws_rSameBoard.f kj177 t567 t568 t569 bt574.1 bt574.2.1 bt574.2.2.1).bind fun t581 => (laws_FnBoardsJoined.j8 kj177 t572 (!t581) t555 t556 t557 t560 t561 t562 t567 t568 t569)))) = some true := H
           replace H := qE H
           obtain ⟨⟨t574, t575, t576, t579⟩, A202, H⟩ := H
           replace H : (if (t572 != t579) = true then (laws_FnBoardsJoined.j8 kj177 t572 true t555 t556 t557 t560 t561 t562 t567 t568 t569) else ((laws_rSameBoard.f kj177 t567 t568 t569 t574 t575 t576).bind fun t581 => (laws_FnBoardsJoined.j8 kj177 t572 (!t581) t555 t556 t557 t560 t561 t562 t567 t568 t569))) = some true := H
           have HC203 := Aside0.mk H
           clear H
           go_upto_region 41 with (first | ((with_reducible refine gate_callee (f := 20) rfl ?_); refine qg (some 259) Try.func20 #[.slice A1 l1.length c1] ?_; (with_reducible refine (spec_DrawStackBoards.calls kj177 _ _ l1 t555 t556 t557 t560 t561 t562 _ ?side1 HC1.out A200.out).mono ?_); (case side1 => repeat (first | exact (Kd.C_below HR1.out HB.out) | (with_reducible first | refine Kd.C_alloc ?_ _ | refine Kd.C_drewN ?_ _ | refine Kd.C_drew ?_))); rintro e w204 ⟨v558, v563, rfl, ho0, ho1, hb⟩; refine ⟨_, rfl, ?_⟩; have Oq9 := ql ho0; have Oq10 := ql ho1; replace HB := qs hb; (try clear hb ho0 ho1)) | ((with_reducible refine gate_dst (N := 38) rfl ?_); refine qv 38 #[.int .i64 0, .int .i64 0, .slice none 0 0] 26 ?_; intro gb565 hg w205 hbox hb; have BK565 := am hbox; have GW565 := qw hg; have GE565 := qw hg; replace Oq9 := sqR Oq9 hb; replace Oq10 := sqR Oq10 hb; replace HB := qs hb; clear hb hbox hg) | ((with_reducible refine gate_dst (N := 39) rfl ?_); refine qv 39 #[.int .i64 0, .int .i64 0, .slice none 0 0] 26 ?_; intro gb566 hg w206 hbox hb; have BK566 := am hbox; have GW566 := qw hg; have GE566 := qw hg; have Nq36 := qn hg BK565; have Nq39 := qN hg BK565; replace Oq9 := sqR Oq9 hb; replace Oq10 := sqR Oq10 hb; replace BK565 := sqB BK565 hb; replace HB := qs hb; clear hb hbox hg; have bq25 := Nq36.out; have cq25 := Nq39.out; obtain ⟨zq69, zq70, zq71, fq69, fq70, fq71⟩ := qd BK565; obtain ⟨Ao209, co209, eo209⟩ := Kd.R_slice Oq9.out; subst eo209; obtain ⟨zq72, zq73, zq74, fq72, fq73, fq74⟩ := qd BK566; obtain ⟨Ao211, co211, eo211⟩ := Kd.R_slice Oq10.out; subst eo211) | ((with_reducible refine gate_callee (f := 21) rfl ?_); refine qg (some 265) Try.func21 #[.agg #[.int .i64 t555, .int .i64 t556, .slice Ao209 t557.length co209], .agg #[.int .i64 t560, .int .i64 t561, .slice Ao211 t562.length co211]] ?_; (with_reducible refine (impl_StackBoards.calls kj177 t555 t556 _ _ t557 t560 t561 _ _ t562 t567 t568 t569 t572 _ ?side1 ?side2 ?side3 ?side4 A201.out).mono ?_); (case side1 => refine (Kd.R_reads' (e := 3) (base := w.heap.size) (ok := fun k_ => some k_ ≠ (.slice Ao211 t562.length co211 : Value).ownBlock) (n := t557.length) (c := co209) ?_).2.2; exact (sqw (Kd.R_mono (sqo2 Oq9 BK565 BK566) qh))); (case side2 => exact (Kd.R_reads' Oq9.out).2.1); (case side3 => refine (Kd.R_reads' (e := 3) (base := w.heap.size) (ok := fun k_ => some k_ ≠ (.slice Ao209 t557.length co209 : Value).ownBlock) (n := t562.length) (c := co211) ?_).2.2; exact (sqw (Kd.R_mono (sqo2 Oq10 BK565 BK566) qh))); (case side4 => exact (Kd.R_reads' Oq10.out).2.1); rintro e w212 ⟨v570, rfl, ho0, hb⟩; refine ⟨_, rfl, ?_⟩; have Oq11 := am (Kd.R_lower (Kd.R_new' (Kd.R_new' ho0 (sqv (sqo2 Oq9 BK565 BK566))) (sqv (sqo2 Oq10 BK565 BK566))) (below_size qb)); replace Oq9 := qe (sqw (sqo2 Oq9 BK565 BK566)) ho0 hb; replace Oq10 := qe (sqw (sqo2 Oq10 BK565 BK566)) ho0 hb; replace BK565 := qPF (.int .i64 t555) (.int .i64 t556) (.slice Ao209 t557.length co209) BK565 Nq36 hb; replace BK566 := qFP (.int .i64 t560) (.int .i64 t561) (.slice Ao211 t562.length co211) BK566 Nq39 hb; replace HB := qs hb; (try clear hb ho0)) | ((with_reducible refine gate_dst (N := 40) rfl ?_); refine qv 40 #[.int .i64 0, .int .i64 0, .slice none 0 0] 26 ?_; intro gb573 hg w213 hbox hb; have BK573 := am hbox; have GW573 := qw hg; have GE573 := qw hg; have Nq37 := qn hg BK565; have Nq42 := qN hg BK565; have Nq40 := qn hg BK566; have Nq43 := qN hg BK566; replace Oq9 := sqR Oq9 hb; replace Oq10 := sqR Oq10 hb; replace Oq11 := sqR Oq11 hb; replace BK565 := sqB BK565 hb; replace BK566 := sqB BK566 hb; replace HB := qs hb; clear hb hbox hg; have bq26 := Nq42.out; have cq26 := Nq37.out; have bq27 := Nq43.out; have cq27 := Nq40.out; obtain ⟨zq75, zq76, zq77, fq75, fq76, fq77⟩ := qd BK573; obtain ⟨Ao217, co217, eo217⟩ := Kd.R_slice Oq11.out; subst eo217; obtain ⟨zq78, zq79, zq80, fq78, fq79, fq80⟩ := qd BK565; obtain ⟨zq81, zq82, zq83, fq81, fq82, fq83⟩ := qd BK566) | ((with_reducible refine gate_callee (f := 22) rfl ?_); refine qg (some 271) Try.func22 #[.agg #[.int .i64 t555, .int .i64 t556, .slice Ao209 t557.length co209], .agg #[.int .i64 t560, .int .i64 t561, .slice Ao211 t562.length co211]] ?_; (with_reducible refine (spec_StackBoards.calls kj177 t555 t556 _ _ t557 t560 t561 _ _ t562 t574 t575 t576 t579 _ ?side1 ?side2 ?side3 ?side4 A202.out).mono ?_); (case side1 => refine (Kd.R_reads' (e := 3) (base := w.heap.size) (ok := fun k_ => (some k_ ≠ (.slice Ao211 t562.length co211 : Value).ownBlock ∧ some k_ ≠ (.slice Ao217 t569.length co217 : Value).ownBlock)) (n := t557.length) (c := co209) ?_).2.2; exact (sqw (Kd.R_mono (sqo Oq9 BK573) qh))); (case side2 => exact (Kd.R_reads' Oq9.out).2.1); (case side3 => refine (Kd.R_reads' (e := 3) (base := w.heap.size) (ok := fun k_ => (some k_ ≠ (.slice Ao209 t557.length co209 : Value).ownBlock ∧ some k_ ≠ (.slice Ao217 t569.length co217 : Value).ownBlock)) (n := t562.length) (c := co211) ?_).2.2; exact (sqw (Kd.R_mono (sqo Oq10 BK573) qh))); (case side4 => exact (Kd.R_reads' Oq10.out).2.1); rintro e w220 ⟨v577, rfl, ho0, hb⟩; refine ⟨_, rfl, ?_⟩; have Oq12 := am (Kd.R_lower (Kd.R_new' (Kd.R_new' (Kd.R_new' ho0 (sqv (sqo Oq9 BK573))) (sqv (sqo Oq10 BK573))) (sqv (sqo Oq11 BK573))) (below_size qb)); replace Oq9 := qe (sqw (sqo Oq9 BK573)) ho0 hb; replace Oq10 := qe (sqw (sqo Oq10 BK573)) ho0 hb; replace Oq11 := qe (sqw (sqo Oq11 BK573)) ho0 hb; replace BK565 := sqBf BK565 Nq37 (.int .i64 t567) (.int .i64 t568) (.slice Ao217 t569.length co217) hb; replace BK566 := sqBf BK566 Nq40 (.int .i64 t567) (.int .i64 t568) (.slice Ao217 t569.length co217) hb; replace BK573 := sqBp BK573 (.int .i64 t567) (.int .i64 t568) (.slice Ao217 t569.length co217) hb; replace HB := qs hb; (try clear hb ho0)) | ((with_reducible refine gate_dst (N := 42) rfl ?_); refine qv 42 #[.int .i64 0, .int .i64 0, .slice none 0 0] 26 ?_; intro gb580 hg w221 hbox hb; have BK580 := am hbox; have GW580 := qw hg; have GE580 := qw hg; have Nq38 := qn hg BK565; have Nq45 := qN hg BK565; have Nq41 := qn hg BK566; have Nq46 := qN hg BK566; have Nq44 := qn hg BK573; have Nq47 := qN hg BK573; replace Oq9 := sqR Oq9 hb; replace Oq10 := sqR Oq10 hb; replace Oq11 := sqR Oq11 hb; replace Oq12 := sqR Oq12 hb; replace BK565 := sqB BK565 hb; replace BK566 := sqB BK566 hb; replace BK573 := sqB BK573 hb; replace HB := qs hb; clear hb hbox hg; have bq28 := Nq45.out; have cq28 := Nq38.out; have bq29 := Nq46.out; have cq29 := Nq41.out; have bq30 := Nq47.out; have cq30 := Nq44.out; obtain ⟨zq84, zq85, zq86, fq84, fq85, fq86⟩ := qd BK580; obtain ⟨Ao226, co226, eo226⟩ := Kd.R_slice Oq12.out; subst eo226))
           (try simp only [Act.put, List.setIfInBounds_toArray, List.set_cons_zero, List.set_cons_succ])
           go_cut [282] (fun v282 wc => ∃ (kq : Nat) (x282_202 : Bool), v282 = .bool x282_202 ∧ Aside0 (laws_FnBoardsJoined.j8 kq t572 x282_202 t555 t556 t557 t560 t561 t562 t567 t568 t569 = some true) ∧ Aside0 (kq ≤ kj177) ∧ Aside0 (Kd.R (Kd.int .i64) 3 wc w.heap.size (fun k_ => some k_ ≠ ((.slice Ao211 t562.length co211) : Value).ownBlock ∧ some k_ ≠ ((.slice Ao217 t569.length co217) : Value).ownBlock) (.slice Ao209 t557.length co209) t557) ∧ Aside0 (Kd.R (Kd.int .i64) 3 wc w.heap.size (fun k_ => some k_ ≠ ((.slice Ao209 t557.length co209) : Value).ownBlock ∧ some k_ ≠ ((.slice Ao217 t569.length co217) : Value).ownBlock) (.slice Ao211 t562.length co211) t562) ∧ Aside0 (Kd.R (Kd.int .i64) 3 wc w.heap.size (fun k_ => some k_ ≠ ((.slice Ao209 t557.length co209) : Value).ownBlock ∧ some k_ ≠ ((.slice Ao211 t562.length co211) : Value).ownBlock) (.slice Ao217 t569.length co217) t569) ∧ Aside0 (wc.heap[gb565]? = some (.cells #[.int .i64 t555, .int .i64 t556, (.slice Ao209 t557.length co209)] 26 (0, 0))) ∧ Aside0 (wc.heap[gb566]? = some (.cells #[.int .i64 t560, .int .i64 t561, (.slice Ao211 t562.length co211)] 26 (0, 0))) ∧ Aside0 (wc.heap[gb573]? = some (.cells #[.int .i64 t567, .int .i64 t568, (.slice Ao217 t569.length co217)] 26 (0, 0))) ∧ Aside0 (Below w.heap.size w wc))
           case first =>
            refine ?zq10
            let rec q10 : type_of% ?zq10 := by
              have H := HC203.out
              clear HC203
              by_cases c227 : (t572 != t579) = true
              ·
               rw [if_pos c227] at H
               have c227b0 : (t572 != t579) = true := c227
               (try (have c227b1 : decide (t572 = t579) = false := by simpa using c227))
               (try (have c227b2 : (t572 == t579) = false := by simpa using c227))
               (try (have c227b3 : ¬ (t572 = t579) := by simpa using c227))
               clear c227
               (first | rw [c227b0] | (simp only [i64_w, i32_w]; rw [c227b0]) | rw [c227b1] | skip)
               exact absurd H (laws_FnBoardsJoined.j8_no _ _ _ _ _ _ _ _ _ _ _)
              ·
               rw [if_neg c227] at H
               have c227b0 : (t572 != t579) = false := by simpa using c227
               (try (have c227b1 : decide (t572 = t579) = true := by simpa using c227))
               (try (have c227b2 : (t572 == t579) = true := by simpa using c227))
               clear c227
               (first | rw [c227b0] | (simp only [i64_w, i32_w]; rw [c227b0]) | rw [c227b1] | skip)
               replace H := qE H
               obtain ⟨t581, A228, H⟩ := H
               replace H : (laws_FnBoardsJoined.j8 kj177 t572 (!t581) t555 t556 t557 t560 t561 t562 t567 t568 t569) = some true := H
               have H' := Aside0.mk H
               clear H
               have bq31 := Nq42.out
               have cq31 := Nq37.out
               have bq33 := Nq43.out
               have cq33 := Nq40.out
               have bq34 := Nq44.out
               have cq34 := Nq47.out
               obtain ⟨zq87, zq88, zq89, fq87, fq88, fq89⟩ := qd BK573
               have bq35 := Nq45.out
               have cq35 := Nq38.out
               have bq36 := Nq46.out
               have cq36 := Nq41.out
               obtain ⟨zq90, zq91, zq92, fq90, fq91, fq92⟩ := qd BK580
               go_wp2_with (first | (go_at_call 14; (with_reducible refine (laws_rSameBoard.calls kj177 t567 t568 _ _ t569 t574 t575 _ _ t576 t581 _ ?side1 ?side2 ?side3 ?side4 A228.out).mono ?_); (case side1 => refine (Kd.R_reads' (e := 3) (base := w.heap.size) (ok := fun k_ => (((True ∧ some k_ ≠ (.slice Ao209 t557.length co209 : Value).ownBlock) ∧ some k_ ≠ (.slice Ao211 t562.length co211 : Value).ownBlock) ∧ some k_ ≠ (.slice Ao226 t576.length co226 : Value).ownBlock)) (n := t569.length) (c := co217) ?_).2.2; exact (sqw (Kd.R_mono (sqo Oq11 BK580) qh))); (case side2 => exact (Kd.R_reads' Oq11.out).2.1); (case side3 => refine (Kd.R_reads' (e := 3) (base := w.heap.size) (ok := fun k_ => (((True ∧ some k_ ≠ (.slice Ao209 t557.length co209 : Value).ownBlock) ∧ some k_ ≠ (.slice Ao211 t562.length co211 : Value).ownBlock) ∧ some k_ ≠ (.slice Ao217 t569.length co217 : Value).ownBlock)) (n := t576.length) (c := co226) ?_).2.2; exact (sqw (Kd.R_mono (sqo Oq12 BK580) qh))); (case side4 => exact (Kd.R_reads' Oq12.out).2.1); rintro e w236 ⟨rfl, hb⟩; replace Oq9 := am (Kd.R_below (sqw (sqo Oq9 BK580)) hb); replace Oq10 := am (Kd.R_below (sqw (sqo Oq10 BK580)) hb); replace Oq11 := am (Kd.R_below (sqw (sqo Oq11 BK580)) hb); replace Oq12 := am (Kd.R_below (sqw (sqo Oq12 BK580)) hb); replace BK565 := sqBf BK565 Nq38 (.int .i64 t574) (.int .i64 t575) (.slice Ao226 t576.length co226) hb; replace BK566 := sqBf BK566 Nq41 (.int .i64 t574) (.int .i64 t575) (.slice Ao226 t576.length co226) hb; replace BK573 := sqBf BK573 Nq44 (.int .i64 t574) (.int .i64 t575) (.slice Ao226 t576.length co226) hb; replace BK580 := sqBp BK580 (.int .i64 t574) (.int .i64 t575) (.slice Ao226 t576.length co226) hb; replace HB := qs hb; (try clear hb)))
               go_meet
               case rel => exact ⟨_, (!t581), Q3, H', ⟨by have := HJ11.out; have := HJ113.out; have := HJ151.out; have := HJ177.out; first | omega | exact Nat.le_refl _⟩, ⟨by exact sqm Oq9 (fun _ hk => by first | exact ⟨hk.1.1, hk.1.2⟩ | (and_intros <;> first | trivial | simp only [hk, ne_eq, not_false_eq_true]))⟩, ⟨by exact sqm Oq10 (fun _ hk => by first | exact ⟨hk.1.1, hk.1.2⟩ | (and_intros <;> first | trivial | simp only [hk, ne_eq, not_false_eq_true]))⟩, ⟨by exact sqm Oq11 (fun _ hk => by first | exact ⟨hk.1.1.2, hk.1.2⟩ | (and_intros <;> first | trivial | simp only [hk, ne_eq, not_false_eq_true]))⟩, ⟨by (with_reducible repeat (first | refine blk_drewN ?_ _ | refine blk_drew ?_ | refine blk_alloc ?_ _)); exact BK565.out⟩, ⟨by (with_reducible repeat (first | refine blk_drewN ?_ _ | refine blk_drew ?_ | refine blk_alloc ?_ _)); exact BK566.out⟩, ⟨by (with_reducible repeat (first | refine blk_drewN ?_ _ | refine blk_drew ?_ | refine blk_alloc ?_ _)); exact BK573.out⟩, ⟨qb⟩⟩
            exact q10
           case rest =>
            refine ?zq11
            let rec q11 : type_of% ?zq11 := by
              clear HC203
              try clear c4; try clear c63; try clear c63b0; try clear c63b1; try clear c63b2; try clear c65; try clear c66; try clear c66b0; try clear c66b1; try clear c66b2; try clear c68; try clear c69; try clear c69b0; try clear c69b1; try clear c69b2; try clear c70; try clear c70b0; try clear c70b1; try clear c70b2; try clear c71; try clear c71b0; try clear c71b1; try clear c71b2; try clear c72; try clear c113; try clear c115; try clear c120; try clear c121; try clear c122; try clear c123; try clear c124; try clear c124b0; try clear c124b1; try clear c126; try clear c126b0; try clear c126b1; try clear c126b2; try clear c128; try clear c128b0; try clear c128b1; try clear c128b2; try clear c169; try clear c169b0; try clear c169b1; try clear c169b2; try clear c177; try clear c179; try clear c180; try clear c180b0; try clear c183; try clear c183b0; try clear c187; try clear c187b0; try clear c189; try clear c189b0; try clear c192; try clear c192b0; try clear c192b1; try clear c192b2; try clear c227; try clear c227b0; try clear c227b1; try clear c227b2; try clear zq0; try clear zq1; try clear zq2; try clear zq3; try clear zq4; try clear zq5; try clear zq6; try clear zq7; try clear zq8; try clear zq9; try clear zq10; try clear zq11; try clear zq12; try clear zq13; try clear zq14; try clear zq15; try clear zq16; try clear zq17; try clear zq18; try clear zq19; try clear zq20; try clear zq21; try clear zq22; try clear zq23; try clear zq24; try clear zq25; try clear zq26; try clear zq27; try clear zq28; try clear zq29; try clear zq30; try clear zq31; try clear zq32; try clear zq33; try clear zq34; try clear zq35; try clear zq36; try clear zq37; try clear zq38; try clear zq39; try clear zq40; try clear zq41; try clear zq42; try clear zq43; try clear zq44; try clear zq45; try clear zq46; try clear zq47; try clear zq48; try clear zq49; try clear zq50; try clear zq51; try clear zq52; try clear zq53; try clear zq54; try clear zq55; try clear zq56; try clear zq57; try clear zq58; try clear zq59; try clear zq60; try clear zq61; try clear zq62; try clear zq63; try clear zq64; try clear zq65; try clear zq66; try clear zq67; try clear zq68; try clear zq69; try clear zq70; try clear zq71; try clear zq72; try clear zq73; try clear zq74; try clear zq75; try clear zq76; try clear zq77; try clear zq78; try clear zq79; try clear zq80; try clear zq81; try clear zq82; try clear zq83; try clear zq84; try clear zq85; try clear zq86; try clear zq87; try clear zq88; try clear zq89; try clear zq90; try clear zq91; try clear zq92; try clear zq102; try clear zq103; try clear zq104; try clear zq105; try clear zq106; try clear zq107; try clear zq108; try clear zq109; try clear zq110; try clear zq111; try clear zq112; try clear zq113; try clear zq114; try clear zq115; try clear zq116; try clear zq117; try clear zq118; try clear zq119; try clear zq120; try clear zq121; try clear zq122; try clear zq123; try clear zq124; try clear zq125; try clear zq126; try clear zq127; try clear zq128; try clear zq129; try clear zq130; try clear zq131; try clear zq132; try clear zq133; try clear zq134; try clear zq135; try clear zq136; try clear zq137; try clear zq138; try clear zq139; try clear zq140; try clear zq141; try clear zq142; try clear zq143; try clear zq144; try clear zq145; try clear zq146; try clear zq147; try clear zq148; try clear zq149; try clear zq150; try clear zq151; try clear zq152; try clear zq153; try clear zq154; try clear zq155; try clear zq156; try clear zq157; try clear zq158; try clear fq0; try clear fq1; try clear fq2; try clear fq3; try clear fq4; try clear fq5; try clear fq6; try clear fq7; try clear fq8; try clear fq9; try clear fq10; try clear fq11; try clear fq12; try clear fq13; try clear fq14; try clear fq15; try clear fq16; try clear fq17; try clear fq18; try clear fq19; try clear fq20; try clear fq21; try clear fq22; try clear fq23; try clear fq24; try clear fq25; try clear fq26; try clear fq27; try clear fq28; try clear fq29; try clear fq30; try clear fq31; try clear fq32; try clear fq33; try clear fq34; try clear fq35; try clear fq36; try clear fq37; try clear fq38; try clear fq39; try clear fq40; try clear fq41; try clear fq42; try clear fq43; try clear fq44; try clear fq45; try clear fq46; try clear fq47; try clear fq48; try clear fq49; try clear fq50; try clear fq51; try clear fq52; try clear fq53; try clear fq54; try clear fq55; try clear fq56; try clear fq57; try clear fq58; try clear fq59; try clear fq60; try clear fq61; try clear fq62; try clear fq63; try clear fq64; try clear fq65; try clear fq66; try clear fq67; try clear fq68; try clear fq69; try clear fq70; try clear fq71; try clear fq72; try clear fq73; try clear fq74; try clear fq75; try clear fq76; try clear fq77; try clear fq78; try clear fq79; try clear fq80; try clear fq81; try clear fq82; try clear fq83; try clear fq84; try clear fq85; try clear fq86; try clear fq87; try clear fq88; try clear fq89; try clear fq90; try clear fq91; try clear fq92; try clear fq102; try clear fq103; try clear fq104; try clear fq105; try clear fq106; try clear fq107; try clear fq108; try clear fq109; try clear fq110; try clear fq111; try clear fq112; try clear fq113; try clear fq114; try clear fq115; try clear fq116; try clear fq117; try clear fq118; try clear fq119; try clear fq120; try clear fq121; try clear fq122; try clear fq123; try clear fq124; try clear fq125; try clear fq126; try clear fq127; try clear fq128; try clear fq129; try clear fq130; try clear fq131; try clear fq132; try clear fq133; try clear fq134; try clear fq135; try clear fq136; try clear fq137; try clear fq138; try clear fq139; try clear fq140; try clear fq141; try clear fq142; try clear fq143; try clear fq144; try clear fq145; try clear fq146; try clear fq147; try clear fq148; try clear fq149; try clear fq150; try clear fq151; try clear fq152; try clear fq153; try clear fq154; try clear fq155; try clear fq156; try clear fq157; try clear fq158
              obtain ⟨kq, x282_202, rfl, HA, HJ202, Oq19, Oq20, Oq21, BK565, BK566, BK573, HB⟩ := hcut
              cases kq with
              | zero => exact absurd HA.out (by simp [laws_FnBoardsJoined.j8])
              | succ kj202 =>
               have H := HA.out
               clear HA
               simp only [laws_FnBoardsJoined.j8] at H
               by_cases c237 : x282_202 = true
               ·
                subst c237
                have H1 : (some false) = some true := by first | (rw [if_pos rfl] at H; exact H) | rfl
                clear H
                have H := H1
                clear H1
                exact absurd (Option.some.inj H) (by decide)
               ·
                replace c237 := Bool.eq_false_iff.mpr c237
                subst c237
                have H1 : (if t572 = true then ((impl_CountCells.f kj202 t555 t556 t557).bind fun bt582 => ((impl_CountCells.f kj202 t560 t561 t562).bind fun bt584 => ((impl_CountCells.f kj202 t567 t568 t569).bind fun bt586 => (if bt582.2 = true then (if bt584.2 = true then (if bt586.2 = true then (some ((wrap64 (bt582.1 + bt584.1)) == bt586.1)) else (some false)) else (some false)) else (some false))))) else (some true)) = some true := by first | (rw [if_neg (show ¬ (false = true) by decide)] at H; exact H) | rfl
                clear H
                have H := H1
                clear H1
                by_cases c238 : t572 = true
                ·
                 subst c238
                 have H1 : ((impl_CountCells.f kj202 t555 t556 t557).bind fun bt582 => ((impl_CountCells.f kj202 t560 t561 t562).bind fun bt584 => ((impl_CountCells.f kj202 t567 t568 t569).bind fun bt586 => (if bt582.2 = true then (if bt584.2 = true then (if bt586.2 = true then (some ((wrap64 (bt582.1 + bt584.1)) == bt586.1)) else (some false)) else (some false)) else (some false))))) = some true := by first | (rw [if_pos rfl] at H; exact H) | rfl
                 clear H
                 have H := H1
                 clear H1
                 replace H := qE H
                 obtain ⟨⟨t582, t583⟩, A239, H⟩ := H
                 replace H : ((impl_CountCells.f kj202 t560 t561 t562).bind fun bt584 => ((impl_CountCells.f kj202 t567 t568 t569).bind fun bt586 => (if t583 = true then (if bt584.2 = true then (if bt586.2 = true then (some ((wrap64 (t582 + bt584.1)) == bt586.1)) else (some false)) else (some false)) else (some false)))) = some true := H
                 replace H := qE H
                 obtain ⟨⟨t584, t585⟩, A240, H⟩ := H
                 replace H : ((impl_CountCells.f kj202 t567 t568 t569).bind fun bt586 => (if t583 = true then (if t585 = true then (if bt586.2 = true then (some ((wrap64 (t582 + t584)) == bt586.1)) else (some false)) else (some false)) else (some false))) = some true := H
                 replace H := qE H
                 obtain ⟨⟨t586, t587⟩, A241, H⟩ := H
                 replace H : (if t583 = true then (if t585 = true then (if t587 = true then (some ((wrap64 (t582 + t584)) == t586)) else (some false)) else (some false)) else (some false)) = some true := H
                 by_cases c242 : t583 = true
                 ·
                  subst c242
                  have H1 : (if t585 = true then (if t587 = true then (some ((wrap64 (t582 + t584)) == t586)) else (some false)) else (some false)) = some true := by first | (rw [if_pos rfl] at H; exact H) | rfl
                  clear H
                  have H := H1
                  clear H1
                  by_cases c243 : t585 = true
                  ·
                   subst c243
                   have H1 : (if t587 = true then (some ((wrap64 (t582 + t584)) == t586)) else (some false)) = some true := by first | (rw [if_pos rfl] at H; exact H) | rfl
                   clear H
                   have H := H1
                   clear H1
                   by_cases c244 : t587 = true
                   ·
                    subst c244
                    have H1 : (some ((wrap64 (t582 + t584)) == t586)) = some true := by first | (rw [if_pos rfl] at H; exact H) | rfl
                    clear H
                    have H := H1
                    clear H1
                    have hb_ := Option.some.inj H
                    have bq38 := Nq36.out
                    have cq38 := Nq39.out
                    have bq39 := Nq37.out
                    have cq39 := Nq42.out
                    obtain ⟨zq93, zq94, zq95, fq93, fq94, fq95⟩ := qd BK565
                    go_wp2_with (first | ((with_reducible refine gate_callee (f := 15) rfl ?_); refine qg (some 287) Try.func15 #[.agg #[.int .i64 t555, .int .i64 t556, .slice Ao209 t557.length co209]] ?_; (with_reducible refine (impl_CountCells.calls kj202 t555 t556 _ _ t557 t582 true _ ?side1 ?side2 A239.out).mono ?_); (case side1 => repeat (first | exact (Kd.R_reads' Oq19.out).2.2 | (with_reducible first | refine Kd.C_alloc ?_ _ | refine Kd.C_drewN ?_ _ | refine Kd.C_drew ?_))); (case side2 => exact (Kd.R_reads' Oq19.out).2.1); rintro e w248 ⟨rfl, hb⟩; refine ⟨_, rfl, ?_⟩; replace Oq19 := sqR Oq19 hb; replace Oq20 := sqR Oq20 hb; replace Oq21 := sqR Oq21 hb; replace BK565 := sqB BK565 hb; replace BK566 := sqB BK566 hb; replace BK573 := sqB BK573 hb; replace HB := qs hb; (try clear hb); have bq40 := Nq40.out; have cq40 := Nq43.out; obtain ⟨zq96, zq97, zq98, fq96, fq97, fq98⟩ := qd BK566) | ((with_reducible refine gate_callee (f := 15) rfl ?_); refine qg (some 292) Try.func15 #[.agg #[.int .i64 t560, .int .i64 t561, .slice Ao211 t562.length co211]] ?_; (with_reducible refine (impl_CountCells.calls kj202 t560 t561 _ _ t562 t584 true _ ?side1 ?side2 A240.out).mono ?_); (case side1 => repeat (first | exact (Kd.R_reads' Oq20.out).2.2 | (with_reducible first | refine Kd.C_alloc ?_ _ | refine Kd.C_drewN ?_ _ | refine Kd.C_drew ?_))); (case side2 => exact (Kd.R_reads' Oq20.out).2.1); rintro e w251 ⟨rfl, hb⟩; refine ⟨_, rfl, ?_⟩; replace Oq19 := sqR Oq19 hb; replace Oq20 := sqR Oq20 hb; replace Oq21 := sqR Oq21 hb; replace BK565 := sqB BK565 hb; replace BK566 := sqB BK566 hb; replace BK573 := sqB BK573 hb; replace HB := qs hb; (try clear hb); obtain ⟨zq99, zq100, zq101, fq99, fq100, fq101⟩ := qd BK573) | ((with_reducible refine gate_callee (f := 15) rfl ?_); refine qg (some 297) Try.func15 #[.agg #[.int .i64 t567, .int .i64 t568, .slice Ao217 t569.length co217]] ?_; (with_reducible refine (impl_CountCells.calls kj202 t567 t568 _ _ t569 t586 true _ ?side1 ?side2 A241.out).mono ?_); (case side1 => repeat (first | exact (Kd.R_reads' Oq21.out).2.2 | (with_reducible first | refine Kd.C_alloc ?_ _ | refine Kd.C_drewN ?_ _ | refine Kd.C_drew ?_))); (case side2 => exact (Kd.R_reads' Oq21.out).2.1); rintro e w253 ⟨rfl, hb⟩; refine ⟨_, rfl, ?_⟩; replace Oq19 := sqR Oq19 hb; replace Oq20 := sqR Oq20 hb; replace Oq21 := sqR Oq21 hb; replace BK565 := sqB BK565 hb; replace BK566 := sqB BK566 hb; replace BK573 := sqB BK573 hb; replace HB := qs hb; (try clear hb)))
                    go_ret
                    exact ⟨by first | rfl | (rw [hb_]) | (simp [errW_none, errW_some] <;> rfl) | (simp [*, errW_none, errW_some] <;> rfl), qb⟩
                   ·
                    replace c244 := Bool.eq_false_iff.mpr c244
                    subst c244
                    have H1 : (some false) = some true := by first | (rw [if_neg (show ¬ (false = true) by decide)] at H; exact H) | rfl
                    clear H
                    have H := H1
                    clear H1
                    exact absurd (Option.some.inj H) (by decide)
                  ·
                   replace c243 := Bool.eq_false_iff.mpr c243
                   subst c243
                   have H1 : (some false) = some true := by first | (rw [if_neg (show ¬ (false = true) by decide)] at H; exact H) | rfl
                   clear H
                   have H := H1
                   clear H1
                   exact absurd (Option.some.inj H) (by decide)
                 ·
                  replace c242 := Bool.eq_false_iff.mpr c242
                  subst c242
                  have H1 : (some false) = some true := by first | (rw [if_neg (show ¬ (false = true) by decide)] at H; exact H) | rfl
                  clear H
                  have H := H1
                  clear H1
                  exact absurd (Option.some.inj H) (by decide)
                ·
                 replace c238 := Bool.eq_false_iff.mpr c238
                 subst c238
                 have H1 : (some true) = some true := by first | (rw [if_neg (show ¬ (false = true) by decide)] at H; exact H) | rfl
                 clear H
                 have H := H1
                 clear H1 H
                 go_wp2
                 go_ret
                 exact ⟨Q1, qb⟩
            exact q11
        exact q9
   exact q1
theorem laws_FnBoardsJoined.calls (k : Nat) (A0 : Option Addr) (c0 : Nat) (l0 : List Int) (A1 : Option Addr) (c1 : Nat) (l1 : List Int) (w : World) (hr0 : Kd.C (Kd.int .u8) w A0 l0.length l0) (hc0 : l0.length ≤ c0) (hr1 : Kd.C (Kd.int .u8) w A1 l1.length l1) (hc1 : l1.length ≤ c1) (h : laws_FnBoardsJoined.f k l0 l1 = some true) :
  Calls Try.prog 3 #[.slice A0 l0.length c0, .slice A1 l1.length c1] w fun e w' => e = .returned (.bool true) ∧ Below w.heap.size w w' := laws_FnBoardsJoined.S0.2 ⟨laws_FnBoardsJoined.S1⟩ k A0 c0 l0 A1 c1 l1 w hr0 hc0 hr1 hc1 h

/-- The pure statement of laws_FnBoardsJoined. -/
def laws_FnBoardsJoined.Pure : Prop := ∀ (l0 : List Int) (l1 : List Int), l0.length ≤ maxLen → (∀ x ∈ l0, (Lit.int .u8 x).wf = true) → l1.length ≤ maxLen → (∀ x ∈ l1, (Lit.int .u8 x).wf = true) → ∃ k, laws_FnBoardsJoined.f k l0 l1 = some true

end Go.Proofs.Ytllhofdgbpnkkaa.PFnBoardsJoined
