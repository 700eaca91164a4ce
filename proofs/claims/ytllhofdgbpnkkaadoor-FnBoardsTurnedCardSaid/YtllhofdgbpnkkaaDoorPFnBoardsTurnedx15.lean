-- Printed for this claim by wip/pp.py over the kit's printer; Lean checks it.
import Derived.Test.YtllhofdgbpnkkaaDoorPFnBoardsTurnedx0
import Derived.Test.YtllhofdgbpnkkaaDoorPFnBoardsTurnedx1
import Derived.Test.YtllhofdgbpnkkaaDoorPFnBoardsTurnedx3
import Derived.Test.YtllhofdgbpnkkaaDoorPFnBoardsTurnedx4
import Derived.Test.YtllhofdgbpnkkaaDoorPFnBoardsTurnedx5
import Derived.Test.YtllhofdgbpnkkaaDoorPFnBoardsTurnedx6
import Derived.Test.YtllhofdgbpnkkaaDoorPFnBoardsTurnedx7
import Derived.Test.YtllhofdgbpnkkaaDoorPFnBoardsTurnedx8
import Derived.Test.YtllhofdgbpnkkaaDoorPFnBoardsTurnedx9
import Derived.Test.YtllhofdgbpnkkaaDoorPFnBoardsTurnedx10
import Derived.Test.YtllhofdgbpnkkaaDoorPFnBoardsTurnedx11
import Derived.Test.YtllhofdgbpnkkaaDoorPFnBoardsTurnedx12
import Derived.Test.YtllhofdgbpnkkaaDoorPFnBoardsTurnedx13
import Derived.Test.YtllhofdgbpnkkaaDoorPFnBoardsTurnedx14
import Derived.Test.YtllhofdgbpnkkaaDoorPFnBoardsTurnedx61
namespace Go.Proofs.YtllhofdgbpnkkaaDoor.PFnBoardsTurned
open Go.RowKit Go.Proofs.YtllhofdgbpnkkaaDoorW.PrintWords Go.Proofs.YtllhofdgbpnkkaaDoorW.PrintLast Go.Proofs.YtllhofdgbpnkkaaDoorW.PrintMore
attribute [local go_sem] max2_int min2_int max_two min_two max_three min_three max_four min_four   -- for this text's walks alone
set_option linter.unusedVariables false
set_option linter.unusedSimpArgs false
set_option maxHeartbeats 200000000 in
set_option maxRecDepth 100000 in
theorem laws_FnBoardsTurned.S2 : laws_FnBoardsTurned.S1.1 := by
 intro k A0 c0 l0 A1 c1 l1 w hu26 HR0 HC0 HR1 HC1 t549 t550 t555 t556 t560 t567 t569 t570 t574 t581 t583 t584 t588 t595 y0_307 nd gb554 GW554 GE554 gb561 GW561 GE561 Nq0 Nq17 bq39 cq39 gb568 GW568 GE568 Nq1 Nq34 Nq18 Nq35 bq67 cq67 bq72 cq72 gb575 GW575 GE575 Nq2 Nq40 Nq19 Nq41 Nq36 Nq42 bq102 cq102 bq109 cq109 bq115 cq115 gb582 GW582 GE582 Nq3 Nq57 Nq20 Nq58 Nq37 Nq59 Nq43 Nq60 bq146 cq146 bq154 cq154 bq161 cq161 bq162 cq162 gb589 GW589 GE589 Nq4 Nq63 Nq21 Nq64 Nq38 Nq65 Nq44 Nq66 Nq61 Nq67 bq163 cq163 bq164 cq164 bq165 cq165 bq166 cq166 bq167 cq167 gb596 GW596 GE596 Nq5 Nq80 Nq22 Nq81 Nq39 Nq82 Nq45 Nq83 Nq62 Nq84 Nq68 Nq85 bq168 cq168 bq169 cq169 bq170 cq170 bq171 cq171 bq172 cq172 bq173 cq173 kj11 HJ11 t605 t614 t621 gb608 GW608 GE608 Nq6 Nq86 Nq23 Nq87 Nq46 Nq88 Nq69 Nq89 bq3 cq3 bq4 cq4 bq5 cq5 bq6 cq6 Ao120 co120 gb615 GW615 GE615 Nq7 Nq93 Nq24 Nq94 Nq47 Nq95 Nq70 Nq96 Nq90 Nq97 bq7 cq7 bq8 cq8 bq9 cq9 bq10 cq10 bq11 cq11 gb622 GW622 GE622 Nq8 Nq100 Nq25 Nq101 Nq48 Nq102 Nq71 Nq103 Nq91 Nq104 Nq98 Nq105 bq12 cq12 bq13 cq13 bq14 cq14 bq15 cq15 bq16 cq16 bq17 cq17 kj110 HJ110 u4 u24 u25 u26 u27 u28 u161 u162 u163 x555002_157 x562002_157 x576002_157 x590002_157 u555002 u562002 u576002 u590002 kj157 HJ157 t637 t638 t639 t640 t643 t647 t650 gb644 GW644 GE644 Nq10 Nq112 Nq27 Nq113 Nq50 Nq114 Nq73 Nq115 bq45 cq45 bq46 cq46 bq47 cq47 bq48 cq48 Ao211 co211 gb651 w213 GW651 GE651 Nq11 Nq117 Nq28 Nq118 Nq51 Nq119 Nq74 Nq120 Nq116 Nq121 BK554 BK561 BK575 BK589 BK644 HB bq49 cq49 bq50 cq50 bq51 cq51 bq52 cq52 bq53 cq53 zq42 zq43 zq44 fq42 fq43 fq44 Ao220 co220 Oq23 Oq24 Oq25 Oq26 y1_3 ka_1_2 y1_1 ka_1_0 wc u55 u56 u57 u58 u59 u60 u61 u62 u63 u64 u65 u66 u67 u68 u69 u70 u71 u72 u73 u74 u75 u76 u77 u78 u79 u80 u81 u82 u83 u84 u85 u86 u87 u88 u89 u90 u91 u92 u93 u94 u95 u96 u97 u98 u99 u100 u101 u102 u103 u104 u105 u106 u107 u108 u109 u110 u111 u112 u113 u114 u115 u116 u117 u118 u119 u120 u121 u122 u123 u124 u125 u126 u127 u128 u129 u130 u131 u132 u133 u134 u135 u136 u137 u138 u139 u140 u141 u142 u143 u144 u145 u146 u147 u148 u149 u150 u151 u152 u153 u154 u155 u156 u157 u158 u159 u160 u164 u165 u166 u167 u168 u169 u170 u171 u172 u173 u174 u175 u176 u177 u178 u179 u180 u181 u182 u183 u184 u185 u186 u187 u188 u189 u190 u191 u192 u193 u194 u195 u196 u197 u198 u199 u200 u201 u202 u203 u204 u205 u206 u207 u208 u209 u210 u211 u212 u213 u214 u215 u216 u217 u218 u219 u220 u221 u222 u223 u224 u225 u226 u227 u228 u229 u230 u231 u232 u233 u234 u235 u236 u237 u238 u239 u240 u241 u242 u243 u244 u245 u246 u247 u248 u249 u250 u251 u252 u253 u254 u255 u256 u257 u258 u259 u260 u261 u262 u263 u264 u265 u266 u267 u268 u269 u270 u271 u272 u273 u274 u275 u276 u277 u278 u279 u280 u281 u282 u283 u284 u285 u286 u287 u288 u289 u290 u291 u292 u293 u294 u295 u296 u297 u298 u299 u300 u301 u302 u303 u304 u305 u306 u307 u308 u309 u310 u311 u312 u313 u314 u315 u316 u317 u318 u319 u320 u321 u322 u323 u324 u325 u326 u327 u328 u329 u330 u331 u332 u333 u334 u335 u336 u337 u338 u339 u340 u341 u342 u343 u344 u345 u346 u347 u348 u349 u350 u351 u352 u353 u354 hcut
 obtain ⟨kq, x207_201, rfl, HA, HJ201, Oq23, Oq24, Oq25, Oq26, Oq29, BK554, BK561, BK575, BK589, BK644, HB⟩ := hcut
 cases kq with
 | zero => exact absurd HA.out (by simp [laws_FnBoardsTurned.j4])
 | succ kj201 =>
  have H := HA.out
  clear HA
  simp only [laws_FnBoardsTurned.j4] at H
  by_cases c235 : x207_201 = true
  ·
   subst c235
   have H1 : (some false) = some true := by first | (rw [if_pos rfl] at H; exact H) | rfl
   clear H
   have H := H1
   clear H1
   exact absurd (Option.some.inj H) (by decide)
  ·
   replace c235 := Bool.eq_false_iff.mpr c235
   subst c235
   have H1 : (if t643 = true then ((impl_BoardText.f kj201 t638 t639 t640).bind fun bt653 => (if bt653.2 = true then (if bt653.1.toList = t637.toList then (laws_FnBoardsTurned.j5 kj201 l0 t567 t549 t550 x555002_157 t555 t556 x562002_157 t569 t570 x576002_157 t583 t584 x590002_157) else (some false)) else (some false))) else (laws_FnBoardsTurned.j5 kj201 l0 t567 t549 t550 x555002_157 t555 t556 x562002_157 t569 t570 x576002_157 t583 t584 x590002_157)) = some true := by first | (rw [if_neg (show ¬ (false = true) by decide)] at H; exact H) | rfl
   clear H
   have H := H1
   clear H1
   have HC236 := Aside0.mk H
   clear H
   go_upto_if 208 with (fail)
   go_cut [] (fun wc => ∃ (kq : Nat), Aside0 (laws_FnBoardsTurned.j5 kq l0 t567 t549 t550 x555002_157 t555 t556 x562002_157 t569 t570 x576002_157 t583 t584 x590002_157 = some true) ∧ Aside0 (kq ≤ kj201) ∧ Aside0 (Kd.R (Kd.int .i64) 3 wc w.heap.size (fun k_ => some k_ ≠ (u562002 : Value).ownBlock ∧ some k_ ≠ (u576002 : Value).ownBlock ∧ some k_ ≠ (u590002 : Value).ownBlock) u555002 x555002_157) ∧ Aside0 (Kd.R (Kd.int .i64) 3 wc w.heap.size (fun k_ => some k_ ≠ (u555002 : Value).ownBlock ∧ some k_ ≠ (u576002 : Value).ownBlock ∧ some k_ ≠ (u590002 : Value).ownBlock) u562002 x562002_157) ∧ Aside0 (Kd.R (Kd.int .i64) 3 wc w.heap.size (fun k_ => some k_ ≠ (u555002 : Value).ownBlock ∧ some k_ ≠ (u562002 : Value).ownBlock ∧ some k_ ≠ (u590002 : Value).ownBlock) u576002 x576002_157) ∧ Aside0 (Kd.R (Kd.int .i64) 3 wc w.heap.size (fun k_ => some k_ ≠ (u555002 : Value).ownBlock ∧ some k_ ≠ (u562002 : Value).ownBlock ∧ some k_ ≠ (u576002 : Value).ownBlock) u590002 x590002_157) ∧ Aside0 (wc.heap[gb554]? = some (.cells #[.int .i64 t549, .int .i64 t550, u555002] 26 (0, 0))) ∧ Aside0 (wc.heap[gb561]? = some (.cells #[.int .i64 t555, .int .i64 t556, u562002] 26 (0, 0))) ∧ Aside0 (wc.heap[gb575]? = some (.cells #[.int .i64 t569, .int .i64 t570, u576002] 26 (0, 0))) ∧ Aside0 (wc.heap[gb589]? = some (.cells #[.int .i64 t583, .int .i64 t584, u590002] 26 (0, 0))) ∧ Aside0 (Below w.heap.size w wc))
   case first =>
    refine ?zq0
    let rec q0 : type_of% ?zq0 := by
      have H := HC236.out
      clear HC236
      by_cases c237 : t643 = true
      ·
       subst c237
       have H1 : ((impl_BoardText.f kj201 t638 t639 t640).bind fun bt653 => (if bt653.2 = true then (if bt653.1.toList = t637.toList then (laws_FnBoardsTurned.j5 kj201 l0 t567 t549 t550 x555002_157 t555 t556 x562002_157 t569 t570 x576002_157 t583 t584 x590002_157) else (some false)) else (some false))) = some true := by first | (rw [if_pos rfl] at H; exact H) | rfl
       clear H
       have H := H1
       clear H1
       replace H := qE H
       obtain ⟨⟨t653, t654⟩, A238, H⟩ := H
       replace H : (if t654 = true then (if t653.toList = t637.toList then (laws_FnBoardsTurned.j5 kj201 l0 t567 t549 t550 x555002_157 t555 t556 x562002_157 t569 t570 x576002_157 t583 t584 x590002_157) else (some false)) else (some false)) = some true := H
       by_cases c239 : t654 = true
       ·
        subst c239
        have H1 : (if t653.toList = t637.toList then (laws_FnBoardsTurned.j5 kj201 l0 t567 t549 t550 x555002_157 t555 t556 x562002_157 t569 t570 x576002_157 t583 t584 x590002_157) else (some false)) = some true := by first | (rw [if_pos rfl] at H; exact H) | rfl
        clear H
        have H := H1
        clear H1
        by_cases c240 : t653.toList = t637.toList
        ·
         rw [if_pos c240] at H
         have c240b0 : (t653.toList == t637.toList) = true := beq_iff_eq.mpr c240
         have c240b1 : (t653.toList != t637.toList) = false := bne_eq_false_iff_eq.mpr c240
         clear c240
         (first | rw [c240b0] | (simp only [i64_w, i32_w]; rw [c240b0]) | skip)
         have H' := Aside0.mk H
         clear H
         have bq63 := Nq112.out
         have cq63 := Nq10.out
         have bq64 := Nq113.out
         have cq64 := Nq27.out
         have bq65 := Nq114.out
         have cq65 := Nq50.out
         have bq66 := Nq115.out
         have cq66 := Nq73.out
         obtain ⟨zq54, zq55, zq56, fq54, fq55, fq56⟩ := qd BK644
         go_wp2_with (first | ((with_reducible refine gate_callee (f := 19) rfl ?_); refine qg (some 211) Tryd.func19 #[.agg #[.int .i64 t638, .int .i64 t639, .slice Ao211 t640.length co211]] ?_; (with_reducible refine (impl_BoardText.calls kj201 t638 t639 _ _ t640 t653 true _ ?side1 ?side2 A238.out).mono ?_); (case side1 => repeat (first | exact (Kd.R_reads' Oq29.out).2.2 | (with_reducible first | refine Kd.C_alloc ?_ _ | refine Kd.C_drewN ?_ _ | refine Kd.C_drew ?_))); (case side2 => exact (Kd.R_reads' Oq29.out).2.1); rintro e w246 ⟨rfl, hb⟩; refine ⟨_, rfl, ?_⟩; replace Oq23 := sqR Oq23 hb; replace Oq24 := sqR Oq24 hb; replace Oq25 := sqR Oq25 hb; replace Oq26 := sqR Oq26 hb; replace Oq29 := sqR Oq29 hb; replace BK554 := sqB BK554 hb; replace BK561 := sqB BK561 hb; replace BK575 := sqB BK575 hb; replace BK589 := sqB BK589 hb; replace BK644 := sqB BK644 hb; replace HB := qs hb; (try clear hb)))
         go_meet
         case rel => exact ⟨_, H', ⟨by have := HJ11.out; have := HJ110.out; have := HJ157.out; have := HJ201.out; first | omega | exact Nat.le_refl _⟩, ⟨by exact sqm Oq23 (fun _ hk => by first | exact ⟨hk.1, ⟨hk.2.1, hk.2.2.1⟩⟩ | (and_intros <;> first | trivial | simp only [hk, ne_eq, not_false_eq_true]))⟩, ⟨by exact sqm Oq24 (fun _ hk => by first | exact ⟨hk.1, ⟨hk.2.1, hk.2.2.1⟩⟩ | (and_intros <;> first | trivial | simp only [hk, ne_eq, not_false_eq_true]))⟩, ⟨by exact sqm Oq25 (fun _ hk => by first | exact ⟨hk.1, ⟨hk.2.1, hk.2.2.1⟩⟩ | (and_intros <;> first | trivial | simp only [hk, ne_eq, not_false_eq_true]))⟩, ⟨by exact sqm Oq26 (fun _ hk => by first | exact ⟨hk.1, ⟨hk.2.1, hk.2.2.1⟩⟩ | (and_intros <;> first | trivial | simp only [hk, ne_eq, not_false_eq_true]))⟩, ⟨Q9⟩, ⟨Q10⟩, ⟨Q11⟩, ⟨Q12⟩, ⟨qb⟩⟩
        ·
         rw [if_neg c240] at H
         have c240b0 : (t653.toList == t637.toList) = false := beq_eq_false_iff_ne.mpr c240
         have c240b1 : (t653.toList != t637.toList) = true := bne_iff_ne.mpr c240
         (first | rw [c240b0] | (simp only [i64_w, i32_w]; rw [c240b0]) | skip)
         exact absurd (Option.some.inj H) (by decide)
       ·
        replace c239 := Bool.eq_false_iff.mpr c239
        subst c239
        have H1 : (some false) = some true := by first | (rw [if_neg (show ¬ (false = true) by decide)] at H; exact H) | rfl
        clear H
        have H := H1
        clear H1
        exact absurd (Option.some.inj H) (by decide)
      ·
       replace c237 := Bool.eq_false_iff.mpr c237
       subst c237
       have H1 : (laws_FnBoardsTurned.j5 kj201 l0 t567 t549 t550 x555002_157 t555 t556 x562002_157 t569 t570 x576002_157 t583 t584 x590002_157) = some true := by first | (rw [if_neg (show ¬ (false = true) by decide)] at H; exact H) | rfl
       clear H
       have H := H1
       clear H1
       have H' := Aside0.mk H
       clear H
       go_wp2
       go_meet
       case rel => exact ⟨_, H', ⟨by have := HJ11.out; have := HJ110.out; have := HJ157.out; have := HJ201.out; first | omega | exact Nat.le_refl _⟩, ⟨by exact sqm Oq23 (fun _ hk => by first | exact ⟨hk.1, ⟨hk.2.1, hk.2.2.1⟩⟩ | (and_intros <;> first | trivial | simp only [hk, ne_eq, not_false_eq_true]))⟩, ⟨by exact sqm Oq24 (fun _ hk => by first | exact ⟨hk.1, ⟨hk.2.1, hk.2.2.1⟩⟩ | (and_intros <;> first | trivial | simp only [hk, ne_eq, not_false_eq_true]))⟩, ⟨by exact sqm Oq25 (fun _ hk => by first | exact ⟨hk.1, ⟨hk.2.1, hk.2.2.1⟩⟩ | (and_intros <;> first | trivial | simp only [hk, ne_eq, not_false_eq_true]))⟩, ⟨by exact sqm Oq26 (fun _ hk => by first | exact ⟨hk.1, ⟨hk.2.1, hk.2.2.1⟩⟩ | (and_intros <;> first | trivial | simp only [hk, ne_eq, not_false_eq_true]))⟩, ⟨Q9⟩, ⟨Q10⟩, ⟨Q11⟩, ⟨Q12⟩, ⟨qb⟩⟩
    exact q0
   case rest =>
    refine ?zq1
    let rec q1 : type_of% ?zq1 := by
      clear HC236
      try clear c4; try clear c67; try clear c67b0; try clear c67b1; try clear c67b2; try clear c69; try clear c70; try clear c70b0; try clear c70b1; try clear c70b2; try clear c72; try clear c73; try clear c73b0; try clear c73b1; try clear c73b2; try clear c75; try clear c76; try clear c76b0; try clear c76b1; try clear c76b2; try clear c107; try clear c141; try clear c141b0; try clear c141b1; try clear c141b2; try clear c157; try clear c159; try clear c160; try clear c160b0; try clear c160b1; try clear c161; try clear c161b0; try clear c161b1; try clear c164; try clear c164b0; try clear c165; try clear c165b0; try clear c166; try clear c166b0; try clear c167; try clear c167b0; try clear c168; try clear c168b0; try clear p169; try clear q169; try clear c173; try clear c175; try clear c221; try clear c221b0; try clear c221b1; try clear c221b2; try clear c235; try clear c237; try clear c239; try clear c240; try clear c240b0; try clear c240b1; try clear zq0; try clear zq1; try clear zq2; try clear zq3; try clear zq4; try clear zq5; try clear zq6; try clear zq7; try clear zq8; try clear zq9; try clear zq10; try clear zq11; try clear zq12; try clear zq13; try clear zq14; try clear zq15; try clear zq16; try clear zq17; try clear zq18; try clear zq19; try clear zq20; try clear zq21; try clear zq22; try clear zq23; try clear zq24; try clear zq25; try clear zq26; try clear zq27; try clear zq28; try clear zq29; try clear zq30; try clear zq31; try clear zq32; try clear zq33; try clear zq34; try clear zq35; try clear zq36; try clear zq37; try clear zq38; try clear zq39; try clear zq40; try clear zq41; try clear zq42; try clear zq43; try clear zq44; try clear zq45; try clear zq46; try clear zq47; try clear zq48; try clear zq49; try clear zq50; try clear zq51; try clear zq52; try clear zq53; try clear zq54; try clear zq55; try clear zq56; try clear zq66; try clear zq67; try clear zq68; try clear zq75; try clear zq76; try clear zq77; try clear zq105; try clear zq106; try clear zq107; try clear zq120; try clear zq121; try clear zq122; try clear zq147; try clear zq148; try clear zq149; try clear zq150; try clear zq151; try clear zq152; try clear zq153; try clear zq154; try clear zq155; try clear zq156; try clear zq157; try clear zq158; try clear zq159; try clear zq160; try clear zq161; try clear zq162; try clear zq163; try clear zq164; try clear zq165; try clear zq166; try clear zq167; try clear zq168; try clear zq169; try clear zq170; try clear zq171; try clear zq172; try clear zq173; try clear fq0; try clear fq1; try clear fq2; try clear fq3; try clear fq4; try clear fq5; try clear fq6; try clear fq7; try clear fq8; try clear fq9; try clear fq10; try clear fq11; try clear fq12; try clear fq13; try clear fq14; try clear fq15; try clear fq16; try clear fq17; try clear fq18; try clear fq19; try clear fq20; try clear fq21; try clear fq22; try clear fq23; try clear fq24; try clear fq25; try clear fq26; try clear fq27; try clear fq28; try clear fq29; try clear fq30; try clear fq31; try clear fq32; try clear fq33; try clear fq34; try clear fq35; try clear fq36; try clear fq37; try clear fq38; try clear fq39; try clear fq40; try clear fq41; try clear fq42; try clear fq43; try clear fq44; try clear fq45; try clear fq46; try clear fq47; try clear fq48; try clear fq49; try clear fq50; try clear fq51; try clear fq52; try clear fq53; try clear fq54; try clear fq55; try clear fq56; try clear fq66; try clear fq67; try clear fq68; try clear fq75; try clear fq76; try clear fq77; try clear fq105; try clear fq106; try clear fq107; try clear fq120; try clear fq121; try clear fq122; try clear fq147; try clear fq148; try clear fq149; try clear fq150; try clear fq151; try clear fq152; try clear fq153; try clear fq154; try clear fq155; try clear fq156; try clear fq157; try clear fq158; try clear fq159; try clear fq160; try clear fq161; try clear fq162; try clear fq163; try clear fq164; try clear fq165; try clear fq166; try clear fq167; try clear fq168; try clear fq169; try clear fq170; try clear fq171; try clear fq172; try clear fq173; try clear hx169_0; try clear hx627_0; try clear p169; try clear p627; try clear q169; try clear q627
      obtain ⟨kq, HA, HJ235, Oq23, Oq24, Oq25, Oq26, BK554, BK561, BK575, BK589, HB⟩ := hcut
      cases kq with
      | zero => exact absurd HA.out (by simp [laws_FnBoardsTurned.j5])
      | succ kj235 =>
       have H := HA.out
       clear HA
       simp only [laws_FnBoardsTurned.j5] at H
       replace H := qE H
       obtain ⟨⟨t655, t656⟩, A247, H⟩ := H
       replace H : ((impl_FullBoard.f kj235 t655 t656).bind fun bt657 => ((spec_FullBoard.f kj235 t655 t656).bind fun bt664 => (if (bt657.2.2.2 != bt664.2.2.2) = true then (laws_FnBoardsTurned.j6 kj235 t567 true t549 t550 x555002_157 t555 t556 x562002_157 t569 t570 x576002_157 t583 t584 x590002_157) else ((laws_rSameBoard.f kj235 bt657.1 bt657.2.1 bt657.2.2.1 bt664.1 bt664.2.1 bt664.2.2.1).bind fun t671 => (laws_FnBoardsTurned.j6 kj235 t567 (!t671) t549 t550 x555002_157 t555 t556 x562002_157 t569 t570 x576002_157 t583 t584 x590002_157))))) = some true := H
       replace H := qE H
       obtain ⟨⟨t657, t658, t659, t662⟩, A248, H⟩ := H
       replace H : ((spec_FullBoard.f kj235 t655 t656).bind fun bt664 => (if (t662 != bt664.2.2.2) = true then (laws_FnBoardsTurned.j6 kj235 t567 true t549 t550 x555002_157 t555 t556 x562002_157 t569 t570 x576002_157 t583 t584 x590002_157) else ((laws_rSameBoard.f kj235 t657 t658 t659 bt664.1 bt664.2.1 bt664.2.2.1).bind fun t671 => (laws_FnBoardsTurned.j6 kj235 t567 (!t671) t549 t550 x555002_157 t555 t556 x562002_157 t569 t570 x576002_157 t583 t584 x590002_157)))) = some true := H
       replace H := qE H
       obtain ⟨⟨t664, t665, t666, t669⟩, A249, H⟩ := H
       replace H : (if (t662 != t669) = true then (laws_FnBoardsTurned.j6 kj235 t567 true t549 t550 x555002_157 t555 t556 x562002_157 t569 t570 x576002_157 t583 t584 x590002_157) else ((laws_rSameBoard.f kj235 t657 t658 t659 t664 t665 t666).bind fun t671 => (laws_FnBoardsTurned.j6 kj235 t567 (!t671) t549 t550 x555002_157 t555 t556 x562002_157 t569 t570 x576002_157 t583 t584 x590002_157))) = some true := H
       have HC250 := Aside0.mk H
       clear H
       go_upto_region 39 with (first | ((with_reducible refine gate_callee (f := 20) rfl ?_); refine qg (some 223) Tryd.func20 #[.slice A0 l0.length c0] ?_; (with_reducible refine (spec_DrawFullBoard.calls _ _ l0 t655 t656 _ ?side1 HC0.out A247.out).mono ?_); (case side1 => repeat (first | exact (Kd.C_below HR0.out HB.out) | (with_reducible first | refine Kd.C_alloc ?_ _ | refine Kd.C_drewN ?_ _ | refine Kd.C_drew ?_))); rintro e w251 ⟨rfl, hb⟩; refine ⟨_, rfl, ?_⟩; replace Oq23 := sqR Oq23 hb; replace Oq24 := sqR Oq24 hb; replace Oq25 := sqR Oq25 hb; replace Oq26 := sqR Oq26 hb; replace BK554 := sqB BK554 hb; replace BK561 := sqB BK561 hb; replace BK575 := sqB BK575 hb; replace BK589 := sqB BK589 hb; replace HB := qs hb; (try clear hb)) | ((with_reducible refine gate_callee (f := 21) rfl ?_); refine qg (some 229) Tryd.func21 #[.int .i64 t655, .int .i64 t656] ?_; (with_reducible refine (impl_FullBoard.calls kj235 t655 t656 t657 t658 t659 t662 _ A248.out).mono ?_); rintro e w252 ⟨v660, rfl, ho0, hb⟩; refine ⟨_, rfl, ?_⟩; have Oq15 := am (Kd.R_lower (Kd.R_new' (Kd.R_new' (Kd.R_new' (Kd.R_new' ho0 (sqL Oq23)) (sqL Oq24)) (sqL Oq25)) (sqL Oq26)) (below_size qb)); replace Oq23 := sqE Oq23 ho0 hb; replace Oq24 := sqE Oq24 ho0 hb; replace Oq25 := sqE Oq25 ho0 hb; replace Oq26 := sqE Oq26 ho0 hb; replace BK554 := sqB BK554 hb; replace BK561 := sqB BK561 hb; replace BK575 := sqB BK575 hb; replace BK589 := sqB BK589 hb; replace HB := qs hb; (try clear hb ho0)) | ((with_reducible refine gate_dst (N := 38) rfl ?_); refine qv 38 #[.int .i64 0, .int .i64 0, .slice none 0 0] 26 ?_; intro gb663 hg w253 hbox hb; have BK663 := am hbox; have GW663 := qw hg; have GE663 := qw hg; have Nq12 := qn hg BK554; have Nq122 := qN hg BK554; have Nq29 := qn hg BK561; have Nq123 := qN hg BK561; have Nq52 := qn hg BK575; have Nq124 := qN hg BK575; have Nq75 := qn hg BK589; have Nq125 := qN hg BK589; replace Oq23 := sqR Oq23 hb; replace Oq24 := sqR Oq24 hb; replace Oq25 := sqR Oq25 hb; replace Oq26 := sqR Oq26 hb; replace Oq15 := sqR Oq15 hb; replace BK554 := sqB BK554 hb; replace BK561 := sqB BK561 hb; replace BK575 := sqB BK575 hb; replace BK589 := sqB BK589 hb; replace HB := qs hb; clear hb hbox hg; have bq68 := Nq122.out; have cq68 := Nq12.out; have bq69 := Nq123.out; have cq69 := Nq29.out; have bq70 := Nq124.out; have cq70 := Nq52.out; have bq71 := Nq125.out; have cq71 := Nq75.out; obtain ⟨zq57, zq58, zq59, fq57, fq58, fq59⟩ := qd BK663; obtain ⟨Ao259, co259, eo259⟩ := Kd.R_slice Oq15.out; subst eo259) | ((with_reducible refine gate_callee (f := 22) rfl ?_); refine qg (some 235) Tryd.func22 #[.int .i64 t655, .int .i64 t656] ?_; (with_reducible refine (spec_FullBoard.calls kj235 t655 t656 t664 t665 t666 t669 _ A249.out).mono ?_); rintro e w260 ⟨v667, rfl, ho0, hb⟩; refine ⟨_, rfl, ?_⟩; have Oq16 := am (Kd.R_lower (Kd.R_new' (Kd.R_new' (Kd.R_new' (Kd.R_new' (Kd.R_new' ho0 (sqv (sqo Oq23 BK663))) (sqv (sqo Oq24 BK663))) (sqv (sqo Oq25 BK663))) (sqv (sqo Oq26 BK663))) (sqv (sqo Oq15 BK663))) (below_size qb)); replace Oq23 := qe (sqw (sqo Oq23 BK663)) ho0 hb; replace Oq24 := qe (sqw (sqo Oq24 BK663)) ho0 hb; replace Oq25 := qe (sqw (sqo Oq25 BK663)) ho0 hb; replace Oq26 := qe (sqw (sqo Oq26 BK663)) ho0 hb; replace Oq15 := qe (sqw (sqo Oq15 BK663)) ho0 hb; replace BK554 := sqBf BK554 Nq12 (.int .i64 t657) (.int .i64 t658) (.slice Ao259 t659.length co259) hb; replace BK561 := sqBf BK561 Nq29 (.int .i64 t657) (.int .i64 t658) (.slice Ao259 t659.length co259) hb; replace BK575 := sqBf BK575 Nq52 (.int .i64 t657) (.int .i64 t658) (.slice Ao259 t659.length co259) hb; replace BK589 := sqBf BK589 Nq75 (.int .i64 t657) (.int .i64 t658) (.slice Ao259 t659.length co259) hb; replace BK663 := sqBp BK663 (.int .i64 t657) (.int .i64 t658) (.slice Ao259 t659.length co259) hb; replace HB := qs hb; (try clear hb ho0)) | ((with_reducible refine gate_dst (N := 40) rfl ?_); refine qv 40 #[.int .i64 0, .int .i64 0, .slice none 0 0] 26 ?_; intro gb670 hg w261 hbox hb; have BK670 := am hbox; have GW670 := qw hg; have GE670 := qw hg; have Nq13 := qn hg BK554; have Nq127 := qN hg BK554; have Nq30 := qn hg BK561; have Nq128 := qN hg BK561; have Nq53 := qn hg BK575; have Nq129 := qN hg BK575; have Nq76 := qn hg BK589; have Nq130 := qN hg BK589; have Nq126 := qn hg BK663; have Nq131 := qN hg BK663; replace Oq23 := sqR Oq23 hb; replace Oq24 := sqR Oq24 hb; replace Oq25 := sqR Oq25 hb; replace Oq26 := sqR Oq26 hb; replace Oq15 := sqR Oq15 hb; replace Oq16 := sqR Oq16 hb; replace BK554 := sqB BK554 hb; replace BK561 := sqB BK561 hb; replace BK575 := sqB BK575 hb; replace BK589 := sqB BK589 hb; replace BK663 := sqB BK663 hb; replace HB := qs hb; clear hb hbox hg; have bq73 := Nq127.out; have cq73 := Nq13.out; have bq74 := Nq128.out; have cq74 := Nq30.out; have bq75 := Nq129.out; have cq75 := Nq53.out; have bq76 := Nq130.out; have cq76 := Nq76.out; have bq77 := Nq131.out; have cq77 := Nq126.out; obtain ⟨zq60, zq61, zq62, fq60, fq61, fq62⟩ := qd BK670; obtain ⟨Ao268, co268, eo268⟩ := Kd.R_slice Oq16.out; subst eo268))
       (try simp only [Act.put, List.setIfInBounds_toArray, List.set_cons_zero, List.set_cons_succ])
       go_cut [246] (fun v246 wc => ∃ (kq : Nat) (x246_249 : Bool), v246 = .bool x246_249 ∧ Aside0 (laws_FnBoardsTurned.j6 kq t567 x246_249 t549 t550 x555002_157 t555 t556 x562002_157 t569 t570 x576002_157 t583 t584 x590002_157 = some true) ∧ Aside0 (kq ≤ kj235) ∧ Aside0 (Kd.R (Kd.int .i64) 3 wc w.heap.size (fun k_ => some k_ ≠ (u562002 : Value).ownBlock ∧ some k_ ≠ (u576002 : Value).ownBlock ∧ some k_ ≠ (u590002 : Value).ownBlock) u555002 x555002_157) ∧ Aside0 (Kd.R (Kd.int .i64) 3 wc w.heap.size (fun k_ => some k_ ≠ (u555002 : Value).ownBlock ∧ some k_ ≠ (u576002 : Value).ownBlock ∧ some k_ ≠ (u590002 : Value).ownBlock) u562002 x562002_157) ∧ Aside0 (Kd.R (Kd.int .i64) 3 wc w.heap.size (fun k_ => some k_ ≠ (u555002 : Value).ownBlock ∧ some k_ ≠ (u562002 : Value).ownBlock ∧ some k_ ≠ (u590002 : Value).ownBlock) u576002 x576002_157) ∧ Aside0 (Kd.R (Kd.int .i64) 3 wc w.heap.size (fun k_ => some k_ ≠ (u555002 : Value).ownBlock ∧ some k_ ≠ (u562002 : Value).ownBlock ∧ some k_ ≠ (u576002 : Value).ownBlock) u590002 x590002_157) ∧ Aside0 (wc.heap[gb554]? = some (.cells #[.int .i64 t549, .int .i64 t550, u555002] 26 (0, 0))) ∧ Aside0 (wc.heap[gb561]? = some (.cells #[.int .i64 t555, .int .i64 t556, u562002] 26 (0, 0))) ∧ Aside0 (wc.heap[gb575]? = some (.cells #[.int .i64 t569, .int .i64 t570, u576002] 26 (0, 0))) ∧ Aside0 (wc.heap[gb589]? = some (.cells #[.int .i64 t583, .int .i64 t584, u590002] 26 (0, 0))) ∧ Aside0 (Below w.heap.size w wc))
       case first =>
        refine ?zq2
        let rec q2 : type_of% ?zq2 := by
          have H := HC250.out
          clear HC250
          by_cases c269 : (t662 != t669) = true
          ·
           rw [if_pos c269] at H
           have c269b0 : (t662 != t669) = true := c269
           (try (have c269b1 : decide (t662 = t669) = false := by simpa using c269))
           (try (have c269b2 : (t662 == t669) = false := by simpa using c269))
           (try (have c269b3 : ¬ (t662 = t669) := by simpa using c269))
           clear c269
           (first | rw [c269b0] | (simp only [i64_w, i32_w]; rw [c269b0]) | rw [c269b1] | skip)
           exact absurd H (laws_FnBoardsTurned.j6_no _ _ _ _ _ _ _ _ _ _ _ _ _ _)
          ·
           rw [if_neg c269] at H
           have c269b0 : (t662 != t669) = false := by simpa using c269
           (try (have c269b1 : decide (t662 = t669) = true := by simpa using c269))
           (try (have c269b2 : (t662 == t669) = true := by simpa using c269))
           clear c269
           (first | rw [c269b0] | (simp only [i64_w, i32_w]; rw [c269b0]) | rw [c269b1] | skip)
           replace H := qE H
           obtain ⟨t671, A270, H⟩ := H
           replace H : (laws_FnBoardsTurned.j6 kj235 t567 (!t671) t549 t550 x555002_157 t555 t556 x562002_157 t569 t570 x576002_157 t583 t584 x590002_157) = some true := H
           have H' := Aside0.mk H
           clear H
           have bq78 := Nq122.out
           have cq78 := Nq12.out
           have bq79 := Nq123.out
           have cq79 := Nq29.out
           have bq80 := Nq124.out
           have cq80 := Nq52.out
           have bq81 := Nq125.out
           have cq81 := Nq75.out
           have bq82 := Nq126.out
           have cq82 := Nq131.out
           obtain ⟨zq63, zq64, zq65, fq63, fq64, fq65⟩ := qd BK663
           have bq83 := Nq127.out
           have cq83 := Nq13.out
           have bq84 := Nq128.out
           have cq84 := Nq30.out
           have bq85 := Nq129.out
           have cq85 := Nq53.out
           have bq86 := Nq130.out
           have cq86 := Nq76.out
           obtain ⟨zq69, zq70, zq71, fq69, fq70, fq71⟩ := qd BK670
           go_wp2_with (first | (go_at_call 12; (with_reducible refine (laws_rSameBoard.calls kj235 t657 t658 _ _ t659 t664 t665 _ _ t666 t671 _ ?side1 ?side2 ?side3 ?side4 A270.out).mono ?_); (case side1 => refine (Kd.R_reads' (e := 3) (base := w.heap.size) (ok := fun k_ => (((((True ∧ some k_ ≠ (u555002 : Value).ownBlock) ∧ some k_ ≠ (u562002 : Value).ownBlock) ∧ some k_ ≠ (u576002 : Value).ownBlock) ∧ some k_ ≠ (u590002 : Value).ownBlock) ∧ some k_ ≠ (.slice Ao268 t666.length co268 : Value).ownBlock)) (n := t659.length) (c := co259) ?_).2.2; exact (sqw (Kd.R_mono (sqo Oq15 BK670) qh))); (case side2 => exact (Kd.R_reads' Oq15.out).2.1); (case side3 => refine (Kd.R_reads' (e := 3) (base := w.heap.size) (ok := fun k_ => (((((True ∧ some k_ ≠ (u555002 : Value).ownBlock) ∧ some k_ ≠ (u562002 : Value).ownBlock) ∧ some k_ ≠ (u576002 : Value).ownBlock) ∧ some k_ ≠ (u590002 : Value).ownBlock) ∧ some k_ ≠ (.slice Ao259 t659.length co259 : Value).ownBlock)) (n := t666.length) (c := co268) ?_).2.2; exact (sqw (Kd.R_mono (sqo Oq16 BK670) qh))); (case side4 => exact (Kd.R_reads' Oq16.out).2.1); rintro e w282 ⟨rfl, hb⟩; replace Oq23 := am (Kd.R_below (sqw (sqo Oq23 BK670)) hb); replace Oq24 := am (Kd.R_below (sqw (sqo Oq24 BK670)) hb); replace Oq25 := am (Kd.R_below (sqw (sqo Oq25 BK670)) hb); replace Oq26 := am (Kd.R_below (sqw (sqo Oq26 BK670)) hb); replace Oq15 := am (Kd.R_below (sqw (sqo Oq15 BK670)) hb); replace Oq16 := am (Kd.R_below (sqw (sqo Oq16 BK670)) hb); replace BK554 := sqBf BK554 Nq13 (.int .i64 t664) (.int .i64 t665) (.slice Ao268 t666.length co268) hb; replace BK561 := sqBf BK561 Nq30 (.int .i64 t664) (.int .i64 t665) (.slice Ao268 t666.length co268) hb; replace BK575 := sqBf BK575 Nq53 (.int .i64 t664) (.int .i64 t665) (.slice Ao268 t666.length co268) hb; replace BK589 := sqBf BK589 Nq76 (.int .i64 t664) (.int .i64 t665) (.slice Ao268 t666.length co268) hb; replace BK663 := sqBf BK663 Nq126 (.int .i64 t664) (.int .i64 t665) (.slice Ao268 t666.length co268) hb; replace BK670 := sqBp BK670 (.int .i64 t664) (.int .i64 t665) (.slice Ao268 t666.length co268) hb; replace HB := qs hb; (try clear hb)))
           go_meet
           case rel => exact ⟨_, (!t671), Q2, H', ⟨by have := HJ11.out; have := HJ110.out; have := HJ157.out; have := HJ201.out; have := HJ235.out; first | omega | exact Nat.le_refl _⟩, ⟨by exact sqm Oq23 (fun _ hk => by first | exact ⟨hk.1.1.1, ⟨hk.1.1.2.1, hk.1.1.2.2⟩⟩ | (and_intros <;> first | trivial | simp only [hk, ne_eq, not_false_eq_true]))⟩, ⟨by exact sqm Oq24 (fun _ hk => by first | exact ⟨hk.1.1.1, ⟨hk.1.1.2.1, hk.1.1.2.2⟩⟩ | (and_intros <;> first | trivial | simp only [hk, ne_eq, not_false_eq_true]))⟩, ⟨by exact sqm Oq25 (fun _ hk => by first | exact ⟨hk.1.1.1, ⟨hk.1.1.2.1, hk.1.1.2.2⟩⟩ | (and_intros <;> first | trivial | simp only [hk, ne_eq, not_false_eq_true]))⟩, ⟨by exact sqm Oq26 (fun _ hk => by first | exact ⟨hk.1.1.1, ⟨hk.1.1.2.1, hk.1.1.2.2⟩⟩ | (and_intros <;> first | trivial | simp only [hk, ne_eq, not_false_eq_true]))⟩, ⟨Q9⟩, ⟨Q10⟩, ⟨Q11⟩, ⟨Q12⟩, ⟨qb⟩⟩
        exact q2
       case rest =>
        refine ?zq3
        let rec q3 : type_of% ?zq3 := by
          clear HC250
          try clear c4; try clear c67; try clear c67b0; try clear c67b1; try clear c67b2; try clear c69; try clear c70; try clear c70b0; try clear c70b1; try clear c70b2; try clear c72; try clear c73; try clear c73b0; try clear c73b1; try clear c73b2; try clear c75; try clear c76; try clear c76b0; try clear c76b1; try clear c76b2; try clear c107; try clear c141; try clear c141b0; try clear c141b1; try clear c141b2; try clear c157; try clear c159; try clear c160; try clear c160b0; try clear c160b1; try clear c161; try clear c161b0; try clear c161b1; try clear c164; try clear c164b0; try clear c165; try clear c165b0; try clear c166; try clear c166b0; try clear c167; try clear c167b0; try clear c168; try clear c168b0; try clear p169; try clear q169; try clear c173; try clear c175; try clear c221; try clear c221b0; try clear c221b1; try clear c221b2; try clear c235; try clear c237; try clear c239; try clear c240; try clear c240b0; try clear c240b1; try clear c269; try clear c269b0; try clear c269b1; try clear c269b2; try clear zq0; try clear zq1; try clear zq2; try clear zq3; try clear zq4; try clear zq5; try clear zq6; try clear zq7; try clear zq8; try clear zq9; try clear zq10; try clear zq11; try clear zq12; try clear zq13; try clear zq14; try clear zq15; try clear zq16; try clear zq17; try clear zq18; try clear zq19; try clear zq20; try clear zq21; try clear zq22; try clear zq23; try clear zq24; try clear zq25; try clear zq26; try clear zq27; try clear zq28; try clear zq29; try clear zq30; try clear zq31; try clear zq32; try clear zq33; try clear zq34; try clear zq35; try clear zq36; try clear zq37; try clear zq38; try clear zq39; try clear zq40; try clear zq41; try clear zq42; try clear zq43; try clear zq44; try clear zq45; try clear zq46; try clear zq47; try clear zq48; try clear zq49; try clear zq50; try clear zq51; try clear zq52; try clear zq53; try clear zq54; try clear zq55; try clear zq56; try clear zq57; try clear zq58; try clear zq59; try clear zq60; try clear zq61; try clear zq62; try clear zq63; try clear zq64; try clear zq65; try clear zq66; try clear zq67; try clear zq68; try clear zq69; try clear zq70; try clear zq71; try clear zq75; try clear zq76; try clear zq77; try clear zq105; try clear zq106; try clear zq107; try clear zq120; try clear zq121; try clear zq122; try clear zq147; try clear zq148; try clear zq149; try clear zq150; try clear zq151; try clear zq152; try clear zq153; try clear zq154; try clear zq155; try clear zq156; try clear zq157; try clear zq158; try clear zq159; try clear zq160; try clear zq161; try clear zq162; try clear zq163; try clear zq164; try clear zq165; try clear zq166; try clear zq167; try clear zq168; try clear zq169; try clear zq170; try clear zq171; try clear zq172; try clear zq173; try clear fq0; try clear fq1; try clear fq2; try clear fq3; try clear fq4; try clear fq5; try clear fq6; try clear fq7; try clear fq8; try clear fq9; try clear fq10; try clear fq11; try clear fq12; try clear fq13; try clear fq14; try clear fq15; try clear fq16; try clear fq17; try clear fq18; try clear fq19; try clear fq20; try clear fq21; try clear fq22; try clear fq23; try clear fq24; try clear fq25; try clear fq26; try clear fq27; try clear fq28; try clear fq29; try clear fq30; try clear fq31; try clear fq32; try clear fq33; try clear fq34; try clear fq35; try clear fq36; try clear fq37; try clear fq38; try clear fq39; try clear fq40; try clear fq41; try clear fq42; try clear fq43; try clear fq44; try clear fq45; try clear fq46; try clear fq47; try clear fq48; try clear fq49; try clear fq50; try clear fq51; try clear fq52; try clear fq53; try clear fq54; try clear fq55; try clear fq56; try clear fq57; try clear fq58; try clear fq59; try clear fq60; try clear fq61; try clear fq62; try clear fq63; try clear fq64; try clear fq65; try clear fq66; try clear fq67; try clear fq68; try clear fq69; try clear fq70; try clear fq71; try clear fq75; try clear fq76; try clear fq77; try clear fq105; try clear fq106; try clear fq107; try clear fq120; try clear fq121; try clear fq122; try clear fq147; try clear fq148; try clear fq149; try clear fq150; try clear fq151; try clear fq152; try clear fq153; try clear fq154; try clear fq155; try clear fq156; try clear fq157; try clear fq158; try clear fq159; try clear fq160; try clear fq161; try clear fq162; try clear fq163; try clear fq164; try clear fq165; try clear fq166; try clear fq167; try clear fq168; try clear fq169; try clear fq170; try clear fq171; try clear fq172; try clear fq173; try clear hx169_0; try clear hx627_0; try clear p169; try clear p627; try clear q169; try clear q627
          obtain ⟨kq, x246_249, rfl, HA, HJ249, Oq23, Oq24, Oq25, Oq26, BK554, BK561, BK575, BK589, HB⟩ := hcut
          cases kq with
          | zero => exact absurd HA.out (by simp [laws_FnBoardsTurned.j6])
          | succ kj249 =>
           have H := HA.out
           clear HA
           simp only [laws_FnBoardsTurned.j6] at H
           by_cases c283 : x246_249 = true
           ·
            subst c283
            have H1 : (some false) = some true := by first | (rw [if_pos rfl] at H; exact H) | rfl
            clear H
            have H := H1
            clear H1
            exact absurd (Option.some.inj H) (by decide)
           ·
            replace c283 := Bool.eq_false_iff.mpr c283
            subst c283
            have H1 : (if t567 = true then ((impl_TurnBoard.f kj249 t555 t556 x562002_157).bind fun bt672 => ((impl_MirrorBoard.f t569 t570 x576002_157).bind fun bt679 => ((impl_ComplementOf.f t583 t584 x590002_157).bind fun bt686 => ((impl_CountCells.f kj249 t549 t550 x555002_157).bind fun bt693 => ((impl_CountCells.f kj249 t583 t584 x590002_157).bind fun bt695 => (laws_FnBoardsTurned.l1 kj249 bt672.2.2.2 bt679.2.2.2 bt686.2.2.2 bt693.1 bt693.2 bt695.1 bt695.2 0 t549 t550 x555002_157 t555 t556 x562002_157 t569 t570 x576002_157 t583 t584 x590002_157 bt672.1 bt672.2.1 bt672.2.2.1 bt679.1 bt679.2.1 bt679.2.2.1 bt686.1 bt686.2.1 bt686.2.2.1)))))) else (some true)) = some true := by first | (rw [if_neg (show ¬ (false = true) by decide)] at H; exact H) | rfl
            clear H
            have H := H1
            clear H1
            by_cases c284 : t567 = true
            ·
             subst c284
             have H1 : ((impl_TurnBoard.f kj249 t555 t556 x562002_157).bind fun bt672 => ((impl_MirrorBoard.f t569 t570 x576002_157).bind fun bt679 => ((impl_ComplementOf.f t583 t584 x590002_157).bind fun bt686 => ((impl_CountCells.f kj249 t549 t550 x555002_157).bind fun bt693 => ((impl_CountCells.f kj249 t583 t584 x590002_157).bind fun bt695 => (laws_FnBoardsTurned.l1 kj249 bt672.2.2.2 bt679.2.2.2 bt686.2.2.2 bt693.1 bt693.2 bt695.1 bt695.2 0 t549 t550 x555002_157 t555 t556 x562002_157 t569 t570 x576002_157 t583 t584 x590002_157 bt672.1 bt672.2.1 bt672.2.2.1 bt679.1 bt679.2.1 bt679.2.2.1 bt686.1 bt686.2.1 bt686.2.2.1)))))) = some true := by first | (rw [if_pos rfl] at H; exact H) | rfl
             clear H
             have H := H1
             clear H1
             replace H := qE H
             obtain ⟨⟨t672, t673, t674, t677⟩, A285, H⟩ := H
             replace H : ((impl_MirrorBoard.f t569 t570 x576002_157).bind fun bt679 => ((impl_ComplementOf.f t583 t584 x590002_157).bind fun bt686 => ((impl_CountCells.f kj249 t549 t550 x555002_157).bind fun bt693 => ((impl_CountCells.f kj249 t583 t584 x590002_157).bind fun bt695 => (laws_FnBoardsTurned.l1 kj249 t677 bt679.2.2.2 bt686.2.2.2 bt693.1 bt693.2 bt695.1 bt695.2 0 t549 t550 x555002_157 t555 t556 x562002_157 t569 t570 x576002_157 t583 t584 x590002_157 t672 t673 t674 bt679.1 bt679.2.1 bt679.2.2.1 bt686.1 bt686.2.1 bt686.2.2.1))))) = some true := H
             replace H := qE H
             obtain ⟨⟨t679, t680, t681, t684⟩, A286, H⟩ := H
             replace H : ((impl_ComplementOf.f t583 t584 x590002_157).bind fun bt686 => ((impl_CountCells.f kj249 t549 t550 x555002_157).bind fun bt693 => ((impl_CountCells.f kj249 t583 t584 x590002_157).bind fun bt695 => (laws_FnBoardsTurned.l1 kj249 t677 t684 bt686.2.2.2 bt693.1 bt693.2 bt695.1 bt695.2 0 t549 t550 x555002_157 t555 t556 x562002_157 t569 t570 x576002_157 t583 t584 x590002_157 t672 t673 t674 t679 t680 t681 bt686.1 bt686.2.1 bt686.2.2.1)))) = some true := H
             replace H := qE H
             obtain ⟨⟨t686, t687, t688, t691⟩, A287, H⟩ := H
             replace H : ((impl_CountCells.f kj249 t549 t550 x555002_157).bind fun bt693 => ((impl_CountCells.f kj249 t583 t584 x590002_157).bind fun bt695 => (laws_FnBoardsTurned.l1 kj249 t677 t684 t691 bt693.1 bt693.2 bt695.1 bt695.2 0 t549 t550 x555002_157 t555 t556 x562002_157 t569 t570 x576002_157 t583 t584 x590002_157 t672 t673 t674 t679 t680 t681 t686 t687 t688))) = some true := H
             replace H := qE H
             obtain ⟨⟨t693, t694⟩, A288, H⟩ := H
             replace H : ((impl_CountCells.f kj249 t583 t584 x590002_157).bind fun bt695 => (laws_FnBoardsTurned.l1 kj249 t677 t684 t691 t693 t694 bt695.1 bt695.2 0 t549 t550 x555002_157 t555 t556 x562002_157 t569 t570 x576002_157 t583 t584 x590002_157 t672 t673 t674 t679 t680 t681 t686 t687 t688)) = some true := H
             replace H := qE H
             obtain ⟨⟨t695, t696⟩, A289, H⟩ := H
             replace H : (laws_FnBoardsTurned.l1 kj249 t677 t684 t691 t693 t694 t695 t696 0 t549 t550 x555002_157 t555 t556 x562002_157 t569 t570 x576002_157 t583 t584 x590002_157 t672 t673 t674 t679 t680 t681 t686 t687 t688) = some true := H
             have H' := Aside0.mk H
             clear H
             have bq87 := Nq17.out
             have cq87 := Nq0.out
             have bq88 := Nq19.out
             have cq88 := Nq41.out
             have bq89 := Nq21.out
             have cq89 := Nq64.out
             obtain ⟨zq72, zq73, zq74, fq72, fq73, fq74⟩ := qd BK561
             obtain ⟨Ao294, co294, eo294⟩ := Kd.R_slice Oq24.out
             subst eo294
             go_wp2_with (first | ((with_reducible refine gate_callee (f := 6) rfl ?_); refine qg (some 251) Tryd.func6 #[.agg #[.int .i64 t555, .int .i64 t556, .slice Ao294 x562002_157.length co294]] ?_; (with_reducible refine (impl_TurnBoard.calls kj249 t555 t556 _ _ x562002_157 t672 t673 t674 t677 _ ?side1 ?side2 A285.out).mono ?_); (case side1 => repeat (first | exact (Kd.R_reads' Oq24.out).2.2 | (with_reducible first | refine Kd.C_alloc ?_ _ | refine Kd.C_drewN ?_ _ | refine Kd.C_drew ?_))); (case side2 => exact (Kd.R_reads' Oq24.out).2.1); rintro e w295 ⟨v675, rfl, ho0, hb⟩; refine ⟨_, rfl, ?_⟩; have Oq17 := am (Kd.R_lower (Kd.R_new' (Kd.R_new' (Kd.R_new' (Kd.R_new' ho0 (sqL Oq23)) (sqL Oq24)) (sqL Oq25)) (sqL Oq26)) (below_size qb)); replace Oq23 := sqE Oq23 ho0 hb; replace Oq24 := sqE Oq24 ho0 hb; replace Oq25 := sqE Oq25 ho0 hb; replace Oq26 := sqE Oq26 ho0 hb; replace BK554 := sqB BK554 hb; replace BK561 := sqB BK561 hb; replace BK575 := sqB BK575 hb; replace BK589 := sqB BK589 hb; replace HB := qs hb; (try clear hb ho0)) | ((with_reducible refine gate_dst (N := 42) rfl ?_); refine qv 42 #[.int .i64 0, .int .i64 0, .slice none 0 0] 26 ?_; intro gb678 hg w296 hbox hb; have BK678 := am hbox; have GW678 := qw hg; have GE678 := qw hg; have Nq14 := qn hg BK554; have Nq132 := qN hg BK554; have Nq31 := qn hg BK561; have Nq133 := qN hg BK561; have Nq54 := qn hg BK575; have Nq134 := qN hg BK575; have Nq77 := qn hg BK589; have Nq135 := qN hg BK589; replace Oq23 := sqR Oq23 hb; replace Oq24 := sqR Oq24 hb; replace Oq25 := sqR Oq25 hb; replace Oq26 := sqR Oq26 hb; replace Oq17 := sqR Oq17 hb; replace BK554 := sqB BK554 hb; replace BK561 := sqB BK561 hb; replace BK575 := sqB BK575 hb; replace BK589 := sqB BK589 hb; replace HB := qs hb; clear hb hbox hg; have bq90 := Nq132.out; have cq90 := Nq14.out; have bq91 := Nq133.out; have cq91 := Nq31.out; have bq92 := Nq134.out; have cq92 := Nq54.out; have bq93 := Nq135.out; have cq93 := Nq77.out; obtain ⟨zq78, zq79, zq80, fq78, fq79, fq80⟩ := qd BK678; obtain ⟨Ao302, co302, eo302⟩ := Kd.R_slice Oq17.out; subst eo302; have bq94 := Nq40.out; have cq94 := Nq2.out; have bq95 := Nq44.out; have cq95 := Nq66.out; obtain ⟨zq81, zq82, zq83, fq81, fq82, fq83⟩ := qd BK575; obtain ⟨Ao306, co306, eo306⟩ := Kd.R_slice Oq25.out; subst eo306) | ((with_reducible refine gate_callee (f := 8) rfl ?_); refine qg (some 256) Tryd.func8 #[.agg #[.int .i64 t569, .int .i64 t570, .slice Ao306 x576002_157.length co306]] ?_; (with_reducible refine (impl_MirrorBoard.calls t569 t570 _ _ x576002_157 t679 t680 t681 t684 _ ?side1 ?side2 A286.out).mono ?_); (case side1 => refine (Kd.R_reads' (e := 3) (base := w.heap.size) (ok := fun k_ => ((some k_ ≠ (u555002 : Value).ownBlock ∧ (some k_ ≠ (.slice Ao294 x562002_157.length co294 : Value).ownBlock ∧ some k_ ≠ (u590002 : Value).ownBlock)) ∧ some k_ ≠ (.slice Ao302 t674.length co302 : Value).ownBlock)) (n := x576002_157.length) (c := co306) ?_).2.2; exact (sqw (Kd.R_mono (sqo Oq25 BK678) qh))); (case side2 => exact (Kd.R_reads' Oq25.out).2.1); rintro e w307 ⟨v682, rfl, ho0, hb⟩; refine ⟨_, rfl, ?_⟩; have Oq18 := am (Kd.R_lower (Kd.R_new' (Kd.R_new' (Kd.R_new' (Kd.R_new' (Kd.R_new' ho0 (sqv (sqo Oq23 BK678))) (sqv (sqo Oq24 BK678))) (sqv (sqo Oq25 BK678))) (sqv (sqo Oq26 BK678))) (sqv (sqo Oq17 BK678))) (below_size qb)); replace Oq23 := qe (sqw (sqo Oq23 BK678)) ho0 hb; replace Oq24 := qe (sqw (sqo Oq24 BK678)) ho0 hb; replace Oq25 := qe (sqw (sqo Oq25 BK678)) ho0 hb; replace Oq26 := qe (sqw (sqo Oq26 BK678)) ho0 hb; replace Oq17 := qe (sqw (sqo Oq17 BK678)) ho0 hb; replace BK554 := sqBf BK554 Nq14 (.int .i64 t672) (.int .i64 t673) (.slice Ao302 t674.length co302) hb; replace BK561 := sqBf BK561 Nq31 (.int .i64 t672) (.int .i64 t673) (.slice Ao302 t674.length co302) hb; replace BK575 := sqBf BK575 Nq54 (.int .i64 t672) (.int .i64 t673) (.slice Ao302 t674.length co302) hb; replace BK589 := sqBf BK589 Nq77 (.int .i64 t672) (.int .i64 t673) (.slice Ao302 t674.length co302) hb; replace BK678 := sqBp BK678 (.int .i64 t672) (.int .i64 t673) (.slice Ao302 t674.length co302) hb; replace HB := qs hb; (try clear hb ho0)) | ((with_reducible refine gate_dst (N := 44) rfl ?_); refine qv 44 #[.int .i64 0, .int .i64 0, .slice none 0 0] 26 ?_; intro gb685 hg w308 hbox hb; have BK685 := am hbox; have GW685 := qw hg; have GE685 := qw hg; have Nq15 := qn hg BK554; have Nq138 := qN hg BK554; have Nq32 := qn hg BK561; have Nq139 := qN hg BK561; have Nq55 := qn hg BK575; have Nq140 := qN hg BK575; have Nq78 := qn hg BK589; have Nq141 := qN hg BK589; have Nq136 := qn hg BK678; have Nq142 := qN hg BK678; replace Oq23 := sqR Oq23 hb; replace Oq24 := sqR Oq24 hb; replace Oq25 := sqR Oq25 hb; replace Oq26 := sqR Oq26 hb; replace Oq17 := sqR Oq17 hb; replace Oq18 := sqR Oq18 hb; replace BK554 := sqB BK554 hb; replace BK561 := sqB BK561 hb; replace BK575 := sqB BK575 hb; replace BK589 := sqB BK589 hb; replace BK678 := sqB BK678 hb; replace HB := qs hb; clear hb hbox hg; have bq96 := Nq138.out; have cq96 := Nq15.out; have bq97 := Nq139.out; have cq97 := Nq32.out; have bq98 := Nq140.out; have cq98 := Nq55.out; have bq99 := Nq141.out; have cq99 := Nq78.out; have bq100 := Nq142.out; have cq100 := Nq136.out; obtain ⟨zq84, zq85, zq86, fq84, fq85, fq86⟩ := qd BK685; obtain ⟨Ao315, co315, eo315⟩ := Kd.R_slice Oq18.out; subst eo315; have bq101 := Nq63.out; have cq101 := Nq4.out; obtain ⟨zq87, zq88, zq89, fq87, fq88, fq89⟩ := qd BK589; obtain ⟨Ao318, co318, eo318⟩ := Kd.R_slice Oq26.out; subst eo318) | ((with_reducible refine gate_callee (f := 10) rfl ?_); refine qg (some 261) Tryd.func10 #[.agg #[.int .i64 t583, .int .i64 t584, .slice Ao318 x590002_157.length co318]] ?_; (with_reducible refine (impl_ComplementOf.calls t583 t584 _ _ x590002_157 t686 t687 t688 t691 _ ?side1 ?side2 A287.out).mono ?_); (case side1 => refine (Kd.R_reads' (e := 3) (base := w.heap.size) (ok := fun k_ => (((some k_ ≠ (u555002 : Value).ownBlock ∧ (some k_ ≠ (.slice Ao294 x562002_157.length co294 : Value).ownBlock ∧ some k_ ≠ (.slice Ao306 x576002_157.length co306 : Value).ownBlock)) ∧ some k_ ≠ (.slice Ao302 t674.length co302 : Value).ownBlock) ∧ some k_ ≠ (.slice Ao315 t681.length co315 : Value).ownBlock)) (n := x590002_157.length) (c := co318) ?_).2.2; exact (sqw (Kd.R_mono (sqo Oq26 BK685) qh))); (case side2 => exact (Kd.R_reads' Oq26.out).2.1); rintro e w319 ⟨v689, rfl, ho0, hb⟩; refine ⟨_, rfl, ?_⟩; have Oq19 := am (Kd.R_lower (Kd.R_new' (Kd.R_new' (Kd.R_new' (Kd.R_new' (Kd.R_new' (Kd.R_new' ho0 (sqv (sqo Oq23 BK685))) (sqv (sqo Oq24 BK685))) (sqv (sqo Oq25 BK685))) (sqv (sqo Oq26 BK685))) (sqv (sqo Oq17 BK685))) (sqv (sqo Oq18 BK685))) (below_size qb)); replace Oq23 := qe (sqw (sqo Oq23 BK685)) ho0 hb; replace Oq24 := qe (sqw (sqo Oq24 BK685)) ho0 hb; replace Oq25 := qe (sqw (sqo Oq25 BK685)) ho0 hb; replace Oq26 := qe (sqw (sqo Oq26 BK685)) ho0 hb; replace Oq17 := qe (sqw (sqo Oq17 BK685)) ho0 hb; replace Oq18 := qe (sqw (sqo Oq18 BK685)) ho0 hb; replace BK554 := sqBf BK554 Nq15 (.int .i64 t679) (.int .i64 t680) (.slice Ao315 t681.length co315) hb; replace BK561 := sqBf BK561 Nq32 (.int .i64 t679) (.int .i64 t680) (.slice Ao315 t681.length co315) hb; replace BK575 := sqBf BK575 Nq55 (.int .i64 t679) (.int .i64 t680) (.slice Ao315 t681.length co315) hb; replace BK589 := sqBf BK589 Nq78 (.int .i64 t679) (.int .i64 t680) (.slice Ao315 t681.length co315) hb; replace BK678 := sqBf BK678 Nq136 (.int .i64 t679) (.int .i64 t680) (.slice Ao315 t681.length co315) hb; replace BK685 := sqBp BK685 (.int .i64 t679) (.int .i64 t680) (.slice Ao315 t681.length co315) hb; replace HB := qs hb; (try clear hb ho0)) | ((with_reducible refine gate_dst (N := 46) rfl ?_); refine qv 46 #[.int .i64 0, .int .i64 0, .slice none 0 0] 26 ?_; intro gb692 hg w320 hbox hb; have BK692 := am hbox; have GW692 := qw hg; have GE692 := qw hg; have Nq16 := qn hg BK554; have Nq144 := qN hg BK554; have Nq33 := qn hg BK561; have Nq145 := qN hg BK561; have Nq56 := qn hg BK575; have Nq146 := qN hg BK575; have Nq79 := qn hg BK589; have Nq147 := qN hg BK589; have Nq137 := qn hg BK678; have Nq148 := qN hg BK678; have Nq143 := qn hg BK685; have Nq149 := qN hg BK685; replace Oq23 := sqR Oq23 hb; replace Oq24 := sqR Oq24 hb; replace Oq25 := sqR Oq25 hb; replace Oq26 := sqR Oq26 hb; replace Oq17 := sqR Oq17 hb; replace Oq18 := sqR Oq18 hb; replace Oq19 := sqR Oq19 hb; replace BK554 := sqB BK554 hb; replace BK561 := sqB BK561 hb; replace BK575 := sqB BK575 hb; replace BK589 := sqB BK589 hb; replace BK678 := sqB BK678 hb; replace BK685 := sqB BK685 hb; replace HB := qs hb; clear hb hbox hg; have bq103 := Nq144.out; have cq103 := Nq16.out; have bq104 := Nq145.out; have cq104 := Nq33.out; have bq105 := Nq146.out; have cq105 := Nq56.out; have bq106 := Nq147.out; have cq106 := Nq79.out; have bq107 := Nq148.out; have cq107 := Nq137.out; have bq108 := Nq149.out; have cq108 := Nq143.out; obtain ⟨zq90, zq91, zq92, fq90, fq91, fq92⟩ := qd BK692; obtain ⟨Ao328, co328, eo328⟩ := Kd.R_slice Oq19.out; subst eo328; obtain ⟨zq93, zq94, zq95, fq93, fq94, fq95⟩ := qd BK554; obtain ⟨Ao330, co330, eo330⟩ := Kd.R_slice Oq23.out; subst eo330) | ((with_reducible refine gate_callee (f := 23) rfl ?_); refine qg (some 266) Tryd.func23 #[.agg #[.int .i64 t549, .int .i64 t550, .slice Ao330 x555002_157.length co330]] ?_; (with_reducible refine (impl_CountCells.calls kj249 t549 t550 _ _ x555002_157 t693 t694 _ ?side1 ?side2 A288.out).mono ?_); (case side1 => refine (Kd.R_reads' (e := 3) (base := w.heap.size) (ok := fun k_ => ((((some k_ ≠ (.slice Ao294 x562002_157.length co294 : Value).ownBlock ∧ (some k_ ≠ (.slice Ao306 x576002_157.length co306 : Value).ownBlock ∧ some k_ ≠ (.slice Ao318 x590002_157.length co318 : Value).ownBlock)) ∧ some k_ ≠ (.slice Ao302 t674.length co302 : Value).ownBlock) ∧ some k_ ≠ (.slice Ao315 t681.length co315 : Value).ownBlock) ∧ some k_ ≠ (.slice Ao328 t688.length co328 : Value).ownBlock)) (n := x555002_157.length) (c := co330) ?_).2.2; exact (sqw (Kd.R_mono (sqo Oq23 BK692) qh))); (case side2 => exact (Kd.R_reads' Oq23.out).2.1); rintro e w331 ⟨rfl, hb⟩; refine ⟨_, rfl, ?_⟩; replace Oq23 := am (Kd.R_below (sqw (sqo Oq23 BK692)) hb); replace Oq24 := am (Kd.R_below (sqw (sqo Oq24 BK692)) hb); replace Oq25 := am (Kd.R_below (sqw (sqo Oq25 BK692)) hb); replace Oq26 := am (Kd.R_below (sqw (sqo Oq26 BK692)) hb); replace Oq17 := am (Kd.R_below (sqw (sqo Oq17 BK692)) hb); replace Oq18 := am (Kd.R_below (sqw (sqo Oq18 BK692)) hb); replace Oq19 := am (Kd.R_below (sqw (sqo Oq19 BK692)) hb); replace BK554 := sqBf BK554 Nq16 (.int .i64 t686) (.int .i64 t687) (.slice Ao328 t688.length co328) hb; replace BK561 := sqBf BK561 Nq33 (.int .i64 t686) (.int .i64 t687) (.slice Ao328 t688.length co328) hb; replace BK575 := sqBf BK575 Nq56 (.int .i64 t686) (.int .i64 t687) (.slice Ao328 t688.length co328) hb; replace BK589 := sqBf BK589 Nq79 (.int .i64 t686) (.int .i64 t687) (.slice Ao328 t688.length co328) hb; replace BK678 := sqBf BK678 Nq137 (.int .i64 t686) (.int .i64 t687) (.slice Ao328 t688.length co328) hb; replace BK685 := sqBf BK685 Nq143 (.int .i64 t686) (.int .i64 t687) (.slice Ao328 t688.length co328) hb; replace BK692 := sqBp BK692 (.int .i64 t686) (.int .i64 t687) (.slice Ao328 t688.length co328) hb; replace HB := qs hb; (try clear hb); obtain ⟨zq96, zq97, zq98, fq96, fq97, fq98⟩ := qd BK589) | ((with_reducible refine gate_callee (f := 23) rfl ?_); refine qg (some 271) Tryd.func23 #[.agg #[.int .i64 t583, .int .i64 t584, .slice Ao318 x590002_157.length co318]] ?_; (with_reducible refine (impl_CountCells.calls kj249 t583 t584 _ _ x590002_157 t695 t696 _ ?side1 ?side2 A289.out).mono ?_); (case side1 => repeat (first | exact (Kd.R_reads' Oq26.out).2.2 | (with_reducible first | refine Kd.C_alloc ?_ _ | refine Kd.C_drewN ?_ _ | refine Kd.C_drew ?_))); (case side2 => exact (Kd.R_reads' Oq26.out).2.1); rintro e w333 ⟨rfl, hb⟩; refine ⟨_, rfl, ?_⟩; replace Oq23 := sqR Oq23 hb; replace Oq24 := sqR Oq24 hb; replace Oq25 := sqR Oq25 hb; replace Oq26 := sqR Oq26 hb; replace Oq17 := sqR Oq17 hb; replace Oq18 := sqR Oq18 hb; replace Oq19 := sqR Oq19 hb; replace BK554 := sqB BK554 hb; replace BK561 := sqB BK561 hb; replace BK575 := sqB BK575 hb; replace BK589 := sqB BK589 hb; replace BK678 := sqB BK678 hb; replace BK685 := sqB BK685 hb; replace BK692 := sqB BK692 hb; replace HB := qs hb; (try clear hb)))
             go_loopg [52] kj249 (fun kq v52 w' => ∃ (x52_7 : Int), v52 = .int .i64 x52_7 ∧ Aside0 (laws_FnBoardsTurned.l1 kq t677 t684 t691 t693 t694 t695 t696 x52_7 t549 t550 x555002_157 t555 t556 x562002_157 t569 t570 x576002_157 t583 t584 x590002_157 t672 t673 t674 t679 t680 t681 t686 t687 t688 = some true) ∧ Aside0 (kq ≤ kj249) ∧ Aside0 (Kd.R (Kd.int .i64) 3 w' w.heap.size (fun k_ => some k_ ≠ ((.slice Ao294 x562002_157.length co294) : Value).ownBlock ∧ some k_ ≠ ((.slice Ao306 x576002_157.length co306) : Value).ownBlock ∧ some k_ ≠ ((.slice Ao318 x590002_157.length co318) : Value).ownBlock ∧ some k_ ≠ ((.slice Ao302 t674.length co302) : Value).ownBlock ∧ some k_ ≠ ((.slice Ao315 t681.length co315) : Value).ownBlock ∧ some k_ ≠ ((.slice Ao328 t688.length co328) : Value).ownBlock) (.slice Ao330 x555002_157.length co330) x555002_157) ∧ Aside0 (Kd.R (Kd.int .i64) 3 w' w.heap.size (fun k_ => some k_ ≠ ((.slice Ao330 x555002_157.length co330) : Value).ownBlock ∧ some k_ ≠ ((.slice Ao306 x576002_157.length co306) : Value).ownBlock ∧ some k_ ≠ ((.slice Ao318 x590002_157.length co318) : Value).ownBlock ∧ some k_ ≠ ((.slice Ao302 t674.length co302) : Value).ownBlock ∧ some k_ ≠ ((.slice Ao315 t681.length co315) : Value).ownBlock ∧ some k_ ≠ ((.slice Ao328 t688.length co328) : Value).ownBlock) (.slice Ao294 x562002_157.length co294) x562002_157) ∧ Aside0 (Kd.R (Kd.int .i64) 3 w' w.heap.size (fun k_ => some k_ ≠ ((.slice Ao330 x555002_157.length co330) : Value).ownBlock ∧ some k_ ≠ ((.slice Ao294 x562002_157.length co294) : Value).ownBlock ∧ some k_ ≠ ((.slice Ao318 x590002_157.length co318) : Value).ownBlock ∧ some k_ ≠ ((.slice Ao302 t674.length co302) : Value).ownBlock ∧ some k_ ≠ ((.slice Ao315 t681.length co315) : Value).ownBlock ∧ some k_ ≠ ((.slice Ao328 t688.length co328) : Value).ownBlock) (.slice Ao306 x576002_157.length co306) x576002_157) ∧ Aside0 (Kd.R (Kd.int .i64) 3 w' w.heap.size (fun k_ => some k_ ≠ ((.slice Ao330 x555002_157.length co330) : Value).ownBlock ∧ some k_ ≠ ((.slice Ao294 x562002_157.length co294) : Value).ownBlock ∧ some k_ ≠ ((.slice Ao306 x576002_157.length co306) : Value).ownBlock ∧ some k_ ≠ ((.slice Ao302 t674.length co302) : Value).ownBlock ∧ some k_ ≠ ((.slice Ao315 t681.length co315) : Value).ownBlock ∧ some k_ ≠ ((.slice Ao328 t688.length co328) : Value).ownBlock) (.slice Ao318 x590002_157.length co318) x590002_157) ∧ Aside0 (Kd.R (Kd.int .i64) 3 w' w.heap.size (fun k_ => some k_ ≠ ((.slice Ao330 x555002_157.length co330) : Value).ownBlock ∧ some k_ ≠ ((.slice Ao294 x562002_157.length co294) : Value).ownBlock ∧ some k_ ≠ ((.slice Ao306 x576002_157.length co306) : Value).ownBlock ∧ some k_ ≠ ((.slice Ao318 x590002_157.length co318) : Value).ownBlock ∧ some k_ ≠ ((.slice Ao315 t681.length co315) : Value).ownBlock ∧ some k_ ≠ ((.slice Ao328 t688.length co328) : Value).ownBlock) (.slice Ao302 t674.length co302) t674) ∧ Aside0 (Kd.R (Kd.int .i64) 3 w' w.heap.size (fun k_ => some k_ ≠ ((.slice Ao330 x555002_157.length co330) : Value).ownBlock ∧ some k_ ≠ ((.slice Ao294 x562002_157.length co294) : Value).ownBlock ∧ some k_ ≠ ((.slice Ao306 x576002_157.length co306) : Value).ownBlock ∧ some k_ ≠ ((.slice Ao318 x590002_157.length co318) : Value).ownBlock ∧ some k_ ≠ ((.slice Ao302 t674.length co302) : Value).ownBlock ∧ some k_ ≠ ((.slice Ao328 t688.length co328) : Value).ownBlock) (.slice Ao315 t681.length co315) t681) ∧ Aside0 (Kd.R (Kd.int .i64) 3 w' w.heap.size (fun k_ => some k_ ≠ ((.slice Ao330 x555002_157.length co330) : Value).ownBlock ∧ some k_ ≠ ((.slice Ao294 x562002_157.length co294) : Value).ownBlock ∧ some k_ ≠ ((.slice Ao306 x576002_157.length co306) : Value).ownBlock ∧ some k_ ≠ ((.slice Ao318 x590002_157.length co318) : Value).ownBlock ∧ some k_ ≠ ((.slice Ao302 t674.length co302) : Value).ownBlock ∧ some k_ ≠ ((.slice Ao315 t681.length co315) : Value).ownBlock) (.slice Ao328 t688.length co328) t688) ∧ Aside0 (w'.heap[gb554]? = some (.cells #[.int .i64 t549, .int .i64 t550, (.slice Ao330 x555002_157.length co330)] 26 (0, 0))) ∧ Aside0 (w'.heap[gb561]? = some (.cells #[.int .i64 t555, .int .i64 t556, (.slice Ao294 x562002_157.length co294)] 26 (0, 0))) ∧ Aside0 (w'.heap[gb575]? = some (.cells #[.int .i64 t569, .int .i64 t570, (.slice Ao306 x576002_157.length co306)] 26 (0, 0))) ∧ Aside0 (w'.heap[gb589]? = some (.cells #[.int .i64 t583, .int .i64 t584, (.slice Ao318 x590002_157.length co318)] 26 (0, 0))) ∧ Aside0 (w'.heap[gb678]? = some (.cells #[.int .i64 t672, .int .i64 t673, (.slice Ao302 t674.length co302)] 26 (0, 0))) ∧ Aside0 (w'.heap[gb685]? = some (.cells #[.int .i64 t679, .int .i64 t680, (.slice Ao315 t681.length co315)] 26 (0, 0))) ∧ Aside0 (w'.heap[gb692]? = some (.cells #[.int .i64 t686, .int .i64 t687, (.slice Ao328 t688.length co328)] 26 (0, 0))) ∧ Aside0 (Below w.heap.size w w'))
             case atStart => exact ⟨(0), Q2, H', ⟨Nat.le_refl _⟩, ⟨by exact sqm Oq23 (fun _ hk => by first | exact ⟨hk.1.1.1.1, ⟨hk.1.1.1.2.1, ⟨hk.1.1.1.2.2, ⟨hk.1.1.2, ⟨hk.1.2, hk.2⟩⟩⟩⟩⟩ | (and_intros <;> first | trivial | simp only [hk, ne_eq, not_false_eq_true]))⟩, ⟨by exact sqm Oq24 (fun _ hk => by first | exact ⟨hk.1.1.1.1, ⟨hk.1.1.1.2.1, ⟨hk.1.1.1.2.2, ⟨hk.1.1.2, ⟨hk.1.2, hk.2⟩⟩⟩⟩⟩ | (and_intros <;> first | trivial | simp only [hk, ne_eq, not_false_eq_true]))⟩, ⟨by exact sqm Oq25 (fun _ hk => by first | exact ⟨hk.1.1.1.1, ⟨hk.1.1.1.2.1, ⟨hk.1.1.1.2.2, ⟨hk.1.1.2, ⟨hk.1.2, hk.2⟩⟩⟩⟩⟩ | (and_intros <;> first | trivial | simp only [hk, ne_eq, not_false_eq_true]))⟩, ⟨by exact sqm Oq26 (fun _ hk => by first | exact ⟨hk.1.1.1.1, ⟨hk.1.1.1.2.1, ⟨hk.1.1.1.2.2, ⟨hk.1.1.2, ⟨hk.1.2, hk.2⟩⟩⟩⟩⟩ | (and_intros <;> first | trivial | simp only [hk, ne_eq, not_false_eq_true]))⟩, ⟨by exact sqm Oq17 (fun _ hk => by first | exact ⟨hk.1.1.1.1.1.2, ⟨hk.1.1.1.1.2, ⟨hk.1.1.1.2, ⟨hk.1.1.2, ⟨hk.1.2, hk.2⟩⟩⟩⟩⟩ | (and_intros <;> first | trivial | simp only [hk, ne_eq, not_false_eq_true]))⟩, ⟨by exact sqm Oq18 (fun _ hk => by first | exact ⟨hk.1.1.1.1.1.2, ⟨hk.1.1.1.1.2, ⟨hk.1.1.1.2, ⟨hk.1.1.2, ⟨hk.1.2, hk.2⟩⟩⟩⟩⟩ | (and_intros <;> first | trivial | simp only [hk, ne_eq, not_false_eq_true]))⟩, ⟨by exact sqm Oq19 (fun _ hk => by first | exact ⟨hk.1.1.1.1.1.2, ⟨hk.1.1.1.1.2, ⟨hk.1.1.1.2, ⟨hk.1.1.2, ⟨hk.1.2, hk.2⟩⟩⟩⟩⟩ | (and_intros <;> first | trivial | simp only [hk, ne_eq, not_false_eq_true]))⟩, ⟨Q9⟩, ⟨Q10⟩, ⟨Q11⟩, ⟨Q12⟩, ⟨Q43⟩, ⟨Q44⟩, ⟨Q45⟩, ⟨qb⟩⟩
             case round =>
              refine ?zq4
              let rec q4 : type_of% ?zq4 := by
                clear H'
                try clear c4; try clear c67; try clear c67b0; try clear c67b1; try clear c67b2; try clear c69; try clear c70; try clear c70b0; try clear c70b1; try clear c70b2; try clear c72; try clear c73; try clear c73b0; try clear c73b1; try clear c73b2; try clear c75; try clear c76; try clear c76b0; try clear c76b1; try clear c76b2; try clear c107; try clear c141; try clear c141b0; try clear c141b1; try clear c141b2; try clear c157; try clear c159; try clear c160; try clear c160b0; try clear c160b1; try clear c161; try clear c161b0; try clear c161b1; try clear c164; try clear c164b0; try clear c165; try clear c165b0; try clear c166; try clear c166b0; try clear c167; try clear c167b0; try clear c168; try clear c168b0; try clear p169; try clear q169; try clear c173; try clear c175; try clear c221; try clear c221b0; try clear c221b1; try clear c221b2; try clear c235; try clear c237; try clear c239; try clear c240; try clear c240b0; try clear c240b1; try clear c269; try clear c269b0; try clear c269b1; try clear c269b2; try clear c283; try clear c284; try clear zq0; try clear zq1; try clear zq2; try clear zq3; try clear zq4; try clear zq5; try clear zq6; try clear zq7; try clear zq8; try clear zq9; try clear zq10; try clear zq11; try clear zq12; try clear zq13; try clear zq14; try clear zq15; try clear zq16; try clear zq17; try clear zq18; try clear zq19; try clear zq20; try clear zq21; try clear zq22; try clear zq23; try clear zq24; try clear zq25; try clear zq26; try clear zq27; try clear zq28; try clear zq29; try clear zq30; try clear zq31; try clear zq32; try clear zq33; try clear zq34; try clear zq35; try clear zq36; try clear zq37; try clear zq38; try clear zq39; try clear zq40; try clear zq41; try clear zq42; try clear zq43; try clear zq44; try clear zq45; try clear zq46; try clear zq47; try clear zq48; try clear zq49; try clear zq50; try clear zq51; try clear zq52; try clear zq53; try clear zq54; try clear zq55; try clear zq56; try clear zq57; try clear zq58; try clear zq59; try clear zq60; try clear zq61; try clear zq62; try clear zq63; try clear zq64; try clear zq65; try clear zq66; try clear zq67; try clear zq68; try clear zq69; try clear zq70; try clear zq71; try clear zq72; try clear zq73; try clear zq74; try clear zq75; try clear zq76; try clear zq77; try clear zq78; try clear zq79; try clear zq80; try clear zq81; try clear zq82; try clear zq83; try clear zq84; try clear zq85; try clear zq86; try clear zq87; try clear zq88; try clear zq89; try clear zq90; try clear zq91; try clear zq92; try clear zq93; try clear zq94; try clear zq95; try clear zq96; try clear zq97; try clear zq98; try clear zq105; try clear zq106; try clear zq107; try clear zq120; try clear zq121; try clear zq122; try clear zq147; try clear zq148; try clear zq149; try clear zq150; try clear zq151; try clear zq152; try clear zq153; try clear zq154; try clear zq155; try clear zq156; try clear zq157; try clear zq158; try clear zq159; try clear zq160; try clear zq161; try clear zq162; try clear zq163; try clear zq164; try clear zq165; try clear zq166; try clear zq167; try clear zq168; try clear zq169; try clear zq170; try clear zq171; try clear zq172; try clear zq173; try clear fq0; try clear fq1; try clear fq2; try clear fq3; try clear fq4; try clear fq5; try clear fq6; try clear fq7; try clear fq8; try clear fq9; try clear fq10; try clear fq11; try clear fq12; try clear fq13; try clear fq14; try clear fq15; try clear fq16; try clear fq17; try clear fq18; try clear fq19; try clear fq20; try clear fq21; try clear fq22; try clear fq23; try clear fq24; try clear fq25; try clear fq26; try clear fq27; try clear fq28; try clear fq29; try clear fq30; try clear fq31; try clear fq32; try clear fq33; try clear fq34; try clear fq35; try clear fq36; try clear fq37; try clear fq38; try clear fq39; try clear fq40; try clear fq41; try clear fq42; try clear fq43; try clear fq44; try clear fq45; try clear fq46; try clear fq47; try clear fq48; try clear fq49; try clear fq50; try clear fq51; try clear fq52; try clear fq53; try clear fq54; try clear fq55; try clear fq56; try clear fq57; try clear fq58; try clear fq59; try clear fq60; try clear fq61; try clear fq62; try clear fq63; try clear fq64; try clear fq65; try clear fq66; try clear fq67; try clear fq68; try clear fq69; try clear fq70; try clear fq71; try clear fq72; try clear fq73; try clear fq74; try clear fq75; try clear fq76; try clear fq77; try clear fq78; try clear fq79; try clear fq80; try clear fq81; try clear fq82; try clear fq83; try clear fq84; try clear fq85; try clear fq86; try clear fq87; try clear fq88; try clear fq89; try clear fq90; try clear fq91; try clear fq92; try clear fq93; try clear fq94; try clear fq95; try clear fq96; try clear fq97; try clear fq98; try clear fq105; try clear fq106; try clear fq107; try clear fq120; try clear fq121; try clear fq122; try clear fq147; try clear fq148; try clear fq149; try clear fq150; try clear fq151; try clear fq152; try clear fq153; try clear fq154; try clear fq155; try clear fq156; try clear fq157; try clear fq158; try clear fq159; try clear fq160; try clear fq161; try clear fq162; try clear fq163; try clear fq164; try clear fq165; try clear fq166; try clear fq167; try clear fq168; try clear fq169; try clear fq170; try clear fq171; try clear fq172; try clear fq173; try clear hx169_0; try clear hx627_0; try clear p169; try clear p627; try clear q169; try clear q627
                obtain ⟨x52_7, rfl, HA, HK7, Oq23, Oq24, Oq25, Oq26, Oq30, Oq31, Oq32, BK554, BK561, BK575, BK589, BK678, BK685, BK692, HB⟩ := hrel
                cases gk with
                | zero => exact absurd HA.out (by simp [laws_FnBoardsTurned.l1])
                | succ k7 =>
                 have H := HA.out
                 clear HA
                 simp only [laws_FnBoardsTurned.l1] at H
                 by_cases c334 : x52_7 < t549
                 ·
                  rw [if_pos c334] at H
                  have c334b0 : decide (x52_7 < t549) = true := decide_eq_true c334
                  clear c334
                  have H' := Aside0.mk H
                  clear H
                  have bq110 := Nq0.out
                  have cq110 := Nq17.out
                  have bq111 := Nq2.out
                  have cq111 := Nq40.out
                  have bq112 := Nq4.out
                  have cq112 := Nq63.out
                  have bq113 := Nq14.out
                  have cq113 := Nq132.out
                  have bq114 := Nq15.out
                  have cq114 := Nq138.out
                  have bq116 := Nq16.out
                  have cq116 := Nq144.out
                  obtain ⟨zq99, zq100, zq101, fq99, fq100, fq101⟩ := qd BK554
                  go_wp2
                  go_loopg [53] k7 (fun kq v53 w' => ∃ (x53_8 : Int), v53 = .int .i64 x53_8 ∧ Aside0 (laws_FnBoardsTurned.l2 kq t677 t684 t691 t693 t694 t695 t696 x52_7 x53_8 t549 t550 x555002_157 t555 t556 x562002_157 t569 t570 x576002_157 t583 t584 x590002_157 t672 t673 t674 t679 t680 t681 t686 t687 t688 = some true) ∧ Aside0 (kq ≤ k7) ∧ Aside0 (Kd.R (Kd.int .i64) 3 w' w.heap.size (fun k_ => some k_ ≠ ((.slice Ao294 x562002_157.length co294) : Value).ownBlock ∧ some k_ ≠ ((.slice Ao306 x576002_157.length co306) : Value).ownBlock ∧ some k_ ≠ ((.slice Ao318 x590002_157.length co318) : Value).ownBlock ∧ some k_ ≠ ((.slice Ao302 t674.length co302) : Value).ownBlock ∧ some k_ ≠ ((.slice Ao315 t681.length co315) : Value).ownBlock ∧ some k_ ≠ ((.slice Ao328 t688.length co328) : Value).ownBlock) (.slice Ao330 x555002_157.length co330) x555002_157) ∧ Aside0 (Kd.R (Kd.int .i64) 3 w' w.heap.size (fun k_ => some k_ ≠ ((.slice Ao330 x555002_157.length co330) : Value).ownBlock ∧ some k_ ≠ ((.slice Ao306 x576002_157.length co306) : Value).ownBlock ∧ some k_ ≠ ((.slice Ao318 x590002_157.length co318) : Value).ownBlock ∧ some k_ ≠ ((.slice Ao302 t674.length co302) : Value).ownBlock ∧ some k_ ≠ ((.slice Ao315 t681.length co315) : Value).ownBlock ∧ some k_ ≠ ((.slice Ao328 t688.length co328) : Value).ownBlock) (.slice Ao294 x562002_157.length co294) x562002_157) ∧ Aside0 (Kd.R (Kd.int .i64) 3 w' w.heap.size (fun k_ => some k_ ≠ ((.slice Ao330 x555002_157.length co330) : Value).ownBlock ∧ some k_ ≠ ((.slice Ao294 x562002_157.length co294) : Value).ownBlock ∧ some k_ ≠ ((.slice Ao318 x590002_157.length co318) : Value).ownBlock ∧ some k_ ≠ ((.slice Ao302 t674.length co302) : Value).ownBlock ∧ some k_ ≠ ((.slice Ao315 t681.length co315) : Value).ownBlock ∧ some k_ ≠ ((.slice Ao328 t688.length co328) : Value).ownBlock) (.slice Ao306 x576002_157.length co306) x576002_157) ∧ Aside0 (Kd.R (Kd.int .i64) 3 w' w.heap.size (fun k_ => some k_ ≠ ((.slice Ao330 x555002_157.length co330) : Value).ownBlock ∧ some k_ ≠ ((.slice Ao294 x562002_157.length co294) : Value).ownBlock ∧ some k_ ≠ ((.slice Ao306 x576002_157.length co306) : Value).ownBlock ∧ some k_ ≠ ((.slice Ao302 t674.length co302) : Value).ownBlock ∧ some k_ ≠ ((.slice Ao315 t681.length co315) : Value).ownBlock ∧ some k_ ≠ ((.slice Ao328 t688.length co328) : Value).ownBlock) (.slice Ao318 x590002_157.length co318) x590002_157) ∧ Aside0 (Kd.R (Kd.int .i64) 3 w' w.heap.size (fun k_ => some k_ ≠ ((.slice Ao330 x555002_157.length co330) : Value).ownBlock ∧ some k_ ≠ ((.slice Ao294 x562002_157.length co294) : Value).ownBlock ∧ some k_ ≠ ((.slice Ao306 x576002_157.length co306) : Value).ownBlock ∧ some k_ ≠ ((.slice Ao318 x590002_157.length co318) : Value).ownBlock ∧ some k_ ≠ ((.slice Ao315 t681.length co315) : Value).ownBlock ∧ some k_ ≠ ((.slice Ao328 t688.length co328) : Value).ownBlock) (.slice Ao302 t674.length co302) t674) ∧ Aside0 (Kd.R (Kd.int .i64) 3 w' w.heap.size (fun k_ => some k_ ≠ ((.slice Ao330 x555002_157.length co330) : Value).ownBlock ∧ some k_ ≠ ((.slice Ao294 x562002_157.length co294) : Value).ownBlock ∧ some k_ ≠ ((.slice Ao306 x576002_157.length co306) : Value).ownBlock ∧ some k_ ≠ ((.slice Ao318 x590002_157.length co318) : Value).ownBlock ∧ some k_ ≠ ((.slice Ao302 t674.length co302) : Value).ownBlock ∧ some k_ ≠ ((.slice Ao328 t688.length co328) : Value).ownBlock) (.slice Ao315 t681.length co315) t681) ∧ Aside0 (Kd.R (Kd.int .i64) 3 w' w.heap.size (fun k_ => some k_ ≠ ((.slice Ao330 x555002_157.length co330) : Value).ownBlock ∧ some k_ ≠ ((.slice Ao294 x562002_157.length co294) : Value).ownBlock ∧ some k_ ≠ ((.slice Ao306 x576002_157.length co306) : Value).ownBlock ∧ some k_ ≠ ((.slice Ao318 x590002_157.length co318) : Value).ownBlock ∧ some k_ ≠ ((.slice Ao302 t674.length co302) : Value).ownBlock ∧ some k_ ≠ ((.slice Ao315 t681.length co315) : Value).ownBlock) (.slice Ao328 t688.length co328) t688) ∧ Aside0 (w'.heap[gb554]? = some (.cells #[.int .i64 t549, .int .i64 t550, (.slice Ao330 x555002_157.length co330)] 26 (0, 0))) ∧ Aside0 (w'.heap[gb561]? = some (.cells #[.int .i64 t555, .int .i64 t556, (.slice Ao294 x562002_157.length co294)] 26 (0, 0))) ∧ Aside0 (w'.heap[gb575]? = some (.cells #[.int .i64 t569, .int .i64 t570, (.slice Ao306 x576002_157.length co306)] 26 (0, 0))) ∧ Aside0 (w'.heap[gb589]? = some (.cells #[.int .i64 t583, .int .i64 t584, (.slice Ao318 x590002_157.length co318)] 26 (0, 0))) ∧ Aside0 (w'.heap[gb678]? = some (.cells #[.int .i64 t672, .int .i64 t673, (.slice Ao302 t674.length co302)] 26 (0, 0))) ∧ Aside0 (w'.heap[gb685]? = some (.cells #[.int .i64 t679, .int .i64 t680, (.slice Ao315 t681.length co315)] 26 (0, 0))) ∧ Aside0 (w'.heap[gb692]? = some (.cells #[.int .i64 t686, .int .i64 t687, (.slice Ao328 t688.length co328)] 26 (0, 0))) ∧ Aside0 (Below w.heap.size w w'))
                  case atStart => exact ⟨(0), Q2, H', ⟨Nat.le_refl _⟩, ⟨Q67⟩, ⟨Q68⟩, ⟨Q69⟩, ⟨Q70⟩, ⟨Q71⟩, ⟨Q72⟩, ⟨Q73⟩, ⟨Q9⟩, ⟨Q10⟩, ⟨Q11⟩, ⟨Q12⟩, ⟨Q43⟩, ⟨Q44⟩, ⟨Q45⟩, ⟨qb⟩⟩
                  case round =>
                   refine ?zq5
                   let rec q5 : type_of% ?zq5 := by
                     clear H'
                     try clear c4; try clear c67; try clear c67b0; try clear c67b1; try clear c67b2; try clear c69; try clear c70; try clear c70b0; try clear c70b1; try clear c70b2; try clear c72; try clear c73; try clear c73b0; try clear c73b1; try clear c73b2; try clear c75; try clear c76; try clear c76b0; try clear c76b1; try clear c76b2; try clear c107; try clear c141; try clear c141b0; try clear c141b1; try clear c141b2; try clear c157; try clear c159; try clear c160; try clear c160b0; try clear c160b1; try clear c161; try clear c161b0; try clear c161b1; try clear c164; try clear c164b0; try clear c165; try clear c165b0; try clear c166; try clear c166b0; try clear c167; try clear c167b0; try clear c168; try clear c168b0; try clear p169; try clear q169; try clear c173; try clear c175; try clear c221; try clear c221b0; try clear c221b1; try clear c221b2; try clear c235; try clear c237; try clear c239; try clear c240; try clear c240b0; try clear c240b1; try clear c269; try clear c269b0; try clear c269b1; try clear c269b2; try clear c283; try clear c284; try clear c334; try clear c334b0; try clear zq0; try clear zq1; try clear zq2; try clear zq3; try clear zq4; try clear zq5; try clear zq6; try clear zq7; try clear zq8; try clear zq9; try clear zq10; try clear zq11; try clear zq12; try clear zq13; try clear zq14; try clear zq15; try clear zq16; try clear zq17; try clear zq18; try clear zq19; try clear zq20; try clear zq21; try clear zq22; try clear zq23; try clear zq24; try clear zq25; try clear zq26; try clear zq27; try clear zq28; try clear zq29; try clear zq30; try clear zq31; try clear zq32; try clear zq33; try clear zq34; try clear zq35; try clear zq36; try clear zq37; try clear zq38; try clear zq39; try clear zq40; try clear zq41; try clear zq42; try clear zq43; try clear zq44; try clear zq45; try clear zq46; try clear zq47; try clear zq48; try clear zq49; try clear zq50; try clear zq51; try clear zq52; try clear zq53; try clear zq54; try clear zq55; try clear zq56; try clear zq57; try clear zq58; try clear zq59; try clear zq60; try clear zq61; try clear zq62; try clear zq63; try clear zq64; try clear zq65; try clear zq66; try clear zq67; try clear zq68; try clear zq69; try clear zq70; try clear zq71; try clear zq72; try clear zq73; try clear zq74; try clear zq75; try clear zq76; try clear zq77; try clear zq78; try clear zq79; try clear zq80; try clear zq81; try clear zq82; try clear zq83; try clear zq84; try clear zq85; try clear zq86; try clear zq87; try clear zq88; try clear zq89; try clear zq90; try clear zq91; try clear zq92; try clear zq93; try clear zq94; try clear zq95; try clear zq96; try clear zq97; try clear zq98; try clear zq99; try clear zq100; try clear zq101; try clear zq105; try clear zq106; try clear zq107; try clear zq120; try clear zq121; try clear zq122; try clear zq147; try clear zq148; try clear zq149; try clear zq150; try clear zq151; try clear zq152; try clear zq153; try clear zq154; try clear zq155; try clear zq156; try clear zq157; try clear zq158; try clear zq159; try clear zq160; try clear zq161; try clear zq162; try clear zq163; try clear zq164; try clear zq165; try clear zq166; try clear zq167; try clear zq168; try clear zq169; try clear zq170; try clear zq171; try clear zq172; try clear zq173; try clear fq0; try clear fq1; try clear fq2; try clear fq3; try clear fq4; try clear fq5; try clear fq6; try clear fq7; try clear fq8; try clear fq9; try clear fq10; try clear fq11; try clear fq12; try clear fq13; try clear fq14; try clear fq15; try clear fq16; try clear fq17; try clear fq18; try clear fq19; try clear fq20; try clear fq21; try clear fq22; try clear fq23; try clear fq24; try clear fq25; try clear fq26; try clear fq27; try clear fq28; try clear fq29; try clear fq30; try clear fq31; try clear fq32; try clear fq33; try clear fq34; try clear fq35; try clear fq36; try clear fq37; try clear fq38; try clear fq39; try clear fq40; try clear fq41; try clear fq42; try clear fq43; try clear fq44; try clear fq45; try clear fq46; try clear fq47; try clear fq48; try clear fq49; try clear fq50; try clear fq51; try clear fq52; try clear fq53; try clear fq54; try clear fq55; try clear fq56; try clear fq57; try clear fq58; try clear fq59; try clear fq60; try clear fq61; try clear fq62; try clear fq63; try clear fq64; try clear fq65; try clear fq66; try clear fq67; try clear fq68; try clear fq69; try clear fq70; try clear fq71; try clear fq72; try clear fq73; try clear fq74; try clear fq75; try clear fq76; try clear fq77; try clear fq78; try clear fq79; try clear fq80; try clear fq81; try clear fq82; try clear fq83; try clear fq84; try clear fq85; try clear fq86; try clear fq87; try clear fq88; try clear fq89; try clear fq90; try clear fq91; try clear fq92; try clear fq93; try clear fq94; try clear fq95; try clear fq96; try clear fq97; try clear fq98; try clear fq99; try clear fq100; try clear fq101; try clear fq105; try clear fq106; try clear fq107; try clear fq120; try clear fq121; try clear fq122; try clear fq147; try clear fq148; try clear fq149; try clear fq150; try clear fq151; try clear fq152; try clear fq153; try clear fq154; try clear fq155; try clear fq156; try clear fq157; try clear fq158; try clear fq159; try clear fq160; try clear fq161; try clear fq162; try clear fq163; try clear fq164; try clear fq165; try clear fq166; try clear fq167; try clear fq168; try clear fq169; try clear fq170; try clear fq171; try clear fq172; try clear fq173; try clear hx169_0; try clear hx627_0; try clear p169; try clear p627; try clear q169; try clear q627
                     obtain ⟨x53_8, rfl, HA, HK8, Oq23, Oq24, Oq25, Oq26, Oq30, Oq31, Oq32, BK554, BK561, BK575, BK589, BK678, BK685, BK692, HB⟩ := hrel
                     cases gk with
                     | zero => exact absurd HA.out (by simp [laws_FnBoardsTurned.l2])
                     | succ k8 =>
                      have H := HA.out
                      clear HA
                      simp only [laws_FnBoardsTurned.l2] at H
                      by_cases c342 : x53_8 < t550
                      ·
                       rw [if_pos c342] at H
                       have c342b0 : decide (x53_8 < t550) = true := decide_eq_true c342
                       clear c342
                       replace H := qE H
                       obtain ⟨t700, A343, H⟩ := H
                       replace H : ((laws_rOn.f t555 t556 x562002_157 x53_8 x52_7).bind fun t701 => (if (t701 != t700) = true then (some false) else ((laws_rOn.f t569 t570 x576002_157 x52_7 (wrap64 ((wrap64 (t550 - 1)) - x53_8))).bind fun t702 => (if (t702 != t700) = true then (some false) else ((laws_rOn.f t583 t584 x590002_157 x52_7 x53_8).bind fun t703 => (if (t703 == t700) = true then (some false) else (laws_FnBoardsTurned.l2 k8 t677 t684 t691 t693 t694 t695 t696 x52_7 (wrap64 (x53_8 + 1)) t549 t550 x555002_157 t555 t556 x562002_157 t569 t570 x576002_157 t583 t584 x590002_157 t672 t673 t674 t679 t680 t681 t686 t687 t688))))))) = some true := H
                       replace H := qE H
                       obtain ⟨t701, A344, H⟩ := H
                       replace H : (if (t701 != t700) = true then (some false) else ((laws_rOn.f t569 t570 x576002_157 x52_7 (wrap64 ((wrap64 (t550 - 1)) - x53_8))).bind fun t702 => (if (t702 != t700) = true then (some false) else ((laws_rOn.f t583 t584 x590002_157 x52_7 x53_8).bind fun t703 => (if (t703 == t700) = true then (some false) else (laws_FnBoardsTurned.l2 k8 t677 t684 t691 t693 t694 t695 t696 x52_7 (wrap64 (x53_8 + 1)) t549 t550 x555002_157 t555 t556 x562002_157 t569 t570 x576002_157 t583 t584 x590002_157 t672 t673 t674 t679 t680 t681 t686 t687 t688)))))) = some true := H
                       by_cases c345 : (t701 != t700) = true
                       ·
                        rw [if_pos c345] at H
                        have c345b0 : (t701 != t700) = true := c345
                        (try (have c345b1 : decide (t701 = t700) = false := by simpa using c345))
                        (try (have c345b2 : (t701 == t700) = false := by simpa using c345))
                        (try (have c345b3 : ¬ (t701 = t700) := by simpa using c345))
                        clear c345
                        exact absurd (Option.some.inj H) (by decide)
                       ·
                        rw [if_neg c345] at H
                        have c345b0 : (t701 != t700) = false := by simpa using c345
                        (try (have c345b1 : decide (t701 = t700) = true := by simpa using c345))
                        (try (have c345b2 : (t701 == t700) = true := by simpa using c345))
                        clear c345
                        replace H := qE H
                        obtain ⟨t702, A346, H⟩ := H
                        replace H : (if (t702 != t700) = true then (some false) else ((laws_rOn.f t583 t584 x590002_157 x52_7 x53_8).bind fun t703 => (if (t703 == t700) = true then (some false) else (laws_FnBoardsTurned.l2 k8 t677 t684 t691 t693 t694 t695 t696 x52_7 (wrap64 (x53_8 + 1)) t549 t550 x555002_157 t555 t556 x562002_157 t569 t570 x576002_157 t583 t584 x590002_157 t672 t673 t674 t679 t680 t681 t686 t687 t688)))) = some true := H
                        by_cases c347 : (t702 != t700) = true
                        ·
                         rw [if_pos c347] at H
                         have c347b0 : (t702 != t700) = true := c347
                         (try (have c347b1 : decide (t702 = t700) = false := by simpa using c347))
                         (try (have c347b2 : (t702 == t700) = false := by simpa using c347))
                         (try (have c347b3 : ¬ (t702 = t700) := by simpa using c347))
                         clear c347
                         exact absurd (Option.some.inj H) (by decide)
                        ·
                         rw [if_neg c347] at H
                         have c347b0 : (t702 != t700) = false := by simpa using c347
                         (try (have c347b1 : decide (t702 = t700) = true := by simpa using c347))
                         (try (have c347b2 : (t702 == t700) = true := by simpa using c347))
                         clear c347
                         replace H := qE H
                         obtain ⟨t703, A348, H⟩ := H
                         replace H : (if (t703 == t700) = true then (some false) else (laws_FnBoardsTurned.l2 k8 t677 t684 t691 t693 t694 t695 t696 x52_7 (wrap64 (x53_8 + 1)) t549 t550 x555002_157 t555 t556 x562002_157 t569 t570 x576002_157 t583 t584 x590002_157 t672 t673 t674 t679 t680 t681 t686 t687 t688)) = some true := H
                         by_cases c349 : (t703 == t700) = true
                         ·
                          rw [if_pos c349] at H
                          have c349b0 : (t703 == t700) = true := c349
                          (try (have c349b1 : decide (t703 = t700) = true := by simpa using c349))
                          (try (have c349b2 : (t703 == t700) = true := by simpa using c349))
                          clear c349
                          exact absurd (Option.some.inj H) (by decide)
                         ·
                          rw [if_neg c349] at H
                          have c349b0 : (t703 == t700) = false := by simpa using c349
                          (try (have c349b1 : decide (t703 = t700) = false := by simpa using c349))
                          (try (have c349b2 : (t703 == t700) = false := by simpa using c349))
                          (try (have c349b3 : ¬ (t703 = t700) := by simpa using c349))
                          clear c349
                          have H' := Aside0.mk H
                          clear H
                          have bq117 := Nq0.out
                          have cq117 := Nq17.out
                          have bq118 := Nq2.out
                          have cq118 := Nq40.out
                          have bq119 := Nq4.out
                          have cq119 := Nq63.out
                          have bq120 := Nq14.out
                          have cq120 := Nq132.out
                          have bq121 := Nq15.out
                          have cq121 := Nq138.out
                          have bq122 := Nq16.out
                          have cq122 := Nq144.out
                          obtain ⟨zq102, zq103, zq104, fq102, fq103, fq104⟩ := qd BK554
                          go_wp2_with (first | ((with_reducible refine gate_callee (f := 24) rfl ?_); refine qg (some 289) Tryd.func24 #[.agg #[.int .i64 t549, .int .i64 t550, .slice Ao330 x555002_157.length co330], .int .i64 x52_7, .int .i64 x53_8] ?_; (with_reducible refine (laws_rOn.calls t549 t550 _ _ x555002_157 x52_7 x53_8 t700 _ ?side1 ?side2 A343.out).mono ?_); (case side1 => exact Q31); (case side2 => exact (Kd.R_reads' Oq23.out).2.1); rintro e w357 ⟨rfl, hb⟩; refine ⟨_, rfl, ?_⟩; replace Oq23 := sqR Oq23 hb; replace Oq24 := sqR Oq24 hb; replace Oq25 := sqR Oq25 hb; replace Oq26 := sqR Oq26 hb; replace Oq30 := sqR Oq30 hb; replace Oq31 := sqR Oq31 hb; replace Oq32 := sqR Oq32 hb; replace BK554 := sqB BK554 hb; replace BK561 := sqB BK561 hb; replace BK575 := sqB BK575 hb; replace BK589 := sqB BK589 hb; replace BK678 := sqB BK678 hb; replace BK685 := sqB BK685 hb; replace BK692 := sqB BK692 hb; replace HB := qs hb; (try clear hb); have bq123 := Nq19.out; have cq123 := Nq41.out; have bq124 := Nq21.out; have cq124 := Nq64.out; have bq125 := Nq31.out; have cq125 := Nq133.out; have bq126 := Nq32.out; have cq126 := Nq139.out; have bq127 := Nq33.out; have cq127 := Nq145.out; obtain ⟨zq108, zq109, zq110, fq108, fq109, fq110⟩ := qd BK561) | ((with_reducible refine gate_callee (f := 24) rfl ?_); refine qg (some 293) Tryd.func24 #[.agg #[.int .i64 t555, .int .i64 t556, .slice Ao294 x562002_157.length co294], .int .i64 x53_8, .int .i64 x52_7] ?_; (with_reducible refine (laws_rOn.calls t555 t556 _ _ x562002_157 x53_8 x52_7 t701 _ ?side1 ?side2 A344.out).mono ?_); (case side1 => repeat (first | exact (Kd.R_reads' Oq24.out).2.2 | (with_reducible first | refine Kd.C_alloc ?_ _ | refine Kd.C_drewN ?_ _ | refine Kd.C_drew ?_))); (case side2 => exact (Kd.R_reads' Oq24.out).2.1); rintro e w364 ⟨rfl, hb⟩; refine ⟨_, rfl, ?_⟩; replace Oq23 := sqR Oq23 hb; replace Oq24 := sqR Oq24 hb; replace Oq25 := sqR Oq25 hb; replace Oq26 := sqR Oq26 hb; replace Oq30 := sqR Oq30 hb; replace Oq31 := sqR Oq31 hb; replace Oq32 := sqR Oq32 hb; replace BK554 := sqB BK554 hb; replace BK561 := sqB BK561 hb; replace BK575 := sqB BK575 hb; replace BK589 := sqB BK589 hb; replace BK678 := sqB BK678 hb; replace BK685 := sqB BK685 hb; replace BK692 := sqB BK692 hb; replace HB := qs hb; (try clear hb); have bq128 := Nq44.out; have cq128 := Nq66.out; have bq129 := Nq54.out; have cq129 := Nq134.out; have bq130 := Nq55.out; have cq130 := Nq140.out; have bq131 := Nq56.out; have cq131 := Nq146.out; obtain ⟨zq111, zq112, zq113, fq111, fq112, fq113⟩ := qd BK575; obtain ⟨zq114, zq115, zq116, fq114, fq115, fq116⟩ := qd BK554) | (go_at_call 24; (with_reducible refine (laws_rOn.calls t569 t570 _ _ x576002_157 x52_7 (wrap64 ((wrap64 (t550 - 1)) - x53_8)) t702 _ ?side1 ?side2 A346.out).mono ?_); (case side1 => repeat (first | exact (Kd.R_reads' Oq25.out).2.2 | (with_reducible first | refine Kd.C_alloc ?_ _ | refine Kd.C_drewN ?_ _ | refine Kd.C_drew ?_))); (case side2 => exact (Kd.R_reads' Oq25.out).2.1); rintro e w371 ⟨rfl, hb⟩; replace Oq23 := sqR Oq23 hb; replace Oq24 := sqR Oq24 hb; replace Oq25 := sqR Oq25 hb; replace Oq26 := sqR Oq26 hb; replace Oq30 := sqR Oq30 hb; replace Oq31 := sqR Oq31 hb; replace Oq32 := sqR Oq32 hb; replace BK554 := sqB BK554 hb; replace BK561 := sqB BK561 hb; replace BK575 := sqB BK575 hb; replace BK589 := sqB BK589 hb; replace BK678 := sqB BK678 hb; replace BK685 := sqB BK685 hb; replace BK692 := sqB BK692 hb; replace HB := qs hb; (try clear hb); have bq132 := Nq77.out; have cq132 := Nq135.out; have bq133 := Nq78.out; have cq133 := Nq141.out; have bq134 := Nq79.out; have cq134 := Nq147.out; obtain ⟨zq117, zq118, zq119, fq117, fq118, fq119⟩ := qd BK589) | (go_at_call 24; (with_reducible refine (laws_rOn.calls t583 t584 _ _ x590002_157 x52_7 x53_8 t703 _ ?side1 ?side2 A348.out).mono ?_); (case side1 => repeat (first | exact (Kd.R_reads' Oq26.out).2.2 | (with_reducible first | refine Kd.C_alloc ?_ _ | refine Kd.C_drewN ?_ _ | refine Kd.C_drew ?_))); (case side2 => exact (Kd.R_reads' Oq26.out).2.1); rintro e w376 ⟨rfl, hb⟩; replace Oq23 := sqR Oq23 hb; replace Oq24 := sqR Oq24 hb; replace Oq25 := sqR Oq25 hb; replace Oq26 := sqR Oq26 hb; replace Oq30 := sqR Oq30 hb; replace Oq31 := sqR Oq31 hb; replace Oq32 := sqR Oq32 hb; replace BK554 := sqB BK554 hb; replace BK561 := sqB BK561 hb; replace BK575 := sqB BK575 hb; replace BK589 := sqB BK589 hb; replace BK678 := sqB BK678 hb; replace BK685 := sqB BK685 hb; replace BK692 := sqB BK692 hb; replace HB := qs hb; (try clear hb)))
                          go_roundg k8
                          case measure => have := HJ11.out; have := HJ110.out; have := HJ157.out; have := HJ201.out; have := HJ235.out; have := HJ249.out; have := HK7.out; have := HK8.out; omega
                          case rel => exact ⟨(wrap64 (x53_8 + 1)), Q2, H', ⟨Q77⟩, ⟨Q67⟩, ⟨Q68⟩, ⟨Q69⟩, ⟨Q70⟩, ⟨Q71⟩, ⟨Q72⟩, ⟨Q73⟩, ⟨Q9⟩, ⟨Q10⟩, ⟨Q11⟩, ⟨Q12⟩, ⟨Q43⟩, ⟨Q44⟩, ⟨Q45⟩, ⟨qb⟩⟩
                      ·
                       rw [if_neg c342] at H
                       have c342b0 : decide (x53_8 < t550) = false := decide_eq_false c342
                       clear c342
                       have H' := Aside0.mk H
                       clear H
                       have bq135 := Nq0.out
                       have cq135 := Nq17.out
                       have bq136 := Nq2.out
                       have cq136 := Nq40.out
                       have bq137 := Nq4.out
                       have cq137 := Nq63.out
                       have bq138 := Nq14.out
                       have cq138 := Nq132.out
                       have bq139 := Nq15.out
                       have cq139 := Nq138.out
                       have bq140 := Nq16.out
                       have cq140 := Nq144.out
                       obtain ⟨zq123, zq124, zq125, fq123, fq124, fq125⟩ := qd BK554
                       go_wp2
                       go_roundg k8
                       case measure => have := HJ11.out; have := HJ110.out; have := HJ157.out; have := HJ201.out; have := HJ235.out; have := HJ249.out; have := HK7.out; have := HK8.out; omega
                       case rel => exact ⟨(wrap64 (x52_7 + 1)), Q2, H', ⟨Q77⟩, ⟨Q67⟩, ⟨Q68⟩, ⟨Q69⟩, ⟨Q70⟩, ⟨Q71⟩, ⟨Q72⟩, ⟨Q73⟩, ⟨Q9⟩, ⟨Q10⟩, ⟨Q11⟩, ⟨Q12⟩, ⟨Q43⟩, ⟨Q44⟩, ⟨Q45⟩, ⟨qb⟩⟩
                   exact q5
                 ·
                  rw [if_neg c334] at H
                  have c334b0 : decide (x52_7 < t549) = false := decide_eq_false c334
                  clear c334
                  by_cases c384 : t677 = true
                  ·
                   subst c384
                   have H1 : (if t684 = true then (if t691 = true then (if t694 = true then (if t696 = true then ((laws_rSameBoard.f k7 t672 t673 t674 t549 t550 x555002_157).bind fun t697 => (if t697 = true then ((laws_rSameBoard.f k7 t679 t680 t681 t549 t550 x555002_157).bind fun t698 => (if t698 = true then ((laws_rSameBoard.f k7 t686 t687 t688 t549 t550 x555002_157).bind fun t699 => (if t699 = true then (some ((wrap64 (t693 + t695)) == (wrap64 (t549 * t550)))) else (some false))) else (some false))) else (some false))) else (some false)) else (some false)) else (some false)) else (some false)) = some true := by first | (rw [if_pos rfl] at H; exact H) | rfl
                   clear H
                   have H := H1
                   clear H1
                   by_cases c385 : t684 = true
                   ·
                    subst c385
                    have H1 : (if t691 = true then (if t694 = true then (if t696 = true then ((laws_rSameBoard.f k7 t672 t673 t674 t549 t550 x555002_157).bind fun t697 => (if t697 = true then ((laws_rSameBoard.f k7 t679 t680 t681 t549 t550 x555002_157).bind fun t698 => (if t698 = true then ((laws_rSameBoard.f k7 t686 t687 t688 t549 t550 x555002_157).bind fun t699 => (if t699 = true then (some ((wrap64 (t693 + t695)) == (wrap64 (t549 * t550)))) else (some false))) else (some false))) else (some false))) else (some false)) else (some false)) else (some false)) = some true := by first | (rw [if_pos rfl] at H; exact H) | rfl
                    clear H
                    have H := H1
                    clear H1
                    by_cases c386 : t691 = true
                    ·
                     subst c386
                     have H1 : (if t694 = true then (if t696 = true then ((laws_rSameBoard.f k7 t672 t673 t674 t549 t550 x555002_157).bind fun t697 => (if t697 = true then ((laws_rSameBoard.f k7 t679 t680 t681 t549 t550 x555002_157).bind fun t698 => (if t698 = true then ((laws_rSameBoard.f k7 t686 t687 t688 t549 t550 x555002_157).bind fun t699 => (if t699 = true then (some ((wrap64 (t693 + t695)) == (wrap64 (t549 * t550)))) else (some false))) else (some false))) else (some false))) else (some false)) else (some false)) = some true := by first | (rw [if_pos rfl] at H; exact H) | rfl
                     clear H
                     have H := H1
                     clear H1
                     by_cases c387 : t694 = true
                     ·
                      subst c387
                      have H1 : (if t696 = true then ((laws_rSameBoard.f k7 t672 t673 t674 t549 t550 x555002_157).bind fun t697 => (if t697 = true then ((laws_rSameBoard.f k7 t679 t680 t681 t549 t550 x555002_157).bind fun t698 => (if t698 = true then ((laws_rSameBoard.f k7 t686 t687 t688 t549 t550 x555002_157).bind fun t699 => (if t699 = true then (some ((wrap64 (t693 + t695)) == (wrap64 (t549 * t550)))) else (some false))) else (some false))) else (some false))) else (some false)) = some true := by first | (rw [if_pos rfl] at H; exact H) | rfl
                      clear H
                      have H := H1
                      clear H1
                      by_cases c388 : t696 = true
                      ·
                       subst c388
                       have H1 : ((laws_rSameBoard.f k7 t672 t673 t674 t549 t550 x555002_157).bind fun t697 => (if t697 = true then ((laws_rSameBoard.f k7 t679 t680 t681 t549 t550 x555002_157).bind fun t698 => (if t698 = true then ((laws_rSameBoard.f k7 t686 t687 t688 t549 t550 x555002_157).bind fun t699 => (if t699 = true then (some ((wrap64 (t693 + t695)) == (wrap64 (t549 * t550)))) else (some false))) else (some false))) else (some false))) = some true := by first | (rw [if_pos rfl] at H; exact H) | rfl
                       clear H
                       have H := H1
                       clear H1
                       replace H := qE H
                       obtain ⟨t697, A389, H⟩ := H
                       replace H : (if t697 = true then ((laws_rSameBoard.f k7 t679 t680 t681 t549 t550 x555002_157).bind fun t698 => (if t698 = true then ((laws_rSameBoard.f k7 t686 t687 t688 t549 t550 x555002_157).bind fun t699 => (if t699 = true then (some ((wrap64 (t693 + t695)) == (wrap64 (t549 * t550)))) else (some false))) else (some false))) else (some false)) = some true := H
                       by_cases c390 : t697 = true
                       ·
                        subst c390
                        have H1 : ((laws_rSameBoard.f k7 t679 t680 t681 t549 t550 x555002_157).bind fun t698 => (if t698 = true then ((laws_rSameBoard.f k7 t686 t687 t688 t549 t550 x555002_157).bind fun t699 => (if t699 = true then (some ((wrap64 (t693 + t695)) == (wrap64 (t549 * t550)))) else (some false))) else (some false))) = some true := by first | (rw [if_pos rfl] at H; exact H) | rfl
                        clear H
                        have H := H1
                        clear H1
                        replace H := qE H
                        obtain ⟨t698, A391, H⟩ := H
                        replace H : (if t698 = true then ((laws_rSameBoard.f k7 t686 t687 t688 t549 t550 x555002_157).bind fun t699 => (if t699 = true then (some ((wrap64 (t693 + t695)) == (wrap64 (t549 * t550)))) else (some false))) else (some false)) = some true := H
                        by_cases c392 : t698 = true
                        ·
                         subst c392
                         have H1 : ((laws_rSameBoard.f k7 t686 t687 t688 t549 t550 x555002_157).bind fun t699 => (if t699 = true then (some ((wrap64 (t693 + t695)) == (wrap64 (t549 * t550)))) else (some false))) = some true := by first | (rw [if_pos rfl] at H; exact H) | rfl
                         clear H
                         have H := H1
                         clear H1
                         replace H := qE H
                         obtain ⟨t699, A393, H⟩ := H
                         replace H : (if t699 = true then (some ((wrap64 (t693 + t695)) == (wrap64 (t549 * t550)))) else (some false)) = some true := H
                         by_cases c394 : t699 = true
                         ·
                          subst c394
                          have H1 : (some ((wrap64 (t693 + t695)) == (wrap64 (t549 * t550)))) = some true := by first | (rw [if_pos rfl] at H; exact H) | rfl
                          clear H
                          have H := H1
                          clear H1
                          have hb_ := Option.some.inj H
                          have bq141 := Nq0.out
                          have cq141 := Nq17.out
                          have bq142 := Nq2.out
                          have cq142 := Nq40.out
                          have bq143 := Nq4.out
                          have cq143 := Nq63.out
                          have bq144 := Nq14.out
                          have cq144 := Nq132.out
                          have bq145 := Nq15.out
                          have cq145 := Nq138.out
                          have bq147 := Nq16.out
                          have cq147 := Nq144.out
                          obtain ⟨zq126, zq127, zq128, fq126, fq127, fq128⟩ := qd BK554
                          have bq148 := Nq133.out
                          have cq148 := Nq31.out
                          have bq149 := Nq134.out
                          have cq149 := Nq54.out
                          have bq150 := Nq135.out
                          have cq150 := Nq77.out
                          have bq151 := Nq136.out
                          have cq151 := Nq142.out
                          have bq152 := Nq137.out
                          have cq152 := Nq148.out
                          obtain ⟨zq129, zq130, zq131, fq129, fq130, fq131⟩ := qd BK678
                          go_wp2_with (first | (go_at_call 12; (with_reducible refine (laws_rSameBoard.calls k7 t672 t673 _ _ t674 t549 t550 _ _ x555002_157 true _ ?side1 ?side2 ?side3 ?side4 A389.out).mono ?_); (case side1 => repeat (first | exact (Kd.R_reads' Oq30.out).2.2 | (with_reducible first | refine Kd.C_alloc ?_ _ | refine Kd.C_drewN ?_ _ | refine Kd.C_drew ?_))); (case side2 => exact (Kd.R_reads' Oq30.out).2.1); (case side3 => exact Q31); (case side4 => exact (Kd.R_reads' Oq23.out).2.1); rintro e w408 ⟨rfl, hb⟩; replace Oq23 := sqR Oq23 hb; replace Oq24 := sqR Oq24 hb; replace Oq25 := sqR Oq25 hb; replace Oq26 := sqR Oq26 hb; replace Oq30 := sqR Oq30 hb; replace Oq31 := sqR Oq31 hb; replace Oq32 := sqR Oq32 hb; replace BK554 := sqB BK554 hb; replace BK561 := sqB BK561 hb; replace BK575 := sqB BK575 hb; replace BK589 := sqB BK589 hb; replace BK678 := sqB BK678 hb; replace BK685 := sqB BK685 hb; replace BK692 := sqB BK692 hb; replace HB := qs hb; (try clear hb); have bq153 := Nq139.out; have cq153 := Nq32.out; have bq155 := Nq140.out; have cq155 := Nq55.out; have bq156 := Nq141.out; have cq156 := Nq78.out; have bq157 := Nq143.out; have cq157 := Nq149.out; obtain ⟨zq132, zq133, zq134, fq132, fq133, fq134⟩ := qd BK685; obtain ⟨zq135, zq136, zq137, fq135, fq136, fq137⟩ := qd BK554) | (go_at_call 12; (with_reducible refine (laws_rSameBoard.calls k7 t679 t680 _ _ t681 t549 t550 _ _ x555002_157 true _ ?side1 ?side2 ?side3 ?side4 A391.out).mono ?_); (case side1 => repeat (first | exact (Kd.R_reads' Oq31.out).2.2 | (with_reducible first | refine Kd.C_alloc ?_ _ | refine Kd.C_drewN ?_ _ | refine Kd.C_drew ?_))); (case side2 => exact (Kd.R_reads' Oq31.out).2.1); (case side3 => exact Q31); (case side4 => exact (Kd.R_reads' Oq23.out).2.1); rintro e w415 ⟨rfl, hb⟩; replace Oq23 := sqR Oq23 hb; replace Oq24 := sqR Oq24 hb; replace Oq25 := sqR Oq25 hb; replace Oq26 := sqR Oq26 hb; replace Oq30 := sqR Oq30 hb; replace Oq31 := sqR Oq31 hb; replace Oq32 := sqR Oq32 hb; replace BK554 := sqB BK554 hb; replace BK561 := sqB BK561 hb; replace BK575 := sqB BK575 hb; replace BK589 := sqB BK589 hb; replace BK678 := sqB BK678 hb; replace BK685 := sqB BK685 hb; replace BK692 := sqB BK692 hb; replace HB := qs hb; (try clear hb); have bq158 := Nq145.out; have cq158 := Nq33.out; have bq159 := Nq146.out; have cq159 := Nq56.out; have bq160 := Nq147.out; have cq160 := Nq79.out; obtain ⟨zq138, zq139, zq140, fq138, fq139, fq140⟩ := qd BK692; obtain ⟨zq141, zq142, zq143, fq141, fq142, fq143⟩ := qd BK554) | (go_at_call 12; (with_reducible refine (laws_rSameBoard.calls k7 t686 t687 _ _ t688 t549 t550 _ _ x555002_157 true _ ?side1 ?side2 ?side3 ?side4 A393.out).mono ?_); (case side1 => repeat (first | exact (Kd.R_reads' Oq32.out).2.2 | (with_reducible first | refine Kd.C_alloc ?_ _ | refine Kd.C_drewN ?_ _ | refine Kd.C_drew ?_))); (case side2 => exact (Kd.R_reads' Oq32.out).2.1); (case side3 => exact Q31); (case side4 => exact (Kd.R_reads' Oq23.out).2.1); rintro e w421 ⟨rfl, hb⟩; replace Oq23 := sqR Oq23 hb; replace Oq24 := sqR Oq24 hb; replace Oq25 := sqR Oq25 hb; replace Oq26 := sqR Oq26 hb; replace Oq30 := sqR Oq30 hb; replace Oq31 := sqR Oq31 hb; replace Oq32 := sqR Oq32 hb; replace BK554 := sqB BK554 hb; replace BK561 := sqB BK561 hb; replace BK575 := sqB BK575 hb; replace BK589 := sqB BK589 hb; replace BK678 := sqB BK678 hb; replace BK685 := sqB BK685 hb; replace BK692 := sqB BK692 hb; replace HB := qs hb; (try clear hb); obtain ⟨zq144, zq145, zq146, fq144, fq145, fq146⟩ := qd BK554))
                          go_ret
                          exact ⟨by first | rfl | (rw [hb_]) | (simp [errW_none, errW_some] <;> rfl) | (simp [*, errW_none, errW_some] <;> rfl), qb⟩
                         ·
                          replace c394 := Bool.eq_false_iff.mpr c394
                          subst c394
                          have H1 : (some false) = some true := by first | (rw [if_neg (show ¬ (false = true) by decide)] at H; exact H) | rfl
                          clear H
                          have H := H1
                          clear H1
                          exact absurd (Option.some.inj H) (by decide)
                        ·
                         replace c392 := Bool.eq_false_iff.mpr c392
                         subst c392
                         have H1 : (some false) = some true := by first | (rw [if_neg (show ¬ (false = true) by decide)] at H; exact H) | rfl
                         clear H
                         have H := H1
                         clear H1
                         exact absurd (Option.some.inj H) (by decide)
                       ·
                        replace c390 := Bool.eq_false_iff.mpr c390
                        subst c390
                        have H1 : (some false) = some true := by first | (rw [if_neg (show ¬ (false = true) by decide)] at H; exact H) | rfl
                        clear H
                        have H := H1
                        clear H1
                        exact absurd (Option.some.inj H) (by decide)
                      ·
                       replace c388 := Bool.eq_false_iff.mpr c388
                       subst c388
                       have H1 : (some false) = some true := by first | (rw [if_neg (show ¬ (false = true) by decide)] at H; exact H) | rfl
                       clear H
                       have H := H1
                       clear H1
                       exact absurd (Option.some.inj H) (by decide)
                     ·
                      replace c387 := Bool.eq_false_iff.mpr c387
                      subst c387
                      have H1 : (some false) = some true := by first | (rw [if_neg (show ¬ (false = true) by decide)] at H; exact H) | rfl
                      clear H
                      have H := H1
                      clear H1
                      exact absurd (Option.some.inj H) (by decide)
                    ·
                     replace c386 := Bool.eq_false_iff.mpr c386
                     subst c386
                     have H1 : (some false) = some true := by first | (rw [if_neg (show ¬ (false = true) by decide)] at H; exact H) | rfl
                     clear H
                     have H := H1
                     clear H1
                     exact absurd (Option.some.inj H) (by decide)
                   ·
                    replace c385 := Bool.eq_false_iff.mpr c385
                    subst c385
                    have H1 : (some false) = some true := by first | (rw [if_neg (show ¬ (false = true) by decide)] at H; exact H) | rfl
                    clear H
                    have H := H1
                    clear H1
                    exact absurd (Option.some.inj H) (by decide)
                  ·
                   replace c384 := Bool.eq_false_iff.mpr c384
                   subst c384
                   have H1 : (some false) = some true := by first | (rw [if_neg (show ¬ (false = true) by decide)] at H; exact H) | rfl
                   clear H
                   have H := H1
                   clear H1
                   exact absurd (Option.some.inj H) (by decide)
              exact q4
            ·
             replace c284 := Bool.eq_false_iff.mpr c284
             subst c284
             have H1 : (some true) = some true := by first | (rw [if_neg (show ¬ (false = true) by decide)] at H; exact H) | rfl
             clear H
             have H := H1
             clear H1 H
             go_wp2
             go_ret
             exact ⟨Q1, qb⟩
        exact q3
    exact q1
theorem laws_FnBoardsTurned.calls (k : Nat) (A0 : Option Addr) (c0 : Nat) (l0 : List Int) (A1 : Option Addr) (c1 : Nat) (l1 : List Int) (w : World) (hr0 : Kd.C (Kd.int .u8) w A0 l0.length l0) (hc0 : l0.length ≤ c0) (hr1 : Kd.C (Kd.int .u8) w A1 l1.length l1) (hc1 : l1.length ≤ c1) (h : laws_FnBoardsTurned.f k l0 l1 = some true) :
  Calls Tryd.prog 3 #[.slice A0 l0.length c0, .slice A1 l1.length c1] w fun e w' => e = .returned (.bool true) ∧ Below w.heap.size w w' := laws_FnBoardsTurned.S0.2 ⟨laws_FnBoardsTurned.S1.2 ⟨laws_FnBoardsTurned.S2⟩⟩ k A0 c0 l0 A1 c1 l1 w hr0 hc0 hr1 hc1 h

/-- The pure statement of laws_FnBoardsTurned. -/
def laws_FnBoardsTurned.Pure : Prop := ∀ (l0 : List Int) (l1 : List Int), l0.length ≤ maxLen → (∀ x ∈ l0, (Lit.int .u8 x).wf = true) → l1.length ≤ maxLen → (∀ x ∈ l1, (Lit.int .u8 x).wf = true) → ∃ k, laws_FnBoardsTurned.f k l0 l1 = some true

end Go.Proofs.YtllhofdgbpnkkaaDoor.PFnBoardsTurned
