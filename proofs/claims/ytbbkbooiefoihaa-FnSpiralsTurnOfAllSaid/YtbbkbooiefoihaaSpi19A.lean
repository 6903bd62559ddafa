/- The first comparison of the law FnSpiralsTurnOfAll's walk (its case A), on the road where the pure part's facts hold. Its conditions are these facts, each a hypothesis. -/
import Derived.Test.YtbbkbooiefoihaaSpi19H
namespace Go.Proofs.Ytbbkbooiefoihaa.PFnSpiralsTurnOfAll
open Go.RowKit Go.Proofs.YtbbkbooiefoihaaW.PrintWords Go.Proofs.YtbbkbooiefoihaaW.PrintLast Go.Proofs.YtbbkbooiefoihaaW.PrintMore
attribute [local go_sem] max2_int min2_int max_two min_two
set_option linter.unusedVariables false
set_option linter.unusedSimpArgs false
set_option maxHeartbeats 16000000 in
set_option maxRecDepth 100000 in
theorem sec19A (k : Nat) (a0_0 a0_1 a0_2 a1 a2_0 a2_1 a2_2 a3 a4 a5_0 a5_1 a5_2 : Int) (a6 : ByteArray) (a7 a8 : Int) (w : World) (num den : Int) (ab : List Int) (hd_ : Int) (t3 : Bool) (ot : List Int) (si : ByteArray) (hi : Int) (co : List Int) (x y : Int) (gs gu gv : Nat) (Aa Aa2 Ao Ao2 An An2 : Option Addr) (ca ca2 co_ co2_ cn cn2 : Nat) (HAc : Aside0 (ab.length ≤ ca)) (HA2c : Aside0 (ab.length ≤ ca2)) (HOc : Aside0 (ot.length ≤ co_)) (HO2c : Aside0 (ot.length ≤ co2_)) (HNc : Aside0 (co.length ≤ cn)) (HN2c : Aside0 (co.length ≤ cn2)) (h1 : 1 ≤ a1) (h2 : a1 ≤ a0_0) (h3 : t3 = decide ((ab.length : Int) > 0))
    (E19 : Aside0 (laws_wSame.f k ab ab = some true)) (E20 : Aside0 (laws_wSame.f k ot ot = some true)) (E21 : Aside0 (laws_wSame.f k co co = some true)) (E22 : Aside0 (impl_IsSpiral.f a0_0 a0_1 a0_2 = some true)) (E23 : Aside0 (spec_IsSpiral.f a0_0 a0_1 a0_2 = some true))
    (wr : World) (HA : Aside0 (Kd.C (Kd.int .i64) wr Aa ab.length ab)) (HA2 : Aside0 (Kd.C (Kd.int .i64) wr Aa2 ab.length ab)) (HO : Aside0 (Kd.C (Kd.int .i64) wr Ao ot.length ot)) (HO2 : Aside0 (Kd.C (Kd.int .i64) wr Ao2 ot.length ot)) (HN : Aside0 (Kd.C (Kd.int .i64) wr An co.length co)) (HN2 : Aside0 (Kd.C (Kd.int .i64) wr An2 co.length co)) (BKS : Aside0 (wr.heap[gs]? = some (.cells #[.int .i64 a0_0, .int .i64 a0_1, .int .i64 a0_2] 44 (0, 0)))) (BKU : Aside0 (wr.heap[gu]? = some (.cells #[.int .i64 a2_0, .int .i64 a2_1, .int .i64 a2_2] 44 (0, 0)))) (BKV : Aside0 (wr.heap[gv]? = some (.cells #[.int .i64 a5_0, .int .i64 a5_1, .int .i64 a5_2] 44 (0, 0)))) (HB : Aside0 (Below w.heap.size w wr)) (K K1 : Act → World → Prop) (u10 u12 u13 u15 u16 u17 u18 u55 u56 u57 u58 u59 u60 u61 u62 u63 u64 u65 u66 u67 u68 u69 u70 u71 u72 u73 u74 u75 u76 u77 u78 u79 u80 u81 u82 u83 u84 u85 u86 u87 u88 u89 u90 u91 u92 u93 u94 u95 u96 u97 u98 u99 u100 u101 u102 u103 u104 u105 u106 u107 u108 u109 u110 u111 u112 u113 u114 u115 u116 u117 u118 u119 u120 u121 u122 u123 u124 u125 u126 u127 u128 u129 u130 u131 u132 u133 u134 u135 u136 u137 u138 u139 u140 u141 u142 u143 u144 u145 u146 u147 u148 u149 u150 u151 u152 u153 u154 u155 u156 u157 u158 u159 u160 u161 u162 u163 u164 u165 u166 u167 u168 u169 u170 u171 u172 u173 u174 u175 u176 u177 u178 u179 u180 u181 u182 u183 u184 u185 u186 u187 u188 u189 u190 u191 u192 u193 u194 u195 u196 u197 u198 u199 u200 u201 u202 u203 u204 u205 u206 u207 u208 u209 u210 u211 u212 u213 u214 u215 u216 u217 u218 u219 u220 u221 u222 u223 u224 u225 u226 u227 u228 u229 u230 u231 u232 u233 u234 u235 u236 u237 u238 u239 u240 u241 u242 u243 u244 u245 u246 u247 u248 u249 u250 u251 u252 u253 u254 u255 u256 u257 u258 u259 u260 u261 u262 u263 u264 u265 u266 u267 u268 u269 u270 u271 u272 u273 u274 u275 u276 u277 u278 u279 u280 u281 u282 u283 u284 u285 u286 u287 u288 u289 u290 u291 u292 u293 u294 u295 u296 u297 u298 u299 u300 u301 u302 u303 u304 u305 u306 u307 u308 u309 u310 u311 u312 u313 u314 u315 u316 u317 u318 u319 u320 u321 u322 u323 u324 u325 u326 u327 u328 u329 u330 u331 u332 u333 u334 u335 u336 u337 u338 u339 u340 u341 u342 u343 u344 u345 u346 u347 u348 u349 u350 u351 u352 u353 u354 u355 u356 u357 u358 u359 u360 u361 u362 u363 u364 u365 u366 u367 u368 u369 u370 u371 u372 u373 u374 u375 u376 u377 u378 u379 u380 u381 u382 u383 u384 u385 u386 u387 u388 u389 u390 u391 u392 u393 u394 u395 u396 u397 u398 u399 u400 u401 u402 u403 u404 u405 u406 u407 u408 u409 u410 u411 u412 u413 u414 u415 u416 u417 u418 u419 u420 u421 u422 u423 u424 u425 u426 u427 u428 u429 u430 u431 u432 u433 u434 u435 u436 u437 u438 u439 u440 u441 u442 u443 u444 u445 u446 u447 u448 u449 u450 u451 u452 u453 u454 u455 u456 u457 u458 u459 u460 u461 u462 u463 u464 u465 u466 u467 u468 u469 u470 u471 u472 u473 u474 u475 u476 u477 u478 u479 u480 u481 u482 u483 u484 u485 u486 u487 u488 u489 u490 u491 u492 u493 u494 u495 u496 u497 u498 u499 u500 u501 u502 u503 u504 u505 u506 u507 u508 u509 u510 u511 u512 u513 u514 u515 u516 u517 u518 u519 u520 u521 u522 u523 u524 u525 u526 u527 u528 u529 u530 u531 u532 u533 u534 u535 u536 u537 u538 u539 u540 u541 u542 u543 u544 u545 u546 u547 u548 u549 u550 u551 u552 u553 u554 u555 u556 u557 u558 u559 u560 u561 u562 u563 u564 u565 u566 u567 u568 u569 u570 u571 u572 u573 u574 u575 u576 u577 u578 u579 u580 u581 u582 u583 u584 u585 u586 u587 u588 u589 u590 u591 u592 u593 u594 u595 u596 u597 u598 u599 u600 u601 u602 u603 u604 u605 u606 u607 u608 u609 u610 u611 u612 u613 u614 u615 u616 u617 u618 u619 u620 u621 u622 u623 u624 u625 u626 u627 u628 u629 u630 u631 u632 u633 u634 u635 u636 u637 u638 u639 u640 u641 u642 u643 u644 u645 u646 u647 u648 u649 u650 u651 u652 u653 u654 u655 u656 u657 u658 u659 u660 u661 u662 u663 u664 u665 u666 u667 u668 u669 u670 u671 u672 u673 u674 u675 u676 u677 u678 u679 u680 u681 u682 u683 u684 u685 u686 u687 u688 u689 u690 u691 u692 u693 u694 u695 : Value)
    (hc : ∀ a' w', Code.wp Try.prog (tl (nth 18 bodyC)) (Exit.then K1 (bodyPost Try.prog Try.f5 fun e w' => e = Ending.returned (Value.bool true) ∧ Below w.heap.size w w')) a' w' → K a' w')
    (hK1 : After19 true true k a0_0 a0_1 a0_2 a1 a2_0 a2_1 a2_2 a3 a4 a5_0 a5_1 a5_2 a6 a7 a8 w num den ab hd_ t3 ot si hi co x y gs gu gv Aa Aa2 Ao Ao2 An An2 ca ca2 co_ co2_ cn cn2 u10 u12 u13 u15 u16 u17 K1) :
    Code.wp Try.prog (hd (nth 18 bodyC)) (Exit.then K (Exit.then K1 (bodyPost Try.prog Try.f5 fun e w' => e = Ending.returned (Value.bool true) ∧ Below w.heap.size w w'))) ⟨#[.agg #[.int .i64 a0_0, .int .i64 a0_1, .int .i64 a0_2], .int .i64 a1, .agg #[.int .i64 a2_0, .int .i64 a2_1, .int .i64 a2_2], .int .i64 a3, .int .i64 a4, .agg #[.int .i64 a5_0, .int .i64 a5_1, .int .i64 a5_2], .string a6, .int .i64 a7, .int .i64 a8, .pointer (some ⟨gs, 0, none⟩), u10, .pointer (some ⟨gu, 0, none⟩), u12, u13, .pointer (some ⟨gv, 0, none⟩), u15, u16, u17, u18, .int .i64 num, .int .i64 den, .bool true, .int .i64 num, .int .i64 den, .bool true, .slice Aa ab.length ca, .bool true, .slice Aa2 ab.length ca2, .bool true, .int .i64 hd_, .bool t3, .int .i64 hd_, .bool t3, .slice Ao ot.length co_, .bool true, .slice Ao2 ot.length co2_, .bool true, .string si, .bool true, .string si, .bool true, .int .i64 hi, .bool true, .int .i64 hi, .bool true, .slice An co.length cn, .bool true, .slice An2 co.length cn2, .bool true, .int .i64 x, .int .i64 y, .bool true, .int .i64 x, .int .i64 y, .bool true, u55, u56, u57, u58, u59, u60, u61, u62, u63, u64, u65, u66, u67, u68, u69, u70, u71, u72, u73, u74, u75, u76, u77, u78, u79, u80, u81, u82, u83, u84, u85, u86, u87, u88, u89, u90, u91, u92, u93, u94, u95, u96, u97, u98, u99, u100, u101, u102, u103, u104, u105, u106, u107, u108, u109, u110, u111, u112, u113, u114, u115, u116, u117, u118, u119, u120, u121, u122, u123, u124, u125, u126, u127, u128, u129, u130, u131, u132, u133, u134, u135, u136, u137, u138, u139, u140, u141, u142, u143, u144, u145, u146, u147, u148, u149, u150, u151, u152, u153, u154, u155, u156, u157, u158, u159, u160, u161, u162, u163, u164, u165, u166, u167, u168, u169, u170, u171, u172, u173, u174, u175, u176, u177, u178, u179, u180, u181, u182, u183, u184, u185, u186, u187, u188, u189, u190, u191, u192, u193, u194, u195, u196, u197, u198, u199, u200, u201, u202, u203, u204, u205, u206, u207, u208, u209, u210, u211, u212, u213, u214, u215, u216, u217, u218, u219, u220, u221, u222, u223, u224, u225, u226, u227, u228, u229, u230, u231, u232, u233, u234, u235, u236, u237, u238, u239, u240, u241, u242, u243, u244, u245, u246, u247, u248, u249, u250, u251, u252, u253, u254, u255, u256, u257, u258, u259, u260, u261, u262, u263, u264, u265, u266, u267, u268, u269, u270, u271, u272, u273, u274, u275, u276, u277, u278, u279, u280, u281, u282, u283, u284, u285, u286, u287, u288, u289, u290, u291, u292, u293, u294, u295, u296, u297, u298, u299, u300, u301, u302, u303, u304, u305, u306, u307, u308, u309, u310, u311, u312, u313, u314, u315, u316, u317, u318, u319, u320, u321, u322, u323, u324, u325, u326, u327, u328, u329, u330, u331, u332, u333, u334, u335, u336, u337, u338, u339, u340, u341, u342, u343, u344, u345, u346, u347, u348, u349, u350, u351, u352, u353, u354, u355, u356, u357, u358, u359, u360, u361, u362, u363, u364, u365, u366, u367, u368, u369, u370, u371, u372, u373, u374, u375, u376, u377, u378, u379, u380, u381, u382, u383, u384, u385, u386, u387, u388, u389, u390, u391, u392, u393, u394, u395, u396, u397, u398, u399, u400, u401, u402, u403, u404, u405, u406, u407, u408, u409, u410, u411, u412, u413, u414, u415, u416, u417, u418, u419, u420, u421, u422, u423, u424, u425, u426, u427, u428, u429, u430, u431, u432, u433, u434, u435, u436, u437, u438, u439, u440, u441, u442, u443, u444, u445, u446, u447, u448, u449, u450, u451, u452, u453, u454, u455, u456, u457, u458, u459, u460, u461, u462, u463, u464, u465, u466, u467, u468, u469, u470, u471, u472, u473, u474, u475, u476, u477, u478, u479, u480, u481, u482, u483, u484, u485, u486, u487, u488, u489, u490, u491, u492, u493, u494, u495, u496, u497, u498, u499, u500, u501, u502, u503, u504, u505, u506, u507, u508, u509, u510, u511, u512, u513, u514, u515, u516, u517, u518, u519, u520, u521, u522, u523, u524, u525, u526, u527, u528, u529, u530, u531, u532, u533, u534, u535, u536, u537, u538, u539, u540, u541, u542, u543, u544, u545, u546, u547, u548, u549, u550, u551, u552, u553, u554, u555, u556, u557, u558, u559, u560, u561, u562, u563, u564, u565, u566, u567, u568, u569, u570, u571, u572, u573, u574, u575, u576, u577, u578, u579, u580, u581, u582, u583, u584, u585, u586, u587, u588, u589, u590, u591, u592, u593, u594, u595, u596, u597, u598, u599, u600, u601, u602, u603, u604, u605, u606, u607, u608, u609, u610, u611, u612, u613, u614, u615, u616, u617, u618, u619, u620, u621, u622, u623, u624, u625, u626, u627, u628, u629, u630, u631, u632, u633, u634, u635, u636, u637, u638, u639, u640, u641, u642, u643, u644, u645, u646, u647, u648, u649, u650, u651, u652, u653, u654, u655, u656, u657, u658, u659, u660, u661, u662, u663, u664, u665, u666, u667, u668, u669, u670, u671, u672, u673, u674, u675, u676, u677, u678, u679, u680, u681, u682, u683, u684, u685, u686, u687, u688, u689, u690, u691, u692, u693, u694, u695], []⟩ wr := by
  have hu44 := Try.underlying44
  conv => arg 2; whnf
  conv at hc => enter [a', w', 1]; arg 2; whnf
  unfold After19 at hK1
  dsimp only at hK1
  have b1 : decide (1 ≤ a1) = true := decide_eq_true h1
  have b2 : decide (a1 ≤ a0_0) = true := decide_eq_true h2
  have b3 : decide (0 < (ab.length : Int)) = t3 := h3.symm
  have b4 : decide (0 < ab.length) = t3 := by rw [h3]; exact decide_eq_decide.2 (by omega)
  have b5 : (t3 != t3) = false := bne_self_eq_false _
  clear h1 h2 h3
  have z1 : (num != num) = false := bne_self_eq_false _
  have z2 : (den != den) = false := bne_self_eq_false _
  have z3 : (hd_ != hd_) = false := bne_self_eq_false _
  have z4 : (si.toList != si.toList) = false := bne_self_eq_false _
  have z5 : (hi != hi) = false := bne_self_eq_false _
  have z6 : (x != x) = false := bne_self_eq_false _
  have z7 : (y != y) = false := bne_self_eq_false _
  try go_wp2
  replace HA := Aside0.mk (Kd.C_drew HA.out)
  replace HA2 := Aside0.mk (Kd.C_drew HA2.out)
  replace HO := Aside0.mk (Kd.C_drew HO.out)
  replace HO2 := Aside0.mk (Kd.C_drew HO2.out)
  replace HN := Aside0.mk (Kd.C_drew HN.out)
  replace HN2 := Aside0.mk (Kd.C_drew HN2.out)
  replace BKS := Aside0.mk (blk_drew BKS.out)
  replace BKU := Aside0.mk (blk_drew BKU.out)
  replace BKV := Aside0.mk (blk_drew BKV.out)
  replace HB := Aside0.mk (below_drew1 HB.out)
  refine start_ (n := 154) (S := fun w' => w'.cell? ⟨gs, 0, none⟩ = some (.int .i64 a0_0) ∧ w'.cell? ⟨gs, 1, none⟩ = some (.int .i64 a0_1) ∧ w'.cell? ⟨gs, 2, none⟩ = some (.int .i64 a0_2)) (ds := []) (ran 154 0) (by kernel_rfl) rfl rfl ⟨(blk_cell BKS.out 0).trans rfl, (blk_cell BKS.out 1).trans rfl, (blk_cell BKS.out 2).trans rfl⟩ (fun hHeld => ?_); refine with_tabW spitab19 spibits19 (fun HT_ HW_ => ?_)
  generalize wr.drew = wd at HA HA2 HO HO2 HN HN2 BKS BKU BKV HB hHeld ⊢
  refine pv_ ?_ ?_ 0 188 1 HT_.out rfl rfl (by kernel_rfl) (fun _ _ _ h => h) (by rfl) ?_ ?_ ?_
  rotate_left 2
  · intro w'; go_simp; with_reducible rfl
  · simp only [Act.put, q1, q2, q3]; rfl
  refine pv_ ?_ ?_ 1 189 3 HT_.out rfl rfl (by kernel_rfl) (fun _ _ _ h => h) (by rfl) ?_ ?_ ?_
  rotate_left 2
  · intro w'; go_simp; with_reducible rfl
  · simp only [Act.put, q1, q2, q3]; rfl
  refine pv_ ?_ ?_ 2 190 7 HT_.out rfl rfl (by kernel_rfl) (fun _ _ _ h => h) (by rfl) ?_ ?_ ?_
  rotate_left 2
  · intro w'; go_simp; with_reducible rfl
  · simp only [Act.put, q1, q2, q3]; rfl
  refine pv_ ?_ ?_ 3 191 15 HT_.out rfl rfl (by kernel_rfl) (fun _ _ _ h => h) (by rfl) ?_ ?_ ?_
  rotate_left 2
  · intro w'; go_simp; with_reducible rfl
  · simp only [Act.put, q1, q2, q3]; rfl
  refine pv_ ?_ ?_ 4 192 31 HT_.out rfl rfl (by kernel_rfl) (fun _ _ _ h => h) (by rfl) ?_ ?_ ?_
  rotate_left 2
  · intro w'; go_simp; with_reducible rfl
  · simp only [Act.put, q1, q2, q3]; rfl
  refine pv_ ?_ ?_ 5 193 63 HT_.out rfl rfl (by kernel_rfl) (fun _ _ _ h => h) (by rfl) ?_ ?_ ?_
  rotate_left 2
  · intro w'; go_simp; with_reducible rfl
  · simp only [Act.put, q1, q2, q3]; rfl
  refine pv_ ?_ ?_ 6 194 127 HT_.out rfl rfl (by kernel_rfl) (fun _ _ _ h => h) (by rfl) ?_ ?_ ?_
  rotate_left 2
  · intro w'; go_simp; with_reducible rfl
  · simp only [Act.put, q1, q2, q3]; rfl
  refine pv_ ?_ ?_ 7 195 255 HT_.out rfl rfl (by kernel_rfl) (fun _ _ _ h => h) (by rfl) ?_ ?_ ?_
  rotate_left 2
  · intro w'; go_simp; with_reducible rfl
  · simp only [Act.put, q1, q2, q3]; rfl
  refine pv_ ?_ ?_ 8 196 511 HT_.out rfl rfl (by kernel_rfl) (fun _ _ _ h => h) (by rfl) ?_ ?_ ?_
  rotate_left 2
  · intro w'; go_simp; with_reducible rfl
  · simp only [Act.put, q1, q2, q3]; rfl
  refine pv_ ?_ ?_ 9 197 1023 HT_.out rfl rfl (by kernel_rfl) (fun _ _ _ h => h) (by rfl) ?_ ?_ ?_
  rotate_left 2
  · intro w'; go_simp; with_reducible rfl
  · simp only [Act.put, q1, q2, q3]; rfl
  refine pv_ ?_ ?_ 10 198 2047 HT_.out rfl rfl (by kernel_rfl) (fun _ _ _ h => h) (by rfl) ?_ ?_ ?_
  rotate_left 2
  · intro w'; go_simp; with_reducible rfl
  · simp only [Act.put, q1, q2, q3]; rfl
  refine pv_ ?_ ?_ 11 199 4095 HT_.out rfl rfl (by kernel_rfl) (fun _ _ _ h => h) (by rfl) ?_ ?_ ?_
  rotate_left 2
  · intro w'; go_simp; with_reducible rfl
  · simp only [Act.put, q1, q2, q3]; rfl
  refine pv_ ?_ ?_ 12 200 8191 HT_.out rfl rfl (by kernel_rfl) (fun _ _ _ h => h) (by rfl) ?_ ?_ ?_
  rotate_left 2
  · intro w'; go_simp; with_reducible rfl
  · simp only [Act.put, q1, q2, q3]; rfl
  refine pv_ ?_ ?_ 13 201 16383 HT_.out rfl rfl (by kernel_rfl) (fun _ _ _ h => h) (by rfl) ?_ ?_ ?_
  rotate_left 2
  · intro w'; go_simp; with_reducible rfl
  · simp only [Act.put, q1, q2, q3]; rfl
  refine pv_ ?_ ?_ 14 202 32767 HT_.out rfl rfl (by kernel_rfl) (fun _ _ _ h => h) (by rfl) ?_ ?_ ?_
  rotate_left 2
  · intro w'; go_simp; with_reducible rfl
  · simp only [Act.put, q1, q2, q3]; rfl
  refine pv_ ?_ ?_ 15 203 65535 HT_.out rfl rfl (by kernel_rfl) (fun _ _ _ h => h) (by rfl) ?_ ?_ ?_
  rotate_left 2
  · intro w'; go_simp; with_reducible rfl
  · simp only [Act.put, q1, q2, q3]; rfl
  refine pv_ ?_ ?_ 16 204 131071 HT_.out rfl rfl (by kernel_rfl) (fun _ _ _ h => h) (by rfl) ?_ ?_ ?_
  rotate_left 2
  · intro w'; go_simp; with_reducible rfl
  · simp only [Act.put, q1, q2, q3]; rfl
  refine pv_ ?_ ?_ 17 205 262143 HT_.out rfl rfl (by kernel_rfl) (fun _ _ _ h => h) (by rfl) ?_ ?_ ?_
  rotate_left 2
  · intro w'; go_simp; with_reducible rfl
  · simp only [Act.put, q1, q2, q3]; rfl
  refine pv_ ?_ ?_ 18 206 524287 HT_.out rfl rfl (by kernel_rfl) (fun _ _ _ h => h) (by rfl) ?_ ?_ ?_
  rotate_left 2
  · intro w'; go_simp; with_reducible rfl
  · simp only [Act.put, q1, q2, q3]; rfl
  refine pv_ ?_ ?_ 19 207 1048575 HT_.out rfl rfl (by kernel_rfl) (fun _ _ _ h => h) (by rfl) ?_ ?_ ?_
  rotate_left 2
  · intro w'; go_simp; with_reducible rfl
  · simp only [Act.put, q1, q2, q3]; rfl
  refine pv_ ?_ ?_ 20 208 2097151 HT_.out rfl rfl (by kernel_rfl) (fun _ _ _ h => h) (by rfl) ?_ ?_ ?_
  rotate_left 2
  · intro w'; go_simp; with_reducible rfl
  · simp only [Act.put, q1, q2, q3]; rfl
  refine one_ (i := 21) (N := some 209) (ran 154 4194303) rfl rfl (one_of HT_.out (by kernel_rfl)) (by decide) (fun K hK => ?_)
  refine goes_ Try.func48 (by kernel_rfl) rfl #[.slice Aa ab.length ca, .slice Aa2 ab.length ca2] (by rfl) rfl rfl (by (try simp only [List.map_toArray, List.map_cons, List.map_nil]); first | done | rfl) ?_
  with_reducible refine (laws_wSame.calls k _ _ ab _ _ ab true _ ?side1 ?side2 ?side3 ?side4 E19.out).mono ?_
  (case side1 => repeat (first | exact HA.out | (with_reducible refine Kd.C_alloc ?_ _) | (with_reducible refine Kd.C_drewN ?_ _) | (with_reducible refine Kd.C_drew ?_)))
  (case side2 => exact HAc.out)
  (case side3 => repeat (first | exact HA2.out | (with_reducible refine Kd.C_alloc ?_ _) | (with_reducible refine Kd.C_drewN ?_ _) | (with_reducible refine Kd.C_drew ?_)))
  (case side4 => exact HA2c.out)
  rintro e w' ⟨rfl, ⟨nd, rfl⟩⟩
  refine ⟨_, rfl, ?_⟩
  refine hK.out _ _ ⟨(blk_cell BKS.out 0).trans rfl, (blk_cell BKS.out 1).trans rfl, (blk_cell BKS.out 2).trans rfl⟩ (fun hHeld => ?_)
  clear hK
  refine norm_ (a' := ?_) ?_ ?_
  rotate_left
  · show Act.put _ (some 209) _ = _
    simp only [Act.put, q1, q2, q3]
    rfl
  refine pv_ ?_ ?_ 22 210 8388607 HT_.out rfl rfl (by kernel_rfl) (fun _ _ _ h => h) (by rfl) ?_ ?_ ?_
  rotate_left 2
  · intro w'; go_simp; with_reducible rfl
  · simp only [Act.put, q1, q2, q3]; rfl
  refine pv_ ?_ ?_ 23 211 16777215 HT_.out rfl rfl (by kernel_rfl) (fun _ _ _ h => h) (by rfl) ?_ ?_ ?_
  rotate_left 2
  · intro w'; go_simp; with_reducible rfl
  · simp only [Act.put, q1, q2, q3]; rfl
  refine pv_ ?_ ?_ 24 212 33554431 HT_.out rfl rfl (by kernel_rfl) (fun _ _ _ h => h) (by rfl) ?_ ?_ ?_
  rotate_left 2
  · intro w'; go_simp; with_reducible rfl
  · simp only [Act.put, q1, q2, q3]; rfl
  refine pv_ ?_ ?_ 25 213 67108863 HT_.out rfl rfl (by kernel_rfl) (fun _ _ _ h => h) (by rfl) ?_ ?_ ?_
  rotate_left 2
  · intro w'; go_simp; with_reducible rfl
  · simp only [Act.put, q1, q2, q3]; rfl
  refine pv_ ?_ ?_ 26 214 134217727 HT_.out rfl rfl (by kernel_rfl) (fun _ _ _ h => h) (by rfl) ?_ ?_ ?_
  rotate_left 2
  · intro w'; go_simp; with_reducible rfl
  · simp only [Act.put, q1, q2, q3]; rfl
  refine pv_ ?_ ?_ 27 215 268435455 HT_.out rfl rfl (by kernel_rfl) (fun _ _ _ h => h) (by rfl) ?_ ?_ ?_
  rotate_left 2
  · intro w'; go_simp; with_reducible rfl
  · simp only [Act.put, q1, q2, q3]; rfl
  refine pv_ ?_ ?_ 28 216 536870911 HT_.out rfl rfl (by kernel_rfl) (fun _ _ _ h => h) (by rfl) ?_ ?_ ?_
  rotate_left 2
  · intro w'; go_simp; with_reducible rfl
  · simp only [Act.put, q1, q2, q3]; rfl
  refine pv_ ?_ ?_ 29 217 1073741823 HT_.out rfl rfl (by kernel_rfl) (fun _ _ _ h => h) (by rfl) ?_ ?_ ?_
  rotate_left 2
  · intro w'; go_simp; with_reducible rfl
  · simp only [Act.put, q1, q2, q3]; rfl
  refine pv_ ?_ ?_ 30 218 2147483647 HT_.out rfl rfl (by kernel_rfl) (fun _ _ _ h => h) (by rfl) ?_ ?_ ?_
  rotate_left 2
  · intro w'; go_simp; with_reducible rfl
  · simp only [Act.put, q1, q2, q3]; rfl
  refine pv_ ?_ ?_ 31 219 4294967295 HT_.out rfl rfl (by kernel_rfl) (fun _ _ _ h => h) (by rfl) ?_ ?_ ?_
  rotate_left 2
  · intro w'; go_simp; with_reducible rfl
  · simp only [Act.put, q1, q2, q3]; rfl
  refine pv_ ?_ ?_ 32 220 8589934591 HT_.out rfl rfl (by kernel_rfl) (fun _ _ _ h => h) (by rfl) ?_ ?_ ?_
  rotate_left 2
  · intro w'; go_simp; with_reducible rfl
  · simp only [Act.put, q1, q2, q3]; rfl
  refine pv_ ?_ ?_ 33 221 17179869183 HT_.out rfl rfl (by kernel_rfl) (fun _ _ _ h => h) (by rfl) ?_ ?_ ?_
  rotate_left 2
  · intro w'; go_simp; with_reducible rfl
  · simp only [Act.put, q1, q2, q3]; rfl
  refine pv_ ?_ ?_ 34 222 34359738367 HT_.out rfl rfl (by kernel_rfl) (fun _ _ _ h => h) (by rfl) ?_ ?_ ?_
  rotate_left 2
  · intro w'; go_simp; with_reducible rfl
  · simp only [Act.put, q1, q2, q3]; rfl
  refine pv_ ?_ ?_ 35 223 68719476735 HT_.out rfl rfl (by kernel_rfl) (fun _ _ _ h => h) (by rfl) ?_ ?_ ?_
  rotate_left 2
  · intro w'; go_simp; with_reducible rfl
  · simp only [Act.put, q1, q2, q3]; rfl
  refine pv_ ?_ ?_ 36 224 137438953471 HT_.out rfl rfl (by kernel_rfl) (fun _ _ _ h => h) (by rfl) ?_ ?_ ?_
  rotate_left 2
  · intro w'; go_simp; with_reducible rfl
  · simp only [Act.put, q1, q2, q3]; rfl
  refine pv_ ?_ ?_ 37 225 274877906943 HT_.out rfl rfl (by kernel_rfl) (fun _ _ _ h => h) (by rfl) ?_ ?_ ?_
  rotate_left 2
  · intro w'; go_simp; with_reducible rfl
  · simp only [Act.put, q1, q2, q3]; rfl
  refine pv_ ?_ ?_ 38 226 549755813887 HT_.out rfl rfl (by kernel_rfl) (fun _ _ _ h => h) (by rfl) ?_ ?_ ?_
  rotate_left 2
  · intro w'; go_simp; with_reducible rfl
  · simp only [Act.put, q1, q2, q3]; rfl
  refine pv_ ?_ ?_ 39 227 1099511627775 HT_.out rfl rfl (by kernel_rfl) (fun _ _ _ h => h) (by rfl) ?_ ?_ ?_
  rotate_left 2
  · intro w'; go_simp; with_reducible rfl
  · simp only [Act.put, q1, q2, q3]; rfl
  refine pv_ ?_ ?_ 40 228 2199023255551 HT_.out rfl rfl (by kernel_rfl) (fun _ _ _ h => h) (by rfl) ?_ ?_ ?_
  rotate_left 2
  · intro w'; go_simp; with_reducible rfl
  · simp only [Act.put, q1, q2, q3]; rfl
  refine pv_ ?_ ?_ 41 229 4398046511103 HT_.out rfl rfl (by kernel_rfl) (fun _ _ _ h => h) (by rfl) ?_ ?_ ?_
  rotate_left 2
  · intro w'; go_simp; with_reducible rfl
  · simp only [Act.put, q1, q2, q3]; rfl
  refine one_ (i := 42) (N := some 230) (ran 154 8796093022207) rfl rfl (one_of HT_.out (by kernel_rfl)) (by decide) (fun K hK => ?_)
  refine goes_ Try.func48 (by kernel_rfl) rfl #[.slice Ao ot.length co_, .slice Ao2 ot.length co2_] (by rfl) rfl rfl (by (try simp only [List.map_toArray, List.map_cons, List.map_nil]); first | done | rfl) ?_
  with_reducible refine (laws_wSame.calls k _ _ ot _ _ ot true _ ?side1 ?side2 ?side3 ?side4 E20.out).mono ?_
  (case side1 => repeat (first | exact HO.out | (with_reducible refine Kd.C_alloc ?_ _) | (with_reducible refine Kd.C_drewN ?_ _) | (with_reducible refine Kd.C_drew ?_)))
  (case side2 => exact HOc.out)
  (case side3 => repeat (first | exact HO2.out | (with_reducible refine Kd.C_alloc ?_ _) | (with_reducible refine Kd.C_drewN ?_ _) | (with_reducible refine Kd.C_drew ?_)))
  (case side4 => exact HO2c.out)
  rintro e w' ⟨rfl, ⟨nd, rfl⟩⟩
  refine ⟨_, rfl, ?_⟩
  refine hK.out _ _ ⟨(blk_cell BKS.out 0).trans rfl, (blk_cell BKS.out 1).trans rfl, (blk_cell BKS.out 2).trans rfl⟩ (fun hHeld => ?_)
  clear hK
  refine norm_ (a' := ?_) ?_ ?_
  rotate_left
  · show Act.put _ (some 230) _ = _
    simp only [Act.put, q1, q2, q3]
    rfl
  refine pv_ ?_ ?_ 43 231 17592186044415 HT_.out rfl rfl (by kernel_rfl) (fun _ _ _ h => h) (by rfl) ?_ ?_ ?_
  rotate_left 2
  · intro w'; go_simp; with_reducible rfl
  · simp only [Act.put, q1, q2, q3]; rfl
  refine pv_ ?_ ?_ 44 232 35184372088831 HT_.out rfl rfl (by kernel_rfl) (fun _ _ _ h => h) (by rfl) ?_ ?_ ?_
  rotate_left 2
  · intro w'; go_simp; with_reducible rfl
  · simp only [Act.put, q1, q2, q3]; rfl
  refine pv_ ?_ ?_ 45 233 70368744177663 HT_.out rfl rfl (by kernel_rfl) (fun _ _ _ h => h) (by rfl) ?_ ?_ ?_
  rotate_left 2
  · intro w'; go_simp; with_reducible rfl
  · simp only [Act.put, q1, q2, q3]; rfl
  refine pv_ ?_ ?_ 46 234 140737488355327 HT_.out rfl rfl (by kernel_rfl) (fun _ _ _ h => h) (by rfl) ?_ ?_ ?_
  rotate_left 2
  · intro w'; go_simp; with_reducible rfl
  · simp only [Act.put, q1, q2, q3]; rfl
  refine pv_ ?_ ?_ 47 235 281474976710655 HT_.out rfl rfl (by kernel_rfl) (fun _ _ _ h => h) (by rfl) ?_ ?_ ?_
  rotate_left 2
  · intro w'; go_simp; with_reducible rfl
  · simp only [Act.put, q1, q2, q3]; rfl
  refine pv_ ?_ ?_ 48 236 562949953421311 HT_.out rfl rfl (by kernel_rfl) (fun _ _ _ h => h) (by rfl) ?_ ?_ ?_
  rotate_left 2
  · intro w'; go_simp; with_reducible rfl
  · simp only [Act.put, q1, q2, q3]; rfl
  refine pv_ ?_ ?_ 49 237 1125899906842623 HT_.out rfl rfl (by kernel_rfl) (fun _ _ _ h => h) (by rfl) ?_ ?_ ?_
  rotate_left 2
  · intro w'; go_simp; with_reducible rfl
  · simp only [Act.put, q1, q2, q3]; rfl
  refine pv_ ?_ ?_ 50 238 2251799813685247 HT_.out rfl rfl (by kernel_rfl) (fun _ _ _ h => h) (by rfl) ?_ ?_ ?_
  rotate_left 2
  · intro w'; go_simp; with_reducible rfl
  · simp only [Act.put, q1, q2, q3]; rfl
  refine pv_ ?_ ?_ 51 239 4503599627370495 HT_.out rfl rfl (by kernel_rfl) (fun _ _ _ h => h) (by rfl) ?_ ?_ ?_
  rotate_left 2
  · intro w'; go_simp; with_reducible rfl
  · simp only [Act.put, q1, q2, q3]; rfl
  refine pv_ ?_ ?_ 52 240 9007199254740991 HT_.out rfl rfl (by kernel_rfl) (fun _ _ _ h => h) (by rfl) ?_ ?_ ?_
  rotate_left 2
  · intro w'; go_simp; with_reducible rfl
  · simp only [Act.put, q1, q2, q3]; rfl
  refine pv_ ?_ ?_ 53 241 18014398509481983 HT_.out rfl rfl (by kernel_rfl) (fun _ _ _ h => h) (by rfl) ?_ ?_ ?_
  rotate_left 2
  · intro w'; go_simp; with_reducible rfl
  · simp only [Act.put, q1, q2, q3]; rfl
  refine pv_ ?_ ?_ 54 242 36028797018963967 HT_.out rfl rfl (by kernel_rfl) (fun _ _ _ h => h) (by rfl) ?_ ?_ ?_
  rotate_left 2
  · intro w'; go_simp; with_reducible rfl
  · simp only [Act.put, q1, q2, q3]; rfl
  refine pv_ ?_ ?_ 55 243 72057594037927935 HT_.out rfl rfl (by kernel_rfl) (fun _ _ _ h => h) (by rfl) ?_ ?_ ?_
  rotate_left 2
  · intro w'; go_simp; with_reducible rfl
  · simp only [Act.put, q1, q2, q3]; rfl
  refine pv_ ?_ ?_ 56 244 144115188075855871 HT_.out rfl rfl (by kernel_rfl) (fun _ _ _ h => h) (by rfl) ?_ ?_ ?_
  rotate_left 2
  · intro w'; go_simp; with_reducible rfl
  · simp only [Act.put, q1, q2, q3]; rfl
  refine pv_ ?_ ?_ 57 245 288230376151711743 HT_.out rfl rfl (by kernel_rfl) (fun _ _ _ h => h) (by rfl) ?_ ?_ ?_
  rotate_left 2
  · intro w'; go_simp; with_reducible rfl
  · simp only [Act.put, q1, q2, q3]; rfl
  refine pv_ ?_ ?_ 58 246 576460752303423487 HT_.out rfl rfl (by kernel_rfl) (fun _ _ _ h => h) (by rfl) ?_ ?_ ?_
  rotate_left 2
  · intro w'; go_simp; with_reducible rfl
  · simp only [Act.put, q1, q2, q3]; rfl
  refine pv_ ?_ ?_ 59 247 1152921504606846975 HT_.out rfl rfl (by kernel_rfl) (fun _ _ _ h => h) (by rfl) ?_ ?_ ?_
  rotate_left 2
  · intro w'; go_simp; with_reducible rfl
  · simp only [Act.put, q1, q2, q3]; rfl
  refine pv_ ?_ ?_ 60 248 2305843009213693951 HT_.out rfl rfl (by kernel_rfl) (fun _ _ _ h => h) (by rfl) ?_ ?_ ?_
  rotate_left 2
  · intro w'; go_simp; with_reducible rfl
  · simp only [Act.put, q1, q2, q3]; rfl
  refine pv_ ?_ ?_ 61 249 4611686018427387903 HT_.out rfl rfl (by kernel_rfl) (fun _ _ _ h => h) (by rfl) ?_ ?_ ?_
  rotate_left 2
  · intro w'; go_simp; with_reducible rfl
  · simp only [Act.put, q1, q2, q3]; rfl
  refine pv_ ?_ ?_ 62 250 9223372036854775807 HT_.out rfl rfl (by kernel_rfl) (fun _ _ _ h => h) (by rfl) ?_ ?_ ?_
  rotate_left 2
  · intro w'; go_simp; with_reducible rfl
  · simp only [Act.put, q1, q2, q3]; rfl
  refine pv_ ?_ ?_ 63 251 18446744073709551615 HT_.out rfl rfl (by kernel_rfl) (fun _ _ _ h => h) (by rfl) ?_ ?_ ?_
  rotate_left 2
  · intro w'; go_simp; with_reducible rfl
  · simp only [Act.put, q1, q2, q3]; rfl
  refine pv_ ?_ ?_ 64 252 36893488147419103231 HT_.out rfl rfl (by kernel_rfl) (fun _ _ _ h => h) (by rfl) ?_ ?_ ?_
  rotate_left 2
  · intro w'; go_simp; with_reducible rfl
  · simp only [Act.put, q1, q2, q3]; rfl
  refine pv_ ?_ ?_ 65 253 73786976294838206463 HT_.out rfl rfl (by kernel_rfl) (fun _ _ _ h => h) (by rfl) ?_ ?_ ?_
  rotate_left 2
  · intro w'; go_simp; with_reducible rfl
  · simp only [Act.put, q1, q2, q3]; rfl
  refine pv_ ?_ ?_ 66 254 147573952589676412927 HT_.out rfl rfl (by kernel_rfl) (fun _ _ _ h => h) (by rfl) ?_ ?_ ?_
  rotate_left 2
  · intro w'; go_simp; with_reducible rfl
  · simp only [Act.put, q1, q2, q3]; rfl
  refine pv_ ?_ ?_ 67 255 295147905179352825855 HT_.out rfl rfl (by kernel_rfl) (fun _ _ _ h => h) (by rfl) ?_ ?_ ?_
  rotate_left 2
  · intro w'; go_simp; with_reducible rfl
  · simp only [Act.put, q1, q2, q3]; rfl
  refine pv_ ?_ ?_ 68 256 590295810358705651711 HT_.out rfl rfl (by kernel_rfl) (fun _ _ _ h => h) (by rfl) ?_ ?_ ?_
  rotate_left 2
  · intro w'; go_simp; with_reducible rfl
  · simp only [Act.put, q1, q2, q3]; rfl
  refine pv_ ?_ ?_ 69 257 1180591620717411303423 HT_.out rfl rfl (by kernel_rfl) (fun _ _ _ h => h) (by rfl) ?_ ?_ ?_
  rotate_left 2
  · intro w'; go_simp; with_reducible rfl
  · simp only [Act.put, q1, q2, q3]; rfl
  refine pv_ ?_ ?_ 70 258 2361183241434822606847 HT_.out rfl rfl (by kernel_rfl) (fun _ _ _ h => h) (by rfl) ?_ ?_ ?_
  rotate_left 2
  · intro w'; go_simp; with_reducible rfl
  · simp only [Act.put, q1, q2, q3]; rfl
  refine pv_ ?_ ?_ 71 259 4722366482869645213695 HT_.out rfl rfl (by kernel_rfl) (fun _ _ _ h => h) (by rfl) ?_ ?_ ?_
  rotate_left 2
  · intro w'; go_simp; with_reducible rfl
  · simp only [Act.put, q1, q2, q3]; rfl
  refine pv_ ?_ ?_ 72 260 9444732965739290427391 HT_.out rfl rfl (by kernel_rfl) (fun _ _ _ h => h) (by rfl) ?_ ?_ ?_
  rotate_left 2
  · intro w'; go_simp; with_reducible rfl
  · simp only [Act.put, q1, q2, q3]; rfl
  refine one_ (i := 73) (N := some 261) (ran 154 18889465931478580854783) rfl rfl (one_of HT_.out (by kernel_rfl)) (by decide) (fun K hK => ?_)
  refine goes_ Try.func48 (by kernel_rfl) rfl #[.slice An co.length cn, .slice An2 co.length cn2] (by rfl) rfl rfl (by (try simp only [List.map_toArray, List.map_cons, List.map_nil]); first | done | rfl) ?_
  with_reducible refine (laws_wSame.calls k _ _ co _ _ co true _ ?side1 ?side2 ?side3 ?side4 E21.out).mono ?_
  (case side1 => repeat (first | exact HN.out | (with_reducible refine Kd.C_alloc ?_ _) | (with_reducible refine Kd.C_drewN ?_ _) | (with_reducible refine Kd.C_drew ?_)))
  (case side2 => exact HNc.out)
  (case side3 => repeat (first | exact HN2.out | (with_reducible refine Kd.C_alloc ?_ _) | (with_reducible refine Kd.C_drewN ?_ _) | (with_reducible refine Kd.C_drew ?_)))
  (case side4 => exact HN2c.out)
  rintro e w' ⟨rfl, ⟨nd, rfl⟩⟩
  refine ⟨_, rfl, ?_⟩
  refine hK.out _ _ ⟨(blk_cell BKS.out 0).trans rfl, (blk_cell BKS.out 1).trans rfl, (blk_cell BKS.out 2).trans rfl⟩ (fun hHeld => ?_)
  clear hK
  refine norm_ (a' := ?_) ?_ ?_
  rotate_left
  · show Act.put _ (some 261) _ = _
    simp only [Act.put, q1, q2, q3]
    rfl
  refine pv_ ?_ ?_ 74 262 37778931862957161709567 HT_.out rfl rfl (by kernel_rfl) (fun _ _ _ h => h) (by rfl) ?_ ?_ ?_
  rotate_left 2
  · intro w'; go_simp; with_reducible rfl
  · simp only [Act.put, q1, q2, q3]; rfl
  refine pv_ ?_ ?_ 75 263 75557863725914323419135 HT_.out rfl rfl (by kernel_rfl) (fun _ _ _ h => h) (by rfl) ?_ ?_ ?_
  rotate_left 2
  · intro w'; go_simp; with_reducible rfl
  · simp only [Act.put, q1, q2, q3]; rfl
  refine pv_ ?_ ?_ 76 264 151115727451828646838271 HT_.out rfl rfl (by kernel_rfl) (fun _ _ _ h => h) (by rfl) ?_ ?_ ?_
  rotate_left 2
  · intro w'; go_simp; with_reducible rfl
  · simp only [Act.put, q1, q2, q3]; rfl
  refine pv_ ?_ ?_ 77 265 302231454903657293676543 HT_.out rfl rfl (by kernel_rfl) (fun _ _ _ h => h) (by rfl) ?_ ?_ ?_
  rotate_left 2
  · intro w'; go_simp; with_reducible rfl
  · simp only [Act.put, q1, q2, q3]; rfl
  refine pv_ ?_ ?_ 78 266 604462909807314587353087 HT_.out rfl rfl (by kernel_rfl) (fun _ _ _ h => h) (by rfl) ?_ ?_ ?_
  rotate_left 2
  · intro w'; go_simp; with_reducible rfl
  · simp only [Act.put, q1, q2, q3]; rfl
  refine pv_ ?_ ?_ 79 267 1208925819614629174706175 HT_.out rfl rfl (by kernel_rfl) (fun _ _ _ h => h) (by rfl) ?_ ?_ ?_
  rotate_left 2
  · intro w'; go_simp; with_reducible rfl
  · simp only [Act.put, q1, q2, q3]; rfl
  refine pv_ ?_ ?_ 80 268 2417851639229258349412351 HT_.out rfl rfl (by kernel_rfl) (fun _ _ _ h => h) (by rfl) ?_ ?_ ?_
  rotate_left 2
  · intro w'; go_simp; with_reducible rfl
  · simp only [Act.put, q1, q2, q3]; rfl
  refine pv_ ?_ ?_ 81 269 4835703278458516698824703 HT_.out rfl rfl (by kernel_rfl) (fun _ _ _ h => h) (by rfl) ?_ ?_ ?_
  rotate_left 2
  · intro w'; go_simp; with_reducible rfl
  · simp only [Act.put, q1, q2, q3]; rfl
  refine pv_ ?_ ?_ 82 270 9671406556917033397649407 HT_.out rfl rfl (by kernel_rfl) (fun _ _ _ h => h) (by rfl) ?_ ?_ ?_
  rotate_left 2
  · intro w'; go_simp; with_reducible rfl
  · simp only [Act.put, q1, q2, q3]; rfl
  refine pv_ ?_ ?_ 83 271 19342813113834066795298815 HT_.out rfl rfl (by kernel_rfl) (fun _ _ _ h => h) (by rfl) ?_ ?_ ?_
  rotate_left 2
  · intro w'; go_simp; with_reducible rfl
  · simp only [Act.put, q1, q2, q3]; rfl
  refine pv_ ?_ ?_ 84 272 38685626227668133590597631 HT_.out rfl rfl (by kernel_rfl) (fun _ _ _ h => h) (by rfl) ?_ ?_ ?_
  rotate_left 2
  · intro w'; go_simp; with_reducible rfl
  · simp only [Act.put, q1, q2, q3]; rfl
  refine pv_ ?_ ?_ 85 273 77371252455336267181195263 HT_.out rfl rfl (by kernel_rfl) (fun _ _ _ h => h) (by rfl) ?_ ?_ ?_
  rotate_left 2
  · intro w'; go_simp; with_reducible rfl
  · simp only [Act.put, q1, q2, q3]; rfl
  refine pv_ ?_ ?_ 86 274 154742504910672534362390527 HT_.out rfl rfl (by kernel_rfl) (fun _ _ _ h => h) (by rfl) ?_ ?_ ?_
  rotate_left 2
  · intro w'; go_simp; with_reducible rfl
  · simp only [Act.put, q1, q2, q3]; rfl
  refine pv_ ?_ ?_ 87 275 309485009821345068724781055 HT_.out rfl rfl (by kernel_rfl) (fun _ _ _ h => h) (by rfl) ?_ ?_ ?_
  rotate_left 2
  · intro w'; go_simp; with_reducible rfl
  · simp only [Act.put, q1, q2, q3]; rfl
  refine pv_ ?_ ?_ 88 276 618970019642690137449562111 HT_.out rfl rfl (by kernel_rfl) (fun _ _ _ h => h) (by rfl) ?_ ?_ ?_
  rotate_left 2
  · intro w'; go_simp; with_reducible rfl
  · simp only [Act.put, q1, q2, q3]; rfl
  refine pv_ ?_ ?_ 89 277 1237940039285380274899124223 HT_.out rfl rfl (by kernel_rfl) (fun _ _ _ h => h) (by rfl) ?_ ?_ ?_
  rotate_left 2
  · intro w'; go_simp; with_reducible rfl
  · simp only [Act.put, q1, q2, q3]; rfl
  refine pv_ ?_ ?_ 90 278 2475880078570760549798248447 HT_.out rfl rfl (by kernel_rfl) (fun _ _ _ h => h) (by rfl) ?_ ?_ ?_
  rotate_left 2
  · intro w'; go_simp; with_reducible rfl
  · simp only [Act.put, q1, q2, q3]; rfl
  refine pv_ ?_ ?_ 91 279 4951760157141521099596496895 HT_.out rfl rfl (by kernel_rfl) (fun _ _ _ h => h) (by rfl) ?_ ?_ ?_
  rotate_left 2
  · intro w'; go_simp; with_reducible rfl
  · simp only [Act.put, q1, q2, q3]; rfl
  refine pv_ ?_ ?_ 92 280 9903520314283042199192993791 HT_.out rfl rfl (by kernel_rfl) (fun _ _ _ h => h) (by rfl) ?_ ?_ ?_
  rotate_left 2
  · intro w'; go_simp; with_reducible rfl
  · simp only [Act.put, q1, q2, q3]; rfl
  refine pv_ ?_ ?_ 93 281 19807040628566084398385987583 HT_.out rfl rfl (by kernel_rfl) (fun _ _ _ h => h) (by rfl) ?_ ?_ ?_
  rotate_left 2
  · intro w'; go_simp; with_reducible rfl
  · simp only [Act.put, q1, q2, q3]; rfl
  refine pv_ ?_ ?_ 94 282 39614081257132168796771975167 HT_.out rfl rfl (by kernel_rfl) (fun _ _ _ h => h) (by rfl) ?_ ?_ ?_
  rotate_left 2
  · intro w'; go_simp; with_reducible rfl
  · simp only [Act.put, q1, q2, q3]; rfl
  refine pv_ ?_ ?_ 95 283 79228162514264337593543950335 HT_.out rfl rfl (by kernel_rfl) (fun _ _ _ h => h) (by rfl) ?_ ?_ ?_
  rotate_left 2
  · intro w'; go_simp; with_reducible rfl
  · simp only [Act.put, q1, q2, q3]; rfl
  refine pv_ ?_ ?_ 96 284 158456325028528675187087900671 HT_.out rfl rfl (by kernel_rfl) (fun _ _ _ h => h) (by rfl) ?_ ?_ ?_
  rotate_left 2
  · intro w'; go_simp; with_reducible rfl
  · simp only [Act.put, q1, q2, q3]; rfl
  refine pv_ ?_ ?_ 97 285 316912650057057350374175801343 HT_.out rfl rfl (by kernel_rfl) (fun _ _ _ h => h) (by rfl) ?_ ?_ ?_
  rotate_left 2
  · intro w'; go_simp; with_reducible rfl
  · simp only [Act.put, q1, q2, q3]; rfl
  refine pv_ ?_ ?_ 98 286 633825300114114700748351602687 HT_.out rfl rfl (by kernel_rfl) (fun _ _ _ h => h) (by rfl) ?_ ?_ ?_
  rotate_left 2
  · intro w'; go_simp; with_reducible rfl
  · simp only [Act.put, q1, q2, q3]; rfl
  refine pv_ ?_ ?_ 99 287 1267650600228229401496703205375 HT_.out rfl rfl (by kernel_rfl) (fun _ _ _ h => h) (by rfl) ?_ ?_ ?_
  rotate_left 2
  · intro w'; go_simp; with_reducible rfl
  · simp only [Act.put, q1, q2, q3]; rfl
  refine pv_ ?_ ?_ 100 288 2535301200456458802993406410751 HT_.out rfl rfl (by kernel_rfl) (fun _ _ _ h => h) (by rfl) ?_ ?_ ?_
  rotate_left 2
  · intro w'; go_simp; with_reducible rfl
  · simp only [Act.put, q1, q2, q3]; rfl
  refine pv_ ?_ ?_ 101 289 5070602400912917605986812821503 HT_.out rfl rfl (by kernel_rfl) (fun _ _ _ h => h) (by rfl) ?_ ?_ ?_
  rotate_left 2
  · intro w'; go_simp; with_reducible rfl
  · simp only [Act.put, q1, q2, q3]; rfl
  refine pv_ ?_ ?_ 102 290 10141204801825835211973625643007 HT_.out rfl rfl (by kernel_rfl) (fun _ _ _ h => h) (by rfl) ?_ ?_ ?_
  rotate_left 2
  · intro w'; go_simp; with_reducible rfl
  · simp only [Act.put, q1, q2, q3]; rfl
  refine pv_ ?_ ?_ 103 291 20282409603651670423947251286015 HT_.out rfl rfl (by kernel_rfl) (fun _ _ _ h => h) (by rfl) ?_ ?_ ?_
  rotate_left 2
  · intro w'; go_simp; with_reducible rfl
  · simp only [Act.put, q1, q2, q3]; rfl
  refine pv_ ?_ ?_ 104 292 40564819207303340847894502572031 HT_.out rfl rfl (by kernel_rfl) (fun _ _ _ h => h) (by rfl) ?_ ?_ ?_
  rotate_left 2
  · intro w'; go_simp; with_reducible rfl
  · simp only [Act.put, q1, q2, q3]; rfl
  refine pv_ ?_ ?_ 105 293 81129638414606681695789005144063 HT_.out rfl rfl (by kernel_rfl) (fun _ _ _ h => h) (by rfl) ?_ ?_ ?_
  rotate_left 2
  · intro w'; go_simp; with_reducible rfl
  · simp only [Act.put, q1, q2, q3]; rfl
  refine pv_ ?_ ?_ 106 294 162259276829213363391578010288127 HT_.out rfl rfl (by kernel_rfl) (fun _ _ _ h => h) (by rfl) ?_ ?_ ?_
  rotate_left 2
  · intro w'; go_simp; with_reducible rfl
  · simp only [Act.put, q1, q2, q3]; rfl
  refine pv_ ?_ ?_ 107 295 324518553658426726783156020576255 HT_.out rfl rfl (by kernel_rfl) (fun _ _ _ h => h) (by rfl) ?_ ?_ ?_
  rotate_left 2
  · intro w'; go_simp; with_reducible rfl
  · simp only [Act.put, q1, q2, q3]; rfl
  refine pv_ ?_ ?_ 108 296 649037107316853453566312041152511 HT_.out rfl rfl (by kernel_rfl) (fun _ _ _ h => h) (by rfl) ?_ ?_ ?_
  rotate_left 2
  · intro w'; go_simp; with_reducible rfl
  · simp only [Act.put, q1, q2, q3]; rfl
  refine pv_ ?_ ?_ 109 297 1298074214633706907132624082305023 HT_.out rfl rfl (by kernel_rfl) (fun _ _ _ h => h) (by rfl) ?_ ?_ ?_
  rotate_left 2
  · intro w'; go_simp; with_reducible rfl
  · simp only [Act.put, q1, q2, q3]; rfl
  refine pv_ ?_ ?_ 110 298 2596148429267413814265248164610047 HT_.out rfl rfl (by kernel_rfl) (fun _ _ _ h => h) (by rfl) ?_ ?_ ?_
  rotate_left 2
  · intro w'; go_simp; with_reducible rfl
  · simp only [Act.put, q1, q2, q3]; rfl
  refine pv_ ?_ ?_ 111 299 5192296858534827628530496329220095 HT_.out rfl rfl (by kernel_rfl) (fun _ _ _ h => h) (by rfl) ?_ ?_ ?_
  rotate_left 2
  · intro w'; go_simp; with_reducible rfl
  · simp only [Act.put, q1, q2, q3]; rfl
  refine pv_ ?_ ?_ 112 300 10384593717069655257060992658440191 HT_.out rfl rfl (by kernel_rfl) (fun _ _ _ h => h) (by rfl) ?_ ?_ ?_
  rotate_left 2
  · intro w'; go_simp; with_reducible rfl
  · simp only [Act.put, q1, q2, q3]; rfl
  refine take_ (i := 113) (N := some 301) (v := ?_) (a' := ?_) (ran 154 20769187434139310514121985316880383) rfl rfl (take_ofW HT_.out HW_.out (by kernel_rfl)) (fun _ _ _ h => h) (Or.inl ⟨by rfl, ?_⟩) hHeld ?_ ?_
  rotate_left
  · rintro w' ⟨s0, s1, s2⟩
    go_simp
    with_reducible rfl
  rotate_left
  · simp only [Act.put, q1, q2, q3]
    rfl
  refine one_ (i := 114) (N := some 302) (ran 154 41538374868278621028243970633760767) rfl rfl (one_of HT_.out (by kernel_rfl)) (by decide) (fun K hK => ?_)
  refine goes_ Try.func49 (by kernel_rfl) rfl #[.agg #[.int .i64 a0_0, .int .i64 a0_1, .int .i64 a0_2]] (by rfl) rfl rfl (by (try simp only [List.map_toArray, List.map_cons, List.map_nil]); first | done | rfl) ?_
  with_reducible refine (impl_IsSpiral.calls a0_0 a0_1 a0_2 true _ E22.out).mono ?_
  rintro e wq1 ⟨rfl, hb⟩
  refine ⟨_, rfl, ?_⟩
  have n0_ := Aside0.mk (Kd.C_below (by repeat (first | exact HA.out | (with_reducible refine Kd.C_alloc ?_ _) | (with_reducible refine Kd.C_drewN ?_ _) | (with_reducible refine Kd.C_drew ?_))) hb)
  have n1_ := Aside0.mk (Kd.C_below (by repeat (first | exact HA2.out | (with_reducible refine Kd.C_alloc ?_ _) | (with_reducible refine Kd.C_drewN ?_ _) | (with_reducible refine Kd.C_drew ?_))) hb)
  have n2_ := Aside0.mk (Kd.C_below (by repeat (first | exact HO.out | (with_reducible refine Kd.C_alloc ?_ _) | (with_reducible refine Kd.C_drewN ?_ _) | (with_reducible refine Kd.C_drew ?_))) hb)
  have n3_ := Aside0.mk (Kd.C_below (by repeat (first | exact HO2.out | (with_reducible refine Kd.C_alloc ?_ _) | (with_reducible refine Kd.C_drewN ?_ _) | (with_reducible refine Kd.C_drew ?_))) hb)
  have n4_ := Aside0.mk (Kd.C_below (by repeat (first | exact HN.out | (with_reducible refine Kd.C_alloc ?_ _) | (with_reducible refine Kd.C_drewN ?_ _) | (with_reducible refine Kd.C_drew ?_))) hb)
  have n5_ := Aside0.mk (Kd.C_below (by repeat (first | exact HN2.out | (with_reducible refine Kd.C_alloc ?_ _) | (with_reducible refine Kd.C_drewN ?_ _) | (with_reducible refine Kd.C_drew ?_))) hb)
  have n6_ := Aside0.mk (blk_below (g := gs) (o := .cells #[.int .i64 a0_0, .int .i64 a0_1, .int .i64 a0_2] 44 (0, 0)) (by (with_reducible repeat (first | refine blk_drewN ?_ _ | refine blk_drew ?_ | refine blk_alloc ?_ _)); exact BKS.out) hb)
  have n7_ := Aside0.mk (blk_below (g := gu) (o := .cells #[.int .i64 a2_0, .int .i64 a2_1, .int .i64 a2_2] 44 (0, 0)) (by (with_reducible repeat (first | refine blk_drewN ?_ _ | refine blk_drew ?_ | refine blk_alloc ?_ _)); exact BKU.out) hb)
  have n8_ := Aside0.mk (blk_below (g := gv) (o := .cells #[.int .i64 a5_0, .int .i64 a5_1, .int .i64 a5_2] 44 (0, 0)) (by (with_reducible repeat (first | refine blk_drewN ?_ _ | refine blk_drew ?_ | refine blk_alloc ?_ _)); exact BKV.out) hb)
  have n9_ := Aside0.mk (below_step (by repeat (first | (with_reducible first | exact HB.out | apply below_alloc | apply pw_below_drewN | apply below_drew1) | exact HB.out)) hb)
  clear hb HA HA2 HO HO2 HN HN2 BKS BKU BKV HB
  have HA := n0_
  have HA2 := n1_
  have HO := n2_
  have HO2 := n3_
  have HN := n4_
  have HN2 := n5_
  have BKS := n6_
  have BKU := n7_
  have BKV := n8_
  have HB := n9_
  clear n0_ n1_ n2_ n3_ n4_ n5_ n6_ n7_ n8_ n9_
  refine hK.out _ _ ⟨(blk_cell BKS.out 0).trans rfl, (blk_cell BKS.out 1).trans rfl, (blk_cell BKS.out 2).trans rfl⟩ (fun hHeld => ?_)
  clear hK
  refine norm_ (a' := ?_) ?_ ?_
  rotate_left
  · show Act.put _ (some 302) _ = _
    simp only [Act.put, q1, q2, q3]
    rfl
  refine pv_ ?_ ?_ 115 303 83076749736557242056487941267521535 HT_.out rfl rfl (by kernel_rfl) (fun _ _ _ h => h) (by rfl) ?_ ?_ ?_
  rotate_left 2
  · intro w'; go_simp; with_reducible rfl
  · simp only [Act.put, q1, q2, q3]; rfl
  refine pv_ ?_ ?_ 116 304 166153499473114484112975882535043071 HT_.out rfl rfl (by kernel_rfl) (fun _ _ _ h => h) (by rfl) ?_ ?_ ?_
  rotate_left 2
  · intro w'; go_simp; with_reducible rfl
  · simp only [Act.put, q1, q2, q3]; rfl
  refine pv_ ?_ ?_ 117 305 332306998946228968225951765070086143 HT_.out rfl rfl (by kernel_rfl) (fun _ _ _ h => h) (by rfl) ?_ ?_ ?_
  rotate_left 2
  · intro w'; go_simp; with_reducible rfl
  · simp only [Act.put, q1, q2, q3]; rfl
  refine take_ (i := 118) (N := some 306) (v := ?_) (a' := ?_) (ran 154 664613997892457936451903530140172287) rfl rfl (take_ofW HT_.out HW_.out (by kernel_rfl)) (fun _ _ _ h => h) (Or.inl ⟨by rfl, ?_⟩) hHeld ?_ ?_
  rotate_left
  · rintro w' ⟨s0, s1, s2⟩
    go_simp
    with_reducible rfl
  rotate_left
  · simp only [Act.put, q1, q2, q3]
    rfl
  refine take_ (i := 120) (N := some 308) (v := ?_) (a' := ?_) (ran 154 1993841993677373809355710590420516863) rfl rfl (take_ofW HT_.out HW_.out (by kernel_rfl)) (fun _ _ _ h => h) (Or.inl ⟨by rfl, ?_⟩) hHeld ?_ ?_
  rotate_left
  · rintro w' ⟨s0, s1, s2⟩
    go_simp
    with_reducible rfl
  rotate_left
  · simp only [Act.put, q1, q2, q3]
    rfl
  refine one_ (i := 119) (N := some 307) (ran 154 2658455991569831745807614120560689151) rfl rfl (one_of HT_.out (by kernel_rfl)) (by decide) (fun K hK => ?_)
  refine goes_ Try.func49 (by kernel_rfl) rfl #[.agg #[.int .i64 a0_0, .int .i64 a0_1, .int .i64 a0_2]] (by rfl) rfl rfl (by (try simp only [List.map_toArray, List.map_cons, List.map_nil]); first | done | rfl) ?_
  with_reducible refine (impl_IsSpiral.calls a0_0 a0_1 a0_2 true _ E22.out).mono ?_
  rintro e wq2 ⟨rfl, hb⟩
  refine ⟨_, rfl, ?_⟩
  have n0_ := Aside0.mk (Kd.C_below (by repeat (first | exact HA.out | (with_reducible refine Kd.C_alloc ?_ _) | (with_reducible refine Kd.C_drewN ?_ _) | (with_reducible refine Kd.C_drew ?_))) hb)
  have n1_ := Aside0.mk (Kd.C_below (by repeat (first | exact HA2.out | (with_reducible refine Kd.C_alloc ?_ _) | (with_reducible refine Kd.C_drewN ?_ _) | (with_reducible refine Kd.C_drew ?_))) hb)
  have n2_ := Aside0.mk (Kd.C_below (by repeat (first | exact HO.out | (with_reducible refine Kd.C_alloc ?_ _) | (with_reducible refine Kd.C_drewN ?_ _) | (with_reducible refine Kd.C_drew ?_))) hb)
  have n3_ := Aside0.mk (Kd.C_below (by repeat (first | exact HO2.out | (with_reducible refine Kd.C_alloc ?_ _) | (with_reducible refine Kd.C_drewN ?_ _) | (with_reducible refine Kd.C_drew ?_))) hb)
  have n4_ := Aside0.mk (Kd.C_below (by repeat (first | exact HN.out | (with_reducible refine Kd.C_alloc ?_ _) | (with_reducible refine Kd.C_drewN ?_ _) | (with_reducible refine Kd.C_drew ?_))) hb)
  have n5_ := Aside0.mk (Kd.C_below (by repeat (first | exact HN2.out | (with_reducible refine Kd.C_alloc ?_ _) | (with_reducible refine Kd.C_drewN ?_ _) | (with_reducible refine Kd.C_drew ?_))) hb)
  have n6_ := Aside0.mk (blk_below (g := gs) (o := .cells #[.int .i64 a0_0, .int .i64 a0_1, .int .i64 a0_2] 44 (0, 0)) (by (with_reducible repeat (first | refine blk_drewN ?_ _ | refine blk_drew ?_ | refine blk_alloc ?_ _)); exact BKS.out) hb)
  have n7_ := Aside0.mk (blk_below (g := gu) (o := .cells #[.int .i64 a2_0, .int .i64 a2_1, .int .i64 a2_2] 44 (0, 0)) (by (with_reducible repeat (first | refine blk_drewN ?_ _ | refine blk_drew ?_ | refine blk_alloc ?_ _)); exact BKU.out) hb)
  have n8_ := Aside0.mk (blk_below (g := gv) (o := .cells #[.int .i64 a5_0, .int .i64 a5_1, .int .i64 a5_2] 44 (0, 0)) (by (with_reducible repeat (first | refine blk_drewN ?_ _ | refine blk_drew ?_ | refine blk_alloc ?_ _)); exact BKV.out) hb)
  have n9_ := Aside0.mk (below_step (by repeat (first | (with_reducible first | exact HB.out | apply below_alloc | apply pw_below_drewN | apply below_drew1) | exact HB.out)) hb)
  clear hb HA HA2 HO HO2 HN HN2 BKS BKU BKV HB
  have HA := n0_
  have HA2 := n1_
  have HO := n2_
  have HO2 := n3_
  have HN := n4_
  have HN2 := n5_
  have BKS := n6_
  have BKU := n7_
  have BKV := n8_
  have HB := n9_
  clear n0_ n1_ n2_ n3_ n4_ n5_ n6_ n7_ n8_ n9_
  refine hK.out _ _ ⟨(blk_cell BKS.out 0).trans rfl, (blk_cell BKS.out 1).trans rfl, (blk_cell BKS.out 2).trans rfl⟩ (fun hHeld => ?_)
  clear hK
  refine norm_ (a' := ?_) ?_ ?_
  rotate_left
  · show Act.put _ (some 307) _ = _
    simp only [Act.put, q1, q2, q3]
    rfl
  refine one_ (i := 121) (N := some 309) (ran 154 5316911983139663491615228241121378303) rfl rfl (one_of HT_.out (by kernel_rfl)) (by decide) (fun K hK => ?_)
  refine goes_ Try.func50 (by kernel_rfl) rfl #[.agg #[.int .i64 a0_0, .int .i64 a0_1, .int .i64 a0_2]] (by rfl) rfl rfl (by (try simp only [List.map_toArray, List.map_cons, List.map_nil]); first | done | rfl) ?_
  with_reducible refine (spec_IsSpiral.calls a0_0 a0_1 a0_2 true _ E23.out).mono ?_
  rintro e wq3 ⟨rfl, hb⟩
  refine ⟨_, rfl, ?_⟩
  have n0_ := Aside0.mk (Kd.C_below (by repeat (first | exact HA.out | (with_reducible refine Kd.C_alloc ?_ _) | (with_reducible refine Kd.C_drewN ?_ _) | (with_reducible refine Kd.C_drew ?_))) hb)
  have n1_ := Aside0.mk (Kd.C_below (by repeat (first | exact HA2.out | (with_reducible refine Kd.C_alloc ?_ _) | (with_reducible refine Kd.C_drewN ?_ _) | (with_reducible refine Kd.C_drew ?_))) hb)
  have n2_ := Aside0.mk (Kd.C_below (by repeat (first | exact HO.out | (with_reducible refine Kd.C_alloc ?_ _) | (with_reducible refine Kd.C_drewN ?_ _) | (with_reducible refine Kd.C_drew ?_))) hb)
  have n3_ := Aside0.mk (Kd.C_below (by repeat (first | exact HO2.out | (with_reducible refine Kd.C_alloc ?_ _) | (with_reducible refine Kd.C_drewN ?_ _) | (with_reducible refine Kd.C_drew ?_))) hb)
  have n4_ := Aside0.mk (Kd.C_below (by repeat (first | exact HN.out | (with_reducible refine Kd.C_alloc ?_ _) | (with_reducible refine Kd.C_drewN ?_ _) | (with_reducible refine Kd.C_drew ?_))) hb)
  have n5_ := Aside0.mk (Kd.C_below (by repeat (first | exact HN2.out | (with_reducible refine Kd.C_alloc ?_ _) | (with_reducible refine Kd.C_drewN ?_ _) | (with_reducible refine Kd.C_drew ?_))) hb)
  have n6_ := Aside0.mk (blk_below (g := gs) (o := .cells #[.int .i64 a0_0, .int .i64 a0_1, .int .i64 a0_2] 44 (0, 0)) (by (with_reducible repeat (first | refine blk_drewN ?_ _ | refine blk_drew ?_ | refine blk_alloc ?_ _)); exact BKS.out) hb)
  have n7_ := Aside0.mk (blk_below (g := gu) (o := .cells #[.int .i64 a2_0, .int .i64 a2_1, .int .i64 a2_2] 44 (0, 0)) (by (with_reducible repeat (first | refine blk_drewN ?_ _ | refine blk_drew ?_ | refine blk_alloc ?_ _)); exact BKU.out) hb)
  have n8_ := Aside0.mk (blk_below (g := gv) (o := .cells #[.int .i64 a5_0, .int .i64 a5_1, .int .i64 a5_2] 44 (0, 0)) (by (with_reducible repeat (first | refine blk_drewN ?_ _ | refine blk_drew ?_ | refine blk_alloc ?_ _)); exact BKV.out) hb)
  have n9_ := Aside0.mk (below_step (by repeat (first | (with_reducible first | exact HB.out | apply below_alloc | apply pw_below_drewN | apply below_drew1) | exact HB.out)) hb)
  clear hb HA HA2 HO HO2 HN HN2 BKS BKU BKV HB
  have HA := n0_
  have HA2 := n1_
  have HO := n2_
  have HO2 := n3_
  have HN := n4_
  have HN2 := n5_
  have BKS := n6_
  have BKU := n7_
  have BKV := n8_
  have HB := n9_
  clear n0_ n1_ n2_ n3_ n4_ n5_ n6_ n7_ n8_ n9_
  refine hK.out _ _ ⟨(blk_cell BKS.out 0).trans rfl, (blk_cell BKS.out 1).trans rfl, (blk_cell BKS.out 2).trans rfl⟩ (fun hHeld => ?_)
  clear hK
  refine norm_ (a' := ?_) ?_ ?_
  rotate_left
  · show Act.put _ (some 309) _ = _
    simp only [Act.put, q1, q2, q3]
    rfl
  refine pv_ ?_ ?_ 122 310 10633823966279326983230456482242756607 HT_.out rfl rfl (by kernel_rfl) (fun _ _ _ h => h) (by rfl) ?_ ?_ ?_
  rotate_left 2
  · intro w'; go_simp; with_reducible rfl
  · simp only [Act.put, q1, q2, q3]; rfl
  refine pv_ ?_ ?_ 123 311 21267647932558653966460912964485513215 HT_.out rfl rfl (by kernel_rfl) (fun _ _ _ h => h) (by rfl) ?_ ?_ ?_
  rotate_left 2
  · intro w'; go_simp; with_reducible rfl
  · simp only [Act.put, q1, q2, q3]; rfl
  refine pv_ ?_ ?_ 124 312 42535295865117307932921825928971026431 HT_.out rfl rfl (by kernel_rfl) (fun _ _ _ h => h) (by rfl) ?_ ?_ ?_
  rotate_left 2
  · intro w'; go_simp; with_reducible rfl
  · simp only [Act.put, q1, q2, q3]; rfl
  refine pv_ ?_ ?_ 125 313 85070591730234615865843651857942052863 HT_.out rfl rfl (by kernel_rfl) (fun _ _ _ h => h) (by rfl) ?_ ?_ ?_
  rotate_left 2
  · intro w'; go_simp; with_reducible rfl
  · simp only [Act.put, q1, q2, q3]; rfl
  refine pv_ ?_ ?_ 126 314 170141183460469231731687303715884105727 HT_.out rfl rfl (by kernel_rfl) (fun _ _ _ h => h) (by rfl) ?_ ?_ ?_
  rotate_left 2
  · intro w'; go_simp; with_reducible rfl
  · simp only [Act.put, q1, q2, q3]; rfl
  refine pv_ ?_ ?_ 127 315 340282366920938463463374607431768211455 HT_.out rfl rfl (by kernel_rfl) (fun _ _ _ h => h) (by rfl) ?_ ?_ ?_
  rotate_left 2
  · intro w'; go_simp; with_reducible rfl
  · simp only [Act.put, q1, q2, q3]; rfl
  refine pv_ ?_ ?_ 128 316 680564733841876926926749214863536422911 HT_.out rfl rfl (by kernel_rfl) (fun _ _ _ h => h) (by rfl) ?_ ?_ ?_
  rotate_left 2
  · intro w'; go_simp; with_reducible rfl
  · simp only [Act.put, q1, q2, q3]; rfl
  refine pv_ ?_ ?_ 129 317 1361129467683753853853498429727072845823 HT_.out rfl rfl (by kernel_rfl) (fun _ _ _ h => h) (by rfl) ?_ ?_ ?_
  rotate_left 2
  · intro w'; go_simp; with_reducible rfl
  · simp only [Act.put, q1, q2, q3]; rfl
  refine pv_ ?_ ?_ 130 318 2722258935367507707706996859454145691647 HT_.out rfl rfl (by kernel_rfl) (fun _ _ _ h => h) (by rfl) ?_ ?_ ?_
  rotate_left 2
  · intro w'; go_simp; with_reducible rfl
  · simp only [Act.put, q1, q2, q3]; rfl
  refine pv_ ?_ ?_ 131 319 5444517870735015415413993718908291383295 HT_.out rfl rfl (by kernel_rfl) (fun _ _ _ h => h) (by rfl) ?_ ?_ ?_
  rotate_left 2
  · intro w'; go_simp; with_reducible rfl
  · simp only [Act.put, q1, q2, q3]; rfl
  refine pv_ ?_ ?_ 132 320 10889035741470030830827987437816582766591 HT_.out rfl rfl (by kernel_rfl) (fun _ _ _ h => h) (by rfl) ?_ ?_ ?_
  rotate_left 2
  · intro w'; go_simp; with_reducible rfl
  · simp only [Act.put, q1, q2, q3]; rfl
  refine pv_ ?_ ?_ 133 321 21778071482940061661655974875633165533183 HT_.out rfl rfl (by kernel_rfl) (fun _ _ _ h => h) (by rfl) ?_ ?_ ?_
  rotate_left 2
  · intro w'; go_simp; with_reducible rfl
  · simp only [Act.put, q1, q2, q3]; rfl
  refine pv_ ?_ ?_ 134 322 43556142965880123323311949751266331066367 HT_.out rfl rfl (by kernel_rfl) (fun _ _ _ h => h) (by rfl) ?_ ?_ ?_
  rotate_left 2
  · intro w'; go_simp; with_reducible rfl
  · simp only [Act.put, q1, q2, q3]; rfl
  refine pv_ ?_ ?_ 135 323 87112285931760246646623899502532662132735 HT_.out rfl rfl (by kernel_rfl) (fun _ _ _ h => h) (by rfl) ?_ ?_ ?_
  rotate_left 2
  · intro w'; go_simp; with_reducible rfl
  · simp only [Act.put, q1, q2, q3]; rfl
  refine pv_ ?_ ?_ 136 324 174224571863520493293247799005065324265471 HT_.out rfl rfl (by kernel_rfl) (fun _ _ _ h => h) (by rfl) ?_ ?_ ?_
  rotate_left 2
  · intro w'; go_simp; with_reducible rfl
  · simp only [Act.put, q1, q2, q3]; rfl
  refine pv_ ?_ ?_ 137 325 348449143727040986586495598010130648530943 HT_.out rfl rfl (by kernel_rfl) (fun _ _ _ h => h) (by rfl) ?_ ?_ ?_
  rotate_left 2
  · intro w'; go_simp; with_reducible rfl
  · simp only [Act.put, q1, q2, q3]; rfl
  refine pv_ ?_ ?_ 138 326 696898287454081973172991196020261297061887 HT_.out rfl rfl (by kernel_rfl) (fun _ _ _ h => h) (by rfl) ?_ ?_ ?_
  rotate_left 2
  · intro w'; go_simp; with_reducible rfl
  · simp only [Act.put, q1, q2, q3]; rfl
  refine take_ (i := 139) (N := some 327) (v := ?_) (a' := ?_) (ran 154 1393796574908163946345982392040522594123775) rfl rfl (take_ofW HT_.out HW_.out (by kernel_rfl)) (fun _ _ _ h => h) (Or.inl ⟨by rfl, ?_⟩) hHeld ?_ ?_
  rotate_left
  · rintro w' ⟨s0, s1, s2⟩
    go_simp
    with_reducible rfl
  rotate_left
  · simp only [Act.put, q1, q2, q3]
    rfl
  refine pv_ ?_ ?_ 140 328 2787593149816327892691964784081045188247551 HT_.out rfl rfl (by kernel_rfl) (fun _ _ _ h => h) (by rfl) ?_ ?_ ?_
  rotate_left 2
  · intro w'; go_simp; with_reducible rfl
  · simp only [Act.put, q1, q2, q3]; rfl
  refine pv_ ?_ ?_ 141 329 5575186299632655785383929568162090376495103 HT_.out rfl rfl (by kernel_rfl) (fun _ _ _ h => h) (by rfl) ?_ ?_ ?_
  rotate_left 2
  · intro w'; go_simp; with_reducible rfl
  · simp only [Act.put, q1, q2, q3]; rfl
  refine pv_ ?_ ?_ 142 330 11150372599265311570767859136324180752990207 HT_.out rfl rfl (by kernel_rfl) (fun _ _ _ h => h) (by rfl) ?_ ?_ ?_
  rotate_left 2
  · intro w'; go_simp; with_reducible rfl
  · simp only [Act.put, q1, q2, q3]; rfl
  refine pv_ ?_ ?_ 143 331 22300745198530623141535718272648361505980415 HT_.out rfl rfl (by kernel_rfl) (fun _ _ _ h => h) (by rfl) ?_ ?_ ?_
  rotate_left 2
  · intro w'; go_simp; with_reducible rfl
  · simp only [Act.put, q1, q2, q3]; rfl
  refine pv_ ?_ ?_ 144 332 44601490397061246283071436545296723011960831 HT_.out rfl rfl (by kernel_rfl) (fun _ _ _ h => h) (by rfl) ?_ ?_ ?_
  rotate_left 2
  · intro w'; go_simp; with_reducible rfl
  · simp only [Act.put, q1, q2, q3]; rfl
  refine pv_ ?_ ?_ 145 333 89202980794122492566142873090593446023921663 HT_.out rfl rfl (by kernel_rfl) (fun _ _ _ h => h) (by rfl) ?_ ?_ ?_
  rotate_left 2
  · intro w'; go_simp; with_reducible rfl
  · simp only [Act.put, q1, q2, q3]; rfl
  refine pv_ ?_ ?_ 146 334 178405961588244985132285746181186892047843327 HT_.out rfl rfl (by kernel_rfl) (fun _ _ _ h => h) (by rfl) ?_ ?_ ?_
  rotate_left 2
  · intro w'; go_simp; with_reducible rfl
  · simp only [Act.put, q1, q2, q3]; rfl
  refine pv_ ?_ ?_ 147 335 356811923176489970264571492362373784095686655 HT_.out rfl rfl (by kernel_rfl) (fun _ _ _ h => h) (by rfl) ?_ ?_ ?_
  rotate_left 2
  · intro w'; go_simp; with_reducible rfl
  · simp only [Act.put, q1, q2, q3]; rfl
  refine pv_ ?_ ?_ 148 336 713623846352979940529142984724747568191373311 HT_.out rfl rfl (by kernel_rfl) (fun _ _ _ h => h) (by rfl) ?_ ?_ ?_
  rotate_left 2
  · intro w'; go_simp; with_reducible rfl
  · simp only [Act.put, q1, q2, q3]; rfl
  refine pv_ ?_ ?_ 149 337 1427247692705959881058285969449495136382746623 HT_.out rfl rfl (by kernel_rfl) (fun _ _ _ h => h) (by rfl) ?_ ?_ ?_
  rotate_left 2
  · intro w'; go_simp; with_reducible rfl
  · simp only [Act.put, q1, q2, q3]; rfl
  refine pv_ ?_ ?_ 150 338 2854495385411919762116571938898990272765493247 HT_.out rfl rfl (by kernel_rfl) (fun _ _ _ h => h) (by rfl) ?_ ?_ ?_
  rotate_left 2
  · intro w'; go_simp; with_reducible rfl
  · simp only [Act.put, q1, q2, q3]; rfl
  refine pv_ ?_ ?_ 151 339 5708990770823839524233143877797980545530986495 HT_.out rfl rfl (by kernel_rfl) (fun _ _ _ h => h) (by rfl) ?_ ?_ ?_
  rotate_left 2
  · intro w'; go_simp; with_reducible rfl
  · simp only [Act.put, q1, q2, q3]; rfl
  refine pv_ ?_ ?_ 152 340 11417981541647679048466287755595961091061972991 HT_.out rfl rfl (by kernel_rfl) (fun _ _ _ h => h) (by rfl) ?_ ?_ ?_
  rotate_left 2
  · intro w'; go_simp; with_reducible rfl
  · simp only [Act.put, q1, q2, q3]; rfl
  refine pv_ ?_ ?_ 153 341 22835963083295358096932575511191922182123945983 HT_.out rfl rfl (by kernel_rfl) (fun _ _ _ h => h) (by rfl) ?_ ?_ ?_
  rotate_left 2
  · intro w'; go_simp; with_reducible rfl
  · simp only [Act.put, q1, q2, q3]; rfl
  refine done_ (done_of HT_.out (by kernel_rfl)) ?_
  try go_wp2
  apply hK1
  exact ⟨by repeat (first | exact HA.out | (with_reducible refine Kd.C_alloc ?_ _) | (with_reducible refine Kd.C_drewN ?_ _) | (with_reducible refine Kd.C_drew ?_))⟩
  exact ⟨by repeat (first | exact HO.out | (with_reducible refine Kd.C_alloc ?_ _) | (with_reducible refine Kd.C_drewN ?_ _) | (with_reducible refine Kd.C_drew ?_))⟩
  exact ⟨by repeat (first | exact HN.out | (with_reducible refine Kd.C_alloc ?_ _) | (with_reducible refine Kd.C_drewN ?_ _) | (with_reducible refine Kd.C_drew ?_))⟩
  exact ⟨by (with_reducible repeat (first | refine blk_drewN ?_ _ | refine blk_drew ?_ | refine blk_alloc ?_ _)); exact BKS.out⟩
  exact ⟨by (with_reducible repeat (first | refine blk_drewN ?_ _ | refine blk_drew ?_ | refine blk_alloc ?_ _)); exact BKU.out⟩
  exact ⟨by (with_reducible repeat (first | refine blk_drewN ?_ _ | refine blk_drew ?_ | refine blk_alloc ?_ _)); exact BKV.out⟩
  exact ⟨by repeat (first | (with_reducible first | exact HB.out | apply below_alloc | apply pw_below_drewN | apply below_drew1) | exact HB.out)⟩
end Go.Proofs.Ytbbkbooiefoihaa.PFnSpiralsTurnOfAll
