/- The block over a spiral of the law FnSpiralsTurnOfAll's walk, on the road where the pure part's facts hold. Its conditions are these facts, each a hypothesis. -/
import Derived.Test.YtbbkbooiefoihaaSpiFacts
namespace Go.Proofs.Ytbbkbooiefoihaa.PFnSpiralsTurnOfAll
open Go.RowKit Go.Proofs.YtbbkbooiefoihaaW.PrintWords Go.Proofs.YtbbkbooiefoihaaW.PrintLast Go.Proofs.YtbbkbooiefoihaaW.PrintMore
attribute [local go_sem] max2_int min2_int max_two min_two
set_option linter.unusedVariables false
set_option linter.unusedSimpArgs false
set_option maxHeartbeats 16000000 in
set_option maxRecDepth 100000 in
theorem sec22 (k : Nat) (a0_0 a0_1 a0_2 a1 a2_0 a2_1 a2_2 a3 a4 a5_0 a5_1 a5_2 : Int) (a6 : ByteArray) (a7 a8 : Int) (w : World) (num den : Int) (ok : Bool) (ab : List Int) (hd_ : Int) (t3 : Bool) (ot : List Int) (si : ByteArray) (hi : Int) (co : List Int) (th : Bool) (x y : Int) (LL : Int → List Int) (hh : Int → Int) (isn : Int → Bool) (pp qq : Int → Int) (gs gu gv : Nat) (Aa Aa2 Ao Ao2 An An2 : Option Addr) (ca ca2 co_ co2_ cn cn2 : Nat) (HAc : Aside0 (ab.length ≤ ca)) (HOc : Aside0 (ot.length ≤ co_)) (HNc : Aside0 (co.length ≤ cn)) (F : Aside0 (Spi k a0_0 a0_1 a0_2 a1 num den ok ab hd_ ot si hi co th x y LL hh isn pp qq)) (OKTH : Aside0 (ok = true → th = true))
    (wr : World) (HA : Aside0 (Kd.C (Kd.int .i64) wr Aa ab.length ab)) (HO : Aside0 (Kd.C (Kd.int .i64) wr Ao ot.length ot)) (HN : Aside0 (Kd.C (Kd.int .i64) wr An co.length co)) (BKS : Aside0 (wr.heap[gs]? = some (.cells #[.int .i64 a0_0, .int .i64 a0_1, .int .i64 a0_2] 44 (0, 0)))) (BKU : Aside0 (wr.heap[gu]? = some (.cells #[.int .i64 a2_0, .int .i64 a2_1, .int .i64 a2_2] 44 (0, 0)))) (BKV : Aside0 (wr.heap[gv]? = some (.cells #[.int .i64 a5_0, .int .i64 a5_1, .int .i64 a5_2] 44 (0, 0)))) (HB : Aside0 (Below w.heap.size w wr)) (K K1 : Act → World → Prop) (u10 u12 u13 u15 u16 u17 u18 u55 u56 u57 u58 u59 u60 u61 u62 u63 u64 u65 u66 u67 u68 u69 u70 u71 u72 u73 u74 u75 u76 u77 u78 u79 u80 u81 u82 u83 u84 u85 u86 u87 u88 u89 u90 u91 u92 u93 u94 u95 u96 u97 u98 u99 u100 u101 u102 u103 u104 u105 u106 u107 u108 u109 u110 u111 u112 u113 u114 u115 u116 u117 u118 u119 u120 u121 u122 u123 u124 u125 u126 u127 u128 u129 u130 u131 u132 u133 u134 u135 u136 u137 u138 u139 u140 u141 u142 u143 u144 u145 u146 u147 u148 u149 u150 u151 u152 u153 u154 u155 u156 u157 u158 u159 u160 u161 u162 u163 u164 u165 u166 u167 u168 u169 u170 u171 u172 u173 u174 u175 u176 u177 u178 u179 u180 u181 u182 u183 u184 u185 u186 u187 u188 u189 u190 u191 u192 u193 u194 u195 u196 u197 u198 u199 u200 u201 u202 u203 u204 u205 u206 u207 u208 u209 u210 u211 u212 u213 u214 u215 u216 u217 u218 u219 u220 u221 u222 u223 u224 u225 u226 u227 u228 u229 u230 u231 u232 u233 u234 u235 u236 u237 u238 u239 u240 u241 u242 u243 u244 u245 u246 u247 u248 u249 u250 u251 u252 u253 u254 u255 u256 u257 u258 u259 u260 u261 u262 u263 u264 u265 u266 u267 u268 u269 u270 u271 u272 u273 u274 u275 u276 u277 u278 u279 u280 u281 u282 u283 u284 u285 u286 u287 u288 u289 u290 u291 u292 u293 u294 u295 u296 u297 u298 u299 u300 u301 u302 u303 u304 u305 u306 u307 u308 u309 u310 u311 u312 u313 u314 u315 u316 u317 u318 u319 u320 u321 u322 u323 u324 u325 u326 u327 u328 u329 u330 u331 u332 u333 u334 u335 u336 u337 u338 u339 u340 u341 u342 u343 u344 u345 u346 u347 u348 u349 u350 u351 u352 u353 u354 u355 u356 u357 u358 u359 u360 u361 u362 u363 u364 u365 u366 u367 u368 u369 u370 u371 u372 u373 u374 u375 u376 u377 u378 u379 u380 u381 u382 u383 u384 u385 u386 u387 u388 u389 u390 u391 u392 u393 u394 u395 u396 u397 u398 u399 u400 u401 u402 u403 u404 u405 u406 u407 u408 u409 u410 u411 u412 u413 u414 u415 u416 u417 u418 u419 u420 u421 u422 u423 u424 u425 u426 u427 u428 u429 u430 u431 u432 u433 u434 u435 u436 u437 u438 u439 u440 u441 u442 u443 u444 u445 u446 u447 u448 u449 u450 u451 u452 u453 u454 u455 u456 u457 u458 u459 u460 u461 u462 u463 u464 u465 u466 u467 u468 u469 u470 u471 u472 u473 u474 u475 u476 u477 u478 u479 u480 u481 u482 u483 u484 u485 u486 u487 u488 u489 u490 u491 u492 u493 u494 u495 u496 u497 u498 u499 u500 u501 u502 u503 u504 u505 u506 u507 u508 u509 u510 u511 u512 u513 u514 u515 u516 u517 u518 u519 u520 u521 u522 u523 u524 u525 u526 u527 u528 u529 u530 u531 u532 u533 u534 u535 u536 u537 u538 u539 u540 u541 u542 u543 u544 u545 u546 u547 u548 u549 u550 u551 u552 u553 u554 u555 u556 u557 u558 u559 u560 u561 u562 u563 u564 u565 u566 u567 u568 u569 u570 u571 u572 u573 u574 u575 u576 u577 u578 u579 u580 u581 u582 u583 u584 u585 u586 u587 u588 u589 u590 u591 u592 u593 u594 u595 u596 u597 u598 u599 u600 u601 u602 u603 u604 u605 u606 u607 u608 u609 u610 u611 u612 u613 u614 u615 u616 u617 u618 u619 u620 u621 u622 u623 u624 u625 u626 u627 u628 u629 u630 u631 u632 u633 u634 u635 u636 u637 u638 u639 u640 u641 u642 u643 u644 u645 u646 u647 u648 u649 u650 u651 u652 u653 u654 u655 u656 u657 u658 u659 u660 u661 u662 u663 u664 u665 u666 u667 u668 u669 u670 u671 u672 u673 u674 u675 u676 u677 u678 u679 u680 u681 u682 u683 u684 u685 u686 u687 u688 u689 u690 u691 u692 u693 u694 u695 : Value)
    (hc : ∀ a' w', Code.wp Try.prog (tl (nth 19 bodyC)) (Exit.then K1 (bodyPost Try.prog Try.f5 fun e w' => e = Ending.returned (Value.bool true) ∧ Below w.heap.size w w')) a' w' → K a' w')
    (hK1 : ∀ (t18 t55 t56 t57 t58 t59 t60 t61 t62 t63 t64 t65 t66 t67 t68 t69 t70 t71 t72 t73 t74 t75 t76 t77 t78 t79 t80 t81 t82 t83 t84 t85 t86 t87 t88 t89 t90 t91 t92 t93 t94 t95 t96 t97 t98 t99 t100 t101 t102 t103 t104 t105 t106 t107 t108 t109 t110 t111 t112 t113 t114 t115 t116 t117 t118 t119 t120 t121 t122 t123 t124 t125 t126 t127 t128 t129 t130 t131 t132 t133 t134 t135 t136 t137 t138 t139 t140 t141 t142 t143 t144 t145 t146 t147 t148 t149 t150 t151 t152 t153 t154 t155 t156 t157 t158 t159 t160 t161 t162 t163 t164 t165 t166 t167 t168 t169 t170 t171 t172 t173 t174 t175 t176 t177 t178 t179 t180 t181 t182 t183 t184 t185 t186 t187 t188 t189 t190 t191 t192 t193 t194 t195 t196 t197 t198 t199 t200 t201 t202 t203 t204 t205 t206 t207 t208 t209 t210 t211 t212 t213 t214 t215 t216 t217 t218 t219 t220 t221 t222 t223 t224 t225 t226 t227 t228 t229 t230 t231 t232 t233 t234 t235 t236 t237 t238 t239 t240 t241 t242 t243 t244 t245 t246 t247 t248 t249 t250 t251 t252 t253 t254 t255 t256 t257 t258 t259 t260 t261 t262 t263 t264 t265 t266 t267 t268 t269 t270 t271 t272 t273 t274 t275 t276 t277 t278 t279 t280 t281 t282 t283 t284 t285 t286 t287 t288 t289 t290 t291 t292 t293 t294 t295 t296 t297 t298 t299 t300 t301 t302 t303 t304 t305 t306 t307 t308 t309 t310 t311 t312 t313 t314 t315 t316 t317 t318 t319 t320 t321 t322 t323 t324 t325 t326 t327 t328 t329 t330 t331 t332 t333 t334 t335 t336 t337 t338 t339 t340 t341 t342 t343 t344 t345 t346 t347 t348 t349 t350 t351 t352 t353 t354 t355 t356 t357 t358 t359 t360 t361 t362 t363 t364 t365 t366 t367 t368 t369 t370 t371 t372 t373 t374 t375 t376 t377 t378 t379 t380 t381 t382 t383 t384 t385 t386 t387 t388 t389 t390 t391 t392 t393 t394 t395 t396 t397 t398 t399 t400 t401 t402 t403 t404 t405 t406 t407 t408 t409 t410 t411 t412 t413 t414 t415 t416 t417 t418 t419 t420 t421 t422 t423 t424 t425 t426 t427 t428 t429 t430 t431 t432 t433 t434 t435 t436 t437 t438 t439 t440 t441 t442 t443 t444 t445 t446 t447 t448 t449 t450 t451 t452 t453 t454 t455 t456 t457 t458 t459 t460 t461 t462 t463 t464 t465 t466 t467 t468 t469 t470 t471 t472 t473 t474 t475 t476 t477 t478 t479 t480 t481 t482 t483 t484 t485 t486 t487 t488 t489 t490 t491 t492 t493 t494 t495 t496 t497 t498 t499 t500 t501 t502 t503 t504 t505 t506 t507 t508 t509 t510 t511 t512 t513 t514 t515 t516 t517 t518 t519 t520 t521 t522 t523 t524 t525 t526 t527 t528 t529 t530 t531 t532 t533 t534 t535 t536 t537 t538 t539 t540 t541 t542 t543 t544 t545 t546 t547 t548 t549 t550 t551 t552 t553 t554 t555 t556 t557 t558 t559 t560 t561 t562 t563 t564 t565 t566 t567 t568 t569 t570 t571 t572 t573 t574 t575 t576 t577 t578 t579 t580 t581 t582 t583 t584 t585 t586 t587 t588 t589 t590 t591 t592 t593 t594 t595 t596 t597 t598 t599 t600 t601 t602 t603 t604 t605 t606 t607 t608 t609 t610 t611 t612 t613 t614 t615 t616 t617 t618 t619 t620 t621 t622 t623 t624 t625 t626 t627 t628 t629 t630 t631 t632 t633 t634 t635 t636 t637 t638 t639 t640 t641 t642 t643 t644 t645 t646 t647 t648 t649 t650 t651 t652 t653 t654 t655 t656 t657 t658 t659 t660 t661 t662 t663 t664 t665 t666 t667 t668 t669 t670 t671 t672 t673 t674 t675 t676 t677 t678 t679 t680 t681 t682 t683 t684 t685 t686 t687 t688 t689 t690 t691 t692 t693 t694 t695 : Value) (wc : World), Aside0 (Kd.C (Kd.int .i64) wc Aa ab.length ab) → Aside0 (Kd.C (Kd.int .i64) wc Ao ot.length ot) → Aside0 (Kd.C (Kd.int .i64) wc An co.length co) → Aside0 (wc.heap[gs]? = some (.cells #[.int .i64 a0_0, .int .i64 a0_1, .int .i64 a0_2] 44 (0, 0))) → Aside0 (wc.heap[gu]? = some (.cells #[.int .i64 a2_0, .int .i64 a2_1, .int .i64 a2_2] 44 (0, 0))) → Aside0 (wc.heap[gv]? = some (.cells #[.int .i64 a5_0, .int .i64 a5_1, .int .i64 a5_2] 44 (0, 0))) → Aside0 (Below w.heap.size w wc) → K1 ⟨#[.agg #[.int .i64 a0_0, .int .i64 a0_1, .int .i64 a0_2], .int .i64 a1, .agg #[.int .i64 a2_0, .int .i64 a2_1, .int .i64 a2_2], .int .i64 a3, .int .i64 a4, .agg #[.int .i64 a5_0, .int .i64 a5_1, .int .i64 a5_2], .string a6, .int .i64 a7, .int .i64 a8, .pointer (some ⟨gs, 0, none⟩), u10, .pointer (some ⟨gu, 0, none⟩), u12, u13, .pointer (some ⟨gv, 0, none⟩), u15, u16, u17, t18, .int .i64 num, .int .i64 den, .bool ok, .int .i64 num, .int .i64 den, .bool ok, .slice Aa ab.length ca, .bool ok, .slice Aa2 ab.length ca2, .bool ok, .int .i64 hd_, .bool t3, .int .i64 hd_, .bool t3, .slice Ao ot.length co_, .bool ok, .slice Ao2 ot.length co2_, .bool ok, .string si, .bool ok, .string si, .bool ok, .int .i64 hi, .bool ok, .int .i64 hi, .bool ok, .slice An co.length cn, .bool th, .slice An2 co.length cn2, .bool th, .int .i64 x, .int .i64 y, .bool th, .int .i64 x, .int .i64 y, .bool th, t55, t56, t57, t58, t59, t60, t61, t62, t63, t64, t65, t66, t67, t68, t69, t70, t71, t72, t73, t74, t75, t76, t77, t78, t79, t80, t81, t82, t83, t84, t85, t86, t87, t88, t89, t90, t91, t92, t93, t94, t95, t96, t97, t98, t99, t100, t101, t102, t103, t104, t105, t106, t107, t108, t109, t110, t111, t112, t113, t114, t115, t116, t117, t118, t119, t120, t121, t122, t123, t124, t125, t126, t127, t128, t129, t130, t131, t132, t133, t134, t135, t136, t137, t138, t139, t140, t141, t142, t143, t144, t145, t146, t147, t148, t149, t150, t151, t152, t153, t154, t155, t156, t157, t158, t159, t160, t161, t162, t163, t164, t165, t166, t167, t168, t169, t170, t171, t172, t173, t174, t175, t176, t177, t178, t179, t180, t181, t182, t183, t184, t185, t186, t187, t188, t189, t190, t191, t192, t193, t194, t195, t196, t197, t198, t199, t200, t201, t202, t203, t204, t205, t206, t207, t208, t209, t210, t211, t212, t213, t214, t215, t216, t217, t218, t219, t220, t221, t222, t223, t224, t225, t226, t227, t228, t229, t230, t231, t232, t233, t234, t235, t236, t237, t238, t239, t240, t241, t242, t243, t244, t245, t246, t247, t248, t249, t250, t251, t252, t253, t254, t255, t256, t257, t258, t259, t260, t261, t262, t263, t264, t265, t266, t267, t268, t269, t270, t271, t272, t273, t274, t275, t276, t277, t278, t279, t280, t281, t282, t283, t284, t285, t286, t287, t288, t289, t290, t291, t292, t293, t294, t295, t296, t297, t298, t299, t300, t301, t302, t303, t304, t305, t306, t307, t308, t309, t310, t311, t312, t313, t314, t315, t316, t317, t318, t319, t320, t321, t322, t323, t324, t325, t326, t327, t328, t329, t330, t331, t332, t333, t334, t335, t336, t337, t338, t339, t340, t341, t342, t343, t344, t345, t346, t347, t348, t349, t350, t351, t352, t353, t354, t355, t356, t357, t358, t359, t360, t361, t362, t363, t364, t365, t366, t367, t368, t369, t370, t371, t372, t373, t374, t375, t376, t377, t378, t379, t380, t381, t382, t383, t384, t385, t386, t387, t388, t389, t390, t391, t392, t393, t394, t395, t396, t397, t398, t399, t400, t401, t402, t403, t404, t405, t406, t407, t408, t409, t410, t411, t412, t413, t414, t415, t416, t417, t418, t419, t420, t421, t422, t423, t424, t425, t426, t427, t428, t429, t430, t431, t432, t433, t434, t435, t436, t437, t438, t439, t440, t441, t442, t443, t444, t445, t446, t447, t448, t449, t450, t451, t452, t453, t454, t455, t456, t457, t458, t459, t460, t461, t462, t463, t464, t465, t466, t467, t468, t469, t470, t471, t472, t473, t474, t475, t476, t477, t478, t479, t480, t481, t482, t483, t484, t485, t486, t487, t488, t489, t490, t491, t492, t493, t494, t495, t496, t497, t498, t499, t500, t501, t502, t503, t504, t505, t506, t507, t508, t509, t510, t511, t512, t513, t514, t515, t516, t517, t518, t519, t520, t521, t522, t523, t524, t525, t526, t527, t528, t529, t530, t531, t532, t533, t534, t535, t536, t537, t538, t539, t540, t541, t542, t543, t544, t545, t546, t547, t548, t549, t550, t551, t552, t553, t554, t555, t556, t557, t558, t559, t560, t561, t562, t563, t564, t565, t566, t567, t568, t569, t570, t571, t572, t573, t574, t575, t576, t577, t578, t579, t580, t581, t582, t583, t584, t585, t586, t587, t588, t589, t590, t591, t592, t593, t594, t595, t596, t597, t598, t599, t600, t601, t602, t603, t604, t605, t606, t607, t608, t609, t610, t611, t612, t613, t614, t615, t616, t617, t618, t619, t620, t621, t622, t623, t624, t625, t626, t627, t628, t629, t630, t631, t632, t633, t634, t635, t636, t637, t638, t639, t640, t641, t642, t643, t644, t645, t646, t647, t648, t649, t650, t651, t652, t653, t654, t655, t656, t657, t658, t659, t660, t661, t662, t663, t664, t665, t666, t667, t668, t669, t670, t671, t672, t673, t674, t675, t676, t677, t678, t679, t680, t681, t682, t683, t684, t685, t686, t687, t688, t689, t690, t691, t692, t693, t694, t695], []⟩ wc) :
    Code.wp Try.prog (hd (nth 19 bodyC)) (Exit.then K (Exit.then K1 (bodyPost Try.prog Try.f5 fun e w' => e = Ending.returned (Value.bool true) ∧ Below w.heap.size w w'))) ⟨#[.agg #[.int .i64 a0_0, .int .i64 a0_1, .int .i64 a0_2], .int .i64 a1, .agg #[.int .i64 a2_0, .int .i64 a2_1, .int .i64 a2_2], .int .i64 a3, .int .i64 a4, .agg #[.int .i64 a5_0, .int .i64 a5_1, .int .i64 a5_2], .string a6, .int .i64 a7, .int .i64 a8, .pointer (some ⟨gs, 0, none⟩), u10, .pointer (some ⟨gu, 0, none⟩), u12, u13, .pointer (some ⟨gv, 0, none⟩), u15, u16, u17, u18, .int .i64 num, .int .i64 den, .bool ok, .int .i64 num, .int .i64 den, .bool ok, .slice Aa ab.length ca, .bool ok, .slice Aa2 ab.length ca2, .bool ok, .int .i64 hd_, .bool t3, .int .i64 hd_, .bool t3, .slice Ao ot.length co_, .bool ok, .slice Ao2 ot.length co2_, .bool ok, .string si, .bool ok, .string si, .bool ok, .int .i64 hi, .bool ok, .int .i64 hi, .bool ok, .slice An co.length cn, .bool th, .slice An2 co.length cn2, .bool th, .int .i64 x, .int .i64 y, .bool th, .int .i64 x, .int .i64 y, .bool th, u55, u56, u57, u58, u59, u60, u61, u62, u63, u64, u65, u66, u67, u68, u69, u70, u71, u72, u73, u74, u75, u76, u77, u78, u79, u80, u81, u82, u83, u84, u85, u86, u87, u88, u89, u90, u91, u92, u93, u94, u95, u96, u97, u98, u99, u100, u101, u102, u103, u104, u105, u106, u107, u108, u109, u110, u111, u112, u113, u114, u115, u116, u117, u118, u119, u120, u121, u122, u123, u124, u125, u126, u127, u128, u129, u130, u131, u132, u133, u134, u135, u136, u137, u138, u139, u140, u141, u142, u143, u144, u145, u146, u147, u148, u149, u150, u151, u152, u153, u154, u155, u156, u157, u158, u159, u160, u161, u162, u163, u164, u165, u166, u167, u168, u169, u170, u171, u172, u173, u174, u175, u176, u177, u178, u179, u180, u181, u182, u183, u184, u185, u186, u187, u188, u189, u190, u191, u192, u193, u194, u195, u196, u197, u198, u199, u200, u201, u202, u203, u204, u205, u206, u207, u208, u209, u210, u211, u212, u213, u214, u215, u216, u217, u218, u219, u220, u221, u222, u223, u224, u225, u226, u227, u228, u229, u230, u231, u232, u233, u234, u235, u236, u237, u238, u239, u240, u241, u242, u243, u244, u245, u246, u247, u248, u249, u250, u251, u252, u253, u254, u255, u256, u257, u258, u259, u260, u261, u262, u263, u264, u265, u266, u267, u268, u269, u270, u271, u272, u273, u274, u275, u276, u277, u278, u279, u280, u281, u282, u283, u284, u285, u286, u287, u288, u289, u290, u291, u292, u293, u294, u295, u296, u297, u298, u299, u300, u301, u302, u303, u304, u305, u306, u307, u308, u309, u310, u311, u312, u313, u314, u315, u316, u317, u318, u319, u320, u321, u322, u323, u324, u325, u326, u327, u328, u329, u330, u331, u332, u333, u334, u335, u336, u337, u338, u339, u340, u341, u342, u343, u344, u345, u346, u347, u348, u349, u350, u351, u352, u353, u354, u355, u356, u357, u358, u359, u360, u361, u362, u363, u364, u365, u366, u367, u368, u369, u370, u371, u372, u373, u374, u375, u376, u377, u378, u379, u380, u381, u382, u383, u384, u385, u386, u387, u388, u389, u390, u391, u392, u393, u394, u395, u396, u397, u398, u399, u400, u401, u402, u403, u404, u405, u406, u407, u408, u409, u410, u411, u412, u413, u414, u415, u416, u417, u418, u419, u420, u421, u422, u423, u424, u425, u426, u427, u428, u429, u430, u431, u432, u433, u434, u435, u436, u437, u438, u439, u440, u441, u442, u443, u444, u445, u446, u447, u448, u449, u450, u451, u452, u453, u454, u455, u456, u457, u458, u459, u460, u461, u462, u463, u464, u465, u466, u467, u468, u469, u470, u471, u472, u473, u474, u475, u476, u477, u478, u479, u480, u481, u482, u483, u484, u485, u486, u487, u488, u489, u490, u491, u492, u493, u494, u495, u496, u497, u498, u499, u500, u501, u502, u503, u504, u505, u506, u507, u508, u509, u510, u511, u512, u513, u514, u515, u516, u517, u518, u519, u520, u521, u522, u523, u524, u525, u526, u527, u528, u529, u530, u531, u532, u533, u534, u535, u536, u537, u538, u539, u540, u541, u542, u543, u544, u545, u546, u547, u548, u549, u550, u551, u552, u553, u554, u555, u556, u557, u558, u559, u560, u561, u562, u563, u564, u565, u566, u567, u568, u569, u570, u571, u572, u573, u574, u575, u576, u577, u578, u579, u580, u581, u582, u583, u584, u585, u586, u587, u588, u589, u590, u591, u592, u593, u594, u595, u596, u597, u598, u599, u600, u601, u602, u603, u604, u605, u606, u607, u608, u609, u610, u611, u612, u613, u614, u615, u616, u617, u618, u619, u620, u621, u622, u623, u624, u625, u626, u627, u628, u629, u630, u631, u632, u633, u634, u635, u636, u637, u638, u639, u640, u641, u642, u643, u644, u645, u646, u647, u648, u649, u650, u651, u652, u653, u654, u655, u656, u657, u658, u659, u660, u661, u662, u663, u664, u665, u666, u667, u668, u669, u670, u671, u672, u673, u674, u675, u676, u677, u678, u679, u680, u681, u682, u683, u684, u685, u686, u687, u688, u689, u690, u691, u692, u693, u694, u695], []⟩ wr := by
  have hu44 := Try.underlying44
  conv => arg 2; whnf
  conv at hc => enter [a', w', 1]; arg 2; whnf
  dsimp only at hK1
  (try dsimp only)
  cases th with
  | false =>
    go_wp2
    repeat (go_quiet (fail); try go_wp2)
    apply hK1
    exact ⟨by repeat (first | exact HA.out | (with_reducible refine Kd.C_alloc ?_ _) | (with_reducible refine Kd.C_drewN ?_ _) | (with_reducible refine Kd.C_drew ?_))⟩
    exact ⟨by repeat (first | exact HO.out | (with_reducible refine Kd.C_alloc ?_ _) | (with_reducible refine Kd.C_drewN ?_ _) | (with_reducible refine Kd.C_drew ?_))⟩
    exact ⟨by repeat (first | exact HN.out | (with_reducible refine Kd.C_alloc ?_ _) | (with_reducible refine Kd.C_drewN ?_ _) | (with_reducible refine Kd.C_drew ?_))⟩
    exact ⟨by (with_reducible repeat (first | refine blk_drewN ?_ _ | refine blk_drew ?_ | refine blk_alloc ?_ _)); exact BKS.out⟩
    exact ⟨by (with_reducible repeat (first | refine blk_drewN ?_ _ | refine blk_drew ?_ | refine blk_alloc ?_ _)); exact BKU.out⟩
    exact ⟨by (with_reducible repeat (first | refine blk_drewN ?_ _ | refine blk_drew ?_ | refine blk_alloc ?_ _)); exact BKV.out⟩
    exact ⟨by repeat (first | (with_reducible first | exact HB.out | apply below_alloc | apply pw_below_drewN | apply below_drew1) | exact HB.out)⟩
  | true =>
    have c4 := F.out.colen rfl
    have G1 := Aside0.mk (F.out.wis1 rfl)
    have G2 := Aside0.mk (F.out.wsum rfl)
    have z1 : ((co.length : Int) != 4) = false := bne_eq_false_iff_eq.mpr (by omega)
    have z2 : ((co.length : Int) == 4) = true := beq_iff_eq.mpr (by omega)
    have z3 : (a0_0 != a0_0) = false := bne_self_eq_false _
    have C4 := Aside0.mk c4
    clear c4
    have hzS0 : World.cell? _ ⟨gs, 0, none⟩ = some (.int .i64 a0_0) := (blk_cell BKS.out 0).trans rfl
    have hfS0 := blk_frozen BKS.out 0
    have hzS1 : World.cell? _ ⟨gs, 1, none⟩ = some (.int .i64 a0_1) := (blk_cell BKS.out 1).trans rfl
    have hfS1 := blk_frozen BKS.out 1
    have hzS2 : World.cell? _ ⟨gs, 2, none⟩ = some (.int .i64 a0_2) := (blk_cell BKS.out 2).trans rfl
    have hfS2 := blk_frozen BKS.out 2
    go_wp2_with (first | (go_at_call 51; (with_reducible refine (laws_wIs.calls k x y (wrap64 (a0_0 - 1)) a0_1 true _ G1.out).mono ?_); rintro e w' ⟨rfl, ⟨nd, rfl⟩⟩; (try first | exact ⟨rfl, _, World.drewN_drewN _ _ _⟩ | exact ⟨rfl, _, Eq.trans (World.drewN_drewN _ _ _) (congrArg (World.drewN _) (Nat.add_assoc _ _ _))⟩); (try dsimp only)) | (go_at_call 52; (with_reducible refine (laws_wSum.calls k _ _ co a0_0 _ ?side1 ?side2 G2.out).mono ?_); (case side1 => repeat (first | exact HN.out | (with_reducible refine Kd.C_alloc ?_ _) | (with_reducible refine Kd.C_drewN ?_ _) | (with_reducible refine Kd.C_drew ?_))); (case side2 => exact HNc.out); rintro e w' ⟨rfl, ⟨nd, rfl⟩⟩; (try first | exact ⟨rfl, _, World.drewN_drewN _ _ _⟩ | exact ⟨rfl, _, Eq.trans (World.drewN_drewN _ _ _) (congrArg (World.drewN _) (Nat.add_assoc _ _ _))⟩); (try dsimp only)))
    repeat (go_quiet (first | (go_at_call 51; (with_reducible refine (laws_wIs.calls k x y (wrap64 (a0_0 - 1)) a0_1 true _ G1.out).mono ?_); rintro e w' ⟨rfl, ⟨nd, rfl⟩⟩; (try first | exact ⟨rfl, _, World.drewN_drewN _ _ _⟩ | exact ⟨rfl, _, Eq.trans (World.drewN_drewN _ _ _) (congrArg (World.drewN _) (Nat.add_assoc _ _ _))⟩); (try dsimp only)) | (go_at_call 52; (with_reducible refine (laws_wSum.calls k _ _ co a0_0 _ ?side1 ?side2 G2.out).mono ?_); (case side1 => repeat (first | exact HN.out | (with_reducible refine Kd.C_alloc ?_ _) | (with_reducible refine Kd.C_drewN ?_ _) | (with_reducible refine Kd.C_drew ?_))); (case side2 => exact HNc.out); rintro e w' ⟨rfl, ⟨nd, rfl⟩⟩; (try first | exact ⟨rfl, _, World.drewN_drewN _ _ _⟩ | exact ⟨rfl, _, Eq.trans (World.drewN_drewN _ _ _) (congrArg (World.drewN _) (Nat.add_assoc _ _ _))⟩); (try dsimp only))); try go_wp2_with (first | (go_at_call 51; (with_reducible refine (laws_wIs.calls k x y (wrap64 (a0_0 - 1)) a0_1 true _ G1.out).mono ?_); rintro e w' ⟨rfl, ⟨nd, rfl⟩⟩; (try first | exact ⟨rfl, _, World.drewN_drewN _ _ _⟩ | exact ⟨rfl, _, Eq.trans (World.drewN_drewN _ _ _) (congrArg (World.drewN _) (Nat.add_assoc _ _ _))⟩); (try dsimp only)) | (go_at_call 52; (with_reducible refine (laws_wSum.calls k _ _ co a0_0 _ ?side1 ?side2 G2.out).mono ?_); (case side1 => repeat (first | exact HN.out | (with_reducible refine Kd.C_alloc ?_ _) | (with_reducible refine Kd.C_drewN ?_ _) | (with_reducible refine Kd.C_drew ?_))); (case side2 => exact HNc.out); rintro e w' ⟨rfl, ⟨nd, rfl⟩⟩; (try first | exact ⟨rfl, _, World.drewN_drewN _ _ _⟩ | exact ⟨rfl, _, Eq.trans (World.drewN_drewN _ _ _) (congrArg (World.drewN _) (Nat.add_assoc _ _ _))⟩); (try dsimp only))))
    clear z1 z2 z3
    go_loopg [55] 4 (fun kq v55 w' => ∃ (i : Int), v55 = .int .i64 i ∧ Aside0 (0 ≤ i ∧ i + (kq : Int) = 4) ∧ Aside0 (Kd.C (Kd.int .i64) w' Aa ab.length ab) ∧ Aside0 (Kd.C (Kd.int .i64) w' Ao ot.length ot) ∧ Aside0 (Kd.C (Kd.int .i64) w' An co.length co) ∧ Aside0 (w'.heap[gs]? = some (.cells #[.int .i64 a0_0, .int .i64 a0_1, .int .i64 a0_2] 44 (0, 0))) ∧ Aside0 (w'.heap[gu]? = some (.cells #[.int .i64 a2_0, .int .i64 a2_1, .int .i64 a2_2] 44 (0, 0))) ∧ Aside0 (w'.heap[gv]? = some (.cells #[.int .i64 a5_0, .int .i64 a5_1, .int .i64 a5_2] 44 (0, 0))) ∧ Aside0 (Below w.heap.size w w'))
    case atStart => exact ⟨0, by first | rfl | (simp; done), ⟨by omega⟩, ⟨by repeat (first | exact HA.out | (with_reducible refine Kd.C_alloc ?_ _) | (with_reducible refine Kd.C_drewN ?_ _) | (with_reducible refine Kd.C_drew ?_))⟩, ⟨by repeat (first | exact HO.out | (with_reducible refine Kd.C_alloc ?_ _) | (with_reducible refine Kd.C_drewN ?_ _) | (with_reducible refine Kd.C_drew ?_))⟩, ⟨by repeat (first | exact HN.out | (with_reducible refine Kd.C_alloc ?_ _) | (with_reducible refine Kd.C_drewN ?_ _) | (with_reducible refine Kd.C_drew ?_))⟩, ⟨by (with_reducible repeat (first | refine blk_drewN ?_ _ | refine blk_drew ?_ | refine blk_alloc ?_ _)); exact BKS.out⟩, ⟨by (with_reducible repeat (first | refine blk_drewN ?_ _ | refine blk_drew ?_ | refine blk_alloc ?_ _)); exact BKU.out⟩, ⟨by (with_reducible repeat (first | refine blk_drewN ?_ _ | refine blk_drew ?_ | refine blk_alloc ?_ _)); exact BKV.out⟩, ⟨by repeat (first | (with_reducible first | exact HB.out | apply below_alloc | apply pw_below_drewN | apply below_drew1) | exact HB.out)⟩⟩
    case round =>
      clear HA HO HN BKS BKU BKV HB
      (try clear hzS0 hzS1 hzS2); (try clear hfS0 hfS1 hfS2)
      obtain ⟨i, rfl, HI, HA, HO, HN, BKS, BKU, BKV, HB⟩ := hrel
      have hi_ := HI.out
      clear HI
      have c4 := C4.out
      by_cases c : i < 4
      · cases gk with
        | zero => omega
        | succ k1 =>
          have hnx : wrap64 (i + 1) = i + 1 := by unfold wrap64; omega
          have cb : decide (i < 4) = true := decide_eq_true c
          have s0 : decide (0 ≤ i) = true := decide_eq_true hi_.1
          have s1 : decide (i ≤ wrap64 (i + 1)) = true := decide_eq_true (by omega)
          have s2 : decide (wrap64 (i + 1) ≤ 4) = true := decide_eq_true (by omega)
          have s3 := eq_true (show i ≤ wrap64 (i + 1) by omega)
          have s5 := eq_true hi_.1
          have s6 := eq_true (show 0 ≤ wrap64 (i + 1) by omega)
          have s7 : decide (0 ≤ wrap64 (i + 1)) = true := decide_eq_true (by omega)
          have s4 := eq_true (show wrap64 (i + 1) ≤ 4 by omega)
          have A1 := Aside0.mk (F.out.side rfl i hi_.1 c)
          have A2 := Aside0.mk (F.out.siderise rfl i hi_.1 c)
          have sl := F.out.sidelen rfl i hi_.1 c
          have A3 := Aside0.mk (fun z => F.out.sidehas z i hi_.1 c)
          obtain ⟨Lk, hLk⟩ : ∃ z_ : List Int, z_ = LL i := ⟨_, rfl⟩
          rw [← hLk] at sl
          replace A1 := Aside0.mk (hLk ▸ A1.out)
          replace A2 := Aside0.mk (hLk ▸ A2.out)
          replace A3 := Aside0.mk (hLk ▸ A3.out)
          clear hLk
          have f1 : ((Lk.length : Int) != rd co i) = false := bne_eq_false_iff_eq.mpr sl
          have f2 : ((Lk.length : Int) == rd co i) = true := beq_iff_eq.mpr sl
          have HX := Aside0.mk hnx
          have HI := Aside0.mk hi_
          have NC := Aside0.mk c
          clear hnx hi_ c c4 sl
          go_upto_region 27 with (fail)
          repeat (go_quiet (fail); go_upto_region 27 with (fail))
          replace HA := Aside0.mk (Kd.C_drew HA.out)
          replace HO := Aside0.mk (Kd.C_drew HO.out)
          replace HN := Aside0.mk (Kd.C_drew HN.out)
          replace BKS := Aside0.mk (blk_drew BKS.out)
          replace BKU := Aside0.mk (blk_drew BKU.out)
          replace BKV := Aside0.mk (blk_drew BKV.out)
          replace HB := Aside0.mk (below_drew1 HB.out)
          refine start_ (n := 11) (S := fun w' => w'.cell? ⟨gs, 0, none⟩ = some (.int .i64 a0_0) ∧ w'.cell? ⟨gs, 1, none⟩ = some (.int .i64 a0_1) ∧ w'.cell? ⟨gs, 2, none⟩ = some (.int .i64 a0_2)) (ds := []) (ran 11 0) (by kernel_rfl) rfl rfl ⟨(blk_cell BKS.out 0).trans rfl, (blk_cell BKS.out 1).trans rfl, (blk_cell BKS.out 2).trans rfl⟩ (fun hHeld => ?_); refine with_tabW spitab27 spibits27 (fun HT_ HW_ => ?_)
          generalize World.drew _ = wd at HA HO HN BKS BKU BKV HB hHeld ⊢
          refine pu_ (v := ?_) (a' := ?_) 1 370 2 HT_.out rfl rfl (by kernel_rfl) (fun _ _ _ h => h) (by rfl) ?_ ?_ ?_
          rotate_left 2
          · intro w'; go_simp; with_reducible rfl
          · simp only [Act.put, q1, q2, q3, i64_w, i32_w]; rfl
          refine pu_ (v := ?_) (a' := ?_) 2 371 6 HT_.out rfl rfl (by kernel_rfl) (fun _ _ _ h => h) (by rfl) ?_ ?_ ?_
          rotate_left 2
          · intro w'; go_simp; with_reducible rfl
          · simp only [Act.put, q1, q2, q3, i64_w, i32_w]; rfl
          refine pu_ (v := ?_) (a' := ?_) 3 372 14 HT_.out rfl rfl (by kernel_rfl) (fun _ _ _ h => h) (by rfl) ?_ ?_ ?_
          rotate_left 2
          · intro w'; go_simp; with_reducible rfl
          · simp only [Act.put, q1, q2, q3, i64_w, i32_w]; rfl
          refine pu_ (v := ?_) (a' := ?_) 4 373 30 HT_.out rfl rfl (by kernel_rfl) (fun _ _ _ h => h) (by rfl) ?_ ?_ ?_
          rotate_left 2
          · intro w'; go_simp; with_reducible rfl
          · simp only [Act.put, q1, q2, q3, i64_w, i32_w]; rfl
          refine take_ (i := 0) (N := some 369) (v := ?_) (a' := ?_) (ran 11 31) rfl rfl (take_ofW HT_.out HW_.out (by kernel_rfl)) (fun _ _ _ h => h) (Or.inl ⟨by rfl, ?_⟩) hHeld ?_ ?_
          rotate_left
          · rintro w' ⟨s0_, s1_, s2_⟩
            go_simp
            with_reducible rfl
          rotate_left
          · simp only [Act.put, q1, q2, q3, i64_w, i32_w]
            rfl
          refine one_ (i := 5) (N := some 374) (ran 11 63) rfl rfl (one_of HT_.out (by kernel_rfl)) (by decide) (fun K hK => ?_)
          refine goes_ Try.func53 (by kernel_rfl) rfl #[.agg #[.int .i64 a0_0, .int .i64 a0_1, .int .i64 a0_2], .string ((⟨#[110, 101, 115, 119]⟩ : ByteArray).extract (i : Int).toNat ((wrap64 (i + 1)) : Int).toNat)] (by rfl) rfl rfl (by (try simp only [List.map_toArray, List.map_cons, List.map_nil]); first | done | rfl) ?_
          with_reducible refine (impl_StepsAtSide.calls k a0_0 a0_1 a0_2 ((⟨#[110, 101, 115, 119]⟩ : ByteArray).extract (i : Int).toNat ((wrap64 (i + 1)) : Int).toNat) Lk true _ A1.out).mono ?_
          rintro e wq ⟨vk, rfl, ho0, hb⟩
          refine ⟨_, rfl, ?_⟩
          obtain ⟨Ak, ck, eo_⟩ := Kd.R_slice ho0
          subst eo_
          have n0_ := Aside0.mk (Kd.C_below (by repeat (first | exact HA.out | (with_reducible refine Kd.C_alloc ?_ _) | (with_reducible refine Kd.C_drewN ?_ _) | (with_reducible refine Kd.C_drew ?_))) hb)
          have n1_ := Aside0.mk (Kd.C_below (by repeat (first | exact HO.out | (with_reducible refine Kd.C_alloc ?_ _) | (with_reducible refine Kd.C_drewN ?_ _) | (with_reducible refine Kd.C_drew ?_))) hb)
          have n2_ := Aside0.mk (Kd.C_below (by repeat (first | exact HN.out | (with_reducible refine Kd.C_alloc ?_ _) | (with_reducible refine Kd.C_drewN ?_ _) | (with_reducible refine Kd.C_drew ?_))) hb)
          have n3_ := Aside0.mk (blk_below (g := gs) (o := .cells #[.int .i64 a0_0, .int .i64 a0_1, .int .i64 a0_2] 44 (0, 0)) (by (with_reducible repeat (first | refine blk_drewN ?_ _ | refine blk_drew ?_ | refine blk_alloc ?_ _)); exact BKS.out) hb)
          have n4_ := Aside0.mk (blk_below (g := gu) (o := .cells #[.int .i64 a2_0, .int .i64 a2_1, .int .i64 a2_2] 44 (0, 0)) (by (with_reducible repeat (first | refine blk_drewN ?_ _ | refine blk_drew ?_ | refine blk_alloc ?_ _)); exact BKU.out) hb)
          have n5_ := Aside0.mk (blk_below (g := gv) (o := .cells #[.int .i64 a5_0, .int .i64 a5_1, .int .i64 a5_2] 44 (0, 0)) (by (with_reducible repeat (first | refine blk_drewN ?_ _ | refine blk_drew ?_ | refine blk_alloc ?_ _)); exact BKV.out) hb)
          have n6_ := Aside0.mk ((Kd.R_reads' ho0).2.2)
          have n7_ := Aside0.mk ((Kd.R_reads' ho0).2.1)
          have n8_ := Aside0.mk (below_step (by repeat (first | (with_reducible first | exact HB.out | apply below_alloc | apply pw_below_drewN | apply below_drew1) | exact HB.out)) hb)
          clear hb ho0 HA HO HN BKS BKU BKV HB
          have HA := n0_
          have HO := n1_
          have HN := n2_
          have BKS := n3_
          have BKU := n4_
          have BKV := n5_
          have HLs := n6_
          have HLsc := n7_
          have HB := n8_
          clear n0_ n1_ n2_ n3_ n4_ n5_ n6_ n7_ n8_
          refine hK.out _ _ ⟨(blk_cell BKS.out 0).trans rfl, (blk_cell BKS.out 1).trans rfl, (blk_cell BKS.out 2).trans rfl⟩ (fun hHeld => ?_)
          clear hK
          refine norm_ (a' := ?_) ?_ ?_
          rotate_left
          · show Act.put _ (some 374) _ = _
            simp only [Act.put, q1, q2, q3, i64_w, i32_w]
            rfl
          refine pu_ (v := ?_) (a' := ?_) 6 368 127 HT_.out rfl rfl (by kernel_rfl) (fun _ _ _ h => h) (by rfl) ?_ ?_ ?_
          rotate_left 2
          · intro w'; go_simp; with_reducible rfl
          · simp only [Act.put, q1, q2, q3, i64_w, i32_w]; rfl
          refine pu_ (v := ?_) (a' := ?_) 7 375 255 HT_.out rfl rfl (by kernel_rfl) (fun _ _ _ h => h) (by rfl) ?_ ?_ ?_
          rotate_left 2
          · intro w'; go_simp; with_reducible rfl
          · simp only [Act.put, q1, q2, q3, i64_w, i32_w]; rfl
          refine pu_ (v := ?_) (a' := ?_) 8 376 511 HT_.out rfl rfl (by kernel_rfl) (fun _ _ _ h => h) (by rfl) ?_ ?_ ?_
          rotate_left 2
          · intro w'; go_simp; with_reducible rfl
          · simp only [Act.put, q1, q2, q3, i64_w, i32_w]; rfl
          refine pu_ (v := ?_) (a' := ?_) 9 56 1023 HT_.out rfl rfl (by kernel_rfl) (fun _ _ _ h => h) (by rfl) ?_ ?_ ?_
          rotate_left 2
          · intro w'; go_simp; with_reducible rfl
          · simp only [Act.put, q1, q2, q3, i64_w, i32_w]; rfl
          refine pu_ (v := ?_) (a' := ?_) 10 57 2047 HT_.out rfl rfl (by kernel_rfl) (fun _ _ _ h => h) (by rfl) ?_ ?_ ?_
          rotate_left 2
          · intro w'; go_simp; with_reducible rfl
          · simp only [Act.put, q1, q2, q3, i64_w, i32_w]; rfl
          refine done_ (done_of HT_.out (by kernel_rfl)) ?_
          have pb : 0 ≤ (i : Int) := HI.out.1
          have qb : (i : Int) < (co.length : Int) := by have := NC.out; have := C4.out; omega
          obtain ⟨adb, eb, hxb⟩ := Kd.at_int HN.out (i : Int) pb qb
          cases eb
          have pbb : decide (0 ≤ (i : Int)) = true := decide_eq_true pb
          have qbb : decide ((i : Int) < (co.length : Int)) = true := decide_eq_true qb
          replace pb := eq_true pb
          replace qb := eq_true qb
          cases ok with
          | false =>
            clear A3
            go_wp2_with (first | (go_at_call 54; (with_reducible refine (laws_wRises.calls k _ _ Lk true _ ?side1 ?side2 A2.out).mono ?_); (case side1 => repeat (first | exact HLs.out | (with_reducible refine Kd.C_alloc ?_ _) | (with_reducible refine Kd.C_drewN ?_ _) | (with_reducible refine Kd.C_drew ?_))); (case side2 => exact HLsc.out); rintro e w' ⟨rfl, ⟨nd, rfl⟩⟩; (try first | exact ⟨rfl, _, World.drewN_drewN _ _ _⟩ | exact ⟨rfl, _, Eq.trans (World.drewN_drewN _ _ _) (congrArg (World.drewN _) (Nat.add_assoc _ _ _))⟩); (try dsimp only)))
            repeat (go_quiet (first | (go_at_call 54; (with_reducible refine (laws_wRises.calls k _ _ Lk true _ ?side1 ?side2 A2.out).mono ?_); (case side1 => repeat (first | exact HLs.out | (with_reducible refine Kd.C_alloc ?_ _) | (with_reducible refine Kd.C_drewN ?_ _) | (with_reducible refine Kd.C_drew ?_))); (case side2 => exact HLsc.out); rintro e w' ⟨rfl, ⟨nd, rfl⟩⟩; (try first | exact ⟨rfl, _, World.drewN_drewN _ _ _⟩ | exact ⟨rfl, _, Eq.trans (World.drewN_drewN _ _ _) (congrArg (World.drewN _) (Nat.add_assoc _ _ _))⟩); (try dsimp only))); try go_wp2_with (first | (go_at_call 54; (with_reducible refine (laws_wRises.calls k _ _ Lk true _ ?side1 ?side2 A2.out).mono ?_); (case side1 => repeat (first | exact HLs.out | (with_reducible refine Kd.C_alloc ?_ _) | (with_reducible refine Kd.C_drewN ?_ _) | (with_reducible refine Kd.C_drew ?_))); (case side2 => exact HLsc.out); rintro e w' ⟨rfl, ⟨nd, rfl⟩⟩; (try first | exact ⟨rfl, _, World.drewN_drewN _ _ _⟩ | exact ⟨rfl, _, Eq.trans (World.drewN_drewN _ _ _) (congrArg (World.drewN _) (Nat.add_assoc _ _ _))⟩); (try dsimp only))))
            go_roundg k1
            case measure => omega
            case rel => exact ⟨wrap64 (i + 1), by first | rfl | (simp; done), ⟨by have := HX.out; have := HI.out; have := NC.out; omega⟩, ⟨by repeat (first | exact HA.out | (with_reducible refine Kd.C_alloc ?_ _) | (with_reducible refine Kd.C_drewN ?_ _) | (with_reducible refine Kd.C_drew ?_))⟩, ⟨by repeat (first | exact HO.out | (with_reducible refine Kd.C_alloc ?_ _) | (with_reducible refine Kd.C_drewN ?_ _) | (with_reducible refine Kd.C_drew ?_))⟩, ⟨by repeat (first | exact HN.out | (with_reducible refine Kd.C_alloc ?_ _) | (with_reducible refine Kd.C_drewN ?_ _) | (with_reducible refine Kd.C_drew ?_))⟩, ⟨by (with_reducible repeat (first | refine blk_drewN ?_ _ | refine blk_drew ?_ | refine blk_alloc ?_ _)); exact BKS.out⟩, ⟨by (with_reducible repeat (first | refine blk_drewN ?_ _ | refine blk_drew ?_ | refine blk_alloc ?_ _)); exact BKU.out⟩, ⟨by (with_reducible repeat (first | refine blk_drewN ?_ _ | refine blk_drew ?_ | refine blk_alloc ?_ _)); exact BKV.out⟩, ⟨by repeat (first | (with_reducible first | exact HB.out | apply below_alloc | apply pw_below_drewN | apply below_drew1) | exact HB.out)⟩⟩
          | true =>
            replace A3 := Aside0.mk (A3.out rfl)
            obtain ⟨bq, hbq⟩ : ∃ b_ : Bool, (si.toList == ((⟨#[110, 101, 115, 119]⟩ : ByteArray).extract (i : Int).toNat ((wrap64 (i + 1)) : Int).toNat).toList) = b_ := ⟨_, rfl⟩
            replace A3 := Aside0.mk (hbq ▸ A3.out)
            have g1 : (bq != bq) = false := bne_self_eq_false _
            go_wp2_with (first | (go_at_call 54; (with_reducible refine (laws_wRises.calls k _ _ Lk true _ ?side1 ?side2 A2.out).mono ?_); (case side1 => repeat (first | exact HLs.out | (with_reducible refine Kd.C_alloc ?_ _) | (with_reducible refine Kd.C_drewN ?_ _) | (with_reducible refine Kd.C_drew ?_))); (case side2 => exact HLsc.out); rintro e w' ⟨rfl, ⟨nd, rfl⟩⟩; (try first | exact ⟨rfl, _, World.drewN_drewN _ _ _⟩ | exact ⟨rfl, _, Eq.trans (World.drewN_drewN _ _ _) (congrArg (World.drewN _) (Nat.add_assoc _ _ _))⟩); (try dsimp only)) | (go_at_call 55; (with_reducible refine (laws_wHas.calls k _ _ Lk a1 bq _ ?side1 ?side2 A3.out).mono ?_); (case side1 => repeat (first | exact HLs.out | (with_reducible refine Kd.C_alloc ?_ _) | (with_reducible refine Kd.C_drewN ?_ _) | (with_reducible refine Kd.C_drew ?_))); (case side2 => exact HLsc.out); rintro e w' ⟨rfl, ⟨nd, rfl⟩⟩; (try first | exact ⟨rfl, _, World.drewN_drewN _ _ _⟩ | exact ⟨rfl, _, Eq.trans (World.drewN_drewN _ _ _) (congrArg (World.drewN _) (Nat.add_assoc _ _ _))⟩); (try dsimp only)))
            repeat (go_quiet (first | (go_at_call 54; (with_reducible refine (laws_wRises.calls k _ _ Lk true _ ?side1 ?side2 A2.out).mono ?_); (case side1 => repeat (first | exact HLs.out | (with_reducible refine Kd.C_alloc ?_ _) | (with_reducible refine Kd.C_drewN ?_ _) | (with_reducible refine Kd.C_drew ?_))); (case side2 => exact HLsc.out); rintro e w' ⟨rfl, ⟨nd, rfl⟩⟩; (try first | exact ⟨rfl, _, World.drewN_drewN _ _ _⟩ | exact ⟨rfl, _, Eq.trans (World.drewN_drewN _ _ _) (congrArg (World.drewN _) (Nat.add_assoc _ _ _))⟩); (try dsimp only)) | (go_at_call 55; (with_reducible refine (laws_wHas.calls k _ _ Lk a1 bq _ ?side1 ?side2 A3.out).mono ?_); (case side1 => repeat (first | exact HLs.out | (with_reducible refine Kd.C_alloc ?_ _) | (with_reducible refine Kd.C_drewN ?_ _) | (with_reducible refine Kd.C_drew ?_))); (case side2 => exact HLsc.out); rintro e w' ⟨rfl, ⟨nd, rfl⟩⟩; (try first | exact ⟨rfl, _, World.drewN_drewN _ _ _⟩ | exact ⟨rfl, _, Eq.trans (World.drewN_drewN _ _ _) (congrArg (World.drewN _) (Nat.add_assoc _ _ _))⟩); (try dsimp only))); try go_wp2_with (first | (go_at_call 54; (with_reducible refine (laws_wRises.calls k _ _ Lk true _ ?side1 ?side2 A2.out).mono ?_); (case side1 => repeat (first | exact HLs.out | (with_reducible refine Kd.C_alloc ?_ _) | (with_reducible refine Kd.C_drewN ?_ _) | (with_reducible refine Kd.C_drew ?_))); (case side2 => exact HLsc.out); rintro e w' ⟨rfl, ⟨nd, rfl⟩⟩; (try first | exact ⟨rfl, _, World.drewN_drewN _ _ _⟩ | exact ⟨rfl, _, Eq.trans (World.drewN_drewN _ _ _) (congrArg (World.drewN _) (Nat.add_assoc _ _ _))⟩); (try dsimp only)) | (go_at_call 55; (with_reducible refine (laws_wHas.calls k _ _ Lk a1 bq _ ?side1 ?side2 A3.out).mono ?_); (case side1 => repeat (first | exact HLs.out | (with_reducible refine Kd.C_alloc ?_ _) | (with_reducible refine Kd.C_drewN ?_ _) | (with_reducible refine Kd.C_drew ?_))); (case side2 => exact HLsc.out); rintro e w' ⟨rfl, ⟨nd, rfl⟩⟩; (try first | exact ⟨rfl, _, World.drewN_drewN _ _ _⟩ | exact ⟨rfl, _, Eq.trans (World.drewN_drewN _ _ _) (congrArg (World.drewN _) (Nat.add_assoc _ _ _))⟩); (try dsimp only))))
            go_roundg k1
            case measure => omega
            case rel => exact ⟨wrap64 (i + 1), by first | rfl | (simp; done), ⟨by have := HX.out; have := HI.out; have := NC.out; omega⟩, ⟨by repeat (first | exact HA.out | (with_reducible refine Kd.C_alloc ?_ _) | (with_reducible refine Kd.C_drewN ?_ _) | (with_reducible refine Kd.C_drew ?_))⟩, ⟨by repeat (first | exact HO.out | (with_reducible refine Kd.C_alloc ?_ _) | (with_reducible refine Kd.C_drewN ?_ _) | (with_reducible refine Kd.C_drew ?_))⟩, ⟨by repeat (first | exact HN.out | (with_reducible refine Kd.C_alloc ?_ _) | (with_reducible refine Kd.C_drewN ?_ _) | (with_reducible refine Kd.C_drew ?_))⟩, ⟨by (with_reducible repeat (first | refine blk_drewN ?_ _ | refine blk_drew ?_ | refine blk_alloc ?_ _)); exact BKS.out⟩, ⟨by (with_reducible repeat (first | refine blk_drewN ?_ _ | refine blk_drew ?_ | refine blk_alloc ?_ _)); exact BKU.out⟩, ⟨by (with_reducible repeat (first | refine blk_drewN ?_ _ | refine blk_drew ?_ | refine blk_alloc ?_ _)); exact BKV.out⟩, ⟨by repeat (first | (with_reducible first | exact HB.out | apply below_alloc | apply pw_below_drewN | apply below_drew1) | exact HB.out)⟩⟩
      · have cb : decide (i < 4) = false := decide_eq_false c
        clear hi_ c c4
        go_wp2
        repeat (go_quiet (fail); try go_wp2)
        apply hK1
        exact ⟨by repeat (first | exact HA.out | (with_reducible refine Kd.C_alloc ?_ _) | (with_reducible refine Kd.C_drewN ?_ _) | (with_reducible refine Kd.C_drew ?_))⟩
        exact ⟨by repeat (first | exact HO.out | (with_reducible refine Kd.C_alloc ?_ _) | (with_reducible refine Kd.C_drewN ?_ _) | (with_reducible refine Kd.C_drew ?_))⟩
        exact ⟨by repeat (first | exact HN.out | (with_reducible refine Kd.C_alloc ?_ _) | (with_reducible refine Kd.C_drewN ?_ _) | (with_reducible refine Kd.C_drew ?_))⟩
        exact ⟨by (with_reducible repeat (first | refine blk_drewN ?_ _ | refine blk_drew ?_ | refine blk_alloc ?_ _)); exact BKS.out⟩
        exact ⟨by (with_reducible repeat (first | refine blk_drewN ?_ _ | refine blk_drew ?_ | refine blk_alloc ?_ _)); exact BKU.out⟩
        exact ⟨by (with_reducible repeat (first | refine blk_drewN ?_ _ | refine blk_drew ?_ | refine blk_alloc ?_ _)); exact BKV.out⟩
        exact ⟨by repeat (first | (with_reducible first | exact HB.out | apply below_alloc | apply pw_below_drewN | apply below_drew1) | exact HB.out)⟩
end Go.Proofs.Ytbbkbooiefoihaa.PFnSpiralsTurnOfAll
